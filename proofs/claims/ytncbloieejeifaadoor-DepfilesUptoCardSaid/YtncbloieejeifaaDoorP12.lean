-- Made by a program of this work's own (wip/myprint.py) over the kit's print; leaves by hand.
import Derived.Test.YtncbloieejeifaaDoorP0
import Derived.Test.YtncbloieejeifaaDoorBase
import Derived.Test.YtncbloieejeifaaDoorShelf
namespace Go.Proofs.YtncbloieejeifaaDoor.P
open Go.RowKit Go.Proofs.YtncbloieejeifaaDoorW.PrintWords Go.Proofs.YtncbloieejeifaaDoorW.PrintLast Go.Proofs.YtncbloieejeifaaDoorW.PrintMore
attribute [local go_sem] max2_int min2_int max_two min_two max_three min_three max_four min_four   -- for this text's walks alone
set_option linter.unusedVariables false
set_option linter.unusedSimpArgs false

-- HAND Join.lean
-- IMPORT Derived.Test.YtncbloieejeifaaDoorBase
-- IMPORT Derived.Test.YtncbloieejeifaaDoorShelf
/-! ### strings_Join, by hand -/
def strings_Join.f (l0 : List ByteArray) (a1 : ByteArray) : Option ByteArray :=
  if (Lib.join (l0.map (·.data.toList)) a1.data.toList).length ≤ 140737488355328 ∧ l0.length ≤ 140737488355328 then some (Spec.str (Lib.join (l0.map (·.data.toList)) a1.data.toList)) else none
theorem strings_Join.calls (A0 : Option Addr) (c0 : Nat) (l0 : List ByteArray) (a1 : ByteArray) (r : ByteArray) (w : World) (hr0 : Kd.C Kd.string w A0 l0.length l0) (hc0 : l0.length ≤ c0) (h : strings_Join.f l0 a1 = some r) :
    Calls Tryd.prog 42 #[.slice A0 l0.length c0, .string a1] w fun e w' => e = .returned (.string r) ∧ Below w.heap.size w w' := by
  unfold strings_Join.f at h
  split at h
  · rename_i hj
    have hr := Option.some.inj h
    subst hr
    cases l0 with
    | nil =>
      refine (Tryd.strings_Join_none A0 c0 a1 w).mono fun e w' ⟨he, hw⟩ => ⟨he, ?_⟩
      rw [hw]; exact Below.refl _ _
    | cons x xs =>
      obtain ⟨_, _, hC⟩ := Kd.reads_of_C (d := ByteArray.empty) hr0
      obtain ⟨ad, rfl, hcell⟩ := hC (by simp)
      have key : ∀ (j : Nat) (y : ByteArray), (x :: xs)[j]? = some y → w.cell? (ad.add j) = some (.string y) := by
        intro j y hy
        obtain ⟨hj, hjy⟩ := List.getElem?_eq_some_iff.1 hy
        have := hcell j hj
        rwa [List.getD_eq_getElem?_getD, hy] at this
      obtain ⟨bk, o, sp⟩ := ad
      have h0 := key 0 x rfl
      obtain rfl : sp = none := by
        cases sp with
        | none => rfl
        | some s =>
          simp only [Addr.add, if_true, World.cell?] at h0
          split at h0
          · simp at h0
          · cases h0
      exact Tryd.strings_Join bk o c0 (x :: xs) a1 w (fun j y hy => by rw [← key j y hy, add_at]) (World.block_lt_of_cell? w _ h0) hj.2 hc0 hj.1
  · cases h

end Go.Proofs.YtncbloieejeifaaDoor.P
