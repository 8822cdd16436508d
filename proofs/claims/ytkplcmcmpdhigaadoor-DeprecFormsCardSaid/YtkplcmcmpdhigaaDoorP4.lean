-- Made by a program of this work's own (wip/myprint.py) over the kit's print; leaves by hand.
import Derived.Test.YtkplcmcmpdhigaaDoorP0
import Derived.Test.YtkplcmcmpdhigaaDoorWRepsOne
import Derived.Test.YtkplcmcmpdhigaaDoorBase
import Derived.Test.YtkplcmcmpdhigaaDoorShelf
namespace Go.Proofs.YtkplcmcmpdhigaaDoor.P
open Go.RowKit Go.Proofs.YtkplcmcmpdhigaaDoorW.PrintWords Go.Proofs.YtkplcmcmpdhigaaDoorW.PrintLast Go.Proofs.YtkplcmcmpdhigaaDoorW.PrintMore
attribute [local go_sem] max2_int min2_int max_two min_two max_three min_three max_four min_four   -- for this text's walks alone
set_option linter.unusedVariables false
set_option linter.unusedSimpArgs false

-- HAND Split.lean
-- IMPORT Derived.Test.YtkplcmcmpdhigaaDoorBase
-- IMPORT Derived.Test.YtkplcmcmpdhigaaDoorShelf
/-! ### strings_Split, by hand: at a sign of one byte -/
def strings_Split.f (a0 a1 : ByteArray) : Option (List ByteArray) :=
  match a1.data.toList with
  | [c] => if a0.size < 4294967281 then some ((Spec.split c a0.data.toList).map Spec.str) else none
  | _ => none
section
open Go.Lib
theorem split_indexB (x : ByteArray) (c : UInt8) : Lib.indexB x ⟨#[c]⟩ = Lib.indexByte x.data.toList c := Lib.index_one x.data.toList c
theorem split_row (w : World) (xs : List ByteArray) (hl : xs.length ≤ 9223372036854775807) :
    Kd.R Kd.string 9 (w.alloc (.cells (xs.map Value.string).toArray 9)) w.heap.size (fun _ => True) (.slice (some ⟨w.heap.size, 0, none⟩) xs.length xs.length) xs :=
  Kd.R_of_own ⟨by simp [encs], .inr ⟨w.heap.size, xs.length, (xs.map Value.string).toArray, rfl, Nat.le_refl _, by simpa using heap_alloc_new w _, Nat.le_refl _, by simpa [maxLen] using hl, by simp, by rw [Nat.mul_one, List.take_of_length_le (by simp)]; rfl⟩⟩ (fun _ _ => trivial)
theorem strings_Split.calls (a0 a1 : ByteArray) (r : List ByteArray) (w : World) (h : strings_Split.f a0 a1 = some r) :
    Calls Tryd.prog 98 #[.string a0, .string a1] w fun e w' => ∃ v0_ : Value, e = .returned (v0_) ∧ Kd.R Kd.string 9 w' w.heap.size (fun _ => True) v0_ r ∧ Below w.heap.size w w' := by
  obtain ⟨c, rfl⟩ : ∃ c, a1 = ⟨#[c]⟩ := by
    unfold strings_Split.f at h
    split at h
    · rename_i c hc
      refine ⟨c, ?_⟩
      rw [← Spec.str_of a1, hc]; rfl
    · cases h
  have hs : a0.size < 4294967281 := by
    simp only [strings_Split.f] at h
    split at h
    · assumption
    · cases h
  have hr : r = (Spec.split c a0.data.toList).map Spec.str := by
    simp only [strings_Split.f, if_pos hs] at h
    exact (Option.some.inj h).symm
  have hle := Lib.countB_le ⟨#[c]⟩ (Nat.le_refl 1) a0.size a0 (Nat.le_refl _)
  have hlen := Lib.splitB_all ⟨#[c]⟩ (Nat.le_refl 1) 0 _ a0 rfl
  have hlr : r.length = Lib.countB a0 ⟨#[c]⟩ + 1 := by rw [hr, ← Spec.splitB_split, hlen]
  have c1 := Any.strings_genSplit_core Tryd.lays221 (by kernel_rfl) a0 ⟨#[c]⟩ 0 (-1) (Lib.countB a0 ⟨#[c]⟩ + 1) w hs (Nat.le_refl 1) (Nat.zero_le _)
    (fun x cc _ => (Tryd.strings_Index_one x c _).mono fun e w' ⟨he, hw⟩ => ⟨by rw [he, split_indexB], hw⟩)
    ((Tryd.strings_Count_one a0 c w).mono fun e w' ⟨he, hw⟩ => ⟨by rw [he]; show _ = Ending.returned (Value.int .i64 ((Lib.count a0.data.toList [c] : Nat) : Int)); rw [Lib.count_one]; rfl, hw⟩)
    (by decide) (by decide) (by rw [if_pos (by decide)]; omega)
  rw [Nat.add_sub_cancel, hlen] at c1
  have e2 : Lib.cellsOf (Lib.splitB ⟨#[c]⟩ 0 (Lib.countB a0 ⟨#[c]⟩) a0) (Lib.countB a0 ⟨#[c]⟩ + 1) = (r.map Value.string).toArray := by
    rw [← hlen, Lib.cellsOf_full, Spec.splitB_split, hr]
  rw [e2, ← hlr] at c1
  have c2 : Calls Tryd.prog 102 #[.string a0, .string ⟨#[c]⟩, .int .i64 0, .int .i64 (-1)] w fun e w' =>
      e = .returned (.slice (some ⟨w.heap.size, 0, none⟩) r.length r.length) ∧ w' = w.alloc (.cells (r.map Value.string).toArray 9) := c1
  have hbig : r.length ≤ 9223372036854775807 := by omega
  clear c1 e2 hlr hlen hle hr h
  go_enter Tryd.func98, Tryd.ntmps98
  go_wp2_with (go_at_call 102; refine c2.mono ?_; rintro e w' ⟨rfl, hw⟩; rw [hw])
  go_ret
  exact ⟨_, rfl, split_row w r hbig, (Below.refl _ _).alloc (Nat.le_refl _) _⟩
end

end Go.Proofs.YtkplcmcmpdhigaaDoor.P
