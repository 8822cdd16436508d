-- Made by a program of this work's own (wip/myprint.py) over the kit's print; leaves by hand.
import Derived.Test.YtilnamobmjngbaaDoorP0
import Derived.Test.YtilnamobmjngbaaDoorP5
import Derived.Test.YtilnamobmjngbaaDoorMg1
import Derived.Test.YtilnamobmjngbaaDoorShelf
namespace Go.Proofs.YtilnamobmjngbaaDoor.P
open Go.RowKit Go.Proofs.YtilnamobmjngbaaDoorW.PrintWords Go.Proofs.YtilnamobmjngbaaDoorW.PrintLast Go.Proofs.YtilnamobmjngbaaDoorW.PrintMore
attribute [local go_sem] max2_int min2_int max_two min_two max_three min_three max_four min_four   -- for this text's walks alone
set_option linter.unusedVariables false
set_option linter.unusedSimpArgs false

-- HAND CommandMay.lean
-- IMPORT Derived.Test.YtilnamobmjngbaaDoorPlain
/-! ### command_May, by hand -/
def command_all (k : Nat) : List (S33) → Option Bool
  | [] => some true
  | x :: xs => (command_odd.f k x.f0 x.f1 x.f2).bind fun b => if b = true then some false else command_all k xs
def command_May.f (k : Nat) (l0 : List (S33)) : Option Bool := if l0.length ≤ 16 then command_all k l0 else some false
theorem command_all.mono : ∀ l0 k, LeO (command_all k l0) (command_all (k + 1) l0)
  | [], _ => LeO.refl _
  | _ :: xs, k => LeO.bind (command_odd.mono _ _ _ _) (fun _ => LeO.ite (LeO.refl _) (command_all.mono xs k))
theorem command_May.mono : ∀ l0 k, LeO (command_May.f k l0) (command_May.f (k + 1) l0) := fun l0 k => LeO.ite (command_all.mono l0 k) (LeO.refl _)
theorem command_drop (l0 : List (S33)) (kk : Nat) (h : kk < l0.length) : l0.drop kk = rd_T33 l0 (kk : Int) :: l0.drop (kk + 1) := by
  rw [List.drop_eq_getElem_cons h]
  congr 1
  simp [rd_T33, List.getD_eq_getElem?_getD, List.getElem?_eq_getElem h]
set_option maxHeartbeats 2000000 in
theorem command_idx.calls (k : Nat) (A : Option Addr) (c : Nat) (l0 : List (S33)) (r : Bool) (w : World) (hr : Kd.C k33 w A l0.length l0) (hl : l0.length ≤ 16) (h : command_all k l0 = some r) :
    Calls Tryd.prog 47 #[.slice A l0.length c, .func (.func 68) #[] #[]] w fun e w' => ∃ i : Int, e = .returned (.int .i64 i) ∧ decide (0 ≤ i) = (!r) ∧ Below w.heap.size w w' := by
  have HR := Aside0.mk hr
  have HL := Aside0.mk hl
  have H0 := Aside0.mk h
  clear hr hl h
  have eg : ∀ args w, (callFunc 68 args).run Tryd.prog w = .ok (.enter 68 args) w := enters_of Tryd.func68 (by kernel_rfl) rfl
  go_enter Tryd.func47, Tryd.ntmps47
  go_wp2
  go_loopg [5, 8] l0.length (fun gg _ s8 wr => ∃ kk : Nat, kk ≤ l0.length ∧ l0.length - kk ≤ gg ∧ s8 = .int .i64 kk ∧ Aside0 (command_all k (l0.drop kk) = some r) ∧ Aside0 (Below w.heap.size w wr))
  case atStart => exact ⟨0, Nat.zero_le _, by omega, rfl, ⟨H0.out⟩, ⟨Below.refl _ _⟩⟩
  case round =>
    obtain ⟨kk, hkk, hg, rfl, L, B⟩ := hrel
    by_cases hlt : kk < l0.length
    · have hltz : (kk : Int) < (l0.length : Int) := by omega
      obtain ⟨ad, A1, c1, hA, h0, h1, h2, h3, h4⟩ := at_T33 HR.out (kk : Int) (by omega) hltz
      subst hA
      replace h0 := (B.out.cell (World.block_lt_of_cell? w _ h0)).trans h0
      replace h1 := (B.out.cell (World.block_lt_of_cell? w _ h1)).trans h1
      replace h2 := (B.out.cell (World.block_lt_of_cell? w _ h2)).trans h2
      simp only [Int.toNat_natCast] at h0 h1 h2
      have hL := L.out
      rw [command_drop l0 kk hlt, command_all] at hL
      obtain ⟨b, hm, hL⟩ := Option.bind_eq_some_iff.1 hL
      have hcall := command_odd.calls k (rd_T33 l0 (kk : Int)).f0 A1 c1 (rd_T33 l0 (kk : Int)).f1 (rd_T33 l0 (kk : Int)).f2 b wr (Kd.C_below h4 B.out) h3 hm
      clear h3 h4 hm
      generalize rd_T33 l0 (kk : Int) = x at h0 h1 h2 hcall
      obtain ⟨s, l, t⟩ := x
      simp only [] at h0 h1 h2 hcall
      generalize l.length = n at h1 hcall
      have HL2 := Aside0.mk hL
      clear hL
      cases b with
      | false =>
        go_wp2_with (go_at_fn 68; refine hcall.mono ?_; rintro e w' ⟨rfl, hB⟩)
        go_roundg (l0.length - (kk + 1))
        case measure => omega
        case rel => exact ⟨kk + 1, by omega, by omega, by rw [Spec.wrap_nat (by have := HL.out; omega)], ⟨by simpa using HL2.out⟩, ⟨below_then B.out B.out.size hB⟩⟩
      | true =>
        have hr : false = r := by have := HL2.out; simpa using this
        subst hr
        go_wp2_with (go_at_fn 68; refine hcall.mono ?_; rintro e w' ⟨rfl, hB⟩)
        go_ret
        exact ⟨_, rfl, by simp, below_then B.out B.out.size hB⟩
    · have hltz : ¬ (kk : Int) < (l0.length : Int) := by omega
      have heq : kk = l0.length := by omega
      have hL := L.out
      rw [heq, List.drop_length, command_all] at hL
      obtain rfl := Option.some.inj hL
      clear hL
      subst heq
      go_wp2
      go_ret
      exact ⟨_, rfl, by decide, B.out⟩
theorem command_May.calls (k : Nat) (A0 : Option Addr) (c0 : Nat) (l0 : List (S33)) (r : Bool) (w : World) (hr0 : Kd.C k33 w A0 l0.length l0) (hc0 : l0.length ≤ c0) (h : command_May.f k l0 = some r) :
    Calls Tryd.prog 49 #[.slice A0 l0.length c0] w fun e w' => e = .returned (.bool r) ∧ Below w.heap.size w w' := by
  unfold command_May.f at h
  split at h
  · rename_i hl
    have cI := command_idx.calls k A0 c0 l0 r w hr0 hl h
    have hl2 : decide ((l0.length : Int) ≤ 16) = true := decide_eq_true (by omega)
    have hl3 : (l0.length : Int) ≤ 16 := by omega
    clear hr0 hc0 h hl
    generalize l0.length = n at cI hl2 hl3 ⊢
    have cC : Calls Tryd.prog 67 #[.slice A0 n c0, .func (.func 68) #[] #[]] w fun e w' => e = .returned (.bool (!r)) ∧ Below w.heap.size w w' := by
      clear hl2 hl3
      go_enter Tryd.func67, Tryd.ntmps67
      go_wp2_with (go_at_call 47; refine cI.mono ?_; rintro e w1 ⟨i, rfl, hi, hB⟩)
      go_ret
      exact ⟨rfl, hB⟩
    clear cI
    go_enter Tryd.func49, Tryd.ntmps49
    go_wp2_with (go_at_call 67; refine cC.mono ?_; rintro e w1 ⟨rfl, hB⟩)
    go_ret
    exact ⟨by simp, hB⟩
  · rename_i hl
    obtain rfl := Option.some.inj h
    have hl2 : decide ((l0.length : Int) ≤ 16) = false := decide_eq_false (by omega)
    have hl3 : ¬ (l0.length : Int) ≤ 16 := by omega
    clear hr0 hc0 h hl
    generalize l0.length = n at hl2 hl3 ⊢
    go_enter Tryd.func49, Tryd.ntmps49
    go_wp2
    go_ret
    exact ⟨rfl, Below.refl _ _⟩

-- HAND CloneStrings.lean
-- IMPORT Derived.Test.YtilnamobmjngbaaDoorBase
-- IMPORT Derived.Test.YtilnamobmjngbaaDoorShelf
/-! ### slices_Clone of strings, by hand -/
def slices_Clone_string_string.f (l0 : List ByteArray) : Option (List ByteArray) := if l0.length ≤ 4294967296 then some l0 else none
theorem clone_strings (A : Option Addr) (n c : Nat) (xs : List ByteArray) (w : World) (hn : n = xs.length) (hr : Kd.C Kd.string w A xs.length xs) (hl : xs.length ≤ 4294967296) :
    Calls Tryd.prog 50 #[.slice A n c] w fun e w' => ∃ v, e = .returned v ∧ Kd.R Kd.string 9 w' w.heap.size (fun _ => True) v xs ∧ Below w.heap.size w w' := by
  subst hn
  cases A with
  | none =>
    have : xs = [] := by
      cases xs with
      | nil => rfl
      | cons x xs => obtain ⟨ad, h, _⟩ := Kd.at_string hr 0 (by omega) (by simp); cases h
    subst this
    exact (Tryd.slices_Clone_string_nil 0 c w).mono fun e w' ⟨he, hw⟩ => ⟨_, he, Kd.R_nil _ _ _ _ _, by rw [hw]; exact Below.refl _ _⟩
  | some ad =>
    cases xs with
    | nil => exact (Tryd.slices_Clone_string_zero ad c w).mono fun e w' ⟨v, he, ho, _, hB⟩ => ⟨v, he, Kd.R_of_own ho (fun _ _ => trivial), hB⟩
    | cons x xs =>
      obtain ⟨b, o, sp⟩ := ad
      have h0 : ∀ j : Nat, j < (x :: xs).length → w.cell? ((⟨b, o, sp⟩ : Addr).add j) = some (.string ((x :: xs).getD j ByteArray.empty)) := fun j hj => by
        obtain ⟨ad, hA, hc⟩ := Kd.at_string hr (j : Int) (by omega) (by omega)
        cases hA
        simpa [rdOf] using hc
      obtain rfl : sp = none := by
        have h1 := h0 0 (by simp)
        cases sp with
        | none => rfl
        | some s =>
          simp only [Addr.add, if_true, World.cell?] at h1
          split at h1
          · simp at h1
          · cases h1
      refine (Tryd.slices_Clone_string b o (x :: xs).length c (x :: xs) w (Nat.le_refl _) (by omega) (fun j hj => by rw [← h0 j hj, add_at])).mono fun e w' ⟨v, he, ho, _, hB⟩ => ⟨v, he, Kd.R_of_own ?_ (fun _ _ => trivial), hB⟩
      rw [List.take_length] at ho
      exact ho
theorem slices_Clone_string_string.calls (A0 : Option Addr) (c0 : Nat) (l0 : List ByteArray) (r : List ByteArray) (w : World) (hr0 : Kd.C Kd.string w A0 l0.length l0) (hc0 : l0.length ≤ c0) (h : slices_Clone_string_string.f l0 = some r) :
    Calls Tryd.prog 50 #[.slice A0 l0.length c0] w fun e w' => ∃ v0_ : Value, e = .returned (v0_) ∧ Kd.R Kd.string 9 w' w.heap.size (fun _ => True) v0_ r ∧ Below w.heap.size w w' := by
  unfold slices_Clone_string_string.f at h
  split at h
  · rename_i hl
    obtain rfl := Option.some.inj h
    exact clone_strings A0 _ c0 l0 w rfl hr0 hl
  · cases h

end Go.Proofs.YtilnamobmjngbaaDoor.P
