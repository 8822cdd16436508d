-- Made by a program of this work's own (wip/myprint.py) over the kit's print; leaves by hand.
import Derived.Test.YtncbloieejeifaaDoorP0
import Derived.Test.YtncbloieejeifaaDoorWRepsOne
import Derived.Test.YtncbloieejeifaaDoorBase
import Derived.Test.YtncbloieejeifaaDoorShelf
namespace Go.Proofs.YtncbloieejeifaaDoor.P
open Go.RowKit Go.Proofs.YtncbloieejeifaaDoorW.PrintWords Go.Proofs.YtncbloieejeifaaDoorW.PrintLast Go.Proofs.YtncbloieejeifaaDoorW.PrintMore
attribute [local go_sem] max2_int min2_int max_two min_two max_three min_three max_four min_four   -- for this text's walks alone
set_option linter.unusedVariables false
set_option linter.unusedSimpArgs false

/-! ### name_Var: function 63 -/
def name_Var.f (a0 : Int) : Option (Bool) := if a0 ≥ 97 then (if a0 ≤ 122 then (some true) else (if a0 ≥ 48 then (if a0 ≤ 57 then (some true) else (some (a0 == 95))) else (some (a0 == 95)))) else (if a0 ≥ 48 then (if a0 ≤ 57 then (some true) else (some (a0 == 95))) else (some (a0 == 95)))
set_option maxHeartbeats 8000000 in
set_option maxRecDepth 100000 in
theorem name_Var.calls (a0 : Int) (r : Bool) (w : World) (h : name_Var.f a0 = some r) :
  Calls Tryd.prog 63 #[.int .u8 a0] w fun e w' => e = .returned (.bool r) ∧ Drawn0 w w' := by
 have H : (if a0 ≥ 97 then (if a0 ≤ 122 then (some true) else (if a0 ≥ 48 then (if a0 ≤ 57 then (some true) else (some (a0 == 95))) else (some (a0 == 95)))) else (if a0 ≥ 48 then (if a0 ≤ 57 then (some true) else (some (a0 == 95))) else (some (a0 == 95)))) = some r := h
 clear h
 by_cases c2 : a0 ≥ 97
 ·
  rw [if_pos c2] at H
  have c2b0 : decide (97 ≤ a0) = true := decide_eq_true c2
  clear c2
  by_cases c3 : a0 ≤ 122
  ·
   rw [if_pos c3] at H
   have c3b0 : decide (a0 ≤ 122) = true := decide_eq_true c3
   clear c3
   obtain rfl := Option.some.inj H
   go_enter Tryd.func63, Tryd.ntmps63
   go_wp2
   go_ret
   exact ⟨by first | rfl | (simp; done) | (simp [*]; done), by repeat (first | exact Drawn0.refl _ | apply Drawn0.step)⟩
  ·
   rw [if_neg c3] at H
   have c3b0 : decide (a0 ≤ 122) = false := decide_eq_false c3
   clear c3
   by_cases c4 : a0 ≥ 48
   ·
    rw [if_pos c4] at H
    have c4b0 : decide (48 ≤ a0) = true := decide_eq_true c4
    clear c4
    by_cases c5 : a0 ≤ 57
    ·
     rw [if_pos c5] at H
     have c5b0 : decide (a0 ≤ 57) = true := decide_eq_true c5
     clear c5
     obtain rfl := Option.some.inj H
     go_enter Tryd.func63, Tryd.ntmps63
     go_wp2
     go_ret
     exact ⟨by first | rfl | (simp; done) | (simp [*]; done), by repeat (first | exact Drawn0.refl _ | apply Drawn0.step)⟩
    ·
     rw [if_neg c5] at H
     have c5b0 : decide (a0 ≤ 57) = false := decide_eq_false c5
     clear c5
     obtain rfl := Option.some.inj H
     go_enter Tryd.func63, Tryd.ntmps63
     go_wp2
     go_ret
     exact ⟨by first | rfl | (simp; done) | (simp [*]; done), by repeat (first | exact Drawn0.refl _ | apply Drawn0.step)⟩
   ·
    rw [if_neg c4] at H
    have c4b0 : decide (48 ≤ a0) = false := decide_eq_false c4
    clear c4
    obtain rfl := Option.some.inj H
    go_enter Tryd.func63, Tryd.ntmps63
    go_wp2
    go_ret
    exact ⟨by first | rfl | (simp; done) | (simp [*]; done), by repeat (first | exact Drawn0.refl _ | apply Drawn0.step)⟩
 ·
  rw [if_neg c2] at H
  have c2b0 : decide (97 ≤ a0) = false := decide_eq_false c2
  clear c2
  by_cases c6 : a0 ≥ 48
  ·
   rw [if_pos c6] at H
   have c6b0 : decide (48 ≤ a0) = true := decide_eq_true c6
   clear c6
   by_cases c7 : a0 ≤ 57
   ·
    rw [if_pos c7] at H
    have c7b0 : decide (a0 ≤ 57) = true := decide_eq_true c7
    clear c7
    obtain rfl := Option.some.inj H
    go_enter Tryd.func63, Tryd.ntmps63
    go_wp2
    go_ret
    exact ⟨by first | rfl | (simp; done) | (simp [*]; done), by repeat (first | exact Drawn0.refl _ | apply Drawn0.step)⟩
   ·
    rw [if_neg c7] at H
    have c7b0 : decide (a0 ≤ 57) = false := decide_eq_false c7
    clear c7
    obtain rfl := Option.some.inj H
    go_enter Tryd.func63, Tryd.ntmps63
    go_wp2
    go_ret
    exact ⟨by first | rfl | (simp; done) | (simp [*]; done), by repeat (first | exact Drawn0.refl _ | apply Drawn0.step)⟩
  ·
   rw [if_neg c6] at H
   have c6b0 : decide (48 ≤ a0) = false := decide_eq_false c6
   clear c6
   obtain rfl := Option.some.inj H
   go_enter Tryd.func63, Tryd.ntmps63
   go_wp2
   go_ret
   exact ⟨by first | rfl | (simp; done) | (simp [*]; done), by repeat (first | exact Drawn0.refl _ | apply Drawn0.step)⟩

-- HAND NameMay.lean
-- IMPORT Derived.Test.YtncbloieejeifaaDoorBase
-- IMPORT Derived.Test.YtncbloieejeifaaDoorShelf
/-! ### name_May, by hand -/
def name_May.f (a0 : ByteArray) : Option Bool := some (Spec.nameMay a0.data.toList)
theorem name_Var_is (r : Nat) (h : r < 128) : name_Var.f (r : Int) = some ((decide (97 ≤ r) && decide (r ≤ 122)) || (decide (48 ≤ r) && decide (r ≤ 57)) || r == 95) := by
  have : ∀ r : Fin 128, name_Var.f (r.val : Int) = some ((decide (97 ≤ r.val) && decide (r.val ≤ 122)) || (decide (48 ≤ r.val) && decide (r.val ≤ 57)) || r.val == 95) := by decide +kernel
  exact this ⟨r, h⟩
theorem name_signs (r : Nat) (h : r < 128) : decide (0 ≤ Lib.indexByte [46, 45, 47] r.toUInt8) = (r == 46 || r == 45 || r == 47) := by
  have : ∀ r : Fin 128, decide (0 ≤ Lib.indexByte [46, 45, 47] r.val.toUInt8) = (r.val == 46 || r.val == 45 || r.val == 47) := by decide +kernel
  exact this ⟨r, h⟩
set_option maxHeartbeats 1000000 in
theorem name_one.calls (r : Nat) (w : World) :
    Calls Tryd.prog 56 #[.int .i32 r] w fun e w' => e = .returned (.bool (Spec.nameByte r)) ∧ Drawn0 w w' := by
  by_cases h : r < 128
  · have hv := name_Var_is r h
    obtain ⟨b, hb⟩ : ∃ b, ((decide (97 ≤ r) && decide (r ≤ 122)) || (decide (48 ≤ r) && decide (r ≤ 57)) || r == 95) = b := ⟨_, rfl⟩
    obtain ⟨c, hc⟩ : ∃ c, (r == 46 || r == 45 || r == 47) = c := ⟨_, rfl⟩
    have hn : Spec.nameByte r = (b || c) := by
      rw [← hb, ← hc]; simp only [Spec.nameByte, Bool.or_assoc]
    rw [hn]
    rw [hb] at hv
    have hs := name_signs r h
    rw [hc] at hs
    have h128 : decide ((r : Int) < 128) = true := by simp; omega
    have HV := Aside0.mk hv
    have HS := Aside0.mk hs
    have hr0 : 0 ≤ (r : Int) := by omega
    have hr1 : (r : Int) < 128 := by omega
    clear hv hs hn hb hc
    cases b
    all_goals
      go_enter Tryd.func56, Tryd.ntmps56
      go_wp2_with (first
        | (go_at_call 63; refine (name_Var.calls _ _ _ HV.out).mono ?_; rintro e w' ⟨rfl, ⟨n, rfl⟩⟩)
        | (go_at_call 64; refine (Tryd.strings_ContainsRune_ascii _ _ _ hr0 hr1).mono ?_; rintro e w' ⟨rfl, rfl⟩))
      all_goals go_ret
      all_goals first
        | exact ⟨by rw [← HS.out]; rfl, (Drawn0.refl _).step _⟩
        | exact ⟨rfl, (Drawn0.refl _).step _⟩
  · have hn : Spec.nameByte r = false := by
      cases hb : Spec.nameByte r with
      | false => rfl
      | true => have := Spec.nameByte_lt hb; omega
    have h128 : decide ((r : Int) < 128) = false := by simp; omega
    rw [hn]
    clear hn h
    go_enter Tryd.func56, Tryd.ntmps56
    go_wp2
    go_ret
    exact ⟨rfl, by first | exact Drawn0.refl _ | exact (Drawn0.refl _).step _⟩
theorem name_odd (w : World) : PredAt Tryd.prog 55 #[] encR (fun r => !Spec.nameByte r) w := fun W r _ => by
  unfold FnGives
  simp only []
  obtain ⟨b, hb⟩ : ∃ b, Spec.nameByte r = b := ⟨_, rfl⟩
  have c1 := name_one.calls r
  rw [hb] at c1
  rw [hb]
  clear hb
  cases b
  all_goals
    go_enter Tryd.func55, Tryd.ntmps55
    go_wp2_with (go_at_call 56; refine (c1 _).mono ?_; rintro e w' ⟨rfl, ⟨n, rfl⟩⟩)
    go_ret
    exact ⟨rfl, n, rfl⟩
theorem name_May.calls (a0 : ByteArray) (r : Bool) (w : World) (h : name_May.f a0 = some r) :
    Calls Tryd.prog 36 #[.string a0] w fun e w' => e = .returned (.bool r) ∧ Below w.heap.size w w' := by
  have hr : Spec.nameMay a0.data.toList = r := Option.some.inj h
  have hC := fun W => Tryd.strings_ContainsFunc 55 #[] (enters_of Tryd.func55 (by kernel_rfl) rfl) _ a0 W (name_odd W)
  rw [Spec.odd_iff] at hC
  have hn : Spec.nameMay a0.data.toList = (!a0.toList.isEmpty && (decide (a0.size ≤ 16) && !!(a0.data.toList.all fun b => Spec.nameByte b.toNat))) := by
    rw [Lib.toList_data, ← Spec.size_data]
    simp only [Spec.nameMay, Bool.not_not]
    cases a0.data.toList with
    | nil => rfl
    | cons x xs => simp [Bool.and_comm]
  rw [← hr, hn]
  obtain ⟨b, hb⟩ : ∃ b, (!(a0.data.toList.all fun b => Spec.nameByte b.toNat)) = b := ⟨_, rfl⟩
  rw [hb] at hC ⊢
  clear hn hr h hb
  cases hz : a0.toList.isEmpty
  · have hz' : ¬ (a0.toList = []) := by simpa using hz
    have hz2 : (!a0.toList.isEmpty) = true := by simp [hz]
    by_cases h16 : a0.size ≤ 16
    · have h16b : decide ((a0.size : Int) ≤ 16) = true := by simp; omega
      have e16 : decide (a0.size ≤ 16) = true := by simpa using h16
      have E := Aside0.mk e16
      clear e16
      cases b
      all_goals
        go_enter Tryd.func36, Tryd.ntmps36
        go_wp2_with (go_at_call 57; refine (hC _).mono ?_; rintro e w' ⟨rfl, hb⟩)
        go_ret
        exact ⟨by rw [E.out]; rfl, hb⟩
    · have h16b : decide ((a0.size : Int) ≤ 16) = false := by simp; omega
      have e16 : decide (a0.size ≤ 16) = false := by simpa using h16
      have E := Aside0.mk e16
      clear e16
      go_enter Tryd.func36, Tryd.ntmps36
      go_wp2
      go_ret
      exact ⟨by rw [E.out]; rfl, Below.refl _ _⟩
  · have hz' : a0.toList = [] := by simpa using hz
    have hz2 : (!a0.toList.isEmpty) = false := by simp [hz]
    go_enter Tryd.func36, Tryd.ntmps36
    go_wp2
    go_ret
    exact ⟨rfl, Below.refl _ _⟩

-- HAND Split.lean
-- IMPORT Derived.Test.YtncbloieejeifaaDoorBase
-- IMPORT Derived.Test.YtncbloieejeifaaDoorShelf
/-! ### strings_Split, by hand: at a sign of one byte -/
def strings_Split.f (a0 a1 : ByteArray) : Option (List ByteArray) :=
  match a1.data.toList with
  | [c] => if a0.size < 4294967281 then some ((Spec.split c a0.data.toList).map Spec.str) else none
  | _ => none
section
open Go.Lib
theorem split_indexB (x : ByteArray) (c : UInt8) : Lib.indexB x ⟨#[c]⟩ = Lib.indexByte x.data.toList c := Lib.index_one x.data.toList c
theorem split_row (w : World) (xs : List ByteArray) (hl : xs.length ≤ 9223372036854775807) :
    Kd.R Kd.string 9 (w.alloc (.cells (xs.map Value.string).toArray 9)) w.heap.size (fun _ => True) (.slice (some ⟨w.heap.size, 0, none⟩) xs.length xs.length) xs :=
  Kd.R_of_own ⟨by simp [encs], .inr ⟨w.heap.size, xs.length, (xs.map Value.string).toArray, rfl, Nat.le_refl _, by simpa using heap_alloc_new w _, Nat.le_refl _, by simpa [maxLen] using hl, by simp, by rw [Nat.mul_one, List.take_of_length_le (by simp)]; rfl⟩⟩ (fun _ _ => trivial)
theorem strings_Split.calls (a0 a1 : ByteArray) (r : List ByteArray) (w : World) (h : strings_Split.f a0 a1 = some r) :
    Calls Tryd.prog 41 #[.string a0, .string a1] w fun e w' => ∃ v0_ : Value, e = .returned (v0_) ∧ Kd.R Kd.string 9 w' w.heap.size (fun _ => True) v0_ r ∧ Below w.heap.size w w' := by
  obtain ⟨c, rfl⟩ : ∃ c, a1 = ⟨#[c]⟩ := by
    unfold strings_Split.f at h
    split at h
    · rename_i c hc
      refine ⟨c, ?_⟩
      rw [← Spec.str_of a1, hc]; rfl
    · cases h
  have hs : a0.size < 4294967281 := by
    simp only [strings_Split.f] at h
    split at h
    · assumption
    · cases h
  have hr : r = (Spec.split c a0.data.toList).map Spec.str := by
    simp only [strings_Split.f, if_pos hs] at h
    exact (Option.some.inj h).symm
  have hle := Lib.countB_le ⟨#[c]⟩ (Nat.le_refl 1) a0.size a0 (Nat.le_refl _)
  have hlen := Lib.splitB_all ⟨#[c]⟩ (Nat.le_refl 1) 0 _ a0 rfl
  have hlr : r.length = Lib.countB a0 ⟨#[c]⟩ + 1 := by rw [hr, ← Spec.splitB_split, hlen]
  have c1 := Any.strings_genSplit_core Tryd.lays221 (by kernel_rfl) a0 ⟨#[c]⟩ 0 (-1) (Lib.countB a0 ⟨#[c]⟩ + 1) w hs (Nat.le_refl 1) (Nat.zero_le _)
    (fun x cc _ => (Tryd.strings_Index_one x c _).mono fun e w' ⟨he, hw⟩ => ⟨by rw [he, split_indexB], hw⟩)
    ((Tryd.strings_Count_one a0 c w).mono fun e w' ⟨he, hw⟩ => ⟨by rw [he]; show _ = Ending.returned (Value.int .i64 ((Lib.count a0.data.toList [c] : Nat) : Int)); rw [Lib.count_one]; rfl, hw⟩)
    (by decide) (by decide) (by rw [if_pos (by decide)]; omega)
  rw [Nat.add_sub_cancel, hlen] at c1
  have e2 : Lib.cellsOf (Lib.splitB ⟨#[c]⟩ 0 (Lib.countB a0 ⟨#[c]⟩) a0) (Lib.countB a0 ⟨#[c]⟩ + 1) = (r.map Value.string).toArray := by
    rw [← hlen, Lib.cellsOf_full, Spec.splitB_split, hr]
  rw [e2, ← hlr] at c1
  have c2 : Calls Tryd.prog 58 #[.string a0, .string ⟨#[c]⟩, .int .i64 0, .int .i64 (-1)] w fun e w' =>
      e = .returned (.slice (some ⟨w.heap.size, 0, none⟩) r.length r.length) ∧ w' = w.alloc (.cells (r.map Value.string).toArray 9) := c1
  have hbig : r.length ≤ 9223372036854775807 := by omega
  clear c1 e2 hlr hlen hle hr h
  go_enter Tryd.func41, Tryd.ntmps41
  go_wp2_with (go_at_call 58; refine c2.mono ?_; rintro e w' ⟨rfl, hw⟩; rw [hw])
  go_ret
  exact ⟨_, rfl, split_row w r hbig, (Below.refl _ _).alloc (Nat.le_refl _) _⟩
end

end Go.Proofs.YtncbloieejeifaaDoor.P
