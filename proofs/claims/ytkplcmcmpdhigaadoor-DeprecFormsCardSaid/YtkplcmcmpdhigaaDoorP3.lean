-- Made by a program of this work's own (wip/myprint.py) over the kit's print; leaves by hand.
import Derived.Test.YtkplcmcmpdhigaaDoorP0
import Derived.Test.YtkplcmcmpdhigaaDoorP2
import Derived.Test.YtkplcmcmpdhigaaDoorBase
import Derived.Test.YtkplcmcmpdhigaaDoorShelf
namespace Go.Proofs.YtkplcmcmpdhigaaDoor.P
open Go.RowKit Go.Proofs.YtkplcmcmpdhigaaDoorW.PrintWords Go.Proofs.YtkplcmcmpdhigaaDoorW.PrintLast Go.Proofs.YtkplcmcmpdhigaaDoorW.PrintMore
attribute [local go_sem] max2_int min2_int max_two min_two max_three min_three max_four min_four   -- for this text's walks alone
set_option linter.unusedVariables false
set_option linter.unusedSimpArgs false

-- HAND NameMay.lean
-- IMPORT Derived.Test.YtkplcmcmpdhigaaDoorBase
-- IMPORT Derived.Test.YtkplcmcmpdhigaaDoorShelf
/-! ### name_May, by hand -/
def name_May.f (a0 : ByteArray) : Option Bool := some (Spec.nameMay a0.data.toList)
theorem name_Var_is (r : Nat) (h : r < 128) : name_Var.f (r : Int) = some ((decide (97 ≤ r) && decide (r ≤ 122)) || (decide (48 ≤ r) && decide (r ≤ 57)) || r == 95) := by
  have : ∀ r : Fin 128, name_Var.f (r.val : Int) = some ((decide (97 ≤ r.val) && decide (r.val ≤ 122)) || (decide (48 ≤ r.val) && decide (r.val ≤ 57)) || r.val == 95) := by decide +kernel
  exact this ⟨r, h⟩
theorem name_signs (r : Nat) (h : r < 128) : decide (0 ≤ Lib.indexByte [46, 45, 47] r.toUInt8) = (r == 46 || r == 45 || r == 47) := by
  have : ∀ r : Fin 128, decide (0 ≤ Lib.indexByte [46, 45, 47] r.val.toUInt8) = (r.val == 46 || r.val == 45 || r.val == 47) := by decide +kernel
  exact this ⟨r, h⟩
set_option maxHeartbeats 1000000 in
theorem name_one.calls (r : Nat) (w : World) :
    Calls Tryd.prog 86 #[.int .i32 r] w fun e w' => e = .returned (.bool (Spec.nameByte r)) ∧ Drawn0 w w' := by
  by_cases h : r < 128
  · have hv := name_Var_is r h
    obtain ⟨b, hb⟩ : ∃ b, ((decide (97 ≤ r) && decide (r ≤ 122)) || (decide (48 ≤ r) && decide (r ≤ 57)) || r == 95) = b := ⟨_, rfl⟩
    obtain ⟨c, hc⟩ : ∃ c, (r == 46 || r == 45 || r == 47) = c := ⟨_, rfl⟩
    have hn : Spec.nameByte r = (b || c) := by
      rw [← hb, ← hc]; simp only [Spec.nameByte, Bool.or_assoc]
    rw [hn]
    rw [hb] at hv
    have hs := name_signs r h
    rw [hc] at hs
    have h128 : decide ((r : Int) < 128) = true := by simp; omega
    have HV := Aside0.mk hv
    have HS := Aside0.mk hs
    have hr0 : 0 ≤ (r : Int) := by omega
    have hr1 : (r : Int) < 128 := by omega
    clear hv hs hn hb hc
    cases b
    all_goals
      go_enter Tryd.func86, Tryd.ntmps86
      go_wp2_with (first
        | (go_at_call 94; refine (name_Var.calls _ _ _ HV.out).mono ?_; rintro e w' ⟨rfl, ⟨n, rfl⟩⟩)
        | (go_at_call 95; refine (Tryd.strings_ContainsRune_ascii _ _ _ hr0 hr1).mono ?_; rintro e w' ⟨rfl, rfl⟩))
      all_goals go_ret
      all_goals first
        | exact ⟨by rw [← HS.out]; rfl, (Drawn0.refl _).step _⟩
        | exact ⟨rfl, (Drawn0.refl _).step _⟩
  · have hn : Spec.nameByte r = false := by
      cases hb : Spec.nameByte r with
      | false => rfl
      | true => have := Spec.nameByte_lt hb; omega
    have h128 : decide ((r : Int) < 128) = false := by simp; omega
    rw [hn]
    clear hn h
    go_enter Tryd.func86, Tryd.ntmps86
    go_wp2
    go_ret
    exact ⟨rfl, by first | exact Drawn0.refl _ | exact (Drawn0.refl _).step _⟩
theorem name_odd (w : World) : PredAt Tryd.prog 85 #[] encR (fun r => !Spec.nameByte r) w := fun W r _ => by
  unfold FnGives
  simp only []
  obtain ⟨b, hb⟩ : ∃ b, Spec.nameByte r = b := ⟨_, rfl⟩
  have c1 := name_one.calls r
  rw [hb] at c1
  rw [hb]
  clear hb
  cases b
  all_goals
    go_enter Tryd.func85, Tryd.ntmps85
    go_wp2_with (go_at_call 86; refine (c1 _).mono ?_; rintro e w' ⟨rfl, ⟨n, rfl⟩⟩)
    go_ret
    exact ⟨rfl, n, rfl⟩
theorem name_May.calls (a0 : ByteArray) (r : Bool) (w : World) (h : name_May.f a0 = some r) :
    Calls Tryd.prog 71 #[.string a0] w fun e w' => e = .returned (.bool r) ∧ Below w.heap.size w w' := by
  have hr : Spec.nameMay a0.data.toList = r := Option.some.inj h
  have hC := fun W => Tryd.strings_ContainsFunc 85 #[] (enters_of Tryd.func85 (by kernel_rfl) rfl) _ a0 W (name_odd W)
  rw [Spec.odd_iff] at hC
  have hn : Spec.nameMay a0.data.toList = (!a0.toList.isEmpty && (decide (a0.size ≤ 16) && !!(a0.data.toList.all fun b => Spec.nameByte b.toNat))) := by
    rw [Lib.toList_data, ← Spec.size_data]
    simp only [Spec.nameMay, Bool.not_not]
    cases a0.data.toList with
    | nil => rfl
    | cons x xs => simp [Bool.and_comm]
  rw [← hr, hn]
  obtain ⟨b, hb⟩ : ∃ b, (!(a0.data.toList.all fun b => Spec.nameByte b.toNat)) = b := ⟨_, rfl⟩
  rw [hb] at hC ⊢
  clear hn hr h hb
  cases hz : a0.toList.isEmpty
  · have hz' : ¬ (a0.toList = []) := by simpa using hz
    have hz2 : (!a0.toList.isEmpty) = true := by simp [hz]
    by_cases h16 : a0.size ≤ 16
    · have h16b : decide ((a0.size : Int) ≤ 16) = true := by simp; omega
      have e16 : decide (a0.size ≤ 16) = true := by simpa using h16
      have E := Aside0.mk e16
      clear e16
      cases b
      all_goals
        go_enter Tryd.func71, Tryd.ntmps71
        go_wp2_with (go_at_call 87; refine (hC _).mono ?_; rintro e w' ⟨rfl, hb⟩)
        go_ret
        exact ⟨by rw [E.out]; rfl, hb⟩
    · have h16b : decide ((a0.size : Int) ≤ 16) = false := by simp; omega
      have e16 : decide (a0.size ≤ 16) = false := by simpa using h16
      have E := Aside0.mk e16
      clear e16
      go_enter Tryd.func71, Tryd.ntmps71
      go_wp2
      go_ret
      exact ⟨by rw [E.out]; rfl, Below.refl _ _⟩
  · have hz' : a0.toList = [] := by simpa using hz
    have hz2 : (!a0.toList.isEmpty) = false := by simp [hz]
    go_enter Tryd.func71, Tryd.ntmps71
    go_wp2
    go_ret
    exact ⟨rfl, Below.refl _ _⟩

end Go.Proofs.YtkplcmcmpdhigaaDoor.P
