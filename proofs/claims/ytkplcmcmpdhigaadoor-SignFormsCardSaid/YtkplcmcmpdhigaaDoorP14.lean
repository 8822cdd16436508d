-- Made by a program of this work's own (wip/myprint.py) over the kit's print; leaves by hand.
import Derived.Test.YtkplcmcmpdhigaaDoorP0
import Derived.Test.YtkplcmcmpdhigaaDoorP8
import Derived.Test.YtkplcmcmpdhigaaDoorP11
import Derived.Test.YtkplcmcmpdhigaaDoorP12
import Derived.Test.YtkplcmcmpdhigaaDoorSign
namespace Go.Proofs.YtkplcmcmpdhigaaDoor.P
open Go.RowKit Go.Proofs.YtkplcmcmpdhigaaDoorW.PrintWords Go.Proofs.YtkplcmcmpdhigaaDoorW.PrintLast Go.Proofs.YtkplcmcmpdhigaaDoorW.PrintMore
attribute [local go_sem] max2_int min2_int max_two min_two max_three min_three max_four min_four   -- for this text's walks alone
set_option linter.unusedVariables false
set_option linter.unusedSimpArgs false

-- HAND SignForms.lean
-- IMPORT Derived.Test.YtkplcmcmpdhigaaDoorSign
/-! ### cruciblelaw11_SignForms, by hand -/
def cruciblelaw11_SignForms.f (k : Nat) (a0 : Int) (a1 : Int) : Option Bool := if cruciblelaw11_awake.f k = some true then some true else none
theorem cruciblelaw11_SignForms.mono : ∀ a0 a1 k, LeO (cruciblelaw11_SignForms.f k a0 a1) (cruciblelaw11_SignForms.f (k + 1) a0 a1) := by
  intro a0 a1 k r h
  unfold cruciblelaw11_SignForms.f at h ⊢
  split at h
  · rename_i ha
    rw [if_pos (cruciblelaw11_awake.mono k _ ha)]; exact h
  · cases h
theorem forms_one {W : World} {b : Nat} {x : ByteArray} (h : W.cell? ⟨b, 0, none⟩ = some (.string x)) : Kd.C Kd.string W (some ⟨b, 0, none⟩) [x].length [x] := by
  refine ⟨rfl, by simp, fun _ => ⟨⟨b, 0, none⟩, rfl, fun j p hj => ?_⟩⟩
  cases j with
  | zero =>
    obtain rfl : x = p := by simpa using hj
    refine ⟨[.string x], rfl, rfl, fun i u hu => ?_⟩
    cases i with
    | zero =>
      obtain rfl : Value.string x = u := by simpa using hu
      simpa [Addr.add] using h
    | succ i => simp at hu
  | succ j => simp at hj
theorem forms_cmd {o i m r : List ByteArray} {cmd pool : ByteArray} (h : Spec.cmdOk cmd.data.toList = false) : Spec.edgeOk o i m r cmd pool = false := by
  unfold Spec.edgeOk
  rw [h, Bool.false_and, Bool.and_false, Bool.and_false, Bool.and_false, Bool.and_false, Bool.and_false]
theorem below3 {w W w2 w3 : World} (h : Below w.heap.size w W) (B2 : Below W.heap.size W w2) (B3 : Below w2.heap.size w2 w3) : Below w.heap.size w w3 :=
  have k := below_then h h.size B2
  below_then k k.size B3
/-- an edge that may not be: its text is none -/
theorem forms_bad (A0 A1 A2 A3 : Option Addr) (c0 c1 c2 c3 : Nat) (l0 l1 l2 l3 : List ByteArray) (cmd pool : ByteArray) (W : World) (h0 : Kd.C Kd.string W A0 l0.length l0) (k0 : l0.length ≤ c0) (h1 : Kd.C Kd.string W A1 l1.length l1) (k1 : l1.length ≤ c1) (h2 : Kd.C Kd.string W A2 l2.length l2) (k2 : l2.length ≤ c2) (h3 : Kd.C Kd.string W A3 l3.length l3) (k3 : l3.length ≤ c3)
    (hb : Spec.edgeOk l0 l1 l2 l3 cmd pool = false) (z0 : l0.length ≤ 10) (z1 : l1.length ≤ 10) (z2 : l2.length ≤ 10) (z3 : l3.length ≤ 10) (zc : cmd.size ≤ 1000) :
    Calls Tryd.prog 20 #[.agg #[.slice A0 l0.length c0, .slice A1 l1.length c1, .slice A2 l2.length c2, .slice A3 l3.length c3, .string cmd, .bool false, .string pool]] W fun e w' => e = .returned (.tuple #[.string ⟨#[]⟩, .int .i64 1100]) ∧ Below W.heap.size W w' := by
  have e := Spec.ev_Of l0 l1 l2 l3 cmd false pool (by omega) (by omega) (by omega) (by omega) (by omega)
  have hd : Spec.signD l0 l1 l2 l3 cmd false pool = (⟨#[]⟩, 1100) := by
    unfold Spec.signD
    rw [if_neg (by rw [hb]; decide)]; rfl
  rw [hd] at e
  obtain ⟨k, hk⟩ := Ev.rounds e
  exact sign_Of.calls k A0 c0 l0 A1 c1 l1 A2 c2 l2 A3 c3 l3 cmd false pool _ _ W h0 k0 h1 k1 h2 k2 h3 k3 hk
set_option maxHeartbeats 8000000 in
set_option maxRecDepth 100000 in
theorem cruciblelaw11_SignForms.calls (k : Nat) (a0 : Int) (a1 : Int) (r : Bool) (w : World) (h : cruciblelaw11_SignForms.f k a0 a1 = some r) : Calls Tryd.prog 4 #[.int .i64 a0, .int .i64 a1] w fun e w' => e = .returned (.bool r) ∧ Below w.heap.size w w' := by
  unfold cruciblelaw11_SignForms.f at h
  split at h
  case isFalse => cases h
  rename_i ha
  obtain rfl : true = r := Option.some.inj h
  have h7 : Go.bits .and .i64 a0 7 = a0 % 8 := Spec.bits_low 3 (by omega) a0
  have h127 : Go.bits .and .i64 a1 127 = a1 % 128 := Spec.bits_low 7 (by omega) a1
  obtain ⟨m, hm⟩ : ∃ m : Int, a0 % 8 = m := ⟨_, rfl⟩
  obtain ⟨d, hd⟩ : ∃ d : Int, a1 % 128 = d := ⟨_, rfl⟩
  have hm0 : 0 ≤ m := by omega
  have hm8 : m < 8 := by omega
  have hd0 : 0 ≤ d := by omega
  have hd8 : d < 128 := by omega
  rw [hm] at h7
  rw [hd] at h127
  have cA := fun W => cruciblelaw11_awake.calls k true W ha
  clear h hm hd ha
  rcases (by omega : m = 0 ∨ m = 1 ∨ m = 2 ∨ m = 3 ∨ m = 4 ∨ m = 5 ∨ m = 6 ∨ m = 7) with rfl | rfl | rfl | rfl | rfl | rfl | rfl | rfl
  · go_enter Tryd.func4, Tryd.ntmps4
    go_wp2_with (go_at_call 24; refine (cA _).mono ?_; rintro e w1 ⟨rfl, B1⟩)
    refine (forms_bad none none none none 0 0 0 0 [] [] [] [] (⟨#[99, 99]⟩ : ByteArray) (⟨#[]⟩ : ByteArray) _ (Kd.C_nil _ _) (by simp) (Kd.C_nil _ _) (by simp) (Kd.C_nil _ _) (by simp) (Kd.C_nil _ _) (by simp) (by decide +kernel) (by decide) (by decide) (by decide) (by decide) (by decide)).mono ?_
    rintro e w2 ⟨rfl, B2⟩
    go_wp2_with (go_at_call 22; refine (cruciblelaw0_Num.calls _ _ _ rfl).mono ?_; rintro e w3 ⟨rfl, hd3⟩; have B3 := hd3.below; clear hd3)
    go_ret
    refine ⟨rfl, below3 ?_ B2 B3⟩
    have s1 := B1.size
    repeat (first | exact B1 | (with_reducible refine below_alloc ?_ _) | (with_reducible refine Below.setCell ?_ ?_ _))
    all_goals (simp; omega)
  · go_enter Tryd.func4, Tryd.ntmps4
    go_wp2_with (go_at_call 24; refine (cA _).mono ?_; rintro e w1 ⟨rfl, B1⟩)
    refine (forms_bad (some ⟨(w1.heap.size + 1 + 1), 0, none⟩) none none none 1 0 0 0 [(⟨#[46, 46, 47, 120]⟩ : ByteArray)] [] [] [] (⟨#[99, 99]⟩ : ByteArray) (⟨#[]⟩ : ByteArray) _ (forms_one (by first | (simp; done) | (go_simp; done))) (by simp) (Kd.C_nil _ _) (by simp) (Kd.C_nil _ _) (by simp) (Kd.C_nil _ _) (by simp) (by decide +kernel) (by decide) (by decide) (by decide) (by decide) (by decide)).mono ?_
    rintro e w2 ⟨rfl, B2⟩
    go_wp2_with (go_at_call 22; refine (cruciblelaw0_Num.calls _ _ _ rfl).mono ?_; rintro e w3 ⟨rfl, hd3⟩; have B3 := hd3.below; clear hd3)
    go_ret
    refine ⟨rfl, below3 ?_ B2 B3⟩
    have s1 := B1.size
    repeat (first | exact B1 | (with_reducible refine below_alloc ?_ _) | (with_reducible refine Below.setCell ?_ ?_ _))
    all_goals (simp; omega)
  · go_enter Tryd.func4, Tryd.ntmps4
    go_wp2_with (go_at_call 24; refine (cA _).mono ?_; rintro e w1 ⟨rfl, B1⟩)
    refine (forms_bad (some ⟨w1.heap.size, 0, none⟩) (some ⟨(w1.heap.size + 1 + 1), 0, none⟩) none none 1 1 0 0 [(⟨#[120]⟩ : ByteArray)] [(⟨#[65]⟩ : ByteArray)] [] [] (⟨#[99, 99]⟩ : ByteArray) (⟨#[]⟩ : ByteArray) _ (forms_one (by first | (simp; done) | (go_simp; done))) (by simp) (forms_one (by first | (simp; done) | (go_simp; done))) (by simp) (Kd.C_nil _ _) (by simp) (Kd.C_nil _ _) (by simp) (by decide +kernel) (by decide) (by decide) (by decide) (by decide) (by decide)).mono ?_
    rintro e w2 ⟨rfl, B2⟩
    go_wp2_with (go_at_call 22; refine (cruciblelaw0_Num.calls _ _ _ rfl).mono ?_; rintro e w3 ⟨rfl, hd3⟩; have B3 := hd3.below; clear hd3)
    go_ret
    refine ⟨rfl, below3 ?_ B2 B3⟩
    have s1 := B1.size
    repeat (first | exact B1 | (with_reducible refine below_alloc ?_ _) | (with_reducible refine Below.setCell ?_ ?_ _))
    all_goals (simp; omega)
  · go_enter Tryd.func4, Tryd.ntmps4
    go_wp2_with (go_at_call 24; refine (cA _).mono ?_; rintro e w1 ⟨rfl, B1⟩)
    refine (forms_bad (some ⟨w1.heap.size, 0, none⟩) none (some ⟨(w1.heap.size + 1 + 1), 0, none⟩) none 1 0 1 0 [(⟨#[120]⟩ : ByteArray)] [] [(⟨#[]⟩ : ByteArray)] [] (⟨#[99, 99]⟩ : ByteArray) (⟨#[]⟩ : ByteArray) _ (forms_one (by first | (simp; done) | (go_simp; done))) (by simp) (Kd.C_nil _ _) (by simp) (forms_one (by first | (simp; done) | (go_simp; done))) (by simp) (Kd.C_nil _ _) (by simp) (by decide +kernel) (by decide) (by decide) (by decide) (by decide) (by decide)).mono ?_
    rintro e w2 ⟨rfl, B2⟩
    go_wp2_with (go_at_call 22; refine (cruciblelaw0_Num.calls _ _ _ rfl).mono ?_; rintro e w3 ⟨rfl, hd3⟩; have B3 := hd3.below; clear hd3)
    go_ret
    refine ⟨rfl, below3 ?_ B2 B3⟩
    have s1 := B1.size
    repeat (first | exact B1 | (with_reducible refine below_alloc ?_ _) | (with_reducible refine Below.setCell ?_ ?_ _))
    all_goals (simp; omega)
  · go_enter Tryd.func4, Tryd.ntmps4
    go_wp2_with (go_at_call 24; refine (cA _).mono ?_; rintro e w1 ⟨rfl, B1⟩)
    refine (forms_bad (some ⟨w1.heap.size, 0, none⟩) none none (some ⟨(w1.heap.size + 1 + 1), 0, none⟩) 1 0 0 1 [(⟨#[120]⟩ : ByteArray)] [] [] [(⟨#[46, 47, 120]⟩ : ByteArray)] (⟨#[99, 99]⟩ : ByteArray) (⟨#[]⟩ : ByteArray) _ (forms_one (by first | (simp; done) | (go_simp; done))) (by simp) (Kd.C_nil _ _) (by simp) (Kd.C_nil _ _) (by simp) (forms_one (by first | (simp; done) | (go_simp; done))) (by simp) (by decide +kernel) (by decide) (by decide) (by decide) (by decide) (by decide)).mono ?_
    rintro e w2 ⟨rfl, B2⟩
    go_wp2_with (go_at_call 22; refine (cruciblelaw0_Num.calls _ _ _ rfl).mono ?_; rintro e w3 ⟨rfl, hd3⟩; have B3 := hd3.below; clear hd3)
    go_ret
    refine ⟨rfl, below3 ?_ B2 B3⟩
    have s1 := B1.size
    repeat (first | exact B1 | (with_reducible refine below_alloc ?_ _) | (with_reducible refine Below.setCell ?_ ?_ _))
    all_goals (simp; omega)
  · go_enter Tryd.func4, Tryd.ntmps4
    go_wp2_with (go_at_call 24; refine (cA _).mono ?_; rintro e w1 ⟨rfl, B1⟩)
    refine (forms_bad (some ⟨w1.heap.size, 0, none⟩) none none none 1 0 0 0 [(⟨#[120]⟩ : ByteArray)] [] [] [] (⟨#[]⟩ : ByteArray) (⟨#[]⟩ : ByteArray) _ (forms_one (by first | (simp; done) | (go_simp; done))) (by simp) (Kd.C_nil _ _) (by simp) (Kd.C_nil _ _) (by simp) (Kd.C_nil _ _) (by simp) (by decide +kernel) (by decide) (by decide) (by decide) (by decide) (by decide)).mono ?_
    rintro e w2 ⟨rfl, B2⟩
    go_wp2_with (go_at_call 22; refine (cruciblelaw0_Num.calls _ _ _ rfl).mono ?_; rintro e w3 ⟨rfl, hd3⟩; have B3 := hd3.below; clear hd3)
    go_ret
    refine ⟨rfl, below3 ?_ B2 B3⟩
    have s1 := B1.size
    repeat (first | exact B1 | (with_reducible refine below_alloc ?_ _) | (with_reducible refine Below.setCell ?_ ?_ _))
    all_goals (simp; omega)
  · obtain ⟨D, hD⟩ : ∃ D : Nat, (256 : Int) + (1 + d) = (D : Int) := ⟨(257 + d).toNat, by omega⟩
    have hD0 : 257 ≤ D := by omega
    have hD1 : D ≤ 400 := by omega
    obtain ⟨R, hR⟩ : ∃ R, madeCells #[Value.int .u8 0] D = R := ⟨_, rfl⟩
    have hmk : ∀ W : World, (Instr.makeSlice 35 (.int .i64 (256 + (1 + d))) (.int .i64 (256 + (1 + d)))).run Tryd.prog W = .ok (.slice (some ⟨W.heap.size, 0, none⟩) D D) (W.alloc (.cells R 5)) := fun W => by
      rw [hD, ← hR]
      exact print_make 35 5 .u8 1 Tryd.underlying35 (by kernel_rfl) (by decide) D (by omega) W
    obtain ⟨Z, hZ⟩ : ∃ Z, strOfNums (List.replicate D 0) = Z := ⟨_, rfl⟩
    have hcv : ∀ (W : World) (b : Nat), W.heap.size = b → (convert 35 9 (.slice (some ⟨b, 0, none⟩) D D)).run Tryd.prog (W.alloc (.cells R 5)) = .ok (.string Z) (W.alloc (.cells R 5)) := fun W b hb => by
      subst hb
      rw [← hR, ← hZ]
      exact own_string (P := Tryd.prog) Tryd.underlying35 Tryd.underlying5 Tryd.underlying9 (own_made W W.heap.size 5 .u8 D (Nat.le_refl _) (by omega))
    have hz : Z.size = D := by rw [← hZ, ← Spec.size_data]; simp [strOfNums]
    have hbad : Spec.cmdOk Z.data.toList = false := by
      obtain ⟨D1, rfl⟩ : ∃ D1, D = D1 + 1 := ⟨D - 1, by omega⟩
      rw [← hZ]
      simp [strOfNums, Spec.cmdOk, List.replicate_succ, Spec.plainB]
    have HZ := Aside0.mk hz
    have HB := Aside0.mk hbad
    have HDd := Aside0.mk hD
    have hd4 : 0 ≤ 256 + (1 + d) := by omega
    clear hD hR hZ hz hbad
    go_enter Tryd.func4, Tryd.ntmps4
    go_wp2_with (go_at_call 24; refine (cA _).mono ?_; rintro e w1 ⟨rfl, B1⟩)
    refine (forms_bad (some ⟨w1.heap.size, 0, none⟩) none none none 1 0 0 0 [(⟨#[120]⟩ : ByteArray)] [] [] [] Z (⟨#[]⟩ : ByteArray) _ (forms_one (by first | (simp; done) | (go_simp; done))) (by simp) (Kd.C_nil _ _) (by simp) (Kd.C_nil _ _) (by simp) (Kd.C_nil _ _) (by simp) (forms_cmd HB.out) (by decide) (by decide) (by decide) (by decide) (by have := HZ.out; omega)).mono ?_
    rintro e w2 ⟨rfl, B2⟩
    go_wp2_with (go_at_call 22; refine (cruciblelaw0_Num.calls _ _ _ rfl).mono ?_; rintro e w3 ⟨rfl, hd3⟩; have B3 := hd3.below; clear hd3)
    go_ret
    refine ⟨rfl, below3 ?_ B2 B3⟩
    have s1 := B1.size
    repeat (first | exact B1 | (with_reducible refine below_alloc ?_ _) | (with_reducible refine Below.setCell ?_ ?_ _))
    all_goals (simp; omega)
  · go_enter Tryd.func4, Tryd.ntmps4
    go_wp2_with (go_at_call 24; refine (cA _).mono ?_; rintro e w1 ⟨rfl, B1⟩)
    refine (forms_bad (some ⟨w1.heap.size, 0, none⟩) none none none 1 0 0 0 [(⟨#[120]⟩ : ByteArray)] [] [] [] (⟨#[99, 99]⟩ : ByteArray) (⟨#[65]⟩ : ByteArray) _ (forms_one (by first | (simp; done) | (go_simp; done))) (by simp) (Kd.C_nil _ _) (by simp) (Kd.C_nil _ _) (by simp) (Kd.C_nil _ _) (by simp) (by decide +kernel) (by decide) (by decide) (by decide) (by decide) (by decide)).mono ?_
    rintro e w2 ⟨rfl, B2⟩
    go_wp2_with (go_at_call 22; refine (cruciblelaw0_Num.calls _ _ _ rfl).mono ?_; rintro e w3 ⟨rfl, hd3⟩; have B3 := hd3.below; clear hd3)
    go_ret
    refine ⟨rfl, below3 ?_ B2 B3⟩
    have s1 := B1.size
    repeat (first | exact B1 | (with_reducible refine below_alloc ?_ _) | (with_reducible refine Below.setCell ?_ ?_ _))
    all_goals (simp; omega)

end Go.Proofs.YtkplcmcmpdhigaaDoor.P
