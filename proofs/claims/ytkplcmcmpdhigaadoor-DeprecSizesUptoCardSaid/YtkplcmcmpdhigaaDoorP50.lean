-- Made by a program of this work's own (wip/myprint.py) over the kit's print; leaves by hand.
import Derived.Test.YtkplcmcmpdhigaaDoorP0
import Derived.Test.YtkplcmcmpdhigaaDoorWRepsOne
import Derived.Test.YtkplcmcmpdhigaaDoorP23
import Derived.Test.YtkplcmcmpdhigaaDoorP34
import Derived.Test.YtkplcmcmpdhigaaDoorP47
namespace Go.Proofs.YtkplcmcmpdhigaaDoor.P
open Go.RowKit Go.Proofs.YtkplcmcmpdhigaaDoorW.PrintWords Go.Proofs.YtkplcmcmpdhigaaDoorW.PrintLast Go.Proofs.YtkplcmcmpdhigaaDoorW.PrintMore
attribute [local go_sem] max2_int min2_int max_two min_two max_three min_three max_four min_four   -- for this text's walks alone
set_option linter.unusedVariables false
set_option linter.unusedSimpArgs false

/-! ### cruciblelaw15_DeprecSizes: function 10 -/
def cruciblelaw15_DeprecSizes.l0 : Nat → ByteArray → List ByteArray → Int → ByteArray → Int → Int → Option (Bool)
  | 0, _, _, _, _, _, _ => none
  | k + 1, x0, x1, x7, x8, x10, x11 => if x11 < (x1.length : Int) then (if 0 ≤ x11 then (cruciblelaw15_DeprecSizes.l0 k x0 x1 x7 x8 (wrap64 ((wrap64 (x10 + 1)) + ((rdOf ByteArray.empty x1 x11).size : Int))) (wrap64 (x11 + 1))) else (none)) else (if (x8.size : Int) = x10 then (if 0 < (x8.size : Int) then (if 1 < (x8.size : Int) then (if (wrap64 ((wrap64 (bt x8 0)) + (wrap64 (256 * (wrap64 (bt x8 1)))))) = (wrap64 (x10 - 2)) then (if 2 < (x8.size : Int) then (if (wrap64 (bt x8 2)) = (x0.size : Int) then (if 3 ≤ (wrap64 (3 + (x0.size : Int))) then (if (wrap64 (3 + (x0.size : Int))) ≤ (x8.size : Int) then (if (x8.extract 3 ((wrap64 (3 + (x0.size : Int))) : Int).toNat).toList = x0.toList then (if 0 ≤ (wrap64 (3 + (x0.size : Int))) then (if (wrap64 (3 + (x0.size : Int))) < (x8.size : Int) then (if 0 ≤ (wrap64 ((wrap64 (3 + (x0.size : Int))) + 1)) then (if (wrap64 ((wrap64 (3 + (x0.size : Int))) + 1)) < (x8.size : Int) then (if 0 ≤ (wrap64 ((wrap64 (3 + (x0.size : Int))) + 2)) then (if (wrap64 ((wrap64 (3 + (x0.size : Int))) + 2)) < (x8.size : Int) then (if (wrap64 ((wrap64 ((wrap64 (bt x8 (wrap64 (3 + (x0.size : Int))))) + (wrap64 (256 * (wrap64 (bt x8 (wrap64 ((wrap64 (3 + (x0.size : Int))) + 1)))))))) + (wrap64 (65536 * (wrap64 (bt x8 (wrap64 ((wrap64 (3 + (x0.size : Int))) + 2)))))))) = x7 then (if 0 ≤ (wrap64 ((wrap64 (3 + (x0.size : Int))) + 3)) then (if (wrap64 ((wrap64 (3 + (x0.size : Int))) + 3)) < (x8.size : Int) then (if (bt x8 (wrap64 ((wrap64 (3 + (x0.size : Int))) + 3))) = 0 then (if 0 ≤ (wrap64 ((wrap64 (3 + (x0.size : Int))) + 4)) then (if (wrap64 ((wrap64 (3 + (x0.size : Int))) + 4)) < (x8.size : Int) then (some ((wrap64 (bt x8 (wrap64 ((wrap64 (3 + (x0.size : Int))) + 4)))) == (x1.length : Int))) else (none)) else (none)) else (some false)) else (none)) else (none)) else (some false)) else (none)) else (none)) else (none)) else (none)) else (none)) else (none)) else (some false)) else (none)) else (none)) else (some false)) else (none)) else (some false)) else (none)) else (none)) else (some false))
def cruciblelaw15_DeprecSizes.f (k : Nat) (a0 : ByteArray) (l1 : List ByteArray) (a2 : Int) : Option (Bool) := (cruciblelaw15_awake.f k).bind fun t518 => (if t518 = true then ((deprec_Put.f k a0 (wrap64 (1 + (wrap64 (Int.tmod (IntKind.u64.wrap (a2)) 1048576)))) l1).bind fun bt519 => ((cruciblelaw0_Num.f bt519.2).bind fun t521 => (if t521 = 0 then (cruciblelaw15_DeprecSizes.l0 k a0 l1 (wrap64 (1 + (wrap64 (Int.tmod (IntKind.u64.wrap (a2)) 1048576)))) bt519.1 (wrap64 ((wrap64 ((wrap64 (3 + (a0.size : Int))) + 4)) + 1)) 0) else (some (bt519.1.toList == ([] : List UInt8)))))) else (some false))
set_option maxRecDepth 100000 in
theorem cruciblelaw15_DeprecSizes.mono_l : ∀ k, (∀ y0 y1 y2 y3 y4 y5, LeO (cruciblelaw15_DeprecSizes.l0 k y0 y1 y2 y3 y4 y5) (cruciblelaw15_DeprecSizes.l0 (k + 1) y0 y1 y2 y3 y4 y5))
  | 0 => fun _ _ _ _ _ _ r h => by simp [cruciblelaw15_DeprecSizes.l0] at h
  | k + 1 => by
    have ih0 := cruciblelaw15_DeprecSizes.mono_l k
    · intro y0 y1 y2 y3 y4 y5
      unfold cruciblelaw15_DeprecSizes.l0
      repeat' first
      | (with_reducible exact ih0 _ _ _ _ _ _)
      | (with_reducible exact cruciblelaw15_awake.mono _)
      | (with_reducible exact deprec_Put.mono _ _ _ _)
      | (with_reducible exact LeO.refl _)
      | (with_reducible exact LeO.none _)
      | (with_reducible refine LeO.ite ?_ ?_)
      | (with_reducible refine LeO.bind ?_ (fun _ => ?_))
      | exact ih0 _ _ _ _ _ _
      | exact cruciblelaw15_awake.mono _
      | exact deprec_Put.mono _ _ _ _
      | exact LeO.none _
      | refine LeO.ite ?_ ?_
      | refine LeO.bind ?_ (fun _ => ?_)
theorem cruciblelaw15_DeprecSizes.mono : ∀ a0 a1 a2 k, LeO (cruciblelaw15_DeprecSizes.f k a0 a1 a2) (cruciblelaw15_DeprecSizes.f (k + 1) a0 a1 a2) := by
  intro a0 a1 a2 k
  have ih0 := cruciblelaw15_DeprecSizes.mono_l k
  unfold cruciblelaw15_DeprecSizes.f
  repeat' first
      | (with_reducible exact ih0 _ _ _ _ _ _)
      | (with_reducible exact cruciblelaw15_awake.mono _)
      | (with_reducible exact deprec_Put.mono _ _ _ _)
      | (with_reducible exact LeO.refl _)
      | (with_reducible exact LeO.none _)
      | (with_reducible refine LeO.ite ?_ ?_)
      | (with_reducible refine LeO.bind ?_ (fun _ => ?_))
      | exact ih0 _ _ _ _ _ _
      | exact cruciblelaw15_awake.mono _
      | exact deprec_Put.mono _ _ _ _
      | exact LeO.none _
      | refine LeO.ite ?_ ?_
      | refine LeO.bind ?_ (fun _ => ?_)
set_option maxHeartbeats 8000000 in
set_option maxRecDepth 100000 in
theorem cruciblelaw15_DeprecSizes.calls (k : Nat) (a0 : ByteArray) (A1 : Option Addr) (c1 : Nat) (l1 : List ByteArray) (a2 : Int) (r : Bool) (w : World) (hr1 : Kd.C Kd.string w A1 l1.length l1) (hc1 : l1.length ≤ c1) (h : cruciblelaw15_DeprecSizes.f k a0 l1 a2 = some r) :
    Calls Tryd.prog 10 #[.string a0, .slice A1 l1.length c1, .int .i64 a2] w fun e w' => e = .returned (.bool r) ∧ Below w.heap.size w w' := by
  have hu41 := Tryd.underlying41
  have HR1 := Aside0.mk hr1
  have HC1 := Aside0.mk hc1
  clear hr1 hc1
  have HB := Aside0.mk (Below.refl w.heap.size w)
  have H : ((cruciblelaw15_awake.f k).bind fun t518 => (if t518 = true then ((deprec_Put.f k a0 (wrap64 (1 + (wrap64 (Int.tmod (IntKind.u64.wrap (a2)) 1048576)))) l1).bind fun bt519 => ((cruciblelaw0_Num.f bt519.2).bind fun t521 => (if t521 = 0 then (cruciblelaw15_DeprecSizes.l0 k a0 l1 (wrap64 (1 + (wrap64 (Int.tmod (IntKind.u64.wrap (a2)) 1048576)))) bt519.1 (wrap64 ((wrap64 ((wrap64 (3 + (a0.size : Int))) + 4)) + 1)) 0) else (some (bt519.1.toList == ([] : List UInt8)))))) else (some false))) = some r := h
  clear h
  replace H := Option.bind_eq_some_iff.mp H
  obtain ⟨t518, A40, H⟩ := H
  replace H : (if t518 = true then ((deprec_Put.f k a0 (wrap64 (1 + (wrap64 (Int.tmod (IntKind.u64.wrap (a2)) 1048576)))) l1).bind fun bt519 => ((cruciblelaw0_Num.f bt519.2).bind fun t521 => (if t521 = 0 then (cruciblelaw15_DeprecSizes.l0 k a0 l1 (wrap64 (1 + (wrap64 (Int.tmod (IntKind.u64.wrap (a2)) 1048576)))) bt519.1 (wrap64 ((wrap64 ((wrap64 (3 + (a0.size : Int))) + 4)) + 1)) 0) else (some (bt519.1.toList == ([] : List UInt8)))))) else (some false)) = some r := H
  have A4 := Aside0.mk A40
  clear A40
  by_cases c5 : t518 = true
  · subst c5
    have H1 : ((deprec_Put.f k a0 (wrap64 (1 + (wrap64 (Int.tmod (IntKind.u64.wrap (a2)) 1048576)))) l1).bind fun bt519 => ((cruciblelaw0_Num.f bt519.2).bind fun t521 => (if t521 = 0 then (cruciblelaw15_DeprecSizes.l0 k a0 l1 (wrap64 (1 + (wrap64 (Int.tmod (IntKind.u64.wrap (a2)) 1048576)))) bt519.1 (wrap64 ((wrap64 ((wrap64 (3 + (a0.size : Int))) + 4)) + 1)) 0) else (some (bt519.1.toList == ([] : List UInt8)))))) = some r := by rw [if_pos rfl] at H; exact H
    clear H
    have H := H1
    clear H1
    replace H := Option.bind_eq_some_iff.mp H
    obtain ⟨⟨t519, t520⟩, A60, H⟩ := H
    replace H : ((cruciblelaw0_Num.f t520).bind fun t521 => (if t521 = 0 then (cruciblelaw15_DeprecSizes.l0 k a0 l1 (wrap64 (1 + (wrap64 (Int.tmod (IntKind.u64.wrap (a2)) 1048576)))) t519 (wrap64 ((wrap64 ((wrap64 (3 + (a0.size : Int))) + 4)) + 1)) 0) else (some (t519.toList == ([] : List UInt8))))) = some r := H
    have A6 := Aside0.mk A60
    clear A60
    replace H := Option.bind_eq_some_iff.mp H
    obtain ⟨t521, A70, H⟩ := H
    replace H : (if t521 = 0 then (cruciblelaw15_DeprecSizes.l0 k a0 l1 (wrap64 (1 + (wrap64 (Int.tmod (IntKind.u64.wrap (a2)) 1048576)))) t519 (wrap64 ((wrap64 ((wrap64 (3 + (a0.size : Int))) + 4)) + 1)) 0) else (some (t519.toList == ([] : List UInt8)))) = some r := H
    have A7 := Aside0.mk A70
    clear A70
    by_cases c8 : t521 = 0
    · rw [if_pos c8] at H
      have c8b0 : (t521 == 0) = true := beq_iff_eq.mpr c8
      have c8b1 : (t521 != 0) = false := bne_eq_false_iff_eq.mpr c8
      clear c8
      have H' := Aside0.mk H
      clear H
      go_enter Tryd.func10, Tryd.ntmps10
      go_wp2_with (first | (go_at_call 33; (with_reducible refine (cruciblelaw15_awake.calls k  true _ A4.out).mono ?_); rintro e w9 ⟨rfl, hb⟩; have n0_ := Aside0.mk (below_step (by repeat (first | (with_reducible first | exact HB.out | apply below_alloc | apply pw_below_drewN | apply below_drew1) | exact HB.out)) hb); clear HB; have HB := n0_; clear n0_; (try clear hb); (try clear hb2); (try clear hk); (try clear hi)) | (go_at_call 27; (with_reducible refine (deprec_Put.calls k a0 (wrap64 (1 + (wrap64 (Int.tmod (IntKind.u64.wrap (a2)) 1048576)))) _ _ l1 t519 t520 _ ?side1 ?side2 A6.out).mono ?_); (case side1 => repeat (first | exact (Kd.C_below HR1.out HB.out) | (with_reducible refine Kd.C_alloc ?_ _) | (with_reducible refine Kd.C_drewN ?_ _) | (with_reducible refine Kd.C_drew ?_))); (case side2 => exact HC1.out); rintro e w10 ⟨rfl, hb⟩; have n0_ := Aside0.mk (below_step (by repeat (first | (with_reducible first | exact HB.out | apply below_alloc | apply pw_below_drewN | apply below_drew1) | exact HB.out)) hb); clear HB; have HB := n0_; clear n0_; (try clear hb); (try clear hb2); (try clear hk); (try clear hi)) | (go_at_call 22; (with_reducible refine (cruciblelaw0_Num.calls t520 t521 _ A7.out).mono ?_); rintro e w' ⟨rfl, ⟨nd, rfl⟩⟩; (try first | exact ⟨rfl, _, World.drewN_drewN _ _ _⟩ | exact ⟨rfl, _, Eq.trans (World.drewN_drewN _ _ _) (congrArg (World.drewN _) (Nat.add_assoc _ _ _))⟩)))
      repeat (go_quiet (first | (go_at_call 33; (with_reducible refine (cruciblelaw15_awake.calls k  true _ A4.out).mono ?_); rintro e w9 ⟨rfl, hb⟩; have n0_ := Aside0.mk (below_step (by repeat (first | (with_reducible first | exact HB.out | apply below_alloc | apply pw_below_drewN | apply below_drew1) | exact HB.out)) hb); clear HB; have HB := n0_; clear n0_; (try clear hb); (try clear hb2); (try clear hk); (try clear hi)) | (go_at_call 27; (with_reducible refine (deprec_Put.calls k a0 (wrap64 (1 + (wrap64 (Int.tmod (IntKind.u64.wrap (a2)) 1048576)))) _ _ l1 t519 t520 _ ?side1 ?side2 A6.out).mono ?_); (case side1 => repeat (first | exact (Kd.C_below HR1.out HB.out) | (with_reducible refine Kd.C_alloc ?_ _) | (with_reducible refine Kd.C_drewN ?_ _) | (with_reducible refine Kd.C_drew ?_))); (case side2 => exact HC1.out); rintro e w10 ⟨rfl, hb⟩; have n0_ := Aside0.mk (below_step (by repeat (first | (with_reducible first | exact HB.out | apply below_alloc | apply pw_below_drewN | apply below_drew1) | exact HB.out)) hb); clear HB; have HB := n0_; clear n0_; (try clear hb); (try clear hb2); (try clear hk); (try clear hi)) | (go_at_call 22; (with_reducible refine (cruciblelaw0_Num.calls t520 t521 _ A7.out).mono ?_); rintro e w' ⟨rfl, ⟨nd, rfl⟩⟩; (try first | exact ⟨rfl, _, World.drewN_drewN _ _ _⟩ | exact ⟨rfl, _, Eq.trans (World.drewN_drewN _ _ _) (congrArg (World.drewN _) (Nat.add_assoc _ _ _))⟩))); try go_wp2_with (first | (go_at_call 33; (with_reducible refine (cruciblelaw15_awake.calls k  true _ A4.out).mono ?_); rintro e w9 ⟨rfl, hb⟩; have n0_ := Aside0.mk (below_step (by repeat (first | (with_reducible first | exact HB.out | apply below_alloc | apply pw_below_drewN | apply below_drew1) | exact HB.out)) hb); clear HB; have HB := n0_; clear n0_; (try clear hb); (try clear hb2); (try clear hk); (try clear hi)) | (go_at_call 27; (with_reducible refine (deprec_Put.calls k a0 (wrap64 (1 + (wrap64 (Int.tmod (IntKind.u64.wrap (a2)) 1048576)))) _ _ l1 t519 t520 _ ?side1 ?side2 A6.out).mono ?_); (case side1 => repeat (first | exact (Kd.C_below HR1.out HB.out) | (with_reducible refine Kd.C_alloc ?_ _) | (with_reducible refine Kd.C_drewN ?_ _) | (with_reducible refine Kd.C_drew ?_))); (case side2 => exact HC1.out); rintro e w10 ⟨rfl, hb⟩; have n0_ := Aside0.mk (below_step (by repeat (first | (with_reducible first | exact HB.out | apply below_alloc | apply pw_below_drewN | apply below_drew1) | exact HB.out)) hb); clear HB; have HB := n0_; clear n0_; (try clear hb); (try clear hb2); (try clear hk); (try clear hi)) | (go_at_call 22; (with_reducible refine (cruciblelaw0_Num.calls t520 t521 _ A7.out).mono ?_); rintro e w' ⟨rfl, ⟨nd, rfl⟩⟩; (try first | exact ⟨rfl, _, World.drewN_drewN _ _ _⟩ | exact ⟨rfl, _, Eq.trans (World.drewN_drewN _ _ _) (congrArg (World.drewN _) (Nat.add_assoc _ _ _))⟩))))
      go_loopg [10, 11] k (fun kq v10 v11 w' => ∃ (x10_1 : Int) (x11_1 : Int), v10 = .int .i64 x10_1 ∧ v11 = .int .i64 x11_1 ∧ Aside0 (cruciblelaw15_DeprecSizes.l0 kq a0 l1 (wrap64 (1 + (wrap64 (Int.tmod (IntKind.u64.wrap (a2)) 1048576)))) t519 x10_1 x11_1 = some r) ∧ Aside0 (kq ≤ k) ∧ Aside0 (Below w.heap.size w w'))
      case atStart => exact ⟨(wrap64 ((wrap64 ((wrap64 (3 + (a0.size : Int))) + 4)) + 1)), (0), (by first | rfl | (simp; done) | (simp [*]; done)), (by first | rfl | (simp; done) | (simp [*]; done)), H', ⟨Nat.le_refl _⟩, ⟨by repeat (first | (with_reducible first | exact HB.out | apply below_alloc | apply pw_below_drewN | apply below_drew1) | exact HB.out)⟩⟩
      case round =>
        clear H'
        try clear c1
        try clear p2
        try clear c5
        try clear p6
        try clear c8
        try clear c8b0
        try clear c8b1
        try clear c10
        obtain ⟨x10_1, x11_1, rfl, rfl, HA, HK1, HB⟩ := hrel
        cases gk with
        | zero => exact absurd HA.out (by simp [cruciblelaw15_DeprecSizes.l0])
        | succ k1 =>
          have H := HA.out
          clear HA
          simp only [cruciblelaw15_DeprecSizes.l0] at H
          by_cases c11 : x11_1 < (l1.length : Int)
          · rw [if_pos c11] at H
            have c11b0 : decide (x11_1 < (l1.length : Int)) = true := decide_eq_true c11
            clear c11
            by_cases c12 : 0 ≤ x11_1
            · rw [if_pos c12] at H
              have c12b0 : decide (0 ≤ x11_1) = true := decide_eq_true c12
              clear c12
              have H' := Aside0.mk H
              clear H
              have p522 : 0 ≤ (x11_1 : Int) := of_decide_eq_true (by first | (with_reducible assumption) | assumption)
              have q522 : x11_1 < (l1.length : Int) := of_decide_eq_true (by first | (with_reducible assumption) | assumption)
              obtain ⟨ad522, e522, hx522_0⟩ := Kd.at_string HR1.out x11_1 p522 q522
              cases e522
              replace hx522_0 := (HB.out.cell (World.block_lt_of_cell? w _ hx522_0)).trans hx522_0
              replace p522 := eq_true p522
              replace q522 := eq_true q522
              go_wp2
              repeat (go_quiet (fail); try go_wp2)
              go_roundg k1
              case measure => have := HK1.out; omega
              case rel => exact ⟨(wrap64 ((wrap64 (x10_1 + 1)) + ((rdOf ByteArray.empty l1 x11_1).size : Int))), (wrap64 (x11_1 + 1)), (by first | rfl | (simp; done) | (simp [*]; done)), (by first | rfl | (simp; done) | (simp [*]; done)), H', ⟨by have := HK1.out; omega⟩, ⟨by repeat (first | (with_reducible first | exact HB.out | apply below_alloc | apply pw_below_drewN | apply below_drew1) | exact HB.out)⟩⟩
            · rw [if_neg c12] at H
              exact absurd H (by simp)
          · rw [if_neg c11] at H
            have c11b0 : decide (x11_1 < (l1.length : Int)) = false := decide_eq_false c11
            clear c11
            by_cases c13 : (t519.size : Int) = x10_1
            · rw [if_pos c13] at H
              have c13b0 : ((t519.size : Int) == x10_1) = true := beq_iff_eq.mpr c13
              have c13b1 : ((t519.size : Int) != x10_1) = false := bne_eq_false_iff_eq.mpr c13
              clear c13
              by_cases c14 : 0 < (t519.size : Int)
              · rw [if_pos c14] at H
                have c14b0 : decide (0 < (t519.size : Int)) = true := decide_eq_true c14
                have c14b1 : decide (0 < t519.size) = true := decide_eq_true (by omega)
                clear c14
                by_cases c16 : 1 < (t519.size : Int)
                · rw [if_pos c16] at H
                  have c16b0 : decide (1 < (t519.size : Int)) = true := decide_eq_true c16
                  have c16b1 : decide (1 < t519.size) = true := decide_eq_true (by omega)
                  clear c16
                  by_cases c18 : (wrap64 ((wrap64 (bt t519 0)) + (wrap64 (256 * (wrap64 (bt t519 1)))))) = (wrap64 (x10_1 - 2))
                  · rw [if_pos c18] at H
                    have c18b0 : ((wrap64 ((wrap64 (bt t519 0)) + (wrap64 (256 * (wrap64 (bt t519 1)))))) == (wrap64 (x10_1 - 2))) = true := beq_iff_eq.mpr c18
                    have c18b1 : ((wrap64 ((wrap64 (bt t519 0)) + (wrap64 (256 * (wrap64 (bt t519 1)))))) != (wrap64 (x10_1 - 2))) = false := bne_eq_false_iff_eq.mpr c18
                    clear c18
                    by_cases c19 : 2 < (t519.size : Int)
                    · rw [if_pos c19] at H
                      have c19b0 : decide (2 < (t519.size : Int)) = true := decide_eq_true c19
                      have c19b1 : decide (2 < t519.size) = true := decide_eq_true (by omega)
                      clear c19
                      by_cases c21 : (wrap64 (bt t519 2)) = (a0.size : Int)
                      · rw [if_pos c21] at H
                        have c21b0 : ((wrap64 (bt t519 2)) == (a0.size : Int)) = true := beq_iff_eq.mpr c21
                        have c21b1 : ((wrap64 (bt t519 2)) != (a0.size : Int)) = false := bne_eq_false_iff_eq.mpr c21
                        clear c21
                        by_cases c22 : 3 ≤ (wrap64 (3 + (a0.size : Int)))
                        · rw [if_pos c22] at H
                          have c22b0 := eq_true c22
                          have c22b1 : decide (3 ≤ (wrap64 (3 + (a0.size : Int)))) = true := decide_eq_true c22
                          by_cases c23 : (wrap64 (3 + (a0.size : Int))) ≤ (t519.size : Int)
                          · rw [if_pos c23] at H
                            have c23b0 := eq_true c23
                            have c23b1 : decide ((wrap64 (3 + (a0.size : Int))) ≤ (t519.size : Int)) = true := decide_eq_true c23
                            by_cases c24 : (t519.extract 3 ((wrap64 (3 + (a0.size : Int))) : Int).toNat).toList = a0.toList
                            · rw [if_pos c24] at H
                              have c24b0 : ((t519.extract 3 ((wrap64 (3 + (a0.size : Int))) : Int).toNat).toList == a0.toList) = true := beq_iff_eq.mpr c24
                              have c24b1 : ((t519.extract 3 ((wrap64 (3 + (a0.size : Int))) : Int).toNat).toList != a0.toList) = false := bne_eq_false_iff_eq.mpr c24
                              clear c24
                              obtain ⟨ji25, hji25⟩ : ∃ j_ : Int, (wrap64 (3 + (a0.size : Int))) = j_ := ⟨_, rfl⟩
                              replace H : (if 0 ≤ (ji25) then (if (ji25) < (t519.size : Int) then (if 0 ≤ (wrap64 ((ji25) + 1)) then (if (wrap64 ((ji25) + 1)) < (t519.size : Int) then (if 0 ≤ (wrap64 ((ji25) + 2)) then (if (wrap64 ((ji25) + 2)) < (t519.size : Int) then (if (wrap64 ((wrap64 ((wrap64 (bt t519 (ji25))) + (wrap64 (256 * (wrap64 (bt t519 (wrap64 ((ji25) + 1)))))))) + (wrap64 (65536 * (wrap64 (bt t519 (wrap64 ((ji25) + 2)))))))) = (wrap64 (1 + (wrap64 (Int.tmod (IntKind.u64.wrap (a2)) 1048576)))) then (if 0 ≤ (wrap64 ((ji25) + 3)) then (if (wrap64 ((ji25) + 3)) < (t519.size : Int) then (if (bt t519 (wrap64 ((ji25) + 3))) = 0 then (if 0 ≤ (wrap64 ((ji25) + 4)) then (if (wrap64 ((ji25) + 4)) < (t519.size : Int) then (some ((wrap64 (bt t519 (wrap64 ((ji25) + 4)))) == (l1.length : Int))) else (none)) else (none)) else (some false)) else (none)) else (none)) else (some false)) else (none)) else (none)) else (none)) else (none)) else (none)) else (none)) = some r := by first | (rw [hji25] at H; exact H) | (simp only [hji25] at H ⊢; exact H)
                              (try rw [hji25] at c22b0)
                              (try rw [hji25] at c22b1)
                              (try rw [hji25] at c22)
                              (try rw [hji25] at c23b0)
                              (try rw [hji25] at c23b1)
                              (try rw [hji25] at c23)
                              (try rw [hji25] at c24b0)
                              (try rw [hji25] at c24b1)
                              have hji25w : (IntKind.i64.wrap (3 + (a0.size : Int))) = ji25 := (i64_w _).trans hji25
                              by_cases c26 : 0 ≤ (ji25)
                              · rw [if_pos c26] at H
                                have c26b0 : decide (0 ≤ (ji25)) = true := decide_eq_true c26
                                clear c26
                                by_cases c27 : (ji25) < (t519.size : Int)
                                · rw [if_pos c27] at H
                                  have c27b0 : decide ((ji25) < (t519.size : Int)) = true := decide_eq_true c27
                                  clear c27
                                  obtain ⟨ji29, hji29⟩ : ∃ j_ : Int, (wrap64 ((ji25) + 1)) = j_ := ⟨_, rfl⟩
                                  replace H : (if 0 ≤ (ji29) then (if (ji29) < (t519.size : Int) then (if 0 ≤ (wrap64 ((ji25) + 2)) then (if (wrap64 ((ji25) + 2)) < (t519.size : Int) then (if (wrap64 ((wrap64 ((wrap64 (bt t519 (ji25))) + (wrap64 (256 * (wrap64 (bt t519 (ji29))))))) + (wrap64 (65536 * (wrap64 (bt t519 (wrap64 ((ji25) + 2)))))))) = (wrap64 (1 + (wrap64 (Int.tmod (IntKind.u64.wrap (a2)) 1048576)))) then (if 0 ≤ (wrap64 ((ji25) + 3)) then (if (wrap64 ((ji25) + 3)) < (t519.size : Int) then (if (bt t519 (wrap64 ((ji25) + 3))) = 0 then (if 0 ≤ (wrap64 ((ji25) + 4)) then (if (wrap64 ((ji25) + 4)) < (t519.size : Int) then (some ((wrap64 (bt t519 (wrap64 ((ji25) + 4)))) == (l1.length : Int))) else (none)) else (none)) else (some false)) else (none)) else (none)) else (some false)) else (none)) else (none)) else (none)) else (none)) = some r := by first | (rw [hji29] at H; exact H) | (simp only [hji29] at H ⊢; exact H)
                                  have hji29w : (IntKind.i64.wrap ((ji25) + 1)) = ji29 := (i64_w _).trans hji29
                                  by_cases c30 : 0 ≤ (ji29)
                                  · rw [if_pos c30] at H
                                    have c30b0 : decide (0 ≤ (ji29)) = true := decide_eq_true c30
                                    clear c30
                                    by_cases c31 : (ji29) < (t519.size : Int)
                                    · rw [if_pos c31] at H
                                      have c31b0 : decide ((ji29) < (t519.size : Int)) = true := decide_eq_true c31
                                      clear c31
                                      obtain ⟨ji33, hji33⟩ : ∃ j_ : Int, (wrap64 ((ji25) + 2)) = j_ := ⟨_, rfl⟩
                                      replace H : (if 0 ≤ (ji33) then (if (ji33) < (t519.size : Int) then (if (wrap64 ((wrap64 ((wrap64 (bt t519 (ji25))) + (wrap64 (256 * (wrap64 (bt t519 (ji29))))))) + (wrap64 (65536 * (wrap64 (bt t519 (ji33))))))) = (wrap64 (1 + (wrap64 (Int.tmod (IntKind.u64.wrap (a2)) 1048576)))) then (if 0 ≤ (wrap64 ((ji25) + 3)) then (if (wrap64 ((ji25) + 3)) < (t519.size : Int) then (if (bt t519 (wrap64 ((ji25) + 3))) = 0 then (if 0 ≤ (wrap64 ((ji25) + 4)) then (if (wrap64 ((ji25) + 4)) < (t519.size : Int) then (some ((wrap64 (bt t519 (wrap64 ((ji25) + 4)))) == (l1.length : Int))) else (none)) else (none)) else (some false)) else (none)) else (none)) else (some false)) else (none)) else (none)) = some r := by first | (rw [hji33] at H; exact H) | (simp only [hji33] at H ⊢; exact H)
                                      have hji33w : (IntKind.i64.wrap ((ji25) + 2)) = ji33 := (i64_w _).trans hji33
                                      by_cases c34 : 0 ≤ (ji33)
                                      · rw [if_pos c34] at H
                                        have c34b0 : decide (0 ≤ (ji33)) = true := decide_eq_true c34
                                        clear c34
                                        by_cases c35 : (ji33) < (t519.size : Int)
                                        · rw [if_pos c35] at H
                                          have c35b0 : decide ((ji33) < (t519.size : Int)) = true := decide_eq_true c35
                                          clear c35
                                          by_cases c37 : (wrap64 ((wrap64 ((wrap64 (bt t519 (ji25))) + (wrap64 (256 * (wrap64 (bt t519 (ji29))))))) + (wrap64 (65536 * (wrap64 (bt t519 (ji33))))))) = (wrap64 (1 + (wrap64 (Int.tmod (IntKind.u64.wrap (a2)) 1048576))))
                                          · rw [if_pos c37] at H
                                            have c37b0 : ((wrap64 ((wrap64 ((wrap64 (bt t519 (ji25))) + (wrap64 (256 * (wrap64 (bt t519 (ji29))))))) + (wrap64 (65536 * (wrap64 (bt t519 (ji33))))))) == (wrap64 (1 + (wrap64 (Int.tmod (IntKind.u64.wrap (a2)) 1048576))))) = true := beq_iff_eq.mpr c37
                                            have c37b1 : ((wrap64 ((wrap64 ((wrap64 (bt t519 (ji25))) + (wrap64 (256 * (wrap64 (bt t519 (ji29))))))) + (wrap64 (65536 * (wrap64 (bt t519 (ji33))))))) != (wrap64 (1 + (wrap64 (Int.tmod (IntKind.u64.wrap (a2)) 1048576))))) = false := bne_eq_false_iff_eq.mpr c37
                                            clear c37
                                            obtain ⟨ji38, hji38⟩ : ∃ j_ : Int, (wrap64 ((ji25) + 3)) = j_ := ⟨_, rfl⟩
                                            replace H : (if 0 ≤ (ji38) then (if (ji38) < (t519.size : Int) then (if (bt t519 (ji38)) = 0 then (if 0 ≤ (wrap64 ((ji25) + 4)) then (if (wrap64 ((ji25) + 4)) < (t519.size : Int) then (some ((wrap64 (bt t519 (wrap64 ((ji25) + 4)))) == (l1.length : Int))) else (none)) else (none)) else (some false)) else (none)) else (none)) = some r := by first | (rw [hji38] at H; exact H) | (simp only [hji38] at H ⊢; exact H)
                                            have hji38w : (IntKind.i64.wrap ((ji25) + 3)) = ji38 := (i64_w _).trans hji38
                                            by_cases c39 : 0 ≤ (ji38)
                                            · rw [if_pos c39] at H
                                              have c39b0 : decide (0 ≤ (ji38)) = true := decide_eq_true c39
                                              clear c39
                                              by_cases c40 : (ji38) < (t519.size : Int)
                                              · rw [if_pos c40] at H
                                                have c40b0 : decide ((ji38) < (t519.size : Int)) = true := decide_eq_true c40
                                                clear c40
                                                by_cases c42 : (bt t519 (ji38)) = 0
                                                · rw [if_pos c42] at H
                                                  have c42b0 : ((bt t519 (ji38)) == 0) = true := beq_iff_eq.mpr c42
                                                  have c42b1 : ((bt t519 (ji38)) != 0) = false := bne_eq_false_iff_eq.mpr c42
                                                  clear c42
                                                  obtain ⟨ji43, hji43⟩ : ∃ j_ : Int, (wrap64 ((ji25) + 4)) = j_ := ⟨_, rfl⟩
                                                  replace H : (if 0 ≤ (ji43) then (if (ji43) < (t519.size : Int) then (some ((wrap64 (bt t519 (ji43))) == (l1.length : Int))) else (none)) else (none)) = some r := by first | (rw [hji43] at H; exact H) | (simp only [hji43] at H ⊢; exact H)
                                                  have hji43w : (IntKind.i64.wrap ((ji25) + 4)) = ji43 := (i64_w _).trans hji43
                                                  by_cases c44 : 0 ≤ (ji43)
                                                  · rw [if_pos c44] at H
                                                    have c44b0 : decide (0 ≤ (ji43)) = true := decide_eq_true c44
                                                    clear c44
                                                    by_cases c45 : (ji43) < (t519.size : Int)
                                                    · rw [if_pos c45] at H
                                                      have c45b0 : decide ((ji43) < (t519.size : Int)) = true := decide_eq_true c45
                                                      clear c45
                                                      obtain rfl := Option.some.inj H
                                                      have p15 : 0 ≤ (0 : Int) := (by omega)
                                                      have q15 : 0 < t519.size := (by have : (0 : Int) < (t519.size : Int) := of_decide_eq_true (by first | (with_reducible assumption) | assumption); omega)
                                                      have hx15 : ∀ h : 0 < t519.size, ((t519[0]'h).toNat : Int) = bt t519 0 := bt_at t519 0
                                                      clear p15
                                                      have qi15 : (0 < (t519.size : Int)) = True := eq_true (of_decide_eq_true (by first | (with_reducible assumption) | assumption))
                                                      replace q15 := eq_true q15
                                                      have p17 : 0 ≤ (1 : Int) := (by omega)
                                                      have q17 : 1 < t519.size := (by have : (1 : Int) < (t519.size : Int) := of_decide_eq_true (by first | (with_reducible assumption) | assumption); omega)
                                                      have hx17 : ∀ h : 1 < t519.size, ((t519[1]'h).toNat : Int) = bt t519 1 := bt_at t519 1
                                                      clear p17
                                                      have qi17 : (1 < (t519.size : Int)) = True := eq_true (of_decide_eq_true (by first | (with_reducible assumption) | assumption))
                                                      replace q17 := eq_true q17
                                                      have p20 : 0 ≤ (2 : Int) := (by omega)
                                                      have q20 : 2 < t519.size := (by have : (2 : Int) < (t519.size : Int) := of_decide_eq_true (by first | (with_reducible assumption) | assumption); omega)
                                                      have hx20 : ∀ h : 2 < t519.size, ((t519[2]'h).toNat : Int) = bt t519 2 := bt_at t519 2
                                                      clear p20
                                                      have qi20 : (2 < (t519.size : Int)) = True := eq_true (of_decide_eq_true (by first | (with_reducible assumption) | assumption))
                                                      replace q20 := eq_true q20
                                                      have p28 : 0 ≤ ((ji25) : Int) := of_decide_eq_true (by first | (with_reducible assumption) | assumption)
                                                      have q28 : (ji25) < (t519.size : Int) := of_decide_eq_true (by first | (with_reducible assumption) | assumption)
                                                      have hx28 := bt_at t519 (ji25)
                                                      replace p28 := eq_true p28
                                                      replace q28 := eq_true q28
                                                      have p32 : 0 ≤ ((ji29) : Int) := of_decide_eq_true (by first | (with_reducible assumption) | assumption)
                                                      have q32 : (ji29) < (t519.size : Int) := of_decide_eq_true (by first | (with_reducible assumption) | assumption)
                                                      have hx32 := bt_at t519 (ji29)
                                                      replace p32 := eq_true p32
                                                      replace q32 := eq_true q32
                                                      have p36 : 0 ≤ ((ji33) : Int) := of_decide_eq_true (by first | (with_reducible assumption) | assumption)
                                                      have q36 : (ji33) < (t519.size : Int) := of_decide_eq_true (by first | (with_reducible assumption) | assumption)
                                                      have hx36 := bt_at t519 (ji33)
                                                      replace p36 := eq_true p36
                                                      replace q36 := eq_true q36
                                                      have p41 : 0 ≤ ((ji38) : Int) := of_decide_eq_true (by first | (with_reducible assumption) | assumption)
                                                      have q41 : (ji38) < (t519.size : Int) := of_decide_eq_true (by first | (with_reducible assumption) | assumption)
                                                      have hx41 := bt_at t519 (ji38)
                                                      replace p41 := eq_true p41
                                                      replace q41 := eq_true q41
                                                      have p46 : 0 ≤ ((ji43) : Int) := of_decide_eq_true (by first | (with_reducible assumption) | assumption)
                                                      have q46 : (ji43) < (t519.size : Int) := of_decide_eq_true (by first | (with_reducible assumption) | assumption)
                                                      have hx46 := bt_at t519 (ji43)
                                                      replace p46 := eq_true p46
                                                      replace q46 := eq_true q46
                                                      go_wp2
                                                      repeat (go_quiet (fail); try go_wp2)
                                                      go_ret
                                                      exact ⟨by first | rfl | (simp [errW_none, errW_some] <;> rfl) | (simp only [← hji25, ← hji29, ← hji33, ← hji38, ← hji43]; first | rfl | (simp [errW_none, errW_some] <;> rfl)) | (simp [*, errW_none, errW_some] <;> rfl), by repeat (first | (with_reducible first | exact HB.out | apply below_alloc | apply pw_below_drewN | apply below_drew1) | exact HB.out)⟩
                                                    · rw [if_neg c45] at H
                                                      exact absurd H (by simp)
                                                  · rw [if_neg c44] at H
                                                    exact absurd H (by simp)
                                                · rw [if_neg c42] at H
                                                  have c42b0 : ((bt t519 (ji38)) == 0) = false := beq_eq_false_iff_ne.mpr c42
                                                  have c42b1 : ((bt t519 (ji38)) != 0) = true := bne_iff_ne.mpr c42
                                                  obtain rfl := Option.some.inj H
                                                  have p15 : 0 ≤ (0 : Int) := (by omega)
                                                  have q15 : 0 < t519.size := (by have : (0 : Int) < (t519.size : Int) := of_decide_eq_true (by first | (with_reducible assumption) | assumption); omega)
                                                  have hx15 : ∀ h : 0 < t519.size, ((t519[0]'h).toNat : Int) = bt t519 0 := bt_at t519 0
                                                  clear p15
                                                  have qi15 : (0 < (t519.size : Int)) = True := eq_true (of_decide_eq_true (by first | (with_reducible assumption) | assumption))
                                                  replace q15 := eq_true q15
                                                  have p17 : 0 ≤ (1 : Int) := (by omega)
                                                  have q17 : 1 < t519.size := (by have : (1 : Int) < (t519.size : Int) := of_decide_eq_true (by first | (with_reducible assumption) | assumption); omega)
                                                  have hx17 : ∀ h : 1 < t519.size, ((t519[1]'h).toNat : Int) = bt t519 1 := bt_at t519 1
                                                  clear p17
                                                  have qi17 : (1 < (t519.size : Int)) = True := eq_true (of_decide_eq_true (by first | (with_reducible assumption) | assumption))
                                                  replace q17 := eq_true q17
                                                  have p20 : 0 ≤ (2 : Int) := (by omega)
                                                  have q20 : 2 < t519.size := (by have : (2 : Int) < (t519.size : Int) := of_decide_eq_true (by first | (with_reducible assumption) | assumption); omega)
                                                  have hx20 : ∀ h : 2 < t519.size, ((t519[2]'h).toNat : Int) = bt t519 2 := bt_at t519 2
                                                  clear p20
                                                  have qi20 : (2 < (t519.size : Int)) = True := eq_true (of_decide_eq_true (by first | (with_reducible assumption) | assumption))
                                                  replace q20 := eq_true q20
                                                  have p28 : 0 ≤ ((ji25) : Int) := of_decide_eq_true (by first | (with_reducible assumption) | assumption)
                                                  have q28 : (ji25) < (t519.size : Int) := of_decide_eq_true (by first | (with_reducible assumption) | assumption)
                                                  have hx28 := bt_at t519 (ji25)
                                                  replace p28 := eq_true p28
                                                  replace q28 := eq_true q28
                                                  have p32 : 0 ≤ ((ji29) : Int) := of_decide_eq_true (by first | (with_reducible assumption) | assumption)
                                                  have q32 : (ji29) < (t519.size : Int) := of_decide_eq_true (by first | (with_reducible assumption) | assumption)
                                                  have hx32 := bt_at t519 (ji29)
                                                  replace p32 := eq_true p32
                                                  replace q32 := eq_true q32
                                                  have p36 : 0 ≤ ((ji33) : Int) := of_decide_eq_true (by first | (with_reducible assumption) | assumption)
                                                  have q36 : (ji33) < (t519.size : Int) := of_decide_eq_true (by first | (with_reducible assumption) | assumption)
                                                  have hx36 := bt_at t519 (ji33)
                                                  replace p36 := eq_true p36
                                                  replace q36 := eq_true q36
                                                  have p41 : 0 ≤ ((ji38) : Int) := of_decide_eq_true (by first | (with_reducible assumption) | assumption)
                                                  have q41 : (ji38) < (t519.size : Int) := of_decide_eq_true (by first | (with_reducible assumption) | assumption)
                                                  have hx41 := bt_at t519 (ji38)
                                                  replace p41 := eq_true p41
                                                  replace q41 := eq_true q41
                                                  go_wp2
                                                  repeat (go_quiet (fail); try go_wp2)
                                                  go_ret
                                                  exact ⟨by first | rfl | (simp [errW_none, errW_some] <;> rfl) | (simp only [← hji25, ← hji29, ← hji33, ← hji38]; first | rfl | (simp [errW_none, errW_some] <;> rfl)) | (simp [*, errW_none, errW_some] <;> rfl), by repeat (first | (with_reducible first | exact HB.out | apply below_alloc | apply pw_below_drewN | apply below_drew1) | exact HB.out)⟩
                                              · rw [if_neg c40] at H
                                                exact absurd H (by simp)
                                            · rw [if_neg c39] at H
                                              exact absurd H (by simp)
                                          · rw [if_neg c37] at H
                                            have c37b0 : ((wrap64 ((wrap64 ((wrap64 (bt t519 (ji25))) + (wrap64 (256 * (wrap64 (bt t519 (ji29))))))) + (wrap64 (65536 * (wrap64 (bt t519 (ji33))))))) == (wrap64 (1 + (wrap64 (Int.tmod (IntKind.u64.wrap (a2)) 1048576))))) = false := beq_eq_false_iff_ne.mpr c37
                                            have c37b1 : ((wrap64 ((wrap64 ((wrap64 (bt t519 (ji25))) + (wrap64 (256 * (wrap64 (bt t519 (ji29))))))) + (wrap64 (65536 * (wrap64 (bt t519 (ji33))))))) != (wrap64 (1 + (wrap64 (Int.tmod (IntKind.u64.wrap (a2)) 1048576))))) = true := bne_iff_ne.mpr c37
                                            obtain rfl := Option.some.inj H
                                            have p15 : 0 ≤ (0 : Int) := (by omega)
                                            have q15 : 0 < t519.size := (by have : (0 : Int) < (t519.size : Int) := of_decide_eq_true (by first | (with_reducible assumption) | assumption); omega)
                                            have hx15 : ∀ h : 0 < t519.size, ((t519[0]'h).toNat : Int) = bt t519 0 := bt_at t519 0
                                            clear p15
                                            have qi15 : (0 < (t519.size : Int)) = True := eq_true (of_decide_eq_true (by first | (with_reducible assumption) | assumption))
                                            replace q15 := eq_true q15
                                            have p17 : 0 ≤ (1 : Int) := (by omega)
                                            have q17 : 1 < t519.size := (by have : (1 : Int) < (t519.size : Int) := of_decide_eq_true (by first | (with_reducible assumption) | assumption); omega)
                                            have hx17 : ∀ h : 1 < t519.size, ((t519[1]'h).toNat : Int) = bt t519 1 := bt_at t519 1
                                            clear p17
                                            have qi17 : (1 < (t519.size : Int)) = True := eq_true (of_decide_eq_true (by first | (with_reducible assumption) | assumption))
                                            replace q17 := eq_true q17
                                            have p20 : 0 ≤ (2 : Int) := (by omega)
                                            have q20 : 2 < t519.size := (by have : (2 : Int) < (t519.size : Int) := of_decide_eq_true (by first | (with_reducible assumption) | assumption); omega)
                                            have hx20 : ∀ h : 2 < t519.size, ((t519[2]'h).toNat : Int) = bt t519 2 := bt_at t519 2
                                            clear p20
                                            have qi20 : (2 < (t519.size : Int)) = True := eq_true (of_decide_eq_true (by first | (with_reducible assumption) | assumption))
                                            replace q20 := eq_true q20
                                            have p28 : 0 ≤ ((ji25) : Int) := of_decide_eq_true (by first | (with_reducible assumption) | assumption)
                                            have q28 : (ji25) < (t519.size : Int) := of_decide_eq_true (by first | (with_reducible assumption) | assumption)
                                            have hx28 := bt_at t519 (ji25)
                                            replace p28 := eq_true p28
                                            replace q28 := eq_true q28
                                            have p32 : 0 ≤ ((ji29) : Int) := of_decide_eq_true (by first | (with_reducible assumption) | assumption)
                                            have q32 : (ji29) < (t519.size : Int) := of_decide_eq_true (by first | (with_reducible assumption) | assumption)
                                            have hx32 := bt_at t519 (ji29)
                                            replace p32 := eq_true p32
                                            replace q32 := eq_true q32
                                            have p36 : 0 ≤ ((ji33) : Int) := of_decide_eq_true (by first | (with_reducible assumption) | assumption)
                                            have q36 : (ji33) < (t519.size : Int) := of_decide_eq_true (by first | (with_reducible assumption) | assumption)
                                            have hx36 := bt_at t519 (ji33)
                                            replace p36 := eq_true p36
                                            replace q36 := eq_true q36
                                            go_wp2
                                            repeat (go_quiet (fail); try go_wp2)
                                            go_ret
                                            exact ⟨by first | rfl | (simp [errW_none, errW_some] <;> rfl) | (simp only [← hji25, ← hji29, ← hji33]; first | rfl | (simp [errW_none, errW_some] <;> rfl)) | (simp [*, errW_none, errW_some] <;> rfl), by repeat (first | (with_reducible first | exact HB.out | apply below_alloc | apply pw_below_drewN | apply below_drew1) | exact HB.out)⟩
                                        · rw [if_neg c35] at H
                                          exact absurd H (by simp)
                                      · rw [if_neg c34] at H
                                        exact absurd H (by simp)
                                    · rw [if_neg c31] at H
                                      exact absurd H (by simp)
                                  · rw [if_neg c30] at H
                                    exact absurd H (by simp)
                                · rw [if_neg c27] at H
                                  exact absurd H (by simp)
                              · rw [if_neg c26] at H
                                exact absurd H (by simp)
                            · rw [if_neg c24] at H
                              have c24b0 : ((t519.extract 3 ((wrap64 (3 + (a0.size : Int))) : Int).toNat).toList == a0.toList) = false := beq_eq_false_iff_ne.mpr c24
                              have c24b1 : ((t519.extract 3 ((wrap64 (3 + (a0.size : Int))) : Int).toNat).toList != a0.toList) = true := bne_iff_ne.mpr c24
                              obtain rfl := Option.some.inj H
                              have p15 : 0 ≤ (0 : Int) := (by omega)
                              have q15 : 0 < t519.size := (by have : (0 : Int) < (t519.size : Int) := of_decide_eq_true (by first | (with_reducible assumption) | assumption); omega)
                              have hx15 : ∀ h : 0 < t519.size, ((t519[0]'h).toNat : Int) = bt t519 0 := bt_at t519 0
                              clear p15
                              have qi15 : (0 < (t519.size : Int)) = True := eq_true (of_decide_eq_true (by first | (with_reducible assumption) | assumption))
                              replace q15 := eq_true q15
                              have p17 : 0 ≤ (1 : Int) := (by omega)
                              have q17 : 1 < t519.size := (by have : (1 : Int) < (t519.size : Int) := of_decide_eq_true (by first | (with_reducible assumption) | assumption); omega)
                              have hx17 : ∀ h : 1 < t519.size, ((t519[1]'h).toNat : Int) = bt t519 1 := bt_at t519 1
                              clear p17
                              have qi17 : (1 < (t519.size : Int)) = True := eq_true (of_decide_eq_true (by first | (with_reducible assumption) | assumption))
                              replace q17 := eq_true q17
                              have p20 : 0 ≤ (2 : Int) := (by omega)
                              have q20 : 2 < t519.size := (by have : (2 : Int) < (t519.size : Int) := of_decide_eq_true (by first | (with_reducible assumption) | assumption); omega)
                              have hx20 : ∀ h : 2 < t519.size, ((t519[2]'h).toNat : Int) = bt t519 2 := bt_at t519 2
                              clear p20
                              have qi20 : (2 < (t519.size : Int)) = True := eq_true (of_decide_eq_true (by first | (with_reducible assumption) | assumption))
                              replace q20 := eq_true q20
                              go_wp2
                              repeat (go_quiet (fail); try go_wp2)
                              go_ret
                              exact ⟨by first | rfl | (simp [errW_none, errW_some] <;> rfl) | (simp [*, errW_none, errW_some] <;> rfl), by repeat (first | (with_reducible first | exact HB.out | apply below_alloc | apply pw_below_drewN | apply below_drew1) | exact HB.out)⟩
                          · rw [if_neg c23] at H
                            exact absurd H (by simp)
                        · rw [if_neg c22] at H
                          exact absurd H (by simp)
                      · rw [if_neg c21] at H
                        have c21b0 : ((wrap64 (bt t519 2)) == (a0.size : Int)) = false := beq_eq_false_iff_ne.mpr c21
                        have c21b1 : ((wrap64 (bt t519 2)) != (a0.size : Int)) = true := bne_iff_ne.mpr c21
                        obtain rfl := Option.some.inj H
                        have p15 : 0 ≤ (0 : Int) := (by omega)
                        have q15 : 0 < t519.size := (by have : (0 : Int) < (t519.size : Int) := of_decide_eq_true (by first | (with_reducible assumption) | assumption); omega)
                        have hx15 : ∀ h : 0 < t519.size, ((t519[0]'h).toNat : Int) = bt t519 0 := bt_at t519 0
                        clear p15
                        have qi15 : (0 < (t519.size : Int)) = True := eq_true (of_decide_eq_true (by first | (with_reducible assumption) | assumption))
                        replace q15 := eq_true q15
                        have p17 : 0 ≤ (1 : Int) := (by omega)
                        have q17 : 1 < t519.size := (by have : (1 : Int) < (t519.size : Int) := of_decide_eq_true (by first | (with_reducible assumption) | assumption); omega)
                        have hx17 : ∀ h : 1 < t519.size, ((t519[1]'h).toNat : Int) = bt t519 1 := bt_at t519 1
                        clear p17
                        have qi17 : (1 < (t519.size : Int)) = True := eq_true (of_decide_eq_true (by first | (with_reducible assumption) | assumption))
                        replace q17 := eq_true q17
                        have p20 : 0 ≤ (2 : Int) := (by omega)
                        have q20 : 2 < t519.size := (by have : (2 : Int) < (t519.size : Int) := of_decide_eq_true (by first | (with_reducible assumption) | assumption); omega)
                        have hx20 : ∀ h : 2 < t519.size, ((t519[2]'h).toNat : Int) = bt t519 2 := bt_at t519 2
                        clear p20
                        have qi20 : (2 < (t519.size : Int)) = True := eq_true (of_decide_eq_true (by first | (with_reducible assumption) | assumption))
                        replace q20 := eq_true q20
                        go_wp2
                        repeat (go_quiet (fail); try go_wp2)
                        go_ret
                        exact ⟨by first | rfl | (simp [errW_none, errW_some] <;> rfl) | (simp [*, errW_none, errW_some] <;> rfl), by repeat (first | (with_reducible first | exact HB.out | apply below_alloc | apply pw_below_drewN | apply below_drew1) | exact HB.out)⟩
                    · rw [if_neg c19] at H
                      exact absurd H (by simp)
                  · rw [if_neg c18] at H
                    have c18b0 : ((wrap64 ((wrap64 (bt t519 0)) + (wrap64 (256 * (wrap64 (bt t519 1)))))) == (wrap64 (x10_1 - 2))) = false := beq_eq_false_iff_ne.mpr c18
                    have c18b1 : ((wrap64 ((wrap64 (bt t519 0)) + (wrap64 (256 * (wrap64 (bt t519 1)))))) != (wrap64 (x10_1 - 2))) = true := bne_iff_ne.mpr c18
                    obtain rfl := Option.some.inj H
                    have p15 : 0 ≤ (0 : Int) := (by omega)
                    have q15 : 0 < t519.size := (by have : (0 : Int) < (t519.size : Int) := of_decide_eq_true (by first | (with_reducible assumption) | assumption); omega)
                    have hx15 : ∀ h : 0 < t519.size, ((t519[0]'h).toNat : Int) = bt t519 0 := bt_at t519 0
                    clear p15
                    have qi15 : (0 < (t519.size : Int)) = True := eq_true (of_decide_eq_true (by first | (with_reducible assumption) | assumption))
                    replace q15 := eq_true q15
                    have p17 : 0 ≤ (1 : Int) := (by omega)
                    have q17 : 1 < t519.size := (by have : (1 : Int) < (t519.size : Int) := of_decide_eq_true (by first | (with_reducible assumption) | assumption); omega)
                    have hx17 : ∀ h : 1 < t519.size, ((t519[1]'h).toNat : Int) = bt t519 1 := bt_at t519 1
                    clear p17
                    have qi17 : (1 < (t519.size : Int)) = True := eq_true (of_decide_eq_true (by first | (with_reducible assumption) | assumption))
                    replace q17 := eq_true q17
                    go_wp2
                    repeat (go_quiet (fail); try go_wp2)
                    go_ret
                    exact ⟨by first | rfl | (simp [errW_none, errW_some] <;> rfl) | (simp [*, errW_none, errW_some] <;> rfl), by repeat (first | (with_reducible first | exact HB.out | apply below_alloc | apply pw_below_drewN | apply below_drew1) | exact HB.out)⟩
                · rw [if_neg c16] at H
                  exact absurd H (by simp)
              · rw [if_neg c14] at H
                exact absurd H (by simp)
            · rw [if_neg c13] at H
              have c13b0 : ((t519.size : Int) == x10_1) = false := beq_eq_false_iff_ne.mpr c13
              have c13b1 : ((t519.size : Int) != x10_1) = true := bne_iff_ne.mpr c13
              obtain rfl := Option.some.inj H
              go_wp2
              repeat (go_quiet (fail); try go_wp2)
              go_ret
              exact ⟨by first | rfl | (simp [errW_none, errW_some] <;> rfl) | (simp [*, errW_none, errW_some] <;> rfl), by repeat (first | (with_reducible first | exact HB.out | apply below_alloc | apply pw_below_drewN | apply below_drew1) | exact HB.out)⟩
    · rw [if_neg c8] at H
      have c8b0 : (t521 == 0) = false := beq_eq_false_iff_ne.mpr c8
      have c8b1 : (t521 != 0) = true := bne_iff_ne.mpr c8
      obtain rfl := Option.some.inj H
      go_enter Tryd.func10, Tryd.ntmps10
      go_wp2_with (first | (go_at_call 33; (with_reducible refine (cruciblelaw15_awake.calls k  true _ A4.out).mono ?_); rintro e w47 ⟨rfl, hb⟩; have n0_ := Aside0.mk (below_step (by repeat (first | (with_reducible first | exact HB.out | apply below_alloc | apply pw_below_drewN | apply below_drew1) | exact HB.out)) hb); clear HB; have HB := n0_; clear n0_; (try clear hb); (try clear hb2); (try clear hk); (try clear hi)) | (go_at_call 27; (with_reducible refine (deprec_Put.calls k a0 (wrap64 (1 + (wrap64 (Int.tmod (IntKind.u64.wrap (a2)) 1048576)))) _ _ l1 t519 t520 _ ?side1 ?side2 A6.out).mono ?_); (case side1 => repeat (first | exact (Kd.C_below HR1.out HB.out) | (with_reducible refine Kd.C_alloc ?_ _) | (with_reducible refine Kd.C_drewN ?_ _) | (with_reducible refine Kd.C_drew ?_))); (case side2 => exact HC1.out); rintro e w48 ⟨rfl, hb⟩; have n0_ := Aside0.mk (below_step (by repeat (first | (with_reducible first | exact HB.out | apply below_alloc | apply pw_below_drewN | apply below_drew1) | exact HB.out)) hb); clear HB; have HB := n0_; clear n0_; (try clear hb); (try clear hb2); (try clear hk); (try clear hi)) | (go_at_call 22; (with_reducible refine (cruciblelaw0_Num.calls t520 t521 _ A7.out).mono ?_); rintro e w' ⟨rfl, ⟨nd, rfl⟩⟩; (try first | exact ⟨rfl, _, World.drewN_drewN _ _ _⟩ | exact ⟨rfl, _, Eq.trans (World.drewN_drewN _ _ _) (congrArg (World.drewN _) (Nat.add_assoc _ _ _))⟩)))
      repeat (go_quiet (first | (go_at_call 33; (with_reducible refine (cruciblelaw15_awake.calls k  true _ A4.out).mono ?_); rintro e w47 ⟨rfl, hb⟩; have n0_ := Aside0.mk (below_step (by repeat (first | (with_reducible first | exact HB.out | apply below_alloc | apply pw_below_drewN | apply below_drew1) | exact HB.out)) hb); clear HB; have HB := n0_; clear n0_; (try clear hb); (try clear hb2); (try clear hk); (try clear hi)) | (go_at_call 27; (with_reducible refine (deprec_Put.calls k a0 (wrap64 (1 + (wrap64 (Int.tmod (IntKind.u64.wrap (a2)) 1048576)))) _ _ l1 t519 t520 _ ?side1 ?side2 A6.out).mono ?_); (case side1 => repeat (first | exact (Kd.C_below HR1.out HB.out) | (with_reducible refine Kd.C_alloc ?_ _) | (with_reducible refine Kd.C_drewN ?_ _) | (with_reducible refine Kd.C_drew ?_))); (case side2 => exact HC1.out); rintro e w48 ⟨rfl, hb⟩; have n0_ := Aside0.mk (below_step (by repeat (first | (with_reducible first | exact HB.out | apply below_alloc | apply pw_below_drewN | apply below_drew1) | exact HB.out)) hb); clear HB; have HB := n0_; clear n0_; (try clear hb); (try clear hb2); (try clear hk); (try clear hi)) | (go_at_call 22; (with_reducible refine (cruciblelaw0_Num.calls t520 t521 _ A7.out).mono ?_); rintro e w' ⟨rfl, ⟨nd, rfl⟩⟩; (try first | exact ⟨rfl, _, World.drewN_drewN _ _ _⟩ | exact ⟨rfl, _, Eq.trans (World.drewN_drewN _ _ _) (congrArg (World.drewN _) (Nat.add_assoc _ _ _))⟩))); try go_wp2_with (first | (go_at_call 33; (with_reducible refine (cruciblelaw15_awake.calls k  true _ A4.out).mono ?_); rintro e w47 ⟨rfl, hb⟩; have n0_ := Aside0.mk (below_step (by repeat (first | (with_reducible first | exact HB.out | apply below_alloc | apply pw_below_drewN | apply below_drew1) | exact HB.out)) hb); clear HB; have HB := n0_; clear n0_; (try clear hb); (try clear hb2); (try clear hk); (try clear hi)) | (go_at_call 27; (with_reducible refine (deprec_Put.calls k a0 (wrap64 (1 + (wrap64 (Int.tmod (IntKind.u64.wrap (a2)) 1048576)))) _ _ l1 t519 t520 _ ?side1 ?side2 A6.out).mono ?_); (case side1 => repeat (first | exact (Kd.C_below HR1.out HB.out) | (with_reducible refine Kd.C_alloc ?_ _) | (with_reducible refine Kd.C_drewN ?_ _) | (with_reducible refine Kd.C_drew ?_))); (case side2 => exact HC1.out); rintro e w48 ⟨rfl, hb⟩; have n0_ := Aside0.mk (below_step (by repeat (first | (with_reducible first | exact HB.out | apply below_alloc | apply pw_below_drewN | apply below_drew1) | exact HB.out)) hb); clear HB; have HB := n0_; clear n0_; (try clear hb); (try clear hb2); (try clear hk); (try clear hi)) | (go_at_call 22; (with_reducible refine (cruciblelaw0_Num.calls t520 t521 _ A7.out).mono ?_); rintro e w' ⟨rfl, ⟨nd, rfl⟩⟩; (try first | exact ⟨rfl, _, World.drewN_drewN _ _ _⟩ | exact ⟨rfl, _, Eq.trans (World.drewN_drewN _ _ _) (congrArg (World.drewN _) (Nat.add_assoc _ _ _))⟩))))
      go_ret
      exact ⟨by first | rfl | (simp [errW_none, errW_some] <;> rfl) | (simp [*, errW_none, errW_some] <;> rfl), by repeat (first | (with_reducible first | exact HB.out | apply below_alloc | apply pw_below_drewN | apply below_drew1) | exact HB.out)⟩
  · replace c5 := Bool.eq_false_iff.mpr c5
    subst c5
    have H1 : (some false) = some r := by rw [if_neg (show ¬ (false = true) by decide)] at H; exact H
    clear H
    have H := H1
    clear H1
    obtain rfl := Option.some.inj H
    go_enter Tryd.func10, Tryd.ntmps10
    go_wp2_with (first | (go_at_call 33; (with_reducible refine (cruciblelaw15_awake.calls k  false _ A4.out).mono ?_); rintro e w49 ⟨rfl, hb⟩; have n0_ := Aside0.mk (below_step (by repeat (first | (with_reducible first | exact HB.out | apply below_alloc | apply pw_below_drewN | apply below_drew1) | exact HB.out)) hb); clear HB; have HB := n0_; clear n0_; (try clear hb); (try clear hb2); (try clear hk); (try clear hi)))
    repeat (go_quiet (first | (go_at_call 33; (with_reducible refine (cruciblelaw15_awake.calls k  false _ A4.out).mono ?_); rintro e w49 ⟨rfl, hb⟩; have n0_ := Aside0.mk (below_step (by repeat (first | (with_reducible first | exact HB.out | apply below_alloc | apply pw_below_drewN | apply below_drew1) | exact HB.out)) hb); clear HB; have HB := n0_; clear n0_; (try clear hb); (try clear hb2); (try clear hk); (try clear hi))); try go_wp2_with (first | (go_at_call 33; (with_reducible refine (cruciblelaw15_awake.calls k  false _ A4.out).mono ?_); rintro e w49 ⟨rfl, hb⟩; have n0_ := Aside0.mk (below_step (by repeat (first | (with_reducible first | exact HB.out | apply below_alloc | apply pw_below_drewN | apply below_drew1) | exact HB.out)) hb); clear HB; have HB := n0_; clear n0_; (try clear hb); (try clear hb2); (try clear hk); (try clear hi))))
    go_ret
    exact ⟨by first | rfl | (simp [errW_none, errW_some] <;> rfl) | (simp [*, errW_none, errW_some] <;> rfl), by repeat (first | (with_reducible first | exact HB.out | apply below_alloc | apply pw_below_drewN | apply below_drew1) | exact HB.out)⟩

end Go.Proofs.YtkplcmcmpdhigaaDoor.P
