-- Made by a program of this work's own (wip/myprint.py) over the kit's print; leaves by hand.
import Derived.Test.YtkplcmcmpdhigaaDoorP0
import Derived.Test.YtkplcmcmpdhigaaDoorWTab
import Derived.Test.YtkplcmcmpdhigaaDoorWRepsOne
import Derived.Test.YtkplcmcmpdhigaaDoorWGuard
import Derived.Test.YtkplcmcmpdhigaaDoorPlus
import Derived.Test.YtkplcmcmpdhigaaDoorP1
import Derived.Test.YtkplcmcmpdhigaaDoorP6
import Derived.Test.YtkplcmcmpdhigaaDoorP9
import Derived.Test.YtkplcmcmpdhigaaDoorP11
import Derived.Test.YtkplcmcmpdhigaaDoorP15
import Derived.Test.YtkplcmcmpdhigaaDoorP22
namespace Go.Proofs.YtkplcmcmpdhigaaDoor.P
open Go.Proofs.YtkplcmcmpdhigaaDoor.Plus
open Go.RowKit Go.Proofs.YtkplcmcmpdhigaaDoorW.PrintWords Go.Proofs.YtkplcmcmpdhigaaDoorW.PrintLast Go.Proofs.YtkplcmcmpdhigaaDoorW.PrintMore
attribute [local go_sem] max2_int min2_int max_two min_two max_three min_three max_four min_four   -- for this text's walks alone
set_option linter.unusedVariables false
set_option linter.unusedSimpArgs false

/-! ### cruciblelaw16_DeplogBad: function 15 -/
def cruciblelaw16_DeplogBad.j0 : Nat → List (S41) → Int → Int → Bool → Option (Bool)
  | 0, _, _, _, _ => none
  | k + 1, x0, x1, x2, x22 => if x22 = true then ((crucibleref12_DepsMay.f k x0).bind fun t377 => (if t377 = true then (some (decide ((x0.length : Int) > 20))) else (some true))) else (if (IntKind.u64.wrap (wrap64 ((x0.length : Int) + 1))) = 0 then (none) else (if 0 ≤ (wrap64 (Int.tmod (IntKind.u64.wrap (x1)) (IntKind.u64.wrap (wrap64 ((x0.length : Int) + 1))))) then (if (wrap64 (Int.tmod (IntKind.u64.wrap (x1)) (IntKind.u64.wrap (wrap64 ((x0.length : Int) + 1))))) ≤ (x0.length : Int) then ((deplog_Text.f k (x0.take ((wrap64 (Int.tmod (IntKind.u64.wrap (x1)) (IntKind.u64.wrap (wrap64 ((x0.length : Int) + 1))))) : Int).toNat)).bind fun bt382 => ((deplog_Text.f k (x0.drop ((wrap64 (Int.tmod (IntKind.u64.wrap (x1)) (IntKind.u64.wrap (wrap64 ((x0.length : Int) + 1))))) : Int).toNat)).bind fun bt388 => ((some (([(⟨#[0, 0]⟩ : ByteArray), (⟨#[1, 0, 120]⟩ : ByteArray), (⟨#[255, 255]⟩ : ByteArray), (⟨#[7, 0, 1, 97, 0, 0, 0, 0, 0]⟩ : ByteArray), (⟨#[8, 0, 1, 97, 1, 0, 0, 0, 0, 120]⟩ : ByteArray)] : List ByteArray) : List ByteArray)).bind fun y390 => (if 0 ≤ (wrap64 (Int.tmod (IntKind.u64.wrap (x2)) 5)) then (if (wrap64 (Int.tmod (IntKind.u64.wrap (x2)) 5)) < (y390.length : Int) then (if bt382.1.size + (rdOf ByteArray.empty y390 (wrap64 (Int.tmod (IntKind.u64.wrap (x2)) 5))).size ≤ 9223372036854775807 then (if (bt382.1 ++ (rdOf ByteArray.empty y390 (wrap64 (Int.tmod (IntKind.u64.wrap (x2)) 5)))).size + bt388.1.size ≤ 9223372036854775807 then ((cruciblelaw0_Num.f bt382.2).bind fun t394 => (if t394 = 0 then ((cruciblelaw0_Num.f bt388.2).bind fun t395 => (if t395 = 0 then ((deplog_Load.f k ((bt382.1 ++ (rdOf ByteArray.empty y390 (wrap64 (Int.tmod (IntKind.u64.wrap (x2)) 5)))) ++ bt388.1)).bind fun t396 => ((cruciblelaw0_SameFounds.f k t396 (x0.take ((wrap64 (Int.tmod (IntKind.u64.wrap (x1)) (IntKind.u64.wrap (wrap64 ((x0.length : Int) + 1))))) : Int).toNat)).bind fun t403 => (some t403))) else (some false))) else (some false))) else (none)) else (none)) else (none)) else (none))))) else (none)) else (none)))
def cruciblelaw16_DeplogBad.f (k : Nat) (l0 : List (S41)) (a1 : Int) (a2 : Int) : Option (Bool) := (cruciblelaw16_awake.f).bind fun t375 => (if t375 = true then ((deplog_May.f k l0).bind fun t376 => (if t376 = true then (cruciblelaw16_DeplogBad.j0 k l0 a1 a2 (decide ((l0.length : Int) > 20))) else (cruciblelaw16_DeplogBad.j0 k l0 a1 a2 true))) else (some false))
set_option maxRecDepth 100000 in
theorem cruciblelaw16_DeplogBad.mono_l : ∀ k, (∀ y0 y1 y2 y3, LeO (cruciblelaw16_DeplogBad.j0 k y0 y1 y2 y3) (cruciblelaw16_DeplogBad.j0 (k + 1) y0 y1 y2 y3))
  | 0 => fun _ _ _ _ r h => by simp [cruciblelaw16_DeplogBad.j0] at h
  | k + 1 => by
    have ih0 := cruciblelaw16_DeplogBad.mono_l k
    · intro y0 y1 y2 y3
      unfold cruciblelaw16_DeplogBad.j0
      repeat' first
      | (with_reducible exact ih0 _ _ _ _)
      | (with_reducible exact cruciblelaw0_SameFounds.mono _ _ _)
      | (with_reducible exact crucibleref12_DepsMay.mono _ _)
      | (with_reducible exact deplog_Load.mono _ _)
      | (with_reducible exact deplog_May.mono _ _)
      | (with_reducible exact deplog_Text.mono _ _)
      | (with_reducible exact LeO.refl _)
      | (with_reducible exact LeO.none _)
      | (with_reducible refine LeO.ite ?_ ?_)
      | (with_reducible refine LeO.bind ?_ (fun _ => ?_))
      | exact ih0 _ _ _ _
      | exact cruciblelaw0_SameFounds.mono _ _ _
      | exact crucibleref12_DepsMay.mono _ _
      | exact deplog_Load.mono _ _
      | exact deplog_May.mono _ _
      | exact deplog_Text.mono _ _
      | exact LeO.none _
      | refine LeO.ite ?_ ?_
      | refine LeO.bind ?_ (fun _ => ?_)
theorem cruciblelaw16_DeplogBad.mono : ∀ a0 a1 a2 k, LeO (cruciblelaw16_DeplogBad.f k a0 a1 a2) (cruciblelaw16_DeplogBad.f (k + 1) a0 a1 a2) := by
  intro a0 a1 a2 k
  have ih0 := cruciblelaw16_DeplogBad.mono_l k
  unfold cruciblelaw16_DeplogBad.f
  repeat' first
      | (with_reducible exact ih0 _ _ _ _)
      | (with_reducible exact cruciblelaw0_SameFounds.mono _ _ _)
      | (with_reducible exact crucibleref12_DepsMay.mono _ _)
      | (with_reducible exact deplog_Load.mono _ _)
      | (with_reducible exact deplog_May.mono _ _)
      | (with_reducible exact deplog_Text.mono _ _)
      | (with_reducible exact LeO.refl _)
      | (with_reducible exact LeO.none _)
      | (with_reducible refine LeO.ite ?_ ?_)
      | (with_reducible refine LeO.bind ?_ (fun _ => ?_))
      | exact ih0 _ _ _ _
      | exact cruciblelaw0_SameFounds.mono _ _ _
      | exact crucibleref12_DepsMay.mono _ _
      | exact deplog_Load.mono _ _
      | exact deplog_May.mono _ _
      | exact deplog_Text.mono _ _
      | exact LeO.none _
      | refine LeO.ite ?_ ?_
      | refine LeO.bind ?_ (fun _ => ?_)
def cruciblelaw16_DeplogBad.T9 : Bool × List (List Nat × List Nat) := (true, [([], []), ([0], [0]), ([1], [1]), ([2, 1], [2]), ([3], [3]), ([4, 3, 3], [3, 4]), ([5, 3], [3, 5]), ([3, 6], [3, 6]), ([7, 5], [7]), ([8], [8]), ([9, 8, 8], [8, 9]), ([8], [8]), ([8], [8]), ([11, 12, 8], [8, 11, 12]), ([10, 13, 10, 8], [8, 10, 13]), ([8, 14], [8, 14]), ([15, 14, 0, 1, 2, 3, 4, 5, 6, 7, 8, 9, 10, 11, 12, 13, 14, 15], [15])])
def cruciblelaw16_DeplogBad.B9 : List Nat := [0, 1, 3, 7, 15, 31, 63, 127, 255, 511, 1023, 511, 511, 6655, 16383, 32767, 65535]
theorem cruciblelaw16_DeplogBad.tab9 : rtab .any (opsOf Tryd.f15 9) = cruciblelaw16_DeplogBad.T9 := by kernel_rfl
theorem cruciblelaw16_DeplogBad.bits9 : waitsOk cruciblelaw16_DeplogBad.T9.2 cruciblelaw16_DeplogBad.B9 = true := by kernel_rfl
set_option maxHeartbeats 8000000 in
set_option maxRecDepth 100000 in
theorem cruciblelaw16_DeplogBad.calls (k : Nat) (A0 : Option Addr) (c0 : Nat) (l0 : List (S41)) (a1 : Int) (a2 : Int) (r : Bool) (w : World) (hr0 : Kd.C k41 w A0 l0.length l0) (hc0 : l0.length ≤ c0) (h : cruciblelaw16_DeplogBad.f k l0 a1 a2 = some r) :
    Calls Tryd.prog 15 #[.slice A0 l0.length c0, .int .i64 a1, .int .i64 a2] w fun e w' => e = .returned (.bool r) ∧ Below w.heap.size w w' := by
  have HR0 := Aside0.mk hr0
  have HC0 := Aside0.mk hc0
  clear hr0 hc0
  have HB := Aside0.mk (Below.refl w.heap.size w)
  have H : ((cruciblelaw16_awake.f).bind fun t375 => (if t375 = true then ((deplog_May.f k l0).bind fun t376 => (if t376 = true then (cruciblelaw16_DeplogBad.j0 k l0 a1 a2 (decide ((l0.length : Int) > 20))) else (cruciblelaw16_DeplogBad.j0 k l0 a1 a2 true))) else (some false))) = some r := h
  clear h
  replace H := Option.bind_eq_some_iff.mp H
  obtain ⟨t375, A40, H⟩ := H
  replace H : (if t375 = true then ((deplog_May.f k l0).bind fun t376 => (if t376 = true then (cruciblelaw16_DeplogBad.j0 k l0 a1 a2 (decide ((l0.length : Int) > 20))) else (cruciblelaw16_DeplogBad.j0 k l0 a1 a2 true))) else (some false)) = some r := H
  have A4 := Aside0.mk A40
  clear A40
  by_cases c5 : t375 = true
  · subst c5
    have H1 : ((deplog_May.f k l0).bind fun t376 => (if t376 = true then (cruciblelaw16_DeplogBad.j0 k l0 a1 a2 (decide ((l0.length : Int) > 20))) else (cruciblelaw16_DeplogBad.j0 k l0 a1 a2 true))) = some r := by rw [if_pos rfl] at H; exact H
    clear H
    have H := H1
    clear H1
    have HC6 := Aside0.mk H
    clear H
    go_enter Tryd.func15, Tryd.ntmps15
    go_upto_region 3 with (first | ((with_reducible refine gate_callee (f := 46) rfl ?_); refine goesL_ (some 13) rfl rfl Tryd.func46 (by kernel_rfl) rfl #[] rfl (by (try simp only [List.map_toArray, List.map_cons, List.map_nil]); first | done | rfl | (simp only [List.length_drop, List.length_take]; rfl)) ?_; (with_reducible refine (cruciblelaw16_awake.calls  true _ A4.out).mono ?_); rintro e w7 ⟨rfl, hb⟩; refine ⟨_, rfl, ?_⟩; have n0_ := Aside0.mk (below_step (by repeat (first | (with_reducible first | exact HB.out | apply below_alloc | apply pw_below_drewN | apply below_drew1) | exact HB.out)) hb); clear HB; have HB := n0_; clear n0_; (try clear hb); (try clear hb2); (try clear hk); (try clear hi)))
    (try simp only [Act.put, List.setIfInBounds_toArray, List.set_cons_zero, List.set_cons_succ])
    go_cut [22] (fun v22 wc => ∃ (kq : Nat) (x22_5 : Bool), v22 = .bool x22_5 ∧ Aside0 (cruciblelaw16_DeplogBad.j0 kq l0 a1 a2 x22_5 = some r) ∧ Aside0 (kq ≤ k) ∧ Aside0 (Below w.heap.size w wc))
    case first =>
      have H := HC6.out
      clear HC6
      replace H := Option.bind_eq_some_iff.mp H
      obtain ⟨t376, A80, H⟩ := H
      replace H : (if t376 = true then (cruciblelaw16_DeplogBad.j0 k l0 a1 a2 (decide ((l0.length : Int) > 20))) else (cruciblelaw16_DeplogBad.j0 k l0 a1 a2 true)) = some r := H
      have A8 := Aside0.mk A80
      clear A80
      by_cases c9 : t376 = true
      · subst c9
        have H1 : (cruciblelaw16_DeplogBad.j0 k l0 a1 a2 (decide ((l0.length : Int) > 20))) = some r := by rw [if_pos rfl] at H; exact H
        clear H
        have H := H1
        clear H1
        have H' := Aside0.mk H
        clear H
        go_wp2_with (first | ((with_reducible refine gate_callee (f := 43) rfl ?_); refine goesL_ (some 16) rfl rfl Tryd.func43 (by kernel_rfl) rfl #[.slice A0 l0.length c0] rfl (by (try simp only [List.map_toArray, List.map_cons, List.map_nil]); first | done | rfl | (simp only [List.length_drop, List.length_take]; rfl)) ?_; (with_reducible refine (deplog_May.calls k _ _ l0 true _ ?side1 ?side2 A8.out).mono ?_); (case side1 => repeat (first | exact (Kd.C_below HR0.out HB.out) | (with_reducible refine Kd.C_alloc ?_ _) | (with_reducible refine Kd.C_drewN ?_ _) | (with_reducible refine Kd.C_drew ?_))); (case side2 => exact HC0.out); rintro e w10 ⟨rfl, hb⟩; refine ⟨_, rfl, ?_⟩; have n0_ := Aside0.mk (below_step (by repeat (first | (with_reducible first | exact HB.out | apply below_alloc | apply pw_below_drewN | apply below_drew1) | exact HB.out)) hb); clear HB; have HB := n0_; clear n0_; (try clear hb); (try clear hb2); (try clear hk); (try clear hi)))
        go_meet
        case rel => exact ⟨_, (decide ((l0.length : Int) > 20)), (by first | rfl | (simp; done) | (simp [*]; done)), H', ⟨by first | omega | exact Nat.le_refl _⟩, ⟨by repeat (first | (with_reducible first | exact HB.out | apply below_alloc | apply pw_below_drewN | apply below_drew1) | exact HB.out)⟩⟩
      · replace c9 := Bool.eq_false_iff.mpr c9
        subst c9
        have H1 : (cruciblelaw16_DeplogBad.j0 k l0 a1 a2 true) = some r := by rw [if_neg (show ¬ (false = true) by decide)] at H; exact H
        clear H
        have H := H1
        clear H1
        have H' := Aside0.mk H
        clear H
        go_wp2_with (first | ((with_reducible refine gate_callee (f := 43) rfl ?_); refine goesL_ (some 16) rfl rfl Tryd.func43 (by kernel_rfl) rfl #[.slice A0 l0.length c0] rfl (by (try simp only [List.map_toArray, List.map_cons, List.map_nil]); first | done | rfl | (simp only [List.length_drop, List.length_take]; rfl)) ?_; (with_reducible refine (deplog_May.calls k _ _ l0 false _ ?side1 ?side2 A8.out).mono ?_); (case side1 => repeat (first | exact (Kd.C_below HR0.out HB.out) | (with_reducible refine Kd.C_alloc ?_ _) | (with_reducible refine Kd.C_drewN ?_ _) | (with_reducible refine Kd.C_drew ?_))); (case side2 => exact HC0.out); rintro e w11 ⟨rfl, hb⟩; refine ⟨_, rfl, ?_⟩; have n0_ := Aside0.mk (below_step (by repeat (first | (with_reducible first | exact HB.out | apply below_alloc | apply pw_below_drewN | apply below_drew1) | exact HB.out)) hb); clear HB; have HB := n0_; clear n0_; (try clear hb); (try clear hb2); (try clear hk); (try clear hi)))
        go_meet
        case rel => exact ⟨_, (true), (by first | rfl | (simp; done) | (simp [*]; done)), H', ⟨by first | omega | exact Nat.le_refl _⟩, ⟨by repeat (first | (with_reducible first | exact HB.out | apply below_alloc | apply pw_below_drewN | apply below_drew1) | exact HB.out)⟩⟩
    case rest =>
      clear HC6
      try clear c1
      try clear p2
      try clear c4
      try clear c5
      try clear c9
      obtain ⟨kq, x22_5, rfl, HA, HJ5, HB⟩ := hcut
      cases kq with
      | zero => exact absurd HA.out (by simp [cruciblelaw16_DeplogBad.j0])
      | succ kj5 =>
        have H := HA.out
        clear HA
        simp only [cruciblelaw16_DeplogBad.j0] at H
        by_cases c12 : x22_5 = true
        · subst c12
          have H1 : ((crucibleref12_DepsMay.f kj5 l0).bind fun t377 => (if t377 = true then (some (decide ((l0.length : Int) > 20))) else (some true))) = some r := by rw [if_pos rfl] at H; exact H
          clear H
          have H := H1
          clear H1
          replace H := Option.bind_eq_some_iff.mp H
          obtain ⟨t377, A130, H⟩ := H
          replace H : (if t377 = true then (some (decide ((l0.length : Int) > 20))) else (some true)) = some r := H
          have A13 := Aside0.mk A130
          clear A130
          by_cases c14 : t377 = true
          · subst c14
            have H1 : (some (decide ((l0.length : Int) > 20))) = some r := by rw [if_pos rfl] at H; exact H
            clear H
            have H := H1
            clear H1
            obtain rfl := Option.some.inj H
            go_wp2_with (first | ((with_reducible refine gate_callee (f := 44) rfl ?_); refine goesL_ (some 24) rfl rfl Tryd.func44 (by kernel_rfl) rfl #[.slice A0 l0.length c0] rfl (by (try simp only [List.map_toArray, List.map_cons, List.map_nil]); first | done | rfl | (simp only [List.length_drop, List.length_take]; rfl)) ?_; (with_reducible refine (crucibleref12_DepsMay.calls kj5 _ _ l0 true _ ?side1 ?side2 A13.out).mono ?_); (case side1 => repeat (first | exact (Kd.C_below HR0.out HB.out) | (with_reducible refine Kd.C_alloc ?_ _) | (with_reducible refine Kd.C_drewN ?_ _) | (with_reducible refine Kd.C_drew ?_))); (case side2 => exact HC0.out); rintro e w15 ⟨rfl, hb⟩; refine ⟨_, rfl, ?_⟩; have n0_ := Aside0.mk (below_step (by repeat (first | (with_reducible first | exact HB.out | apply below_alloc | apply pw_below_drewN | apply below_drew1) | exact HB.out)) hb); clear HB; have HB := n0_; clear n0_; (try clear hb); (try clear hb2); (try clear hk); (try clear hi)))
            go_ret
            exact ⟨by first | rfl | (simp [errW_none, errW_some] <;> rfl) | (simp [*, errW_none, errW_some] <;> rfl), by repeat (first | (with_reducible first | exact HB.out | apply below_alloc | apply pw_below_drewN | apply below_drew1) | exact HB.out)⟩
          · replace c14 := Bool.eq_false_iff.mpr c14
            subst c14
            have H1 : (some true) = some r := by rw [if_neg (show ¬ (false = true) by decide)] at H; exact H
            clear H
            have H := H1
            clear H1
            obtain rfl := Option.some.inj H
            go_wp2_with (first | ((with_reducible refine gate_callee (f := 44) rfl ?_); refine goesL_ (some 24) rfl rfl Tryd.func44 (by kernel_rfl) rfl #[.slice A0 l0.length c0] rfl (by (try simp only [List.map_toArray, List.map_cons, List.map_nil]); first | done | rfl | (simp only [List.length_drop, List.length_take]; rfl)) ?_; (with_reducible refine (crucibleref12_DepsMay.calls kj5 _ _ l0 false _ ?side1 ?side2 A13.out).mono ?_); (case side1 => repeat (first | exact (Kd.C_below HR0.out HB.out) | (with_reducible refine Kd.C_alloc ?_ _) | (with_reducible refine Kd.C_drewN ?_ _) | (with_reducible refine Kd.C_drew ?_))); (case side2 => exact HC0.out); rintro e w16 ⟨rfl, hb⟩; refine ⟨_, rfl, ?_⟩; have n0_ := Aside0.mk (below_step (by repeat (first | (with_reducible first | exact HB.out | apply below_alloc | apply pw_below_drewN | apply below_drew1) | exact HB.out)) hb); clear HB; have HB := n0_; clear n0_; (try clear hb); (try clear hb2); (try clear hk); (try clear hi)))
            go_ret
            exact ⟨by first | rfl | (simp [errW_none, errW_some] <;> rfl) | (simp [*, errW_none, errW_some] <;> rfl), by repeat (first | (with_reducible first | exact HB.out | apply below_alloc | apply pw_below_drewN | apply below_drew1) | exact HB.out)⟩
        · replace c12 := Bool.eq_false_iff.mpr c12
          subst c12
          have H1 : (if (IntKind.u64.wrap (wrap64 ((l0.length : Int) + 1))) = 0 then (none) else (if 0 ≤ (wrap64 (Int.tmod (IntKind.u64.wrap (a1)) (IntKind.u64.wrap (wrap64 ((l0.length : Int) + 1))))) then (if (wrap64 (Int.tmod (IntKind.u64.wrap (a1)) (IntKind.u64.wrap (wrap64 ((l0.length : Int) + 1))))) ≤ (l0.length : Int) then ((deplog_Text.f kj5 (l0.take ((wrap64 (Int.tmod (IntKind.u64.wrap (a1)) (IntKind.u64.wrap (wrap64 ((l0.length : Int) + 1))))) : Int).toNat)).bind fun bt382 => ((deplog_Text.f kj5 (l0.drop ((wrap64 (Int.tmod (IntKind.u64.wrap (a1)) (IntKind.u64.wrap (wrap64 ((l0.length : Int) + 1))))) : Int).toNat)).bind fun bt388 => ((some (([(⟨#[0, 0]⟩ : ByteArray), (⟨#[1, 0, 120]⟩ : ByteArray), (⟨#[255, 255]⟩ : ByteArray), (⟨#[7, 0, 1, 97, 0, 0, 0, 0, 0]⟩ : ByteArray), (⟨#[8, 0, 1, 97, 1, 0, 0, 0, 0, 120]⟩ : ByteArray)] : List ByteArray) : List ByteArray)).bind fun y390 => (if 0 ≤ (wrap64 (Int.tmod (IntKind.u64.wrap (a2)) 5)) then (if (wrap64 (Int.tmod (IntKind.u64.wrap (a2)) 5)) < (y390.length : Int) then (if bt382.1.size + (rdOf ByteArray.empty y390 (wrap64 (Int.tmod (IntKind.u64.wrap (a2)) 5))).size ≤ 9223372036854775807 then (if (bt382.1 ++ (rdOf ByteArray.empty y390 (wrap64 (Int.tmod (IntKind.u64.wrap (a2)) 5)))).size + bt388.1.size ≤ 9223372036854775807 then ((cruciblelaw0_Num.f bt382.2).bind fun t394 => (if t394 = 0 then ((cruciblelaw0_Num.f bt388.2).bind fun t395 => (if t395 = 0 then ((deplog_Load.f kj5 ((bt382.1 ++ (rdOf ByteArray.empty y390 (wrap64 (Int.tmod (IntKind.u64.wrap (a2)) 5)))) ++ bt388.1)).bind fun t396 => ((cruciblelaw0_SameFounds.f kj5 t396 (l0.take ((wrap64 (Int.tmod (IntKind.u64.wrap (a1)) (IntKind.u64.wrap (wrap64 ((l0.length : Int) + 1))))) : Int).toNat)).bind fun t403 => (some t403))) else (some false))) else (some false))) else (none)) else (none)) else (none)) else (none))))) else (none)) else (none))) = some r := by rw [if_neg (show ¬ (false = true) by decide)] at H; exact H
          clear H
          have H := H1
          clear H1
          by_cases c17 : (IntKind.u64.wrap (wrap64 ((l0.length : Int) + 1))) = 0
          · rw [if_pos c17] at H
            exact absurd H (by simp)
          · rw [if_neg c17] at H
            have c17b0 : ((IntKind.u64.wrap (wrap64 ((l0.length : Int) + 1))) == 0) = false := beq_eq_false_iff_ne.mpr c17
            have c17b1 : ((IntKind.u64.wrap (wrap64 ((l0.length : Int) + 1))) != 0) = true := bne_iff_ne.mpr c17
            obtain ⟨ji18, hji18⟩ : ∃ j_ : Int, (wrap64 (Int.tmod (IntKind.u64.wrap (a1)) (IntKind.u64.wrap (wrap64 ((l0.length : Int) + 1))))) = j_ := ⟨_, rfl⟩
            replace H : (if 0 ≤ (ji18) then (if (ji18) ≤ (l0.length : Int) then ((deplog_Text.f kj5 (l0.take ((ji18) : Int).toNat)).bind fun bt382 => ((deplog_Text.f kj5 (l0.drop ((ji18) : Int).toNat)).bind fun bt388 => ((some (([(⟨#[0, 0]⟩ : ByteArray), (⟨#[1, 0, 120]⟩ : ByteArray), (⟨#[255, 255]⟩ : ByteArray), (⟨#[7, 0, 1, 97, 0, 0, 0, 0, 0]⟩ : ByteArray), (⟨#[8, 0, 1, 97, 1, 0, 0, 0, 0, 120]⟩ : ByteArray)] : List ByteArray) : List ByteArray)).bind fun y390 => (if 0 ≤ (wrap64 (Int.tmod (IntKind.u64.wrap (a2)) 5)) then (if (wrap64 (Int.tmod (IntKind.u64.wrap (a2)) 5)) < (y390.length : Int) then (if bt382.1.size + (rdOf ByteArray.empty y390 (wrap64 (Int.tmod (IntKind.u64.wrap (a2)) 5))).size ≤ 9223372036854775807 then (if (bt382.1 ++ (rdOf ByteArray.empty y390 (wrap64 (Int.tmod (IntKind.u64.wrap (a2)) 5)))).size + bt388.1.size ≤ 9223372036854775807 then ((cruciblelaw0_Num.f bt382.2).bind fun t394 => (if t394 = 0 then ((cruciblelaw0_Num.f bt388.2).bind fun t395 => (if t395 = 0 then ((deplog_Load.f kj5 ((bt382.1 ++ (rdOf ByteArray.empty y390 (wrap64 (Int.tmod (IntKind.u64.wrap (a2)) 5)))) ++ bt388.1)).bind fun t396 => ((cruciblelaw0_SameFounds.f kj5 t396 (l0.take ((ji18) : Int).toNat)).bind fun t403 => (some t403))) else (some false))) else (some false))) else (none)) else (none)) else (none)) else (none))))) else (none)) else (none)) = some r := by first | (rw [hji18] at H; exact H) | (simp only [hji18] at H ⊢; exact H)
            have hji18w : (IntKind.i64.wrap (Int.tmod (IntKind.u64.wrap (a1)) (IntKind.u64.wrap (wrap64 ((l0.length : Int) + 1))))) = ji18 := (i64_w _).trans hji18
            by_cases c19 : 0 ≤ (ji18)
            · rw [if_pos c19] at H
              have c19b0 := eq_true c19
              have c19b1 : decide (0 ≤ (ji18)) = true := decide_eq_true c19
              clear c19
              by_cases c20 : (ji18) ≤ (l0.length : Int)
              · rw [if_pos c20] at H
                have c20b0 := eq_true c20
                have c20b1 : decide ((ji18) ≤ (l0.length : Int)) = true := decide_eq_true c20
                clear c20
                obtain ⟨y378, hy378⟩ : ∃ y_ : List (S41), y_ = (l0.take ((ji18) : Int).toNat) := ⟨_, rfl⟩
                replace H : ((deplog_Text.f kj5 y378).bind fun bt382 => ((deplog_Text.f kj5 (l0.drop ((ji18) : Int).toNat)).bind fun bt388 => ((some (([(⟨#[0, 0]⟩ : ByteArray), (⟨#[1, 0, 120]⟩ : ByteArray), (⟨#[255, 255]⟩ : ByteArray), (⟨#[7, 0, 1, 97, 0, 0, 0, 0, 0]⟩ : ByteArray), (⟨#[8, 0, 1, 97, 1, 0, 0, 0, 0, 120]⟩ : ByteArray)] : List ByteArray) : List ByteArray)).bind fun y390 => (if 0 ≤ (wrap64 (Int.tmod (IntKind.u64.wrap (a2)) 5)) then (if (wrap64 (Int.tmod (IntKind.u64.wrap (a2)) 5)) < (y390.length : Int) then (if bt382.1.size + (rdOf ByteArray.empty y390 (wrap64 (Int.tmod (IntKind.u64.wrap (a2)) 5))).size ≤ 9223372036854775807 then (if (bt382.1 ++ (rdOf ByteArray.empty y390 (wrap64 (Int.tmod (IntKind.u64.wrap (a2)) 5)))).size + bt388.1.size ≤ 9223372036854775807 then ((cruciblelaw0_Num.f bt382.2).bind fun t394 => (if t394 = 0 then ((cruciblelaw0_Num.f bt388.2).bind fun t395 => (if t395 = 0 then ((deplog_Load.f kj5 ((bt382.1 ++ (rdOf ByteArray.empty y390 (wrap64 (Int.tmod (IntKind.u64.wrap (a2)) 5)))) ++ bt388.1)).bind fun t396 => ((cruciblelaw0_SameFounds.f kj5 t396 (l0.take ((ji18) : Int).toNat)).bind fun t403 => (some t403))) else (some false))) else (some false))) else (none)) else (none)) else (none)) else (none))))) = some r := by first | (rw [hy378]; with_reducible exact H) | (have H2_ := (Option.bind_some _ _).symm.trans H; rw [hy378]; with_reducible exact H2_) | (have H2_ := (Option.bind_some _ _).symm.trans H; with_reducible exact H2_) | with_reducible exact H | (rw [hy378]; exact H) | exact H
                have Ny378 := Aside0.mk hy378
                clear hy378
                replace H := Option.bind_eq_some_iff.mp H
                obtain ⟨⟨t382, t383⟩, A210, H⟩ := H
                replace H : ((deplog_Text.f kj5 (l0.drop ((ji18) : Int).toNat)).bind fun bt388 => ((some (([(⟨#[0, 0]⟩ : ByteArray), (⟨#[1, 0, 120]⟩ : ByteArray), (⟨#[255, 255]⟩ : ByteArray), (⟨#[7, 0, 1, 97, 0, 0, 0, 0, 0]⟩ : ByteArray), (⟨#[8, 0, 1, 97, 1, 0, 0, 0, 0, 120]⟩ : ByteArray)] : List ByteArray) : List ByteArray)).bind fun y390 => (if 0 ≤ (wrap64 (Int.tmod (IntKind.u64.wrap (a2)) 5)) then (if (wrap64 (Int.tmod (IntKind.u64.wrap (a2)) 5)) < (y390.length : Int) then (if t382.size + (rdOf ByteArray.empty y390 (wrap64 (Int.tmod (IntKind.u64.wrap (a2)) 5))).size ≤ 9223372036854775807 then (if (t382 ++ (rdOf ByteArray.empty y390 (wrap64 (Int.tmod (IntKind.u64.wrap (a2)) 5)))).size + bt388.1.size ≤ 9223372036854775807 then ((cruciblelaw0_Num.f t383).bind fun t394 => (if t394 = 0 then ((cruciblelaw0_Num.f bt388.2).bind fun t395 => (if t395 = 0 then ((deplog_Load.f kj5 ((t382 ++ (rdOf ByteArray.empty y390 (wrap64 (Int.tmod (IntKind.u64.wrap (a2)) 5)))) ++ bt388.1)).bind fun t396 => ((cruciblelaw0_SameFounds.f kj5 t396 (l0.take ((ji18) : Int).toNat)).bind fun t403 => (some t403))) else (some false))) else (some false))) else (none)) else (none)) else (none)) else (none)))) = some r := H
                have A21 := Aside0.mk A210
                clear A210
                have c22b0 := eq_true (of_decide_eq_true (by first | (with_reducible assumption) | assumption) : 0 ≤ (ji18))
                have c23b0 := eq_true (of_decide_eq_true (by first | (with_reducible assumption) | assumption) : (ji18) ≤ (l0.length : Int))
                obtain ⟨y384, hy384⟩ : ∃ y_ : List (S41), y_ = (l0.drop ((ji18) : Int).toNat) := ⟨_, rfl⟩
                replace H : ((deplog_Text.f kj5 y384).bind fun bt388 => ((some (([(⟨#[0, 0]⟩ : ByteArray), (⟨#[1, 0, 120]⟩ : ByteArray), (⟨#[255, 255]⟩ : ByteArray), (⟨#[7, 0, 1, 97, 0, 0, 0, 0, 0]⟩ : ByteArray), (⟨#[8, 0, 1, 97, 1, 0, 0, 0, 0, 120]⟩ : ByteArray)] : List ByteArray) : List ByteArray)).bind fun y390 => (if 0 ≤ (wrap64 (Int.tmod (IntKind.u64.wrap (a2)) 5)) then (if (wrap64 (Int.tmod (IntKind.u64.wrap (a2)) 5)) < (y390.length : Int) then (if t382.size + (rdOf ByteArray.empty y390 (wrap64 (Int.tmod (IntKind.u64.wrap (a2)) 5))).size ≤ 9223372036854775807 then (if (t382 ++ (rdOf ByteArray.empty y390 (wrap64 (Int.tmod (IntKind.u64.wrap (a2)) 5)))).size + bt388.1.size ≤ 9223372036854775807 then ((cruciblelaw0_Num.f t383).bind fun t394 => (if t394 = 0 then ((cruciblelaw0_Num.f bt388.2).bind fun t395 => (if t395 = 0 then ((deplog_Load.f kj5 ((t382 ++ (rdOf ByteArray.empty y390 (wrap64 (Int.tmod (IntKind.u64.wrap (a2)) 5)))) ++ bt388.1)).bind fun t396 => ((cruciblelaw0_SameFounds.f kj5 t396 (l0.take ((ji18) : Int).toNat)).bind fun t403 => (some t403))) else (some false))) else (some false))) else (none)) else (none)) else (none)) else (none)))) = some r := by first | (rw [hy384]; with_reducible exact H) | (have H2_ := (Option.bind_some _ _).symm.trans H; rw [hy384]; with_reducible exact H2_) | (have H2_ := (Option.bind_some _ _).symm.trans H; with_reducible exact H2_) | with_reducible exact H | (rw [hy384]; exact H) | exact H
                have Ny384 := Aside0.mk hy384
                clear hy384
                replace H := Option.bind_eq_some_iff.mp H
                obtain ⟨⟨t388, t389⟩, A240, H⟩ := H
                replace H : ((some (([(⟨#[0, 0]⟩ : ByteArray), (⟨#[1, 0, 120]⟩ : ByteArray), (⟨#[255, 255]⟩ : ByteArray), (⟨#[7, 0, 1, 97, 0, 0, 0, 0, 0]⟩ : ByteArray), (⟨#[8, 0, 1, 97, 1, 0, 0, 0, 0, 120]⟩ : ByteArray)] : List ByteArray) : List ByteArray)).bind fun y390 => (if 0 ≤ (wrap64 (Int.tmod (IntKind.u64.wrap (a2)) 5)) then (if (wrap64 (Int.tmod (IntKind.u64.wrap (a2)) 5)) < (y390.length : Int) then (if t382.size + (rdOf ByteArray.empty y390 (wrap64 (Int.tmod (IntKind.u64.wrap (a2)) 5))).size ≤ 9223372036854775807 then (if (t382 ++ (rdOf ByteArray.empty y390 (wrap64 (Int.tmod (IntKind.u64.wrap (a2)) 5)))).size + t388.size ≤ 9223372036854775807 then ((cruciblelaw0_Num.f t383).bind fun t394 => (if t394 = 0 then ((cruciblelaw0_Num.f t389).bind fun t395 => (if t395 = 0 then ((deplog_Load.f kj5 ((t382 ++ (rdOf ByteArray.empty y390 (wrap64 (Int.tmod (IntKind.u64.wrap (a2)) 5)))) ++ t388)).bind fun t396 => ((cruciblelaw0_SameFounds.f kj5 t396 (l0.take ((ji18) : Int).toNat)).bind fun t403 => (some t403))) else (some false))) else (some false))) else (none)) else (none)) else (none)) else (none))) = some r := H
                have A24 := Aside0.mk A240
                clear A240
                obtain ⟨y390, hy390⟩ : ∃ y_ : List ByteArray, y_ = (([(⟨#[0, 0]⟩ : ByteArray), (⟨#[1, 0, 120]⟩ : ByteArray), (⟨#[255, 255]⟩ : ByteArray), (⟨#[7, 0, 1, 97, 0, 0, 0, 0, 0]⟩ : ByteArray), (⟨#[8, 0, 1, 97, 1, 0, 0, 0, 0, 120]⟩ : ByteArray)] : List ByteArray)) := ⟨_, rfl⟩
                replace H : (if 0 ≤ (wrap64 (Int.tmod (IntKind.u64.wrap (a2)) 5)) then (if (wrap64 (Int.tmod (IntKind.u64.wrap (a2)) 5)) < (y390.length : Int) then (if t382.size + (rdOf ByteArray.empty y390 (wrap64 (Int.tmod (IntKind.u64.wrap (a2)) 5))).size ≤ 9223372036854775807 then (if (t382 ++ (rdOf ByteArray.empty y390 (wrap64 (Int.tmod (IntKind.u64.wrap (a2)) 5)))).size + t388.size ≤ 9223372036854775807 then ((cruciblelaw0_Num.f t383).bind fun t394 => (if t394 = 0 then ((cruciblelaw0_Num.f t389).bind fun t395 => (if t395 = 0 then ((deplog_Load.f kj5 ((t382 ++ (rdOf ByteArray.empty y390 (wrap64 (Int.tmod (IntKind.u64.wrap (a2)) 5)))) ++ t388)).bind fun t396 => ((cruciblelaw0_SameFounds.f kj5 t396 (l0.take ((ji18) : Int).toNat)).bind fun t403 => (some t403))) else (some false))) else (some false))) else (none)) else (none)) else (none)) else (none)) = some r := by first | (rw [hy390]; with_reducible exact H) | (have H2_ := (Option.bind_some _ _).symm.trans H; rw [hy390]; with_reducible exact H2_) | (have H2_ := (Option.bind_some _ _).symm.trans H; with_reducible exact H2_) | with_reducible exact H | (rw [hy390]; exact H) | exact H
                have Ny390 := Aside0.mk hy390
                clear hy390
                obtain ⟨ji25, hji25⟩ : ∃ j_ : Int, (wrap64 (Int.tmod (IntKind.u64.wrap (a2)) 5)) = j_ := ⟨_, rfl⟩
                replace H : (if 0 ≤ (ji25) then (if (ji25) < (y390.length : Int) then (if t382.size + (rdOf ByteArray.empty y390 (ji25)).size ≤ 9223372036854775807 then (if (t382 ++ (rdOf ByteArray.empty y390 (ji25))).size + t388.size ≤ 9223372036854775807 then ((cruciblelaw0_Num.f t383).bind fun t394 => (if t394 = 0 then ((cruciblelaw0_Num.f t389).bind fun t395 => (if t395 = 0 then ((deplog_Load.f kj5 ((t382 ++ (rdOf ByteArray.empty y390 (ji25))) ++ t388)).bind fun t396 => ((cruciblelaw0_SameFounds.f kj5 t396 (l0.take ((ji18) : Int).toNat)).bind fun t403 => (some t403))) else (some false))) else (some false))) else (none)) else (none)) else (none)) else (none)) = some r := by first | (rw [hji25] at H; exact H) | (simp only [hji25] at H ⊢; exact H)
                (try rw [hji25] at A21)
                (try rw [hji25] at A24)
                have hji25w : (IntKind.i64.wrap (Int.tmod (IntKind.u64.wrap (a2)) 5)) = ji25 := (i64_w _).trans hji25
                by_cases c26 : 0 ≤ (ji25)
                · rw [if_pos c26] at H
                  have c26b0 : decide (0 ≤ (ji25)) = true := decide_eq_true c26
                  clear c26
                  by_cases c27 : (ji25) < (y390.length : Int)
                  · rw [if_pos c27] at H
                    have c27b0 : decide ((ji25) < (y390.length : Int)) = true := decide_eq_true c27
                    clear c27
                    by_cases c28 : t382.size + (rdOf ByteArray.empty y390 (ji25)).size ≤ 9223372036854775807
                    · rw [if_pos c28] at H
                      have c28b0 := eq_true c28
                      have c28b1 : decide (t382.size + (rdOf ByteArray.empty y390 (ji25)).size ≤ 9223372036854775807) = true := decide_eq_true c28
                      try have c28b2 : (9223372036854775807 < t382.size + (rdOf ByteArray.empty y390 (ji25)).size) = False := eq_false (Nat.not_lt.2 c28)
                      by_cases c29 : (t382 ++ (rdOf ByteArray.empty y390 (ji25))).size + t388.size ≤ 9223372036854775807
                      · rw [if_pos c29] at H
                        have c29b0 := eq_true c29
                        try have c29s := c29
                        try simp only [ByteArray.size_append, size_lit, List.length_cons, List.length_nil, Nat.zero_add, Nat.reduceAdd] at c29s
                        try have c29t := eq_false (Nat.not_lt.2 c29s)
                        have c29b1 : decide ((t382 ++ (rdOf ByteArray.empty y390 (ji25))).size + t388.size ≤ 9223372036854775807) = true := decide_eq_true c29
                        try have c29b2 : (9223372036854775807 < (t382 ++ (rdOf ByteArray.empty y390 (ji25))).size + t388.size) = False := eq_false (Nat.not_lt.2 c29)
                        replace H := Option.bind_eq_some_iff.mp H
                        obtain ⟨t394, A300, H⟩ := H
                        replace H : (if t394 = 0 then ((cruciblelaw0_Num.f t389).bind fun t395 => (if t395 = 0 then ((deplog_Load.f kj5 ((t382 ++ (rdOf ByteArray.empty y390 (ji25))) ++ t388)).bind fun t396 => ((cruciblelaw0_SameFounds.f kj5 t396 (l0.take ((ji18) : Int).toNat)).bind fun t403 => (some t403))) else (some false))) else (some false)) = some r := H
                        have A30 := Aside0.mk A300
                        clear A300
                        by_cases c31 : t394 = 0
                        · rw [if_pos c31] at H
                          have c31b0 : (t394 == 0) = true := beq_iff_eq.mpr c31
                          have c31b1 : (t394 != 0) = false := bne_eq_false_iff_eq.mpr c31
                          clear c31
                          replace H := Option.bind_eq_some_iff.mp H
                          obtain ⟨t395, A320, H⟩ := H
                          replace H : (if t395 = 0 then ((deplog_Load.f kj5 ((t382 ++ (rdOf ByteArray.empty y390 (ji25))) ++ t388)).bind fun t396 => ((cruciblelaw0_SameFounds.f kj5 t396 (l0.take ((ji18) : Int).toNat)).bind fun t403 => (some t403))) else (some false)) = some r := H
                          have A32 := Aside0.mk A320
                          clear A320
                          by_cases c33 : t395 = 0
                          · rw [if_pos c33] at H
                            have c33b0 : (t395 == 0) = true := beq_iff_eq.mpr c33
                            have c33b1 : (t395 != 0) = false := bne_eq_false_iff_eq.mpr c33
                            clear c33
                            replace H := Option.bind_eq_some_iff.mp H
                            obtain ⟨t396, A340, H⟩ := H
                            replace H : ((cruciblelaw0_SameFounds.f kj5 t396 (l0.take ((ji18) : Int).toNat)).bind fun t403 => (some t403)) = some r := H
                            have A34 := Aside0.mk A340
                            clear A340
                            have c35b0 := eq_true (of_decide_eq_true (by first | (with_reducible assumption) | assumption) : 0 ≤ (ji18))
                            have c36b0 := eq_true (of_decide_eq_true (by first | (with_reducible assumption) | assumption) : (ji18) ≤ (l0.length : Int))
                            obtain ⟨y399, hy399⟩ : ∃ y_ : List (S41), y_ = (l0.take ((ji18) : Int).toNat) := ⟨_, rfl⟩
                            replace H : ((cruciblelaw0_SameFounds.f kj5 t396 y399).bind fun t403 => (some t403)) = some r := by first | (rw [hy399]; with_reducible exact H) | (have H2_ := (Option.bind_some _ _).symm.trans H; rw [hy399]; with_reducible exact H2_) | (have H2_ := (Option.bind_some _ _).symm.trans H; with_reducible exact H2_) | with_reducible exact H | (rw [hy399]; exact H) | exact H
                            have Ny399 := Aside0.mk hy399
                            clear hy399
                            replace H := Option.bind_eq_some_iff.mp H
                            obtain ⟨t403, A370, H⟩ := H
                            replace H : (some t403) = some r := H
                            have A37 := Aside0.mk A370
                            clear A370
                            obtain rfl := Option.some.inj H
                            have q38 : ((ji18) : Int) ≤ ((l0.length : Int) : Int) := of_decide_eq_true (by first | (with_reducible assumption) | assumption)
                            obtain ⟨i038, hi038, _, hsz38, _⟩ := info_parts info41
                            have hroom38 : l0.length ≤ c0 := HC0.out
                            have hC38 : Kd.C k41 _ A0 l0.length l0 := HR0.out
                            have hcut38 := cut_to (P := Tryd.prog) 42 41 .i64 Tryd.underlying42 hi038 A0 l0.length c0 (ji18) (of_decide_eq_true (by first | (with_reducible assumption) | assumption)) q38 hroom38
                            have hr38 := Kd.C_take (m := ((ji18) : Int).toNat) hC38 (by omega)
                            have hy38 : y378.length = ((ji18) : Int).toNat := (by rw [Ny378.out, List.length_take]; omega)
                            rw [← Ny378.out] at hr38
                            rw [← hy38] at hcut38
                            have HR381 := Aside0.mk hr38
                            have HC381 := Aside0.mk (show y378.length ≤ c0 from by omega)
                            clear hr38 hC38 hroom38 hi038 hsz38
                            have KY38 := Aside0.mk hy38
                            clear hy38
                            replace q38 := eq_true q38
                            try go_wp2_with (first | ((with_reducible refine gate_callee (f := 34) rfl ?_); refine goesL_ (some 43) rfl rfl Tryd.func34 (by kernel_rfl) rfl #[.slice A0 y378.length c0] rfl (by (try simp only [List.map_toArray, List.map_cons, List.map_nil]); first | done | rfl | (simp only [List.length_drop, List.length_take]; rfl)) ?_; (with_reducible refine (deplog_Text.calls kj5 _ _ y378 t382 t383 _ ?side1 ?side2 A21.out).mono ?_); (case side1 => repeat (first | exact (Kd.C_below HR381.out HB.out) | (with_reducible refine Kd.C_alloc ?_ _) | (with_reducible refine Kd.C_drewN ?_ _) | (with_reducible refine Kd.C_drew ?_))); (case side2 => exact HC381.out); rintro e w39 ⟨rfl, hb⟩; refine ⟨_, rfl, ?_⟩; have n0_ := Aside0.mk (below_step (by repeat (first | (with_reducible first | exact HB.out | apply below_alloc | apply pw_below_drewN | apply below_drew1) | exact HB.out)) hb); clear HB; have HB := n0_; clear n0_; (try clear hb); (try clear hb2); (try clear hk); (try clear hi); have q40 : ((ji18) : Int) ≤ ((l0.length : Int) : Int) := of_decide_eq_true (by first | (with_reducible assumption) | assumption); obtain ⟨i040, hi040, _, hsz40, _⟩ := info_parts info41; have hroom40 : l0.length ≤ c0 := HC0.out; have hC40 : Kd.C k41 _ A0 l0.length l0 := HR0.out; have q040 : (0 : Int) ≤ ((ji18) : Int) := of_decide_eq_true (by first | (with_reducible assumption) | assumption); have hcut40 := cut_from (P := Tryd.prog) 42 41 .i64 Tryd.underlying42 hi040 3 hsz40 A0 l0.length c0 (ji18) q040 q40; have hr40 := Kd.C_drop (m := ((ji18) : Int).toNat) (c := c0) hC40 (by omega) hroom40; obtain ⟨A40, hA40⟩ : ∃ A1, A1 = (if c0 = ((ji18) : Int).toNat then A0 else (A0 : Option Addr).map (·.add (((ji18) : Int).toNat * 3))) := ⟨_, rfl⟩; obtain ⟨c40, hc40⟩ : ∃ c1, c1 = c0 - ((ji18) : Int).toNat := ⟨_, rfl⟩; have hy40 : y384.length = l0.length - ((ji18) : Int).toNat := (by rw [Ny384.out, List.length_drop] <;> omega); rw [show (l0).drop ((ji18) : Int).toNat = y384 from Ny384.out.symm] at hr40; replace hr40 : Kd.C k41 _ A40 y384.length y384 := (by rw [hA40]; exact hr40); rw [← hy40, ← hA40, ← hc40] at hcut40; have HR387 := Aside0.mk hr40; have HC387 := Aside0.mk (show y384.length ≤ c40 from by rw [hy40, hc40]; exact Nat.sub_le_sub_right hroom40 _); clear hr40 hC40 hroom40 hi040 hsz40 hc40; have KY40 := Aside0.mk hy40; have KA40 := Aside0.mk hA40; clear hy40 hA40; replace q40 := eq_true q40) | ((with_reducible refine gate_callee (f := 34) rfl ?_); refine goesL_ (some 50) rfl rfl Tryd.func34 (by kernel_rfl) rfl #[.slice A40 y384.length c40] rfl (by (try simp only [List.map_toArray, List.map_cons, List.map_nil]); first | done | rfl | (simp only [List.length_drop, List.length_take]; rfl)) ?_; (with_reducible refine (deplog_Text.calls kj5 _ _ y384 t388 t389 _ ?side1 ?side2 A24.out).mono ?_); (case side1 => repeat (first | exact (Kd.C_below HR387.out HB.out) | (with_reducible refine Kd.C_alloc ?_ _) | (with_reducible refine Kd.C_drewN ?_ _) | (with_reducible refine Kd.C_drew ?_))); (case side2 => exact HC387.out); rintro e w41 ⟨rfl, hb⟩; refine ⟨_, rfl, ?_⟩; have n0_ := Aside0.mk (below_step (by repeat (first | (with_reducible first | exact HB.out | apply below_alloc | apply pw_below_drewN | apply below_drew1) | exact HB.out)) hb); clear HB; have HB := n0_; clear n0_; (try clear hb); (try clear hb2); (try clear hk); (try clear hi)) | ((with_reducible refine gate_dst (N := 54) rfl ?_); (try (refine gate_guard (by rfl) ?_; dsimp only)); refine Kd.R_lit Kd.string _ 9 ?hg (N := 54) ?hd (xs := ([(⟨#[0, 0]⟩ : ByteArray), (⟨#[1, 0, 120]⟩ : ByteArray), (⟨#[255, 255]⟩ : ByteArray), (⟨#[7, 0, 1, 97, 0, 0, 0, 0, 0]⟩ : ByteArray), (⟨#[8, 0, 1, 97, 1, 0, 0, 0, 0, 120]⟩ : ByteArray)] : List ByteArray)) (inner := [.string (⟨#[0, 0]⟩ : ByteArray), .string (⟨#[1, 0, 120]⟩ : ByteArray), .string (⟨#[255, 255]⟩ : ByteArray), .string (⟨#[7, 0, 1, 97, 0, 0, 0, 0, 0]⟩ : ByteArray), .string (⟨#[8, 0, 1, 97, 1, 0, 0, 0, 0, 120]⟩ : ByteArray)]) (ok := fun _ => True) (okp := fun _ => True) ?hr ?hp (fun _ hk => hk) trivial (Below.refl _ _) (Nat.le_refl _) (by simp) ?_; (case hd => rfl); (case hg => rfl); (case hr => first | (go_simp; done) | (go_simp; rfl)); (case hp => exact (Reps.one (show Kd.M Kd.string _ _ _ (⟨#[0, 0]⟩ : ByteArray) [.string (⟨#[0, 0]⟩ : ByteArray)] from rfl) (Reps.one (show Kd.M Kd.string _ _ _ (⟨#[1, 0, 120]⟩ : ByteArray) [.string (⟨#[1, 0, 120]⟩ : ByteArray)] from rfl) (Reps.one (show Kd.M Kd.string _ _ _ (⟨#[255, 255]⟩ : ByteArray) [.string (⟨#[255, 255]⟩ : ByteArray)] from rfl) (Reps.one (show Kd.M Kd.string _ _ _ (⟨#[7, 0, 1, 97, 0, 0, 0, 0, 0]⟩ : ByteArray) [.string (⟨#[7, 0, 1, 97, 0, 0, 0, 0, 0]⟩ : ByteArray)] from rfl) (Reps.one (show Kd.M Kd.string _ _ _ (⟨#[8, 0, 1, 97, 1, 0, 0, 0, 0, 120]⟩ : ByteArray) [.string (⟨#[8, 0, 1, 97, 1, 0, 0, 0, 0, 120]⟩ : ByteArray)] from rfl) (Reps.none _ _))))))); intro v391 w42 ho43 hb hg_ hnew_; clear hg_ hnew_; (first | rw [← Ny390.out] at ho43 | (simp only [Int.reduceToNat] at ho43; rw [← Ny390.out] at ho43)); have n0_ := Aside0.mk (Kd.R_lower ho43 (below_size (by repeat (first | (with_reducible first | exact HB.out | apply below_alloc | apply pw_below_drewN | apply below_drew1) | exact HB.out)))); have n1_ := Aside0.mk (below_step (by repeat (first | (with_reducible first | exact HB.out | apply below_alloc | apply pw_below_drewN | apply below_drew1) | exact HB.out)) hb); clear HB; have HO392 := n0_; have HB := n1_; clear n0_ n1_; clear hb ho43; obtain ⟨Ao44, co44, eo44⟩ := Kd.R_slice HO392.out; subst eo44; have p393 : 0 ≤ ((ji25) : Int) := of_decide_eq_true (by first | (with_reducible assumption) | assumption); have q393 : (ji25) < (y390.length : Int) := of_decide_eq_true (by first | (with_reducible assumption) | assumption); obtain ⟨ad393, e393, hx393_0⟩ := Kd.at_string (Kd.R_reads' HO392.out).2.2 (ji25) p393 q393; cases e393; replace p393 := eq_true p393; replace q393 := eq_true q393))
                            have n0_ := Aside0.mk (Kd.R_drew HO392.out)
                            have n1_ := Aside0.mk (below_drew1 HB.out)
                            clear HO392
                            clear HB
                            have HO392 := n0_
                            have HB := n1_
                            clear n0_ n1_
                            refine start_ (n := 17) (S := fun w' => True) (ds := []) #[false, false, false, false, false, false, false, false, false, false, false, false, false, false, false, false, false] (by kernel_rfl) rfl rfl trivial (fun hHeld => ?_); refine with_tabW cruciblelaw16_DeplogBad.tab9 cruciblelaw16_DeplogBad.bits9 (fun HT_ HW_ => ?_)
                            generalize w42.drew = w45 at HO392 HB hHeld ⊢
                            refine pure_ (i := 0) (N := some 64) (v := ?_) (a' := ?_) #[true, false, false, false, false, false, false, false, false, false, false, false, false, false, false, false, false] rfl rfl (any_of HT_.out (by kernel_rfl)) (fun _ _ _ h => h) (Or.inl ⟨by rfl, ?_⟩) ?_ ?_
                            rotate_left
                            · intro w'
                              go_simp
                              with_reducible rfl
                            rotate_left
                            · simp only [Act.put, List.setIfInBounds_toArray, List.set_cons_zero, List.set_cons_succ, i64_w, i32_w]
                              rfl
                            refine one_ (i := 1) (N := some 65) #[true, true, false, false, false, false, false, false, false, false, false, false, false, false, false, false, false] rfl rfl (one_of HT_.out (by kernel_rfl)) (by decide) (fun K hK => ?_)
                            refine goes_ Tryd.func22 (by kernel_rfl) rfl #[.int .i64 t383] (by rfl) rfl rfl (by (try simp only [List.map_toArray, List.map_cons, List.map_nil]); first | done | rfl | (simp only [List.length_drop, List.length_take]; rfl)) ?_
                            with_reducible refine (cruciblelaw0_Num.calls t383 t394 _ A30.out).mono ?_
                            rintro e w' ⟨rfl, ⟨nd, rfl⟩⟩
                            refine ⟨_, rfl, ?_⟩
                            refine hK.out _ _ trivial (fun hHeld => ?_)
                            clear hK K
                            refine norm_ (a' := ?_) ?_ ?_
                            rotate_left
                            · show Act.put _ (some 65) _ = _
                              simp only [Act.put, List.setIfInBounds_toArray, List.set_cons_zero, List.set_cons_succ, i64_w, i32_w]
                              rfl
                            refine pure_ (i := 2) (N := some 66) (v := ?_) (a' := ?_) #[true, true, true, false, false, false, false, false, false, false, false, false, false, false, false, false, false] rfl rfl (any_of HT_.out (by kernel_rfl)) (fun _ _ _ h => h) (Or.inl ⟨by rfl, ?_⟩) ?_ ?_
                            rotate_left
                            · intro w'
                              go_simp
                              with_reducible rfl
                            rotate_left
                            · simp only [Act.put, List.setIfInBounds_toArray, List.set_cons_zero, List.set_cons_succ, i64_w, i32_w]
                              rfl
                            refine pure_ (i := 3) (N := some 67) (v := ?_) (a' := ?_) #[true, true, true, true, false, false, false, false, false, false, false, false, false, false, false, false, false] rfl rfl (any_of HT_.out (by kernel_rfl)) (fun _ _ _ h => h) (Or.inl ⟨by rfl, ?_⟩) ?_ ?_
                            rotate_left
                            · intro w'
                              go_simp
                              with_reducible rfl
                            rotate_left
                            · simp only [Act.put, List.setIfInBounds_toArray, List.set_cons_zero, List.set_cons_succ, i64_w, i32_w]
                              rfl
                            refine pure_ (i := 4) (N := some 68) (v := ?_) (a' := ?_) #[true, true, true, true, true, false, false, false, false, false, false, false, false, false, false, false, false] rfl rfl (any_of HT_.out (by kernel_rfl)) (fun _ _ _ h => h) (Or.inl ⟨by rfl, ?_⟩) ?_ ?_
                            rotate_left
                            · intro w'
                              go_simp
                              with_reducible rfl
                            rotate_left
                            · simp only [Act.put, List.setIfInBounds_toArray, List.set_cons_zero, List.set_cons_succ, i64_w, i32_w]
                              rfl
                            refine one_ (i := 5) (N := some 69) #[true, true, true, true, true, true, false, false, false, false, false, false, false, false, false, false, false] rfl rfl (one_of HT_.out (by kernel_rfl)) (by decide) (fun K hK => ?_)
                            refine goes_ Tryd.func22 (by kernel_rfl) rfl #[.int .i64 t389] (by rfl) rfl rfl (by (try simp only [List.map_toArray, List.map_cons, List.map_nil]); first | done | rfl | (simp only [List.length_drop, List.length_take]; rfl)) ?_
                            with_reducible refine (cruciblelaw0_Num.calls t389 t395 _ A32.out).mono ?_
                            rintro e w' ⟨rfl, ⟨nd, rfl⟩⟩
                            refine ⟨_, rfl, ?_⟩
                            refine hK.out _ _ trivial (fun hHeld => ?_)
                            clear hK K
                            refine norm_ (a' := ?_) ?_ ?_
                            rotate_left
                            · show Act.put _ (some 69) _ = _
                              simp only [Act.put, List.setIfInBounds_toArray, List.set_cons_zero, List.set_cons_succ, i64_w, i32_w]
                              rfl
                            refine pure_ (i := 6) (N := some 70) (v := ?_) (a' := ?_) #[true, true, true, true, true, true, true, false, false, false, false, false, false, false, false, false, false] rfl rfl (any_of HT_.out (by kernel_rfl)) (fun _ _ _ h => h) (Or.inl ⟨by rfl, ?_⟩) ?_ ?_
                            rotate_left
                            · intro w'
                              go_simp
                              with_reducible rfl
                            rotate_left
                            · simp only [Act.put, List.setIfInBounds_toArray, List.set_cons_zero, List.set_cons_succ, i64_w, i32_w]
                              rfl
                            refine pure_ (i := 7) (N := some 71) (v := ?_) (a' := ?_) #[true, true, true, true, true, true, true, true, false, false, false, false, false, false, false, false, false] rfl rfl (any_of HT_.out (by kernel_rfl)) (fun _ _ _ h => h) (Or.inl ⟨by rfl, ?_⟩) ?_ ?_
                            rotate_left
                            · intro w'
                              go_simp
                              with_reducible rfl
                            rotate_left
                            · simp only [Act.put, List.setIfInBounds_toArray, List.set_cons_zero, List.set_cons_succ, i64_w, i32_w]
                              rfl
                            refine pure_ (i := 8) (N := some 72) (v := ?_) (a' := ?_) #[true, true, true, true, true, true, true, true, true, false, false, false, false, false, false, false, false] rfl rfl (any_of HT_.out (by kernel_rfl)) (fun _ _ _ h => h) (Or.inl ⟨by rfl, ?_⟩) ?_ ?_
                            rotate_left
                            · intro w'
                              go_simp
                              with_reducible rfl
                            rotate_left
                            · simp only [Act.put, List.setIfInBounds_toArray, List.set_cons_zero, List.set_cons_succ, i64_w, i32_w]
                              rfl
                            refine pure_ (i := 9) (N := some 73) (v := ?_) (a' := ?_) #[true, true, true, true, true, true, true, true, true, true, false, false, false, false, false, false, false] rfl rfl (any_of HT_.out (by kernel_rfl)) (fun _ _ _ h => h) (Or.inl ⟨by rfl, ?_⟩) ?_ ?_
                            rotate_left
                            · intro w'
                              go_simp
                              with_reducible rfl
                            rotate_left
                            · simp only [Act.put, List.setIfInBounds_toArray, List.set_cons_zero, List.set_cons_succ, i64_w, i32_w]
                              rfl
                            refine pure_ (i := 11) (N := some 75) (v := ?_) (a' := ?_) #[true, true, true, true, true, true, true, true, true, true, false, true, false, false, false, false, false] rfl rfl (any_of HT_.out (by kernel_rfl)) (fun _ _ _ h => h) (Or.inl ⟨by rfl, ?_⟩) ?_ ?_
                            rotate_left
                            · intro w'
                              go_simp
                              with_reducible rfl
                            rotate_left
                            · simp only [Act.put, List.setIfInBounds_toArray, List.set_cons_zero, List.set_cons_succ, i64_w, i32_w]
                              rfl
                            refine pure_ (i := 12) (N := some 76) (v := ?_) (a' := ?_) #[true, true, true, true, true, true, true, true, true, true, false, true, true, false, false, false, false] rfl rfl (any_of HT_.out (by kernel_rfl)) (fun _ _ _ h => h) (Or.inl ⟨by rfl, ?_⟩) ?_ ?_
                            rotate_left
                            · intro w'
                              go_simp
                              with_reducible rfl
                            rotate_left
                            · simp only [Act.put, List.setIfInBounds_toArray, List.set_cons_zero, List.set_cons_succ, i64_w, i32_w]
                              rfl
                            refine pure_ (i := 13) (N := some 77) (v := ?_) (a' := ?_) #[true, true, true, true, true, true, true, true, true, true, false, true, true, true, false, false, false] rfl rfl (any_of HT_.out (by kernel_rfl)) (fun _ _ _ h => h) (Or.inl ⟨by rfl, ?_⟩) ?_ ?_
                            rotate_left
                            · intro w'
                              go_simp
                              with_reducible rfl
                            rotate_left
                            · simp only [Act.put, List.setIfInBounds_toArray, List.set_cons_zero, List.set_cons_succ, i64_w, i32_w]
                              rfl
                            refine one_ (i := 10) (N := some 74) #[true, true, true, true, true, true, true, true, true, true, true, true, true, true, false, false, false] rfl rfl (one_of HT_.out (by kernel_rfl)) (by decide) (fun K hK => ?_)
                            refine goes_ Tryd.func36 (by kernel_rfl) rfl #[.string ((t382 ++ (rdOf ByteArray.empty y390 (ji25))) ++ t388)] (by rfl) rfl rfl (by (try simp only [List.map_toArray, List.map_cons, List.map_nil]); first | done | (simp only [hji25]; rfl) | rfl | (simp only [List.length_drop, List.length_take]; rfl)) ?_
                            with_reducible refine (deplog_Load.calls kj5 ((t382 ++ (rdOf ByteArray.empty y390 (ji25))) ++ t388) t396 _ A34.out).mono ?_
                            rintro e w46 ⟨v397, rfl, ho0, hb⟩
                            refine ⟨_, rfl, ?_⟩
                            have n0_ := Aside0.mk (Kd.R_below (by (with_reducible repeat (first | apply Kd.R_alloc | apply Kd.R_drewN | apply Kd.R_drew)); exact HO392.out) hb)
                            have n1_ := Aside0.mk (Kd.S_lower (Kd.S_new' ho0 (Kd.R_lt (by (with_reducible repeat (first | apply Kd.R_alloc | apply Kd.R_drewN | apply Kd.R_drew)); exact HO392.out))) (below_size (by repeat (first | (with_reducible first | exact HB.out | apply below_alloc | apply pw_below_drewN | apply below_drew1) | exact HB.out))))
                            have n2_ := Aside0.mk (below_step (by repeat (first | (with_reducible first | exact HB.out | apply below_alloc | apply pw_below_drewN | apply below_drew1) | exact HB.out)) hb)
                            clear HO392
                            clear HB
                            have HO392 := n0_
                            have HO398 := n1_
                            have HB := n2_
                            clear n0_ n1_ n2_
                            (try clear hb)
                            (try clear hb2)
                            (try clear hk)
                            (try clear hi)
                            (try clear ho0)
                            have q47 : ((ji18) : Int) ≤ ((l0.length : Int) : Int) := of_decide_eq_true (by first | (with_reducible assumption) | assumption)
                            obtain ⟨i047, hi047, _, hsz47, _⟩ := info_parts info41
                            have hroom47 : l0.length ≤ c0 := HC0.out
                            have hC47 : Kd.C k41 _ A0 l0.length l0 := HR0.out
                            have hcut47 := cut_to (P := Tryd.prog) 42 41 .i64 Tryd.underlying42 hi047 A0 l0.length c0 (ji18) (of_decide_eq_true (by first | (with_reducible assumption) | assumption)) q47 hroom47
                            have hr47 := Kd.C_take (m := ((ji18) : Int).toNat) hC47 (by omega)
                            have hy47 : y399.length = ((ji18) : Int).toNat := (by rw [Ny399.out, List.length_take]; omega)
                            rw [← Ny399.out] at hr47
                            rw [← hy47] at hcut47
                            have HR402 := Aside0.mk hr47
                            have HC402 := Aside0.mk (show y399.length ≤ c0 from by omega)
                            clear hr47 hC47 hroom47 hi047 hsz47
                            have KY47 := Aside0.mk hy47
                            clear hy47
                            replace q47 := eq_true q47
                            obtain ⟨Ao48, co48, eo48⟩ := Kd.S_slice HO398.out
                            (first | subst eo48 | (injection eo48 with f1_ f2_ f3_; have f4_ := f1_.symm; have f5_ := f3_.symm; clear f1_ f2_ f3_; subst f4_; subst f5_))
                            refine hK.out _ _ trivial (fun hHeld => ?_)
                            clear hK K
                            refine norm_ (a' := ?_) ?_ ?_
                            rotate_left
                            · show Act.put _ (some 74) _ = _
                              simp only [Act.put, List.setIfInBounds_toArray, List.set_cons_zero, List.set_cons_succ, i64_w, i32_w]
                              rfl
                            refine one_ (i := 14) (N := some 78) #[true, true, true, true, true, true, true, true, true, true, true, true, true, true, true, false, false] rfl rfl (one_of HT_.out (by kernel_rfl)) (by decide) (fun K hK => ?_)
                            refine goes_ Tryd.func41 (by kernel_rfl) rfl #[.slice Ao48 t396.length co48, .slice A0 y399.length c0] (by rfl) rfl rfl (by (try simp only [List.map_toArray, List.map_cons, List.map_nil]); first | done | rfl | (simp only [List.length_drop, List.length_take]; rfl) | (rw [KY47.out] <;> rfl) | (simp only [KY47.out] <;> rfl) | (simp only [KY47.out, KY38.out] <;> rfl)) ?_
                            with_reducible refine (cruciblelaw0_SameFounds.calls kj5 _ _ t396 _ _ y399 t403 _ ?side1 ?side2 ?side3 ?side4 A37.out).mono ?_
                            (case side1 => repeat (first | exact (Kd.S_reads' HO398.out).2.2 | (with_reducible refine Kd.C_alloc ?_ _) | (with_reducible refine Kd.C_drewN ?_ _) | (with_reducible refine Kd.C_drew ?_)))
                            (case side2 => exact (Kd.S_reads' HO398.out).2.1)
                            (case side3 => repeat (first | exact (Kd.C_below HR402.out HB.out) | (with_reducible refine Kd.C_alloc ?_ _) | (with_reducible refine Kd.C_drewN ?_ _) | (with_reducible refine Kd.C_drew ?_)))
                            (case side4 => exact HC402.out)
                            rintro e w49 ⟨rfl, hb⟩
                            refine ⟨_, rfl, ?_⟩
                            have n0_ := Aside0.mk (Kd.R_below (by (with_reducible repeat (first | apply Kd.R_alloc | apply Kd.R_drewN | apply Kd.R_drew)); exact HO392.out) hb)
                            have n1_ := Aside0.mk (Kd.S_below (by (with_reducible repeat (first | apply Kd.S_alloc | apply Kd.S_drewN | apply Kd.S_drew)); exact HO398.out) hb)
                            have n2_ := Aside0.mk (below_step (by repeat (first | (with_reducible first | exact HB.out | apply below_alloc | apply pw_below_drewN | apply below_drew1) | exact HB.out)) hb)
                            clear HO392
                            clear HO398
                            clear HB
                            have HO392 := n0_
                            have HO398 := n1_
                            have HB := n2_
                            clear n0_ n1_ n2_
                            (try clear hb)
                            (try clear hb2)
                            (try clear hk)
                            (try clear hi)
                            refine hK.out _ _ trivial (fun hHeld => ?_)
                            clear hK K
                            refine norm_ (a' := ?_) ?_ ?_
                            rotate_left
                            · show Act.put _ (some 78) _ = _
                              simp only [Act.put, List.setIfInBounds_toArray, List.set_cons_zero, List.set_cons_succ, i64_w, i32_w]
                              rfl
                            refine pure_ (i := 15) (N := some 79) (v := ?_) (a' := ?_) #[true, true, true, true, true, true, true, true, true, true, true, true, true, true, true, true, false] rfl rfl (any_of HT_.out (by kernel_rfl)) (fun _ _ _ h => h) (Or.inl ⟨by rfl, ?_⟩) ?_ ?_
                            rotate_left
                            · intro w'
                              go_simp
                              with_reducible rfl
                            rotate_left
                            · simp only [Act.put, List.setIfInBounds_toArray, List.set_cons_zero, List.set_cons_succ, i64_w, i32_w]
                              rfl
                            refine pure_ (i := 16) (N := some 6) (v := ?_) (a' := ?_) #[true, true, true, true, true, true, true, true, true, true, true, true, true, true, true, true, true] rfl rfl (any_of HT_.out (by kernel_rfl)) (fun _ _ _ h => h) (Or.inl ⟨by rfl, ?_⟩) ?_ ?_
                            rotate_left
                            · intro w'
                              go_simp
                              with_reducible rfl
                            rotate_left
                            · simp only [Act.put, List.setIfInBounds_toArray, List.set_cons_zero, List.set_cons_succ, i64_w, i32_w]
                              rfl
                            refine done_ (done_of HT_.out (by kernel_rfl)) ?_
                            try go_wp2
                            go_ret
                            exact ⟨by first | rfl | (simp [errW_none, errW_some] <;> rfl) | (simp only [← hji18, ← hji25]; first | rfl | (simp [errW_none, errW_some] <;> rfl)) | (simp [*, errW_none, errW_some] <;> rfl), by repeat (first | (with_reducible first | exact HB.out | apply below_alloc | apply pw_below_drewN | apply below_drew1) | exact HB.out)⟩
                          · rw [if_neg c33] at H
                            have c33b0 : (t395 == 0) = false := beq_eq_false_iff_ne.mpr c33
                            have c33b1 : (t395 != 0) = true := bne_iff_ne.mpr c33
                            obtain rfl := Option.some.inj H
                            have q50 : ((ji18) : Int) ≤ ((l0.length : Int) : Int) := of_decide_eq_true (by first | (with_reducible assumption) | assumption)
                            obtain ⟨i050, hi050, _, hsz50, _⟩ := info_parts info41
                            have hroom50 : l0.length ≤ c0 := HC0.out
                            have hC50 : Kd.C k41 _ A0 l0.length l0 := HR0.out
                            have hcut50 := cut_to (P := Tryd.prog) 42 41 .i64 Tryd.underlying42 hi050 A0 l0.length c0 (ji18) (of_decide_eq_true (by first | (with_reducible assumption) | assumption)) q50 hroom50
                            have hr50 := Kd.C_take (m := ((ji18) : Int).toNat) hC50 (by omega)
                            have hy50 : y378.length = ((ji18) : Int).toNat := (by rw [Ny378.out, List.length_take]; omega)
                            rw [← Ny378.out] at hr50
                            rw [← hy50] at hcut50
                            have HR381 := Aside0.mk hr50
                            have HC381 := Aside0.mk (show y378.length ≤ c0 from by omega)
                            clear hr50 hC50 hroom50 hi050 hsz50
                            have KY50 := Aside0.mk hy50
                            clear hy50
                            replace q50 := eq_true q50
                            try go_wp2_with (first | ((with_reducible refine gate_callee (f := 34) rfl ?_); refine goesL_ (some 43) rfl rfl Tryd.func34 (by kernel_rfl) rfl #[.slice A0 y378.length c0] rfl (by (try simp only [List.map_toArray, List.map_cons, List.map_nil]); first | done | rfl | (simp only [List.length_drop, List.length_take]; rfl)) ?_; (with_reducible refine (deplog_Text.calls kj5 _ _ y378 t382 t383 _ ?side1 ?side2 A21.out).mono ?_); (case side1 => repeat (first | exact (Kd.C_below HR381.out HB.out) | (with_reducible refine Kd.C_alloc ?_ _) | (with_reducible refine Kd.C_drewN ?_ _) | (with_reducible refine Kd.C_drew ?_))); (case side2 => exact HC381.out); rintro e w51 ⟨rfl, hb⟩; refine ⟨_, rfl, ?_⟩; have n0_ := Aside0.mk (below_step (by repeat (first | (with_reducible first | exact HB.out | apply below_alloc | apply pw_below_drewN | apply below_drew1) | exact HB.out)) hb); clear HB; have HB := n0_; clear n0_; (try clear hb); (try clear hb2); (try clear hk); (try clear hi); have q52 : ((ji18) : Int) ≤ ((l0.length : Int) : Int) := of_decide_eq_true (by first | (with_reducible assumption) | assumption); obtain ⟨i052, hi052, _, hsz52, _⟩ := info_parts info41; have hroom52 : l0.length ≤ c0 := HC0.out; have hC52 : Kd.C k41 _ A0 l0.length l0 := HR0.out; have q052 : (0 : Int) ≤ ((ji18) : Int) := of_decide_eq_true (by first | (with_reducible assumption) | assumption); have hcut52 := cut_from (P := Tryd.prog) 42 41 .i64 Tryd.underlying42 hi052 3 hsz52 A0 l0.length c0 (ji18) q052 q52; have hr52 := Kd.C_drop (m := ((ji18) : Int).toNat) (c := c0) hC52 (by omega) hroom52; obtain ⟨A52, hA52⟩ : ∃ A1, A1 = (if c0 = ((ji18) : Int).toNat then A0 else (A0 : Option Addr).map (·.add (((ji18) : Int).toNat * 3))) := ⟨_, rfl⟩; obtain ⟨c52, hc52⟩ : ∃ c1, c1 = c0 - ((ji18) : Int).toNat := ⟨_, rfl⟩; have hy52 : y384.length = l0.length - ((ji18) : Int).toNat := (by rw [Ny384.out, List.length_drop] <;> omega); rw [show (l0).drop ((ji18) : Int).toNat = y384 from Ny384.out.symm] at hr52; replace hr52 : Kd.C k41 _ A52 y384.length y384 := (by rw [hA52]; exact hr52); rw [← hy52, ← hA52, ← hc52] at hcut52; have HR387 := Aside0.mk hr52; have HC387 := Aside0.mk (show y384.length ≤ c52 from by rw [hy52, hc52]; exact Nat.sub_le_sub_right hroom52 _); clear hr52 hC52 hroom52 hi052 hsz52 hc52; have KY52 := Aside0.mk hy52; have KA52 := Aside0.mk hA52; clear hy52 hA52; replace q52 := eq_true q52) | ((with_reducible refine gate_callee (f := 34) rfl ?_); refine goesL_ (some 50) rfl rfl Tryd.func34 (by kernel_rfl) rfl #[.slice A52 y384.length c52] rfl (by (try simp only [List.map_toArray, List.map_cons, List.map_nil]); first | done | rfl | (simp only [List.length_drop, List.length_take]; rfl)) ?_; (with_reducible refine (deplog_Text.calls kj5 _ _ y384 t388 t389 _ ?side1 ?side2 A24.out).mono ?_); (case side1 => repeat (first | exact (Kd.C_below HR387.out HB.out) | (with_reducible refine Kd.C_alloc ?_ _) | (with_reducible refine Kd.C_drewN ?_ _) | (with_reducible refine Kd.C_drew ?_))); (case side2 => exact HC387.out); rintro e w53 ⟨rfl, hb⟩; refine ⟨_, rfl, ?_⟩; have n0_ := Aside0.mk (below_step (by repeat (first | (with_reducible first | exact HB.out | apply below_alloc | apply pw_below_drewN | apply below_drew1) | exact HB.out)) hb); clear HB; have HB := n0_; clear n0_; (try clear hb); (try clear hb2); (try clear hk); (try clear hi)) | ((with_reducible refine gate_dst (N := 54) rfl ?_); (try (refine gate_guard (by rfl) ?_; dsimp only)); refine Kd.R_lit Kd.string _ 9 ?hg (N := 54) ?hd (xs := ([(⟨#[0, 0]⟩ : ByteArray), (⟨#[1, 0, 120]⟩ : ByteArray), (⟨#[255, 255]⟩ : ByteArray), (⟨#[7, 0, 1, 97, 0, 0, 0, 0, 0]⟩ : ByteArray), (⟨#[8, 0, 1, 97, 1, 0, 0, 0, 0, 120]⟩ : ByteArray)] : List ByteArray)) (inner := [.string (⟨#[0, 0]⟩ : ByteArray), .string (⟨#[1, 0, 120]⟩ : ByteArray), .string (⟨#[255, 255]⟩ : ByteArray), .string (⟨#[7, 0, 1, 97, 0, 0, 0, 0, 0]⟩ : ByteArray), .string (⟨#[8, 0, 1, 97, 1, 0, 0, 0, 0, 120]⟩ : ByteArray)]) (ok := fun _ => True) (okp := fun _ => True) ?hr ?hp (fun _ hk => hk) trivial (Below.refl _ _) (Nat.le_refl _) (by simp) ?_; (case hd => rfl); (case hg => rfl); (case hr => first | (go_simp; done) | (go_simp; rfl)); (case hp => exact (Reps.one (show Kd.M Kd.string _ _ _ (⟨#[0, 0]⟩ : ByteArray) [.string (⟨#[0, 0]⟩ : ByteArray)] from rfl) (Reps.one (show Kd.M Kd.string _ _ _ (⟨#[1, 0, 120]⟩ : ByteArray) [.string (⟨#[1, 0, 120]⟩ : ByteArray)] from rfl) (Reps.one (show Kd.M Kd.string _ _ _ (⟨#[255, 255]⟩ : ByteArray) [.string (⟨#[255, 255]⟩ : ByteArray)] from rfl) (Reps.one (show Kd.M Kd.string _ _ _ (⟨#[7, 0, 1, 97, 0, 0, 0, 0, 0]⟩ : ByteArray) [.string (⟨#[7, 0, 1, 97, 0, 0, 0, 0, 0]⟩ : ByteArray)] from rfl) (Reps.one (show Kd.M Kd.string _ _ _ (⟨#[8, 0, 1, 97, 1, 0, 0, 0, 0, 120]⟩ : ByteArray) [.string (⟨#[8, 0, 1, 97, 1, 0, 0, 0, 0, 120]⟩ : ByteArray)] from rfl) (Reps.none _ _))))))); intro v391 w54 ho55 hb hg_ hnew_; clear hg_ hnew_; (first | rw [← Ny390.out] at ho55 | (simp only [Int.reduceToNat] at ho55; rw [← Ny390.out] at ho55)); have n0_ := Aside0.mk (Kd.R_lower ho55 (below_size (by repeat (first | (with_reducible first | exact HB.out | apply below_alloc | apply pw_below_drewN | apply below_drew1) | exact HB.out)))); have n1_ := Aside0.mk (below_step (by repeat (first | (with_reducible first | exact HB.out | apply below_alloc | apply pw_below_drewN | apply below_drew1) | exact HB.out)) hb); clear HB; have HO392 := n0_; have HB := n1_; clear n0_ n1_; clear hb ho55; obtain ⟨Ao56, co56, eo56⟩ := Kd.R_slice HO392.out; subst eo56; have p393 : 0 ≤ ((ji25) : Int) := of_decide_eq_true (by first | (with_reducible assumption) | assumption); have q393 : (ji25) < (y390.length : Int) := of_decide_eq_true (by first | (with_reducible assumption) | assumption); obtain ⟨ad393, e393, hx393_0⟩ := Kd.at_string (Kd.R_reads' HO392.out).2.2 (ji25) p393 q393; cases e393; replace p393 := eq_true p393; replace q393 := eq_true q393))
                            have n0_ := Aside0.mk (Kd.R_drew HO392.out)
                            have n1_ := Aside0.mk (below_drew1 HB.out)
                            clear HO392
                            clear HB
                            have HO392 := n0_
                            have HB := n1_
                            clear n0_ n1_
                            refine start_ (n := 17) (S := fun w' => True) (ds := []) #[false, false, false, false, false, false, false, false, false, false, false, false, false, false, false, false, false] (by kernel_rfl) rfl rfl trivial (fun hHeld => ?_); refine with_tabW cruciblelaw16_DeplogBad.tab9 cruciblelaw16_DeplogBad.bits9 (fun HT_ HW_ => ?_)
                            generalize w54.drew = w57 at HO392 HB hHeld ⊢
                            refine pure_ (i := 0) (N := some 64) (v := ?_) (a' := ?_) #[true, false, false, false, false, false, false, false, false, false, false, false, false, false, false, false, false] rfl rfl (any_of HT_.out (by kernel_rfl)) (fun _ _ _ h => h) (Or.inl ⟨by rfl, ?_⟩) ?_ ?_
                            rotate_left
                            · intro w'
                              go_simp
                              with_reducible rfl
                            rotate_left
                            · simp only [Act.put, List.setIfInBounds_toArray, List.set_cons_zero, List.set_cons_succ, i64_w, i32_w]
                              rfl
                            refine one_ (i := 1) (N := some 65) #[true, true, false, false, false, false, false, false, false, false, false, false, false, false, false, false, false] rfl rfl (one_of HT_.out (by kernel_rfl)) (by decide) (fun K hK => ?_)
                            refine goes_ Tryd.func22 (by kernel_rfl) rfl #[.int .i64 t383] (by rfl) rfl rfl (by (try simp only [List.map_toArray, List.map_cons, List.map_nil]); first | done | rfl | (simp only [List.length_drop, List.length_take]; rfl)) ?_
                            with_reducible refine (cruciblelaw0_Num.calls t383 t394 _ A30.out).mono ?_
                            rintro e w' ⟨rfl, ⟨nd, rfl⟩⟩
                            refine ⟨_, rfl, ?_⟩
                            refine hK.out _ _ trivial (fun hHeld => ?_)
                            clear hK K
                            refine norm_ (a' := ?_) ?_ ?_
                            rotate_left
                            · show Act.put _ (some 65) _ = _
                              simp only [Act.put, List.setIfInBounds_toArray, List.set_cons_zero, List.set_cons_succ, i64_w, i32_w]
                              rfl
                            refine pure_ (i := 2) (N := some 66) (v := ?_) (a' := ?_) #[true, true, true, false, false, false, false, false, false, false, false, false, false, false, false, false, false] rfl rfl (any_of HT_.out (by kernel_rfl)) (fun _ _ _ h => h) (Or.inl ⟨by rfl, ?_⟩) ?_ ?_
                            rotate_left
                            · intro w'
                              go_simp
                              with_reducible rfl
                            rotate_left
                            · simp only [Act.put, List.setIfInBounds_toArray, List.set_cons_zero, List.set_cons_succ, i64_w, i32_w]
                              rfl
                            refine pure_ (i := 3) (N := some 67) (v := ?_) (a' := ?_) #[true, true, true, true, false, false, false, false, false, false, false, false, false, false, false, false, false] rfl rfl (any_of HT_.out (by kernel_rfl)) (fun _ _ _ h => h) (Or.inl ⟨by rfl, ?_⟩) ?_ ?_
                            rotate_left
                            · intro w'
                              go_simp
                              with_reducible rfl
                            rotate_left
                            · simp only [Act.put, List.setIfInBounds_toArray, List.set_cons_zero, List.set_cons_succ, i64_w, i32_w]
                              rfl
                            refine pure_ (i := 4) (N := some 68) (v := ?_) (a' := ?_) #[true, true, true, true, true, false, false, false, false, false, false, false, false, false, false, false, false] rfl rfl (any_of HT_.out (by kernel_rfl)) (fun _ _ _ h => h) (Or.inl ⟨by rfl, ?_⟩) ?_ ?_
                            rotate_left
                            · intro w'
                              go_simp
                              with_reducible rfl
                            rotate_left
                            · simp only [Act.put, List.setIfInBounds_toArray, List.set_cons_zero, List.set_cons_succ, i64_w, i32_w]
                              rfl
                            refine one_ (i := 5) (N := some 69) #[true, true, true, true, true, true, false, false, false, false, false, false, false, false, false, false, false] rfl rfl (one_of HT_.out (by kernel_rfl)) (by decide) (fun K hK => ?_)
                            refine goes_ Tryd.func22 (by kernel_rfl) rfl #[.int .i64 t389] (by rfl) rfl rfl (by (try simp only [List.map_toArray, List.map_cons, List.map_nil]); first | done | rfl | (simp only [List.length_drop, List.length_take]; rfl)) ?_
                            with_reducible refine (cruciblelaw0_Num.calls t389 t395 _ A32.out).mono ?_
                            rintro e w' ⟨rfl, ⟨nd, rfl⟩⟩
                            refine ⟨_, rfl, ?_⟩
                            refine hK.out _ _ trivial (fun hHeld => ?_)
                            clear hK K
                            refine norm_ (a' := ?_) ?_ ?_
                            rotate_left
                            · show Act.put _ (some 69) _ = _
                              simp only [Act.put, List.setIfInBounds_toArray, List.set_cons_zero, List.set_cons_succ, i64_w, i32_w]
                              rfl
                            refine pure_ (i := 6) (N := some 70) (v := ?_) (a' := ?_) #[true, true, true, true, true, true, true, false, false, false, false, false, false, false, false, false, false] rfl rfl (any_of HT_.out (by kernel_rfl)) (fun _ _ _ h => h) (Or.inl ⟨by rfl, ?_⟩) ?_ ?_
                            rotate_left
                            · intro w'
                              go_simp
                              with_reducible rfl
                            rotate_left
                            · simp only [Act.put, List.setIfInBounds_toArray, List.set_cons_zero, List.set_cons_succ, i64_w, i32_w]
                              rfl
                            refine pure_ (i := 7) (N := some 71) (v := ?_) (a' := ?_) #[true, true, true, true, true, true, true, true, false, false, false, false, false, false, false, false, false] rfl rfl (any_of HT_.out (by kernel_rfl)) (fun _ _ _ h => h) (Or.inl ⟨by rfl, ?_⟩) ?_ ?_
                            rotate_left
                            · intro w'
                              go_simp
                              with_reducible rfl
                            rotate_left
                            · simp only [Act.put, List.setIfInBounds_toArray, List.set_cons_zero, List.set_cons_succ, i64_w, i32_w]
                              rfl
                            refine pure_ (i := 8) (N := some 72) (v := ?_) (a' := ?_) #[true, true, true, true, true, true, true, true, true, false, false, false, false, false, false, false, false] rfl rfl (any_of HT_.out (by kernel_rfl)) (fun _ _ _ h => h) (Or.inl ⟨by rfl, ?_⟩) ?_ ?_
                            rotate_left
                            · intro w'
                              go_simp
                              with_reducible rfl
                            rotate_left
                            · simp only [Act.put, List.setIfInBounds_toArray, List.set_cons_zero, List.set_cons_succ, i64_w, i32_w]
                              rfl
                            refine pure_ (i := 9) (N := some 73) (v := undef) (a' := ?_) #[true, true, true, true, true, true, true, true, true, true, false, false, false, false, false, false, false] rfl rfl (any_of HT_.out (by kernel_rfl)) (fun _ _ _ h => h) (Or.inr ⟨by rfl, rfl⟩) ?_ ?_
                            rotate_left
                            · simp only [Act.put, List.setIfInBounds_toArray, List.set_cons_zero, List.set_cons_succ, i64_w, i32_w]
                              rfl
                            refine pure_ (i := 10) (N := some 74) (v := undef) (a' := ?_) #[true, true, true, true, true, true, true, true, true, true, true, false, false, false, false, false, false] rfl rfl (any_of HT_.out (by kernel_rfl)) (fun _ _ _ h => h) (Or.inr ⟨by rfl, rfl⟩) ?_ ?_
                            rotate_left
                            · simp only [Act.put, List.setIfInBounds_toArray, List.set_cons_zero, List.set_cons_succ, i64_w, i32_w]
                              rfl
                            refine pure_ (i := 11) (N := some 75) (v := undef) (a' := ?_) #[true, true, true, true, true, true, true, true, true, true, true, true, false, false, false, false, false] rfl rfl (any_of HT_.out (by kernel_rfl)) (fun _ _ _ h => h) (Or.inr ⟨by rfl, rfl⟩) ?_ ?_
                            rotate_left
                            · simp only [Act.put, List.setIfInBounds_toArray, List.set_cons_zero, List.set_cons_succ, i64_w, i32_w]
                              rfl
                            refine pure_ (i := 12) (N := some 76) (v := undef) (a' := ?_) #[true, true, true, true, true, true, true, true, true, true, true, true, true, false, false, false, false] rfl rfl (any_of HT_.out (by kernel_rfl)) (fun _ _ _ h => h) (Or.inr ⟨by rfl, rfl⟩) ?_ ?_
                            rotate_left
                            · simp only [Act.put, List.setIfInBounds_toArray, List.set_cons_zero, List.set_cons_succ, i64_w, i32_w]
                              rfl
                            refine pure_ (i := 13) (N := some 77) (v := undef) (a' := ?_) #[true, true, true, true, true, true, true, true, true, true, true, true, true, true, false, false, false] rfl rfl (any_of HT_.out (by kernel_rfl)) (fun _ _ _ h => h) (Or.inr ⟨by rfl, rfl⟩) ?_ ?_
                            rotate_left
                            · simp only [Act.put, List.setIfInBounds_toArray, List.set_cons_zero, List.set_cons_succ, i64_w, i32_w]
                              rfl
                            refine pure_ (i := 14) (N := some 78) (v := undef) (a' := ?_) #[true, true, true, true, true, true, true, true, true, true, true, true, true, true, true, false, false] rfl rfl (any_of HT_.out (by kernel_rfl)) (fun _ _ _ h => h) (Or.inr ⟨by rfl, rfl⟩) ?_ ?_
                            rotate_left
                            · simp only [Act.put, List.setIfInBounds_toArray, List.set_cons_zero, List.set_cons_succ, i64_w, i32_w]
                              rfl
                            refine pure_ (i := 15) (N := some 79) (v := ?_) (a' := ?_) #[true, true, true, true, true, true, true, true, true, true, true, true, true, true, true, true, false] rfl rfl (any_of HT_.out (by kernel_rfl)) (fun _ _ _ h => h) (Or.inl ⟨by rfl, ?_⟩) ?_ ?_
                            rotate_left
                            · intro w'
                              go_simp
                              with_reducible rfl
                            rotate_left
                            · simp only [Act.put, List.setIfInBounds_toArray, List.set_cons_zero, List.set_cons_succ, i64_w, i32_w]
                              rfl
                            refine pure_ (i := 16) (N := some 6) (v := ?_) (a' := ?_) #[true, true, true, true, true, true, true, true, true, true, true, true, true, true, true, true, true] rfl rfl (any_of HT_.out (by kernel_rfl)) (fun _ _ _ h => h) (Or.inl ⟨by rfl, ?_⟩) ?_ ?_
                            rotate_left
                            · intro w'
                              go_simp
                              with_reducible rfl
                            rotate_left
                            · simp only [Act.put, List.setIfInBounds_toArray, List.set_cons_zero, List.set_cons_succ, i64_w, i32_w]
                              rfl
                            refine done_ (done_of HT_.out (by kernel_rfl)) ?_
                            try go_wp2
                            go_ret
                            exact ⟨by first | rfl | (simp [errW_none, errW_some] <;> rfl) | (simp only [← hji18, ← hji25]; first | rfl | (simp [errW_none, errW_some] <;> rfl)) | (simp [*, errW_none, errW_some] <;> rfl), by repeat (first | (with_reducible first | exact HB.out | apply below_alloc | apply pw_below_drewN | apply below_drew1) | exact HB.out)⟩
                        · rw [if_neg c31] at H
                          have c31b0 : (t394 == 0) = false := beq_eq_false_iff_ne.mpr c31
                          have c31b1 : (t394 != 0) = true := bne_iff_ne.mpr c31
                          obtain rfl := Option.some.inj H
                          have q58 : ((ji18) : Int) ≤ ((l0.length : Int) : Int) := of_decide_eq_true (by first | (with_reducible assumption) | assumption)
                          obtain ⟨i058, hi058, _, hsz58, _⟩ := info_parts info41
                          have hroom58 : l0.length ≤ c0 := HC0.out
                          have hC58 : Kd.C k41 _ A0 l0.length l0 := HR0.out
                          have hcut58 := cut_to (P := Tryd.prog) 42 41 .i64 Tryd.underlying42 hi058 A0 l0.length c0 (ji18) (of_decide_eq_true (by first | (with_reducible assumption) | assumption)) q58 hroom58
                          have hr58 := Kd.C_take (m := ((ji18) : Int).toNat) hC58 (by omega)
                          have hy58 : y378.length = ((ji18) : Int).toNat := (by rw [Ny378.out, List.length_take]; omega)
                          rw [← Ny378.out] at hr58
                          rw [← hy58] at hcut58
                          have HR381 := Aside0.mk hr58
                          have HC381 := Aside0.mk (show y378.length ≤ c0 from by omega)
                          clear hr58 hC58 hroom58 hi058 hsz58
                          have KY58 := Aside0.mk hy58
                          clear hy58
                          replace q58 := eq_true q58
                          try go_wp2_with (first | ((with_reducible refine gate_callee (f := 34) rfl ?_); refine goesL_ (some 43) rfl rfl Tryd.func34 (by kernel_rfl) rfl #[.slice A0 y378.length c0] rfl (by (try simp only [List.map_toArray, List.map_cons, List.map_nil]); first | done | rfl | (simp only [List.length_drop, List.length_take]; rfl)) ?_; (with_reducible refine (deplog_Text.calls kj5 _ _ y378 t382 t383 _ ?side1 ?side2 A21.out).mono ?_); (case side1 => repeat (first | exact (Kd.C_below HR381.out HB.out) | (with_reducible refine Kd.C_alloc ?_ _) | (with_reducible refine Kd.C_drewN ?_ _) | (with_reducible refine Kd.C_drew ?_))); (case side2 => exact HC381.out); rintro e w59 ⟨rfl, hb⟩; refine ⟨_, rfl, ?_⟩; have n0_ := Aside0.mk (below_step (by repeat (first | (with_reducible first | exact HB.out | apply below_alloc | apply pw_below_drewN | apply below_drew1) | exact HB.out)) hb); clear HB; have HB := n0_; clear n0_; (try clear hb); (try clear hb2); (try clear hk); (try clear hi); have q60 : ((ji18) : Int) ≤ ((l0.length : Int) : Int) := of_decide_eq_true (by first | (with_reducible assumption) | assumption); obtain ⟨i060, hi060, _, hsz60, _⟩ := info_parts info41; have hroom60 : l0.length ≤ c0 := HC0.out; have hC60 : Kd.C k41 _ A0 l0.length l0 := HR0.out; have q060 : (0 : Int) ≤ ((ji18) : Int) := of_decide_eq_true (by first | (with_reducible assumption) | assumption); have hcut60 := cut_from (P := Tryd.prog) 42 41 .i64 Tryd.underlying42 hi060 3 hsz60 A0 l0.length c0 (ji18) q060 q60; have hr60 := Kd.C_drop (m := ((ji18) : Int).toNat) (c := c0) hC60 (by omega) hroom60; obtain ⟨A60, hA60⟩ : ∃ A1, A1 = (if c0 = ((ji18) : Int).toNat then A0 else (A0 : Option Addr).map (·.add (((ji18) : Int).toNat * 3))) := ⟨_, rfl⟩; obtain ⟨c60, hc60⟩ : ∃ c1, c1 = c0 - ((ji18) : Int).toNat := ⟨_, rfl⟩; have hy60 : y384.length = l0.length - ((ji18) : Int).toNat := (by rw [Ny384.out, List.length_drop] <;> omega); rw [show (l0).drop ((ji18) : Int).toNat = y384 from Ny384.out.symm] at hr60; replace hr60 : Kd.C k41 _ A60 y384.length y384 := (by rw [hA60]; exact hr60); rw [← hy60, ← hA60, ← hc60] at hcut60; have HR387 := Aside0.mk hr60; have HC387 := Aside0.mk (show y384.length ≤ c60 from by rw [hy60, hc60]; exact Nat.sub_le_sub_right hroom60 _); clear hr60 hC60 hroom60 hi060 hsz60 hc60; have KY60 := Aside0.mk hy60; have KA60 := Aside0.mk hA60; clear hy60 hA60; replace q60 := eq_true q60) | ((with_reducible refine gate_callee (f := 34) rfl ?_); refine goesL_ (some 50) rfl rfl Tryd.func34 (by kernel_rfl) rfl #[.slice A60 y384.length c60] rfl (by (try simp only [List.map_toArray, List.map_cons, List.map_nil]); first | done | rfl | (simp only [List.length_drop, List.length_take]; rfl)) ?_; (with_reducible refine (deplog_Text.calls kj5 _ _ y384 t388 t389 _ ?side1 ?side2 A24.out).mono ?_); (case side1 => repeat (first | exact (Kd.C_below HR387.out HB.out) | (with_reducible refine Kd.C_alloc ?_ _) | (with_reducible refine Kd.C_drewN ?_ _) | (with_reducible refine Kd.C_drew ?_))); (case side2 => exact HC387.out); rintro e w61 ⟨rfl, hb⟩; refine ⟨_, rfl, ?_⟩; have n0_ := Aside0.mk (below_step (by repeat (first | (with_reducible first | exact HB.out | apply below_alloc | apply pw_below_drewN | apply below_drew1) | exact HB.out)) hb); clear HB; have HB := n0_; clear n0_; (try clear hb); (try clear hb2); (try clear hk); (try clear hi)) | ((with_reducible refine gate_dst (N := 54) rfl ?_); (try (refine gate_guard (by rfl) ?_; dsimp only)); refine Kd.R_lit Kd.string _ 9 ?hg (N := 54) ?hd (xs := ([(⟨#[0, 0]⟩ : ByteArray), (⟨#[1, 0, 120]⟩ : ByteArray), (⟨#[255, 255]⟩ : ByteArray), (⟨#[7, 0, 1, 97, 0, 0, 0, 0, 0]⟩ : ByteArray), (⟨#[8, 0, 1, 97, 1, 0, 0, 0, 0, 120]⟩ : ByteArray)] : List ByteArray)) (inner := [.string (⟨#[0, 0]⟩ : ByteArray), .string (⟨#[1, 0, 120]⟩ : ByteArray), .string (⟨#[255, 255]⟩ : ByteArray), .string (⟨#[7, 0, 1, 97, 0, 0, 0, 0, 0]⟩ : ByteArray), .string (⟨#[8, 0, 1, 97, 1, 0, 0, 0, 0, 120]⟩ : ByteArray)]) (ok := fun _ => True) (okp := fun _ => True) ?hr ?hp (fun _ hk => hk) trivial (Below.refl _ _) (Nat.le_refl _) (by simp) ?_; (case hd => rfl); (case hg => rfl); (case hr => first | (go_simp; done) | (go_simp; rfl)); (case hp => exact (Reps.one (show Kd.M Kd.string _ _ _ (⟨#[0, 0]⟩ : ByteArray) [.string (⟨#[0, 0]⟩ : ByteArray)] from rfl) (Reps.one (show Kd.M Kd.string _ _ _ (⟨#[1, 0, 120]⟩ : ByteArray) [.string (⟨#[1, 0, 120]⟩ : ByteArray)] from rfl) (Reps.one (show Kd.M Kd.string _ _ _ (⟨#[255, 255]⟩ : ByteArray) [.string (⟨#[255, 255]⟩ : ByteArray)] from rfl) (Reps.one (show Kd.M Kd.string _ _ _ (⟨#[7, 0, 1, 97, 0, 0, 0, 0, 0]⟩ : ByteArray) [.string (⟨#[7, 0, 1, 97, 0, 0, 0, 0, 0]⟩ : ByteArray)] from rfl) (Reps.one (show Kd.M Kd.string _ _ _ (⟨#[8, 0, 1, 97, 1, 0, 0, 0, 0, 120]⟩ : ByteArray) [.string (⟨#[8, 0, 1, 97, 1, 0, 0, 0, 0, 120]⟩ : ByteArray)] from rfl) (Reps.none _ _))))))); intro v391 w62 ho63 hb hg_ hnew_; clear hg_ hnew_; (first | rw [← Ny390.out] at ho63 | (simp only [Int.reduceToNat] at ho63; rw [← Ny390.out] at ho63)); have n0_ := Aside0.mk (Kd.R_lower ho63 (below_size (by repeat (first | (with_reducible first | exact HB.out | apply below_alloc | apply pw_below_drewN | apply below_drew1) | exact HB.out)))); have n1_ := Aside0.mk (below_step (by repeat (first | (with_reducible first | exact HB.out | apply below_alloc | apply pw_below_drewN | apply below_drew1) | exact HB.out)) hb); clear HB; have HO392 := n0_; have HB := n1_; clear n0_ n1_; clear hb ho63; obtain ⟨Ao64, co64, eo64⟩ := Kd.R_slice HO392.out; subst eo64; have p393 : 0 ≤ ((ji25) : Int) := of_decide_eq_true (by first | (with_reducible assumption) | assumption); have q393 : (ji25) < (y390.length : Int) := of_decide_eq_true (by first | (with_reducible assumption) | assumption); obtain ⟨ad393, e393, hx393_0⟩ := Kd.at_string (Kd.R_reads' HO392.out).2.2 (ji25) p393 q393; cases e393; replace p393 := eq_true p393; replace q393 := eq_true q393))
                          have n0_ := Aside0.mk (Kd.R_drew HO392.out)
                          have n1_ := Aside0.mk (below_drew1 HB.out)
                          clear HO392
                          clear HB
                          have HO392 := n0_
                          have HB := n1_
                          clear n0_ n1_
                          refine start_ (n := 17) (S := fun w' => True) (ds := []) #[false, false, false, false, false, false, false, false, false, false, false, false, false, false, false, false, false] (by kernel_rfl) rfl rfl trivial (fun hHeld => ?_); refine with_tabW cruciblelaw16_DeplogBad.tab9 cruciblelaw16_DeplogBad.bits9 (fun HT_ HW_ => ?_)
                          generalize w62.drew = w65 at HO392 HB hHeld ⊢
                          refine pure_ (i := 0) (N := some 64) (v := ?_) (a' := ?_) #[true, false, false, false, false, false, false, false, false, false, false, false, false, false, false, false, false] rfl rfl (any_of HT_.out (by kernel_rfl)) (fun _ _ _ h => h) (Or.inl ⟨by rfl, ?_⟩) ?_ ?_
                          rotate_left
                          · intro w'
                            go_simp
                            with_reducible rfl
                          rotate_left
                          · simp only [Act.put, List.setIfInBounds_toArray, List.set_cons_zero, List.set_cons_succ, i64_w, i32_w]
                            rfl
                          refine one_ (i := 1) (N := some 65) #[true, true, false, false, false, false, false, false, false, false, false, false, false, false, false, false, false] rfl rfl (one_of HT_.out (by kernel_rfl)) (by decide) (fun K hK => ?_)
                          refine goes_ Tryd.func22 (by kernel_rfl) rfl #[.int .i64 t383] (by rfl) rfl rfl (by (try simp only [List.map_toArray, List.map_cons, List.map_nil]); first | done | rfl | (simp only [List.length_drop, List.length_take]; rfl)) ?_
                          with_reducible refine (cruciblelaw0_Num.calls t383 t394 _ A30.out).mono ?_
                          rintro e w' ⟨rfl, ⟨nd, rfl⟩⟩
                          refine ⟨_, rfl, ?_⟩
                          refine hK.out _ _ trivial (fun hHeld => ?_)
                          clear hK K
                          refine norm_ (a' := ?_) ?_ ?_
                          rotate_left
                          · show Act.put _ (some 65) _ = _
                            simp only [Act.put, List.setIfInBounds_toArray, List.set_cons_zero, List.set_cons_succ, i64_w, i32_w]
                            rfl
                          refine pure_ (i := 2) (N := some 66) (v := ?_) (a' := ?_) #[true, true, true, false, false, false, false, false, false, false, false, false, false, false, false, false, false] rfl rfl (any_of HT_.out (by kernel_rfl)) (fun _ _ _ h => h) (Or.inl ⟨by rfl, ?_⟩) ?_ ?_
                          rotate_left
                          · intro w'
                            go_simp
                            with_reducible rfl
                          rotate_left
                          · simp only [Act.put, List.setIfInBounds_toArray, List.set_cons_zero, List.set_cons_succ, i64_w, i32_w]
                            rfl
                          refine pure_ (i := 3) (N := some 67) (v := ?_) (a' := ?_) #[true, true, true, true, false, false, false, false, false, false, false, false, false, false, false, false, false] rfl rfl (any_of HT_.out (by kernel_rfl)) (fun _ _ _ h => h) (Or.inl ⟨by rfl, ?_⟩) ?_ ?_
                          rotate_left
                          · intro w'
                            go_simp
                            with_reducible rfl
                          rotate_left
                          · simp only [Act.put, List.setIfInBounds_toArray, List.set_cons_zero, List.set_cons_succ, i64_w, i32_w]
                            rfl
                          refine pure_ (i := 4) (N := some 68) (v := undef) (a' := ?_) #[true, true, true, true, true, false, false, false, false, false, false, false, false, false, false, false, false] rfl rfl (any_of HT_.out (by kernel_rfl)) (fun _ _ _ h => h) (Or.inr ⟨by rfl, rfl⟩) ?_ ?_
                          rotate_left
                          · simp only [Act.put, List.setIfInBounds_toArray, List.set_cons_zero, List.set_cons_succ, i64_w, i32_w]
                            rfl
                          refine pure_ (i := 5) (N := some 69) (v := undef) (a' := ?_) #[true, true, true, true, true, true, false, false, false, false, false, false, false, false, false, false, false] rfl rfl (any_of HT_.out (by kernel_rfl)) (fun _ _ _ h => h) (Or.inr ⟨by rfl, rfl⟩) ?_ ?_
                          rotate_left
                          · simp only [Act.put, List.setIfInBounds_toArray, List.set_cons_zero, List.set_cons_succ, i64_w, i32_w]
                            rfl
                          refine pure_ (i := 6) (N := some 70) (v := undef) (a' := ?_) #[true, true, true, true, true, true, true, false, false, false, false, false, false, false, false, false, false] rfl rfl (any_of HT_.out (by kernel_rfl)) (fun _ _ _ h => h) (Or.inr ⟨by rfl, rfl⟩) ?_ ?_
                          rotate_left
                          · simp only [Act.put, List.setIfInBounds_toArray, List.set_cons_zero, List.set_cons_succ, i64_w, i32_w]
                            rfl
                          refine pure_ (i := 7) (N := some 71) (v := ?_) (a' := ?_) #[true, true, true, true, true, true, true, true, false, false, false, false, false, false, false, false, false] rfl rfl (any_of HT_.out (by kernel_rfl)) (fun _ _ _ h => h) (Or.inl ⟨by rfl, ?_⟩) ?_ ?_
                          rotate_left
                          · intro w'
                            go_simp
                            with_reducible rfl
                          rotate_left
                          · simp only [Act.put, List.setIfInBounds_toArray, List.set_cons_zero, List.set_cons_succ, i64_w, i32_w]
                            rfl
                          refine pure_ (i := 8) (N := some 72) (v := ?_) (a' := ?_) #[true, true, true, true, true, true, true, true, true, false, false, false, false, false, false, false, false] rfl rfl (any_of HT_.out (by kernel_rfl)) (fun _ _ _ h => h) (Or.inl ⟨by rfl, ?_⟩) ?_ ?_
                          rotate_left
                          · intro w'
                            go_simp
                            with_reducible rfl
                          rotate_left
                          · simp only [Act.put, List.setIfInBounds_toArray, List.set_cons_zero, List.set_cons_succ, i64_w, i32_w]
                            rfl
                          refine pure_ (i := 9) (N := some 73) (v := undef) (a' := ?_) #[true, true, true, true, true, true, true, true, true, true, false, false, false, false, false, false, false] rfl rfl (any_of HT_.out (by kernel_rfl)) (fun _ _ _ h => h) (Or.inr ⟨by rfl, rfl⟩) ?_ ?_
                          rotate_left
                          · simp only [Act.put, List.setIfInBounds_toArray, List.set_cons_zero, List.set_cons_succ, i64_w, i32_w]
                            rfl
                          refine pure_ (i := 10) (N := some 74) (v := undef) (a' := ?_) #[true, true, true, true, true, true, true, true, true, true, true, false, false, false, false, false, false] rfl rfl (any_of HT_.out (by kernel_rfl)) (fun _ _ _ h => h) (Or.inr ⟨by rfl, rfl⟩) ?_ ?_
                          rotate_left
                          · simp only [Act.put, List.setIfInBounds_toArray, List.set_cons_zero, List.set_cons_succ, i64_w, i32_w]
                            rfl
                          refine pure_ (i := 11) (N := some 75) (v := undef) (a' := ?_) #[true, true, true, true, true, true, true, true, true, true, true, true, false, false, false, false, false] rfl rfl (any_of HT_.out (by kernel_rfl)) (fun _ _ _ h => h) (Or.inr ⟨by rfl, rfl⟩) ?_ ?_
                          rotate_left
                          · simp only [Act.put, List.setIfInBounds_toArray, List.set_cons_zero, List.set_cons_succ, i64_w, i32_w]
                            rfl
                          refine pure_ (i := 12) (N := some 76) (v := undef) (a' := ?_) #[true, true, true, true, true, true, true, true, true, true, true, true, true, false, false, false, false] rfl rfl (any_of HT_.out (by kernel_rfl)) (fun _ _ _ h => h) (Or.inr ⟨by rfl, rfl⟩) ?_ ?_
                          rotate_left
                          · simp only [Act.put, List.setIfInBounds_toArray, List.set_cons_zero, List.set_cons_succ, i64_w, i32_w]
                            rfl
                          refine pure_ (i := 13) (N := some 77) (v := undef) (a' := ?_) #[true, true, true, true, true, true, true, true, true, true, true, true, true, true, false, false, false] rfl rfl (any_of HT_.out (by kernel_rfl)) (fun _ _ _ h => h) (Or.inr ⟨by rfl, rfl⟩) ?_ ?_
                          rotate_left
                          · simp only [Act.put, List.setIfInBounds_toArray, List.set_cons_zero, List.set_cons_succ, i64_w, i32_w]
                            rfl
                          refine pure_ (i := 14) (N := some 78) (v := undef) (a' := ?_) #[true, true, true, true, true, true, true, true, true, true, true, true, true, true, true, false, false] rfl rfl (any_of HT_.out (by kernel_rfl)) (fun _ _ _ h => h) (Or.inr ⟨by rfl, rfl⟩) ?_ ?_
                          rotate_left
                          · simp only [Act.put, List.setIfInBounds_toArray, List.set_cons_zero, List.set_cons_succ, i64_w, i32_w]
                            rfl
                          refine pure_ (i := 15) (N := some 79) (v := ?_) (a' := ?_) #[true, true, true, true, true, true, true, true, true, true, true, true, true, true, true, true, false] rfl rfl (any_of HT_.out (by kernel_rfl)) (fun _ _ _ h => h) (Or.inl ⟨by rfl, ?_⟩) ?_ ?_
                          rotate_left
                          · intro w'
                            go_simp
                            with_reducible rfl
                          rotate_left
                          · simp only [Act.put, List.setIfInBounds_toArray, List.set_cons_zero, List.set_cons_succ, i64_w, i32_w]
                            rfl
                          refine pure_ (i := 16) (N := some 6) (v := ?_) (a' := ?_) #[true, true, true, true, true, true, true, true, true, true, true, true, true, true, true, true, true] rfl rfl (any_of HT_.out (by kernel_rfl)) (fun _ _ _ h => h) (Or.inl ⟨by rfl, ?_⟩) ?_ ?_
                          rotate_left
                          · intro w'
                            go_simp
                            with_reducible rfl
                          rotate_left
                          · simp only [Act.put, List.setIfInBounds_toArray, List.set_cons_zero, List.set_cons_succ, i64_w, i32_w]
                            rfl
                          refine done_ (done_of HT_.out (by kernel_rfl)) ?_
                          try go_wp2
                          go_ret
                          exact ⟨by first | rfl | (simp [errW_none, errW_some] <;> rfl) | (simp only [← hji18, ← hji25]; first | rfl | (simp [errW_none, errW_some] <;> rfl)) | (simp [*, errW_none, errW_some] <;> rfl), by repeat (first | (with_reducible first | exact HB.out | apply below_alloc | apply pw_below_drewN | apply below_drew1) | exact HB.out)⟩
                      · rw [if_neg c29] at H
                        exact absurd H (by simp)
                    · rw [if_neg c28] at H
                      exact absurd H (by simp)
                  · rw [if_neg c27] at H
                    exact absurd H (by simp)
                · rw [if_neg c26] at H
                  exact absurd H (by simp)
              · rw [if_neg c20] at H
                exact absurd H (by simp)
            · rw [if_neg c19] at H
              exact absurd H (by simp)
  · replace c5 := Bool.eq_false_iff.mpr c5
    subst c5
    have H1 : (some false) = some r := by rw [if_neg (show ¬ (false = true) by decide)] at H; exact H
    clear H
    have H := H1
    clear H1
    obtain rfl := Option.some.inj H
    go_enter Tryd.func15, Tryd.ntmps15
    go_wp2_with (first | ((with_reducible refine gate_callee (f := 46) rfl ?_); refine goesL_ (some 13) rfl rfl Tryd.func46 (by kernel_rfl) rfl #[] rfl (by (try simp only [List.map_toArray, List.map_cons, List.map_nil]); first | done | rfl | (simp only [List.length_drop, List.length_take]; rfl)) ?_; (with_reducible refine (cruciblelaw16_awake.calls  false _ A4.out).mono ?_); rintro e w66 ⟨rfl, hb⟩; refine ⟨_, rfl, ?_⟩; have n0_ := Aside0.mk (below_step (by repeat (first | (with_reducible first | exact HB.out | apply below_alloc | apply pw_below_drewN | apply below_drew1) | exact HB.out)) hb); clear HB; have HB := n0_; clear n0_; (try clear hb); (try clear hb2); (try clear hk); (try clear hi)))
    go_ret
    exact ⟨by first | rfl | (simp [errW_none, errW_some] <;> rfl) | (simp [*, errW_none, errW_some] <;> rfl), by repeat (first | (with_reducible first | exact HB.out | apply below_alloc | apply pw_below_drewN | apply below_drew1) | exact HB.out)⟩

end Go.Proofs.YtkplcmcmpdhigaaDoor.P
