-- Made by a program of this work's own (wip/myprint.py) over the kit's print; leaves by hand.
import Derived.Test.YtncbloieejeifaaDoorP0
import Derived.Test.YtncbloieejeifaaDoorWRepsOne
import Derived.Test.YtncbloieejeifaaDoorWGuard
import Derived.Test.YtncbloieejeifaaDoorP7
import Derived.Test.YtncbloieejeifaaDoorP13
import Derived.Test.YtncbloieejeifaaDoorP15
namespace Go.Proofs.YtncbloieejeifaaDoor.P
open Go.RowKit Go.Proofs.YtncbloieejeifaaDoorW.PrintWords Go.Proofs.YtncbloieejeifaaDoorW.PrintLast Go.Proofs.YtncbloieejeifaaDoorW.PrintMore
attribute [local go_sem] max2_int min2_int max_two min_two max_three min_three max_four min_four   -- for this text's walks alone
set_option linter.unusedVariables false
set_option linter.unusedSimpArgs false

/-! ### cruciblelaw2_PathDots: function 10 -/
def cruciblelaw2_PathDots.j0 : Nat → Int → ByteArray → Bool → Option (Bool)
 | 0, _, _, _ => none
 | k + 1, x1, x5, x24 => if x24 = true then (if x5.toList = ([] : List UInt8) then (some true) else (some (decide ((x5.size : Int) > 9)))) else (if 2 + x5.size ≤ 9223372036854775807 then (if x5.size + 2 ≤ 9223372036854775807 then (if x5.size + 1 ≤ 9223372036854775807 then (if 5 + x5.size ≤ 9223372036854775807 then (if x5.size + 5 ≤ 9223372036854775807 then (if x5.size + 3 ≤ 9223372036854775807 then ((some (([(⟨#[46, 47]⟩ : ByteArray) ++ x5, x5 ++ (⟨#[47, 46]⟩ : ByteArray), x5 ++ (⟨#[47]⟩ : ByteArray), (⟨#[120, 47, 46, 46, 47]⟩ : ByteArray) ++ x5, x5 ++ (⟨#[47, 120, 47, 46, 46]⟩ : ByteArray), x5 ++ (⟨#[47, 47, 46]⟩ : ByteArray)] : List ByteArray) : List ByteArray)).bind fun y202 => (if 0 ≤ (wrap64 (Int.tmod (IntKind.u64.wrap (x1)) 6)) then (if (wrap64 (Int.tmod (IntKind.u64.wrap (x1)) 6)) < (y202.length : Int) then ((path_Clean.f k (rdOf ByteArray.empty y202 (wrap64 (Int.tmod (IntKind.u64.wrap (x1)) 6)))).bind fun bt206 => (if bt206.1.toList = x5.toList then ((cruciblelaw0_Num.f bt206.2).bind fun t208 => (some (t208 == 0))) else (some false))) else (none)) else (none))) else (none)) else (none)) else (none)) else (none)) else (none)) else (none))
def cruciblelaw2_PathDots.f (k : Nat) (a0 : ByteArray) (a1 : Int) : Option (Bool) := (cruciblelaw2_awake.f k).bind fun t198 => (if t198 = true then ((path_Clean.f k a0).bind fun bt199 => ((cruciblelaw0_Num.f bt199.2).bind fun t201 => (if t201 = 0 then (cruciblelaw2_PathDots.j0 k a1 bt199.1 (decide ((bt199.1.size : Int) > 9))) else (cruciblelaw2_PathDots.j0 k a1 bt199.1 true)))) else (some false))
set_option maxRecDepth 100000 in
theorem cruciblelaw2_PathDots.mono_l : ∀ k, (∀ y0 y1 y2, LeO (cruciblelaw2_PathDots.j0 k y0 y1 y2) (cruciblelaw2_PathDots.j0 (k + 1) y0 y1 y2))
 | 0 => fun _ _ _ r h => by simp [cruciblelaw2_PathDots.j0] at h
 | k + 1 => by
  have ih0 := cruciblelaw2_PathDots.mono_l k
  ·
   intro y0 y1 y2
   unfold cruciblelaw2_PathDots.j0
   repeat' first
   | (with_reducible exact ih0 _ _ _)
   | (with_reducible exact cruciblelaw2_awake.mono _)
   | (with_reducible exact path_Clean.mono _ _)
   | (with_reducible exact LeO.refl _)
   | (with_reducible exact LeO.none _)
   | (with_reducible refine LeO.ite ?_ ?_)
   | (with_reducible refine LeO.bind ?_ (fun _ => ?_))
   | exact ih0 _ _ _
   | exact cruciblelaw2_awake.mono _
   | exact path_Clean.mono _ _
   | exact LeO.none _
   | refine LeO.ite ?_ ?_
   | refine LeO.bind ?_ (fun _ => ?_)
theorem cruciblelaw2_PathDots.mono : ∀ a0 a1 k, LeO (cruciblelaw2_PathDots.f k a0 a1) (cruciblelaw2_PathDots.f (k + 1) a0 a1) := by
 intro a0 a1 k
 have ih0 := cruciblelaw2_PathDots.mono_l k
 unfold cruciblelaw2_PathDots.f
 repeat' first
   | (with_reducible exact ih0 _ _ _)
   | (with_reducible exact cruciblelaw2_awake.mono _)
   | (with_reducible exact path_Clean.mono _ _)
   | (with_reducible exact LeO.refl _)
   | (with_reducible exact LeO.none _)
   | (with_reducible refine LeO.ite ?_ ?_)
   | (with_reducible refine LeO.bind ?_ (fun _ => ?_))
   | exact ih0 _ _ _
   | exact cruciblelaw2_awake.mono _
   | exact path_Clean.mono _ _
   | exact LeO.none _
   | refine LeO.ite ?_ ?_
   | refine LeO.bind ?_ (fun _ => ?_)
set_option maxHeartbeats 8000000 in
set_option maxRecDepth 100000 in
theorem cruciblelaw2_PathDots.calls (k : Nat) (a0 : ByteArray) (a1 : Int) (r : Bool) (w : World) (h : cruciblelaw2_PathDots.f k a0 a1 = some r) :
  Calls Tryd.prog 10 #[.string a0, .int .i64 a1] w fun e w' => e = .returned (.bool r) ∧ Below w.heap.size w w' := by
 have HB := Aside0.mk (Below.refl w.heap.size w)
 have H : ((cruciblelaw2_awake.f k).bind fun t198 => (if t198 = true then ((path_Clean.f k a0).bind fun bt199 => ((cruciblelaw0_Num.f bt199.2).bind fun t201 => (if t201 = 0 then (cruciblelaw2_PathDots.j0 k a1 bt199.1 (decide ((bt199.1.size : Int) > 9))) else (cruciblelaw2_PathDots.j0 k a1 bt199.1 true)))) else (some false))) = some r := h
 clear h
 replace H := Option.bind_eq_some_iff.mp H
 obtain ⟨t198, A30, H⟩ := H
 replace H : (if t198 = true then ((path_Clean.f k a0).bind fun bt199 => ((cruciblelaw0_Num.f bt199.2).bind fun t201 => (if t201 = 0 then (cruciblelaw2_PathDots.j0 k a1 bt199.1 (decide ((bt199.1.size : Int) > 9))) else (cruciblelaw2_PathDots.j0 k a1 bt199.1 true)))) else (some false)) = some r := H
 have A3 := Aside0.mk A30
 clear A30
 by_cases c4 : t198 = true
 ·
  subst c4
  have H1 : ((path_Clean.f k a0).bind fun bt199 => ((cruciblelaw0_Num.f bt199.2).bind fun t201 => (if t201 = 0 then (cruciblelaw2_PathDots.j0 k a1 bt199.1 (decide ((bt199.1.size : Int) > 9))) else (cruciblelaw2_PathDots.j0 k a1 bt199.1 true)))) = some r := by rw [if_pos rfl] at H; exact H
  clear H
  have H := H1
  clear H1
  replace H := Option.bind_eq_some_iff.mp H
  obtain ⟨⟨t199, t200⟩, A50, H⟩ := H
  replace H : ((cruciblelaw0_Num.f t200).bind fun t201 => (if t201 = 0 then (cruciblelaw2_PathDots.j0 k a1 t199 (decide ((t199.size : Int) > 9))) else (cruciblelaw2_PathDots.j0 k a1 t199 true))) = some r := H
  have A5 := Aside0.mk A50
  clear A50
  have HC6 := Aside0.mk H
  clear H
  go_enter Tryd.func10, Tryd.ntmps10
  go_upto_region 4 with (first | ((with_reducible refine gate_callee (f := 25) rfl ?_); refine goesL_ (some 10) rfl rfl Tryd.func25 (by kernel_rfl) rfl #[] rfl (by (try simp only [List.map_toArray, List.map_cons, List.map_nil]); first | done | rfl | (simp only [List.length_drop, List.length_take]; rfl)) ?_; (with_reducible refine (cruciblelaw2_awake.calls k  true _ A3.out).mono ?_); rintro e w7 ⟨rfl, hb⟩; refine ⟨_, rfl, ?_⟩; have n0_ := Aside0.mk (below_step (by repeat (first | (with_reducible first | exact HB.out | apply below_alloc | apply pw_below_drewN | apply below_drew1) | exact HB.out)) hb); clear HB; have HB := n0_; clear n0_; (try clear hb); (try clear hb2); (try clear hk); (try clear hi)) | ((with_reducible refine gate_callee (f := 23) rfl ?_); refine goesL_ (some 14) rfl rfl Tryd.func23 (by kernel_rfl) rfl #[.string a0] rfl (by (try simp only [List.map_toArray, List.map_cons, List.map_nil]); first | done | rfl | (simp only [List.length_drop, List.length_take]; rfl)) ?_; (with_reducible refine (path_Clean.calls k a0 t199 t200 _ A5.out).mono ?_); rintro e w8 ⟨rfl, hb⟩; refine ⟨_, rfl, ?_⟩; have n0_ := Aside0.mk (below_step (by repeat (first | (with_reducible first | exact HB.out | apply below_alloc | apply pw_below_drewN | apply below_drew1) | exact HB.out)) hb); clear HB; have HB := n0_; clear n0_; (try clear hb); (try clear hb2); (try clear hk); (try clear hi)))
  (try simp only [Act.put, List.setIfInBounds_toArray, List.set_cons_zero, List.set_cons_succ])
  go_cut [24] (fun v24 wc => ∃ (kq : Nat) (x24_5 : Bool), v24 = .bool x24_5 ∧ Aside0 (cruciblelaw2_PathDots.j0 kq a1 t199 x24_5 = some r) ∧ Aside0 (kq ≤ k) ∧ Aside0 (Below w.heap.size w wc))
  case first =>
   have H := HC6.out
   clear HC6
   replace H := Option.bind_eq_some_iff.mp H
   obtain ⟨t201, A90, H⟩ := H
   replace H : (if t201 = 0 then (cruciblelaw2_PathDots.j0 k a1 t199 (decide ((t199.size : Int) > 9))) else (cruciblelaw2_PathDots.j0 k a1 t199 true)) = some r := H
   have A9 := Aside0.mk A90
   clear A90
   by_cases c10 : t201 = 0
   ·
    rw [if_pos c10] at H
    have c10b0 : (t201 == 0) = true := beq_iff_eq.mpr c10
    have c10b1 : (t201 != 0) = false := bne_eq_false_iff_eq.mpr c10
    clear c10
    (first | rw [c10b0] | (simp only [i64_w, i32_w]; rw [c10b0]) | rw [c10b2] | skip)
    have H' := Aside0.mk H
    clear H
    go_wp2_with (first | ((with_reducible refine gate_callee (f := 18) rfl ?_); refine goesL_ (some 18) rfl rfl Tryd.func18 (by kernel_rfl) rfl #[.int .i64 t200] rfl (by (try simp only [List.map_toArray, List.map_cons, List.map_nil]); first | done | rfl | (simp only [List.length_drop, List.length_take]; rfl)) ?_; (with_reducible refine (cruciblelaw0_Num.calls t200 t201 _ A9.out).mono ?_); rintro e w' ⟨rfl, ⟨nd, rfl⟩⟩; refine ⟨_, rfl, ?_⟩))
    go_meet
    case rel => exact ⟨_, (decide ((t199.size : Int) > 9)), (by first | rfl | (simp; done) | (simp [*]; done)), H', ⟨by first | omega | exact Nat.le_refl _⟩, ⟨by repeat (first | (with_reducible first | exact HB.out | apply below_alloc | apply pw_below_drewN | apply below_drew1) | exact HB.out)⟩⟩
   ·
    rw [if_neg c10] at H
    have c10b0 : (t201 == 0) = false := beq_eq_false_iff_ne.mpr c10
    have c10b1 : (t201 != 0) = true := bne_iff_ne.mpr c10
    (first | rw [c10b0] | (simp only [i64_w, i32_w]; rw [c10b0]) | rw [c10b2] | skip)
    have H' := Aside0.mk H
    clear H
    go_wp2_with (first | ((with_reducible refine gate_callee (f := 18) rfl ?_); refine goesL_ (some 18) rfl rfl Tryd.func18 (by kernel_rfl) rfl #[.int .i64 t200] rfl (by (try simp only [List.map_toArray, List.map_cons, List.map_nil]); first | done | rfl | (simp only [List.length_drop, List.length_take]; rfl)) ?_; (with_reducible refine (cruciblelaw0_Num.calls t200 t201 _ A9.out).mono ?_); rintro e w' ⟨rfl, ⟨nd, rfl⟩⟩; refine ⟨_, rfl, ?_⟩))
    go_meet
    case rel => exact ⟨_, (true), (by first | rfl | (simp; done) | (simp [*]; done)), H', ⟨by first | omega | exact Nat.le_refl _⟩, ⟨by repeat (first | (with_reducible first | exact HB.out | apply below_alloc | apply pw_below_drewN | apply below_drew1) | exact HB.out)⟩⟩
  case rest =>
   clear HC6
   try clear c1
   try clear c2
   try clear p2
   try clear c4
   try clear c10
   try clear c10b0
   try clear c10b1
   try clear c10b2
   obtain ⟨kq, x24_5, rfl, HA, HJ5, HB⟩ := hcut
   cases kq with
   | zero => exact absurd HA.out (by simp [cruciblelaw2_PathDots.j0])
   | succ kj5 =>
    have H := HA.out
    clear HA
    simp only [cruciblelaw2_PathDots.j0] at H
    by_cases c11 : x24_5 = true
    ·
     subst c11
     have H1 : (if t199.toList = ([] : List UInt8) then (some true) else (some (decide ((t199.size : Int) > 9)))) = some r := by rw [if_pos rfl] at H; exact H
     clear H
     have H := H1
     clear H1
     by_cases c12 : t199.toList = ([] : List UInt8)
     ·
      rw [if_pos c12] at H
      have c12b0 : (t199.toList == ([] : List UInt8)) = true := beq_iff_eq.mpr c12
      have c12b1 : (t199.toList != ([] : List UInt8)) = false := bne_eq_false_iff_eq.mpr c12
      have c12b2 : t199.toList.isEmpty = true := by simpa using c12
      clear c12
      obtain rfl := Option.some.inj H
      go_wp2
      go_ret
      exact ⟨by first | rfl | (simp [errW_none, errW_some] <;> rfl) | (simp [*, errW_none, errW_some] <;> rfl), by repeat (first | (with_reducible first | exact HB.out | apply below_alloc | apply pw_below_drewN | apply below_drew1) | exact HB.out)⟩
     ·
      rw [if_neg c12] at H
      have c12b0 : (t199.toList == ([] : List UInt8)) = false := beq_eq_false_iff_ne.mpr c12
      have c12b1 : (t199.toList != ([] : List UInt8)) = true := bne_iff_ne.mpr c12
      have c12b2 : t199.toList.isEmpty = false := by simpa using c12
      obtain rfl := Option.some.inj H
      go_wp2
      go_ret
      exact ⟨by first | rfl | (simp [errW_none, errW_some] <;> rfl) | (simp [*, errW_none, errW_some] <;> rfl), by repeat (first | (with_reducible first | exact HB.out | apply below_alloc | apply pw_below_drewN | apply below_drew1) | exact HB.out)⟩
    ·
     replace c11 := Bool.eq_false_iff.mpr c11
     subst c11
     have H1 : (if 2 + t199.size ≤ 9223372036854775807 then (if t199.size + 2 ≤ 9223372036854775807 then (if t199.size + 1 ≤ 9223372036854775807 then (if 5 + t199.size ≤ 9223372036854775807 then (if t199.size + 5 ≤ 9223372036854775807 then (if t199.size + 3 ≤ 9223372036854775807 then ((some (([(⟨#[46, 47]⟩ : ByteArray) ++ t199, t199 ++ (⟨#[47, 46]⟩ : ByteArray), t199 ++ (⟨#[47]⟩ : ByteArray), (⟨#[120, 47, 46, 46, 47]⟩ : ByteArray) ++ t199, t199 ++ (⟨#[47, 120, 47, 46, 46]⟩ : ByteArray), t199 ++ (⟨#[47, 47, 46]⟩ : ByteArray)] : List ByteArray) : List ByteArray)).bind fun y202 => (if 0 ≤ (wrap64 (Int.tmod (IntKind.u64.wrap (a1)) 6)) then (if (wrap64 (Int.tmod (IntKind.u64.wrap (a1)) 6)) < (y202.length : Int) then ((path_Clean.f kj5 (rdOf ByteArray.empty y202 (wrap64 (Int.tmod (IntKind.u64.wrap (a1)) 6)))).bind fun bt206 => (if bt206.1.toList = t199.toList then ((cruciblelaw0_Num.f bt206.2).bind fun t208 => (some (t208 == 0))) else (some false))) else (none)) else (none))) else (none)) else (none)) else (none)) else (none)) else (none)) else (none)) = some r := by rw [if_neg (show ¬ (false = true) by decide)] at H; exact H
     clear H
     have H := H1
     clear H1
     by_cases c13 : 2 + t199.size ≤ 9223372036854775807
     ·
      rw [if_pos c13] at H
      have c13b0 := eq_true c13
      have c13b1 : decide (2 + t199.size ≤ 9223372036854775807) = true := decide_eq_true c13
      try have c13b2 : (9223372036854775807 < 2 + t199.size) = False := eq_false (Nat.not_lt.2 c13)
      by_cases c14 : t199.size + 2 ≤ 9223372036854775807
      ·
       rw [if_pos c14] at H
       have c14b0 := eq_true c14
       have c14b1 : decide (t199.size + 2 ≤ 9223372036854775807) = true := decide_eq_true c14
       try have c14b2 : (9223372036854775807 < t199.size + 2) = False := eq_false (Nat.not_lt.2 c14)
       by_cases c15 : t199.size + 1 ≤ 9223372036854775807
       ·
        rw [if_pos c15] at H
        have c15b0 := eq_true c15
        have c15b1 : decide (t199.size + 1 ≤ 9223372036854775807) = true := decide_eq_true c15
        try have c15b2 : (9223372036854775807 < t199.size + 1) = False := eq_false (Nat.not_lt.2 c15)
        by_cases c16 : 5 + t199.size ≤ 9223372036854775807
        ·
         rw [if_pos c16] at H
         have c16b0 := eq_true c16
         have c16b1 : decide (5 + t199.size ≤ 9223372036854775807) = true := decide_eq_true c16
         try have c16b2 : (9223372036854775807 < 5 + t199.size) = False := eq_false (Nat.not_lt.2 c16)
         by_cases c17 : t199.size + 5 ≤ 9223372036854775807
         ·
          rw [if_pos c17] at H
          have c17b0 := eq_true c17
          have c17b1 : decide (t199.size + 5 ≤ 9223372036854775807) = true := decide_eq_true c17
          try have c17b2 : (9223372036854775807 < t199.size + 5) = False := eq_false (Nat.not_lt.2 c17)
          by_cases c18 : t199.size + 3 ≤ 9223372036854775807
          ·
           rw [if_pos c18] at H
           have c18b0 := eq_true c18
           have c18b1 : decide (t199.size + 3 ≤ 9223372036854775807) = true := decide_eq_true c18
           try have c18b2 : (9223372036854775807 < t199.size + 3) = False := eq_false (Nat.not_lt.2 c18)
           obtain ⟨y202, hy202⟩ : ∃ y_ : List ByteArray, y_ = (([(⟨#[46, 47]⟩ : ByteArray) ++ t199, t199 ++ (⟨#[47, 46]⟩ : ByteArray), t199 ++ (⟨#[47]⟩ : ByteArray), (⟨#[120, 47, 46, 46, 47]⟩ : ByteArray) ++ t199, t199 ++ (⟨#[47, 120, 47, 46, 46]⟩ : ByteArray), t199 ++ (⟨#[47, 47, 46]⟩ : ByteArray)] : List ByteArray)) := ⟨_, rfl⟩
           replace H : (if 0 ≤ (wrap64 (Int.tmod (IntKind.u64.wrap (a1)) 6)) then (if (wrap64 (Int.tmod (IntKind.u64.wrap (a1)) 6)) < (y202.length : Int) then ((path_Clean.f kj5 (rdOf ByteArray.empty y202 (wrap64 (Int.tmod (IntKind.u64.wrap (a1)) 6)))).bind fun bt206 => (if bt206.1.toList = t199.toList then ((cruciblelaw0_Num.f bt206.2).bind fun t208 => (some (t208 == 0))) else (some false))) else (none)) else (none)) = some r := by first | (rw [hy202]; with_reducible exact H) | (have H2_ := (Option.bind_some _ _).symm.trans H; rw [hy202]; with_reducible exact H2_) | (have H2_ := (Option.bind_some _ _).symm.trans H; with_reducible exact H2_) | with_reducible exact H | (rw [hy202]; exact H) | exact H
           have Ny202 := Aside0.mk hy202
           clear hy202
           obtain ⟨ji19, hji19⟩ : ∃ j_ : Int, (wrap64 (Int.tmod (IntKind.u64.wrap (a1)) 6)) = j_ := ⟨_, rfl⟩
           replace H : (if 0 ≤ (ji19) then (if (ji19) < (y202.length : Int) then ((path_Clean.f kj5 (rdOf ByteArray.empty y202 (ji19))).bind fun bt206 => (if bt206.1.toList = t199.toList then ((cruciblelaw0_Num.f bt206.2).bind fun t208 => (some (t208 == 0))) else (some false))) else (none)) else (none)) = some r := by first | (rw [hji19] at H; exact H) | (simp only [hji19] at H ⊢; exact H)
           have hji19w : (IntKind.i64.wrap (Int.tmod (IntKind.u64.wrap (a1)) 6)) = ji19 := (i64_w _).trans hji19
           by_cases c20 : 0 ≤ (ji19)
           ·
            rw [if_pos c20] at H
            have c20b0 : decide (0 ≤ (ji19)) = true := decide_eq_true c20
            clear c20
            by_cases c21 : (ji19) < (y202.length : Int)
            ·
             rw [if_pos c21] at H
             have c21b0 : decide ((ji19) < (y202.length : Int)) = true := decide_eq_true c21
             clear c21
             replace H := Option.bind_eq_some_iff.mp H
             obtain ⟨⟨t206, t207⟩, A220, H⟩ := H
             replace H : (if t206.toList = t199.toList then ((cruciblelaw0_Num.f t207).bind fun t208 => (some (t208 == 0))) else (some false)) = some r := H
             have A22 := Aside0.mk A220
             clear A220
             by_cases c23 : t206.toList = t199.toList
             ·
              rw [if_pos c23] at H
              have c23b0 : (t206.toList == t199.toList) = true := beq_iff_eq.mpr c23
              have c23b1 : (t206.toList != t199.toList) = false := bne_eq_false_iff_eq.mpr c23
              clear c23
              replace H := Option.bind_eq_some_iff.mp H
              obtain ⟨t208, A240, H⟩ := H
              replace H : (some (t208 == 0)) = some r := H
              have A24 := Aside0.mk A240
              clear A240
              obtain rfl := Option.some.inj H
              go_wp2_with (first | ((with_reducible refine gate_dst (N := 44) rfl ?_); (try (refine gate_guard (by rfl) ?_; dsimp only)); refine Kd.R_lit Kd.string _ 9 ?hg (N := 44) ?hd (xs := ([(⟨#[46, 47]⟩ : ByteArray) ++ t199, t199 ++ (⟨#[47, 46]⟩ : ByteArray), t199 ++ (⟨#[47]⟩ : ByteArray), (⟨#[120, 47, 46, 46, 47]⟩ : ByteArray) ++ t199, t199 ++ (⟨#[47, 120, 47, 46, 46]⟩ : ByteArray), t199 ++ (⟨#[47, 47, 46]⟩ : ByteArray)] : List ByteArray)) (inner := [.string ((⟨#[46, 47]⟩ : ByteArray) ++ t199), .string (t199 ++ (⟨#[47, 46]⟩ : ByteArray)), .string (t199 ++ (⟨#[47]⟩ : ByteArray)), .string ((⟨#[120, 47, 46, 46, 47]⟩ : ByteArray) ++ t199), .string (t199 ++ (⟨#[47, 120, 47, 46, 46]⟩ : ByteArray)), .string (t199 ++ (⟨#[47, 47, 46]⟩ : ByteArray))]) (ok := fun _ => True) (okp := fun _ => True) ?hr ?hp (fun _ hk => hk) trivial (Below.refl _ _) (Nat.le_refl _) (by simp) ?_; (case hd => rfl); (case hg => rfl); (case hr => first | (go_simp; done) | (go_simp; rfl)); (case hp => exact (Reps.one (show Kd.M Kd.string _ _ _ ((⟨#[46, 47]⟩ : ByteArray) ++ t199) [.string ((⟨#[46, 47]⟩ : ByteArray) ++ t199)] from rfl) (Reps.one (show Kd.M Kd.string _ _ _ (t199 ++ (⟨#[47, 46]⟩ : ByteArray)) [.string (t199 ++ (⟨#[47, 46]⟩ : ByteArray))] from rfl) (Reps.one (show Kd.M Kd.string _ _ _ (t199 ++ (⟨#[47]⟩ : ByteArray)) [.string (t199 ++ (⟨#[47]⟩ : ByteArray))] from rfl) (Reps.one (show Kd.M Kd.string _ _ _ ((⟨#[120, 47, 46, 46, 47]⟩ : ByteArray) ++ t199) [.string ((⟨#[120, 47, 46, 46, 47]⟩ : ByteArray) ++ t199)] from rfl) (Reps.one (show Kd.M Kd.string _ _ _ (t199 ++ (⟨#[47, 120, 47, 46, 46]⟩ : ByteArray)) [.string (t199 ++ (⟨#[47, 120, 47, 46, 46]⟩ : ByteArray))] from rfl) (Reps.one (show Kd.M Kd.string _ _ _ (t199 ++ (⟨#[47, 47, 46]⟩ : ByteArray)) [.string (t199 ++ (⟨#[47, 47, 46]⟩ : ByteArray))] from rfl) (Reps.none _ _)))))))); intro v203 w25 ho26 hb hg_ hnew_; clear hg_ hnew_; (first | rw [← Ny202.out] at ho26 | (simp only [Int.reduceToNat] at ho26; rw [← Ny202.out] at ho26)); have n0_ := Aside0.mk (Kd.R_lower ho26 (below_size (by repeat (first | (with_reducible first | exact HB.out | apply below_alloc | apply pw_below_drewN | apply below_drew1) | exact HB.out)))); have n1_ := Aside0.mk (below_step (by repeat (first | (with_reducible first | exact HB.out | apply below_alloc | apply pw_below_drewN | apply below_drew1) | exact HB.out)) hb); clear HB; have HO204 := n0_; have HB := n1_; clear n0_ n1_; clear hb ho26; obtain ⟨Ao27, co27, eo27⟩ := Kd.R_slice HO204.out; subst eo27; have p205 : 0 ≤ ((ji19) : Int) := of_decide_eq_true (by first | (with_reducible assumption) | assumption); have q205 : (ji19) < (y202.length : Int) := of_decide_eq_true (by first | (with_reducible assumption) | assumption); obtain ⟨ad205, e205, hx205_0⟩ := Kd.at_string (Kd.R_reads' HO204.out).2.2 (ji19) p205 q205; cases e205; replace p205 := eq_true p205; replace q205 := eq_true q205) | ((with_reducible refine gate_callee (f := 23) rfl ?_); refine goesL_ (some 53) rfl rfl Tryd.func23 (by kernel_rfl) rfl #[.string (rdOf ByteArray.empty y202 (ji19))] rfl (by (try simp only [List.map_toArray, List.map_cons, List.map_nil]); first | done | (simp only [hji19]; rfl) | rfl | (simp only [List.length_drop, List.length_take]; rfl)) ?_; (with_reducible refine (path_Clean.calls kj5 (rdOf ByteArray.empty y202 (ji19)) t206 t207 _ A22.out).mono ?_); rintro e w28 ⟨rfl, hb⟩; refine ⟨_, rfl, ?_⟩; have n0_ := Aside0.mk (Kd.R_below (by (with_reducible repeat (first | apply Kd.R_alloc | apply Kd.R_drewN | apply Kd.R_drew)); exact HO204.out) hb); have n1_ := Aside0.mk (below_step (by repeat (first | (with_reducible first | exact HB.out | apply below_alloc | apply pw_below_drewN | apply below_drew1) | exact HB.out)) hb); clear HO204; clear HB; have HO204 := n0_; have HB := n1_; clear n0_ n1_; (try clear hb); (try clear hb2); (try clear hk); (try clear hi)) | (go_at_call 18; (with_reducible refine (cruciblelaw0_Num.calls t207 t208 _ A24.out).mono ?_); rintro e w' ⟨rfl, ⟨nd, rfl⟩⟩))
              go_ret
              exact ⟨by first | rfl | (simp [errW_none, errW_some] <;> rfl) | (simp only [← hji19]; first | rfl | (simp [errW_none, errW_some] <;> rfl)) | (simp [*, errW_none, errW_some] <;> rfl), by repeat (first | (with_reducible first | exact HB.out | apply below_alloc | apply pw_below_drewN | apply below_drew1) | exact HB.out)⟩
             ·
              rw [if_neg c23] at H
              have c23b0 : (t206.toList == t199.toList) = false := beq_eq_false_iff_ne.mpr c23
              have c23b1 : (t206.toList != t199.toList) = true := bne_iff_ne.mpr c23
              obtain rfl := Option.some.inj H
              go_wp2_with (first | ((with_reducible refine gate_dst (N := 44) rfl ?_); (try (refine gate_guard (by rfl) ?_; dsimp only)); refine Kd.R_lit Kd.string _ 9 ?hg (N := 44) ?hd (xs := ([(⟨#[46, 47]⟩ : ByteArray) ++ t199, t199 ++ (⟨#[47, 46]⟩ : ByteArray), t199 ++ (⟨#[47]⟩ : ByteArray), (⟨#[120, 47, 46, 46, 47]⟩ : ByteArray) ++ t199, t199 ++ (⟨#[47, 120, 47, 46, 46]⟩ : ByteArray), t199 ++ (⟨#[47, 47, 46]⟩ : ByteArray)] : List ByteArray)) (inner := [.string ((⟨#[46, 47]⟩ : ByteArray) ++ t199), .string (t199 ++ (⟨#[47, 46]⟩ : ByteArray)), .string (t199 ++ (⟨#[47]⟩ : ByteArray)), .string ((⟨#[120, 47, 46, 46, 47]⟩ : ByteArray) ++ t199), .string (t199 ++ (⟨#[47, 120, 47, 46, 46]⟩ : ByteArray)), .string (t199 ++ (⟨#[47, 47, 46]⟩ : ByteArray))]) (ok := fun _ => True) (okp := fun _ => True) ?hr ?hp (fun _ hk => hk) trivial (Below.refl _ _) (Nat.le_refl _) (by simp) ?_; (case hd => rfl); (case hg => rfl); (case hr => first | (go_simp; done) | (go_simp; rfl)); (case hp => exact (Reps.one (show Kd.M Kd.string _ _ _ ((⟨#[46, 47]⟩ : ByteArray) ++ t199) [.string ((⟨#[46, 47]⟩ : ByteArray) ++ t199)] from rfl) (Reps.one (show Kd.M Kd.string _ _ _ (t199 ++ (⟨#[47, 46]⟩ : ByteArray)) [.string (t199 ++ (⟨#[47, 46]⟩ : ByteArray))] from rfl) (Reps.one (show Kd.M Kd.string _ _ _ (t199 ++ (⟨#[47]⟩ : ByteArray)) [.string (t199 ++ (⟨#[47]⟩ : ByteArray))] from rfl) (Reps.one (show Kd.M Kd.string _ _ _ ((⟨#[120, 47, 46, 46, 47]⟩ : ByteArray) ++ t199) [.string ((⟨#[120, 47, 46, 46, 47]⟩ : ByteArray) ++ t199)] from rfl) (Reps.one (show Kd.M Kd.string _ _ _ (t199 ++ (⟨#[47, 120, 47, 46, 46]⟩ : ByteArray)) [.string (t199 ++ (⟨#[47, 120, 47, 46, 46]⟩ : ByteArray))] from rfl) (Reps.one (show Kd.M Kd.string _ _ _ (t199 ++ (⟨#[47, 47, 46]⟩ : ByteArray)) [.string (t199 ++ (⟨#[47, 47, 46]⟩ : ByteArray))] from rfl) (Reps.none _ _)))))))); intro v203 w29 ho30 hb hg_ hnew_; clear hg_ hnew_; (first | rw [← Ny202.out] at ho30 | (simp only [Int.reduceToNat] at ho30; rw [← Ny202.out] at ho30)); have n0_ := Aside0.mk (Kd.R_lower ho30 (below_size (by repeat (first | (with_reducible first | exact HB.out | apply below_alloc | apply pw_below_drewN | apply below_drew1) | exact HB.out)))); have n1_ := Aside0.mk (below_step (by repeat (first | (with_reducible first | exact HB.out | apply below_alloc | apply pw_below_drewN | apply below_drew1) | exact HB.out)) hb); clear HB; have HO204 := n0_; have HB := n1_; clear n0_ n1_; clear hb ho30; obtain ⟨Ao31, co31, eo31⟩ := Kd.R_slice HO204.out; subst eo31; have p205 : 0 ≤ ((ji19) : Int) := of_decide_eq_true (by first | (with_reducible assumption) | assumption); have q205 : (ji19) < (y202.length : Int) := of_decide_eq_true (by first | (with_reducible assumption) | assumption); obtain ⟨ad205, e205, hx205_0⟩ := Kd.at_string (Kd.R_reads' HO204.out).2.2 (ji19) p205 q205; cases e205; replace p205 := eq_true p205; replace q205 := eq_true q205) | ((with_reducible refine gate_callee (f := 23) rfl ?_); refine goesL_ (some 53) rfl rfl Tryd.func23 (by kernel_rfl) rfl #[.string (rdOf ByteArray.empty y202 (ji19))] rfl (by (try simp only [List.map_toArray, List.map_cons, List.map_nil]); first | done | (simp only [hji19]; rfl) | rfl | (simp only [List.length_drop, List.length_take]; rfl)) ?_; (with_reducible refine (path_Clean.calls kj5 (rdOf ByteArray.empty y202 (ji19)) t206 t207 _ A22.out).mono ?_); rintro e w32 ⟨rfl, hb⟩; refine ⟨_, rfl, ?_⟩; have n0_ := Aside0.mk (Kd.R_below (by (with_reducible repeat (first | apply Kd.R_alloc | apply Kd.R_drewN | apply Kd.R_drew)); exact HO204.out) hb); have n1_ := Aside0.mk (below_step (by repeat (first | (with_reducible first | exact HB.out | apply below_alloc | apply pw_below_drewN | apply below_drew1) | exact HB.out)) hb); clear HO204; clear HB; have HO204 := n0_; have HB := n1_; clear n0_ n1_; (try clear hb); (try clear hb2); (try clear hk); (try clear hi)))
              go_ret
              exact ⟨by first | rfl | (simp [errW_none, errW_some] <;> rfl) | (simp only [← hji19]; first | rfl | (simp [errW_none, errW_some] <;> rfl)) | (simp [*, errW_none, errW_some] <;> rfl), by repeat (first | (with_reducible first | exact HB.out | apply below_alloc | apply pw_below_drewN | apply below_drew1) | exact HB.out)⟩
            ·
             rw [if_neg c21] at H
             exact absurd H (by simp)
           ·
            rw [if_neg c20] at H
            exact absurd H (by simp)
          ·
           rw [if_neg c18] at H
           exact absurd H (by simp)
         ·
          rw [if_neg c17] at H
          exact absurd H (by simp)
        ·
         rw [if_neg c16] at H
         exact absurd H (by simp)
       ·
        rw [if_neg c15] at H
        exact absurd H (by simp)
      ·
       rw [if_neg c14] at H
       exact absurd H (by simp)
     ·
      rw [if_neg c13] at H
      exact absurd H (by simp)
 ·
  replace c4 := Bool.eq_false_iff.mpr c4
  subst c4
  have H1 : (some false) = some r := by rw [if_neg (show ¬ (false = true) by decide)] at H; exact H
  clear H
  have H := H1
  clear H1
  obtain rfl := Option.some.inj H
  go_enter Tryd.func10, Tryd.ntmps10
  go_wp2_with (first | ((with_reducible refine gate_callee (f := 25) rfl ?_); refine goesL_ (some 10) rfl rfl Tryd.func25 (by kernel_rfl) rfl #[] rfl (by (try simp only [List.map_toArray, List.map_cons, List.map_nil]); first | done | rfl | (simp only [List.length_drop, List.length_take]; rfl)) ?_; (with_reducible refine (cruciblelaw2_awake.calls k  false _ A3.out).mono ?_); rintro e w33 ⟨rfl, hb⟩; refine ⟨_, rfl, ?_⟩; have n0_ := Aside0.mk (below_step (by repeat (first | (with_reducible first | exact HB.out | apply below_alloc | apply pw_below_drewN | apply below_drew1) | exact HB.out)) hb); clear HB; have HB := n0_; clear n0_; (try clear hb); (try clear hb2); (try clear hk); (try clear hi)))
  go_ret
  exact ⟨by first | rfl | (simp [errW_none, errW_some] <;> rfl) | (simp [*, errW_none, errW_some] <;> rfl), by repeat (first | (with_reducible first | exact HB.out | apply below_alloc | apply pw_below_drewN | apply below_drew1) | exact HB.out)⟩

/-- THE ONE PURE STATEMENT of cruciblelaw2_PathDots: yours. -/
def cruciblelaw2_PathDots.Pure : Prop := ∀ (a0 : ByteArray) (a1 : Int), a0.size ≤ 140737488351232 → (Lit.int .i64 a1).wf = true → ∃ k, cruciblelaw2_PathDots.f k a0 a1 = some true
theorem cruciblelaw2_PathDots.walk (P : cruciblelaw2_PathDots.Pure) (a0 : ByteArray) (a1 : Int) (w : World) (w0 : a0.size ≤ 140737488351232) (w1 : (Lit.int .i64 a1).wf = true) :
  Calls Tryd.prog 10 #[.string a0, .int .i64 a1] w fun e w' => e = .returned (.bool true) ∧ Below w.heap.size w w' := by
 obtain ⟨k, h⟩ := P a0 a1 w0 w1
 refine (cruciblelaw2_PathDots.calls k a0 a1 true w h).mono ?_
 rintro e w' ⟨rfl, hd⟩
 exact ⟨rfl, hd⟩

/-! ### path_Is: function 45 -/
def path_Is.f (k : Nat) (a0 : ByteArray) : Option (Bool) := (path_Clean.f k a0).bind fun bt209 => (if bt209.2 = 0 then (some (bt209.1.toList == a0.toList)) else (some false))
theorem path_Is.mono : ∀ a0 k, LeO (path_Is.f k a0) (path_Is.f (k + 1) a0) := by
 intro a0 k
 unfold path_Is.f
 repeat' first
   | (with_reducible exact path_Clean.mono _ _)
   | (with_reducible exact LeO.refl _)
   | (with_reducible exact LeO.none _)
   | (with_reducible refine LeO.ite ?_ ?_)
   | (with_reducible refine LeO.bind ?_ (fun _ => ?_))
   | exact path_Clean.mono _ _
   | exact LeO.none _
   | refine LeO.ite ?_ ?_
   | refine LeO.bind ?_ (fun _ => ?_)
set_option maxHeartbeats 8000000 in
set_option maxRecDepth 100000 in
theorem path_Is.calls (k : Nat) (a0 : ByteArray) (r : Bool) (w : World) (h : path_Is.f k a0 = some r) :
  Calls Tryd.prog 45 #[.string a0] w fun e w' => e = .returned (.bool r) ∧ Below w.heap.size w w' := by
 have HB := Aside0.mk (Below.refl w.heap.size w)
 have H : ((path_Clean.f k a0).bind fun bt209 => (if bt209.2 = 0 then (some (bt209.1.toList == a0.toList)) else (some false))) = some r := h
 clear h
 replace H := Option.bind_eq_some_iff.mp H
 obtain ⟨⟨t209, t210⟩, A20, H⟩ := H
 replace H : (if t210 = 0 then (some (t209.toList == a0.toList)) else (some false)) = some r := H
 have A2 := Aside0.mk A20
 clear A20
 by_cases c3 : t210 = 0
 ·
  rw [if_pos c3] at H
  have c3b0 : (t210 == 0) = true := beq_iff_eq.mpr c3
  have c3b1 : (t210 != 0) = false := bne_eq_false_iff_eq.mpr c3
  clear c3
  obtain rfl := Option.some.inj H
  go_enter Tryd.func45, Tryd.ntmps45
  go_wp2_with (first | ((with_reducible refine gate_callee (f := 23) rfl ?_); refine goesL_ (some 7) rfl rfl Tryd.func23 (by kernel_rfl) rfl #[.string a0] rfl (by (try simp only [List.map_toArray, List.map_cons, List.map_nil]); first | done | rfl | (simp only [List.length_drop, List.length_take]; rfl)) ?_; (with_reducible refine (path_Clean.calls k a0 t209 t210 _ A2.out).mono ?_); rintro e w4 ⟨rfl, hb⟩; refine ⟨_, rfl, ?_⟩; have n0_ := Aside0.mk (below_step (by repeat (first | (with_reducible first | exact HB.out | apply below_alloc | apply pw_below_drewN | apply below_drew1) | exact HB.out)) hb); clear HB; have HB := n0_; clear n0_; (try clear hb); (try clear hb2); (try clear hk); (try clear hi)))
  go_ret
  exact ⟨by first | rfl | (simp [errW_none, errW_some] <;> rfl) | (simp [*, errW_none, errW_some] <;> rfl), by repeat (first | (with_reducible first | exact HB.out | apply below_alloc | apply pw_below_drewN | apply below_drew1) | exact HB.out)⟩
 ·
  rw [if_neg c3] at H
  have c3b0 : (t210 == 0) = false := beq_eq_false_iff_ne.mpr c3
  have c3b1 : (t210 != 0) = true := bne_iff_ne.mpr c3
  obtain rfl := Option.some.inj H
  go_enter Tryd.func45, Tryd.ntmps45
  go_wp2_with (first | ((with_reducible refine gate_callee (f := 23) rfl ?_); refine goesL_ (some 7) rfl rfl Tryd.func23 (by kernel_rfl) rfl #[.string a0] rfl (by (try simp only [List.map_toArray, List.map_cons, List.map_nil]); first | done | rfl | (simp only [List.length_drop, List.length_take]; rfl)) ?_; (with_reducible refine (path_Clean.calls k a0 t209 t210 _ A2.out).mono ?_); rintro e w5 ⟨rfl, hb⟩; refine ⟨_, rfl, ?_⟩; have n0_ := Aside0.mk (below_step (by repeat (first | (with_reducible first | exact HB.out | apply below_alloc | apply pw_below_drewN | apply below_drew1) | exact HB.out)) hb); clear HB; have HB := n0_; clear n0_; (try clear hb); (try clear hb2); (try clear hk); (try clear hi)))
  go_ret
  exact ⟨by first | rfl | (simp [errW_none, errW_some] <;> rfl) | (simp [*, errW_none, errW_some] <;> rfl), by repeat (first | (with_reducible first | exact HB.out | apply below_alloc | apply pw_below_drewN | apply below_drew1) | exact HB.out)⟩

end Go.Proofs.YtncbloieejeifaaDoor.P
