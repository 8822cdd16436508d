-- Made by a program of this work's own (wip/myprint.py) over the kit's print; leaves by hand.
import Derived.Test.YtncbloieejeifaaDoorP0
import Derived.Test.YtncbloieejeifaaDoorP7
import Derived.Test.YtncbloieejeifaaDoorP19
import Derived.Test.YtncbloieejeifaaDoorP21
import Derived.Test.YtncbloieejeifaaDoorP24
namespace Go.Proofs.YtncbloieejeifaaDoor.P
open Go.RowKit Go.Proofs.YtncbloieejeifaaDoorW.PrintWords Go.Proofs.YtncbloieejeifaaDoorW.PrintLast Go.Proofs.YtncbloieejeifaaDoorW.PrintMore
attribute [local go_sem] max2_int min2_int max_two min_two max_three min_three max_four min_four   -- for this text's walks alone
set_option linter.unusedVariables false
set_option linter.unusedSimpArgs false

/-! ### cruciblelaw17_DepfileUnlike: function 13 -/
def cruciblelaw17_DepfileUnlike.j0 : Nat → ByteArray → List ByteArray → ByteArray → List ByteArray → ByteArray → Int → ByteArray → Int → Bool → Option (Bool)
 | 0, _, _, _, _, _, _, _, _, _ => none
 | k + 1, x0, x1, x2, x3, x9, x10, x11, x12, x36 => if x36 = true then ((cruciblelaw0_Num.f x10).bind fun t301 => (if t301 = 0 then ((cruciblelaw0_Num.f x12).bind fun t302 => (if t302 = 0 then (some true) else (some (x11.toList == ([] : List UInt8))))) else (if x9.toList = ([] : List UInt8) then ((cruciblelaw0_Num.f x12).bind fun t303 => (if t303 = 0 then (some true) else (some (x11.toList == ([] : List UInt8))))) else (some false)))) else ((crucibleref12_PutDepfile.f k x0 x1).bind fun bt304 => (if bt304.2 = 0 then (if x0.toList = x2.toList then ((cruciblelaw0_SameTexts.f k x1 x3).bind fun t306 => (some ((x9.toList == x11.toList) == t306))) else (some ((x9.toList == x11.toList) == false))) else (some false)))
def cruciblelaw17_DepfileUnlike.f (k : Nat) (a0 : ByteArray) (l1 : List ByteArray) (a2 : ByteArray) (l3 : List ByteArray) : Option (Bool) := (cruciblelaw17_awake.f k).bind fun t294 => (if t294 = true then ((depfile_Put.f k a0 l1).bind fun bt295 => ((depfile_Put.f k a2 l3).bind fun bt297 => ((cruciblelaw0_Num.f bt295.2).bind fun t299 => (if t299 = 0 then ((cruciblelaw0_Num.f bt297.2).bind fun t300 => (cruciblelaw17_DepfileUnlike.j0 k a0 l1 a2 l3 bt295.1 bt295.2 bt297.1 bt297.2 (t300 != 0))) else (cruciblelaw17_DepfileUnlike.j0 k a0 l1 a2 l3 bt295.1 bt295.2 bt297.1 bt297.2 true))))) else (some false))
set_option maxRecDepth 100000 in
theorem cruciblelaw17_DepfileUnlike.mono_l : ∀ k, (∀ y0 y1 y2 y3 y4 y5 y6 y7 y8, LeO (cruciblelaw17_DepfileUnlike.j0 k y0 y1 y2 y3 y4 y5 y6 y7 y8) (cruciblelaw17_DepfileUnlike.j0 (k + 1) y0 y1 y2 y3 y4 y5 y6 y7 y8))
 | 0 => fun _ _ _ _ _ _ _ _ _ r h => by simp [cruciblelaw17_DepfileUnlike.j0] at h
 | k + 1 => by
  have ih0 := cruciblelaw17_DepfileUnlike.mono_l k
  ·
   intro y0 y1 y2 y3 y4 y5 y6 y7 y8
   unfold cruciblelaw17_DepfileUnlike.j0
   repeat' first
   | (with_reducible exact ih0 _ _ _ _ _ _ _ _ _)
   | (with_reducible exact cruciblelaw0_SameTexts.mono _ _ _)
   | (with_reducible exact cruciblelaw17_awake.mono _)
   | (with_reducible exact crucibleref12_PutDepfile.mono _ _ _)
   | (with_reducible exact depfile_Put.mono _ _ _)
   | (with_reducible exact LeO.refl _)
   | (with_reducible exact LeO.none _)
   | (with_reducible refine LeO.ite ?_ ?_)
   | (with_reducible refine LeO.bind ?_ (fun _ => ?_))
   | exact ih0 _ _ _ _ _ _ _ _ _
   | exact cruciblelaw0_SameTexts.mono _ _ _
   | exact cruciblelaw17_awake.mono _
   | exact crucibleref12_PutDepfile.mono _ _ _
   | exact depfile_Put.mono _ _ _
   | exact LeO.none _
   | refine LeO.ite ?_ ?_
   | refine LeO.bind ?_ (fun _ => ?_)
theorem cruciblelaw17_DepfileUnlike.mono : ∀ a0 a1 a2 a3 k, LeO (cruciblelaw17_DepfileUnlike.f k a0 a1 a2 a3) (cruciblelaw17_DepfileUnlike.f (k + 1) a0 a1 a2 a3) := by
 intro a0 a1 a2 a3 k
 have ih0 := cruciblelaw17_DepfileUnlike.mono_l k
 unfold cruciblelaw17_DepfileUnlike.f
 repeat' first
   | (with_reducible exact ih0 _ _ _ _ _ _ _ _ _)
   | (with_reducible exact cruciblelaw0_SameTexts.mono _ _ _)
   | (with_reducible exact cruciblelaw17_awake.mono _)
   | (with_reducible exact crucibleref12_PutDepfile.mono _ _ _)
   | (with_reducible exact depfile_Put.mono _ _ _)
   | (with_reducible exact LeO.refl _)
   | (with_reducible exact LeO.none _)
   | (with_reducible refine LeO.ite ?_ ?_)
   | (with_reducible refine LeO.bind ?_ (fun _ => ?_))
   | exact ih0 _ _ _ _ _ _ _ _ _
   | exact cruciblelaw0_SameTexts.mono _ _ _
   | exact cruciblelaw17_awake.mono _
   | exact crucibleref12_PutDepfile.mono _ _ _
   | exact depfile_Put.mono _ _ _
   | exact LeO.none _
   | refine LeO.ite ?_ ?_
   | refine LeO.bind ?_ (fun _ => ?_)
set_option maxHeartbeats 8000000 in
set_option maxRecDepth 100000 in
theorem cruciblelaw17_DepfileUnlike.calls (k : Nat) (a0 : ByteArray) (A1 : Option Addr) (c1 : Nat) (l1 : List ByteArray) (a2 : ByteArray) (A3 : Option Addr) (c3 : Nat) (l3 : List ByteArray) (r : Bool) (w : World) (hr1 : Kd.C Kd.string w A1 l1.length l1) (hc1 : l1.length ≤ c1) (hr3 : Kd.C Kd.string w A3 l3.length l3) (hc3 : l3.length ≤ c3) (h : cruciblelaw17_DepfileUnlike.f k a0 l1 a2 l3 = some r) :
  Calls Tryd.prog 13 #[.string a0, .slice A1 l1.length c1, .string a2, .slice A3 l3.length c3] w fun e w' => e = .returned (.bool r) ∧ Below w.heap.size w w' := by
 have HR1 := Aside0.mk hr1
 have HC1 := Aside0.mk hc1
 clear hr1 hc1
 have HR3 := Aside0.mk hr3
 have HC3 := Aside0.mk hc3
 clear hr3 hc3
 have HB := Aside0.mk (Below.refl w.heap.size w)
 have H : ((cruciblelaw17_awake.f k).bind fun t294 => (if t294 = true then ((depfile_Put.f k a0 l1).bind fun bt295 => ((depfile_Put.f k a2 l3).bind fun bt297 => ((cruciblelaw0_Num.f bt295.2).bind fun t299 => (if t299 = 0 then ((cruciblelaw0_Num.f bt297.2).bind fun t300 => (cruciblelaw17_DepfileUnlike.j0 k a0 l1 a2 l3 bt295.1 bt295.2 bt297.1 bt297.2 (t300 != 0))) else (cruciblelaw17_DepfileUnlike.j0 k a0 l1 a2 l3 bt295.1 bt295.2 bt297.1 bt297.2 true))))) else (some false))) = some r := h
 clear h
 replace H := Option.bind_eq_some_iff.mp H
 obtain ⟨t294, A50, H⟩ := H
 replace H : (if t294 = true then ((depfile_Put.f k a0 l1).bind fun bt295 => ((depfile_Put.f k a2 l3).bind fun bt297 => ((cruciblelaw0_Num.f bt295.2).bind fun t299 => (if t299 = 0 then ((cruciblelaw0_Num.f bt297.2).bind fun t300 => (cruciblelaw17_DepfileUnlike.j0 k a0 l1 a2 l3 bt295.1 bt295.2 bt297.1 bt297.2 (t300 != 0))) else (cruciblelaw17_DepfileUnlike.j0 k a0 l1 a2 l3 bt295.1 bt295.2 bt297.1 bt297.2 true))))) else (some false)) = some r := H
 have A5 := Aside0.mk A50
 clear A50
 by_cases c6 : t294 = true
 ·
  subst c6
  have H1 : ((depfile_Put.f k a0 l1).bind fun bt295 => ((depfile_Put.f k a2 l3).bind fun bt297 => ((cruciblelaw0_Num.f bt295.2).bind fun t299 => (if t299 = 0 then ((cruciblelaw0_Num.f bt297.2).bind fun t300 => (cruciblelaw17_DepfileUnlike.j0 k a0 l1 a2 l3 bt295.1 bt295.2 bt297.1 bt297.2 (t300 != 0))) else (cruciblelaw17_DepfileUnlike.j0 k a0 l1 a2 l3 bt295.1 bt295.2 bt297.1 bt297.2 true))))) = some r := by rw [if_pos rfl] at H; exact H
  clear H
  have H := H1
  clear H1
  replace H := Option.bind_eq_some_iff.mp H
  obtain ⟨⟨t295, t296⟩, A70, H⟩ := H
  replace H : ((depfile_Put.f k a2 l3).bind fun bt297 => ((cruciblelaw0_Num.f t296).bind fun t299 => (if t299 = 0 then ((cruciblelaw0_Num.f bt297.2).bind fun t300 => (cruciblelaw17_DepfileUnlike.j0 k a0 l1 a2 l3 t295 t296 bt297.1 bt297.2 (t300 != 0))) else (cruciblelaw17_DepfileUnlike.j0 k a0 l1 a2 l3 t295 t296 bt297.1 bt297.2 true)))) = some r := H
  have A7 := Aside0.mk A70
  clear A70
  replace H := Option.bind_eq_some_iff.mp H
  obtain ⟨⟨t297, t298⟩, A80, H⟩ := H
  replace H : ((cruciblelaw0_Num.f t296).bind fun t299 => (if t299 = 0 then ((cruciblelaw0_Num.f t298).bind fun t300 => (cruciblelaw17_DepfileUnlike.j0 k a0 l1 a2 l3 t295 t296 t297 t298 (t300 != 0))) else (cruciblelaw17_DepfileUnlike.j0 k a0 l1 a2 l3 t295 t296 t297 t298 true))) = some r := H
  have A8 := Aside0.mk A80
  clear A80
  have HC9 := Aside0.mk H
  clear H
  go_enter Tryd.func13, Tryd.ntmps13
  go_upto_region 5 with (first | ((with_reducible refine gate_callee (f := 32) rfl ?_); refine goesL_ (some 15) rfl rfl Tryd.func32 (by kernel_rfl) rfl #[] rfl (by (try simp only [List.map_toArray, List.map_cons, List.map_nil]); first | done | rfl | (simp only [List.length_drop, List.length_take]; rfl)) ?_; (with_reducible refine (cruciblelaw17_awake.calls k  true _ A5.out).mono ?_); rintro e w10 ⟨rfl, hb⟩; refine ⟨_, rfl, ?_⟩; have n0_ := Aside0.mk (below_step (by repeat (first | (with_reducible first | exact HB.out | apply below_alloc | apply pw_below_drewN | apply below_drew1) | exact HB.out)) hb); clear HB; have HB := n0_; clear n0_; (try clear hb); (try clear hb2); (try clear hk); (try clear hi)) | ((with_reducible refine gate_callee (f := 27) rfl ?_); refine goesL_ (some 20) rfl rfl Tryd.func27 (by kernel_rfl) rfl #[.string a0, .slice A1 l1.length c1] rfl (by (try simp only [List.map_toArray, List.map_cons, List.map_nil]); first | done | rfl | (simp only [List.length_drop, List.length_take]; rfl)) ?_; (with_reducible refine (depfile_Put.calls k a0 _ _ l1 t295 t296 _ ?side1 ?side2 A7.out).mono ?_); (case side1 => repeat (first | exact (Kd.C_below HR1.out HB.out) | (with_reducible refine Kd.C_alloc ?_ _) | (with_reducible refine Kd.C_drewN ?_ _) | (with_reducible refine Kd.C_drew ?_))); (case side2 => exact HC1.out); rintro e w11 ⟨rfl, hb⟩; refine ⟨_, rfl, ?_⟩; have n0_ := Aside0.mk (below_step (by repeat (first | (with_reducible first | exact HB.out | apply below_alloc | apply pw_below_drewN | apply below_drew1) | exact HB.out)) hb); clear HB; have HB := n0_; clear n0_; (try clear hb); (try clear hb2); (try clear hk); (try clear hi)) | ((with_reducible refine gate_callee (f := 27) rfl ?_); refine goesL_ (some 26) rfl rfl Tryd.func27 (by kernel_rfl) rfl #[.string a2, .slice A3 l3.length c3] rfl (by (try simp only [List.map_toArray, List.map_cons, List.map_nil]); first | done | rfl | (simp only [List.length_drop, List.length_take]; rfl)) ?_; (with_reducible refine (depfile_Put.calls k a2 _ _ l3 t297 t298 _ ?side1 ?side2 A8.out).mono ?_); (case side1 => repeat (first | exact (Kd.C_below HR3.out HB.out) | (with_reducible refine Kd.C_alloc ?_ _) | (with_reducible refine Kd.C_drewN ?_ _) | (with_reducible refine Kd.C_drew ?_))); (case side2 => exact HC3.out); rintro e w12 ⟨rfl, hb⟩; refine ⟨_, rfl, ?_⟩; have n0_ := Aside0.mk (below_step (by repeat (first | (with_reducible first | exact HB.out | apply below_alloc | apply pw_below_drewN | apply below_drew1) | exact HB.out)) hb); clear HB; have HB := n0_; clear n0_; (try clear hb); (try clear hb2); (try clear hk); (try clear hi)))
  (try simp only [Act.put, List.setIfInBounds_toArray, List.set_cons_zero, List.set_cons_succ])
  go_cut [36] (fun v36 wc => ∃ (kq : Nat) (x36_8 : Bool), v36 = .bool x36_8 ∧ Aside0 (cruciblelaw17_DepfileUnlike.j0 kq a0 l1 a2 l3 t295 t296 t297 t298 x36_8 = some r) ∧ Aside0 (kq ≤ k) ∧ Aside0 (Below w.heap.size w wc))
  case first =>
   have H := HC9.out
   clear HC9
   replace H := Option.bind_eq_some_iff.mp H
   obtain ⟨t299, A130, H⟩ := H
   replace H : (if t299 = 0 then ((cruciblelaw0_Num.f t298).bind fun t300 => (cruciblelaw17_DepfileUnlike.j0 k a0 l1 a2 l3 t295 t296 t297 t298 (t300 != 0))) else (cruciblelaw17_DepfileUnlike.j0 k a0 l1 a2 l3 t295 t296 t297 t298 true)) = some r := H
   have A13 := Aside0.mk A130
   clear A130
   by_cases c14 : t299 = 0
   ·
    rw [if_pos c14] at H
    have c14b0 : (t299 == 0) = true := beq_iff_eq.mpr c14
    have c14b1 : (t299 != 0) = false := bne_eq_false_iff_eq.mpr c14
    clear c14
    (first | rw [c14b0] | (simp only [i64_w, i32_w]; rw [c14b0]) | rw [c14b2] | skip)
    replace H := Option.bind_eq_some_iff.mp H
    obtain ⟨t300, A150, H⟩ := H
    replace H : (cruciblelaw17_DepfileUnlike.j0 k a0 l1 a2 l3 t295 t296 t297 t298 (t300 != 0)) = some r := H
    have A15 := Aside0.mk A150
    clear A150
    have H' := Aside0.mk H
    clear H
    go_wp2_with (first | ((with_reducible refine gate_callee (f := 18) rfl ?_); refine goesL_ (some 30) rfl rfl Tryd.func18 (by kernel_rfl) rfl #[.int .i64 t296] rfl (by (try simp only [List.map_toArray, List.map_cons, List.map_nil]); first | done | rfl | (simp only [List.length_drop, List.length_take]; rfl)) ?_; (with_reducible refine (cruciblelaw0_Num.calls t296 t299 _ A13.out).mono ?_); rintro e w' ⟨rfl, ⟨nd, rfl⟩⟩; refine ⟨_, rfl, ?_⟩) | (go_at_call 18; (with_reducible refine (cruciblelaw0_Num.calls t298 t300 _ A15.out).mono ?_); rintro e w' ⟨rfl, ⟨nd, rfl⟩⟩))
    go_meet
    case rel => exact ⟨_, ((t300 != 0)), (by first | rfl | (simp; done) | (simp [*]; done)), H', ⟨by first | omega | exact Nat.le_refl _⟩, ⟨by repeat (first | (with_reducible first | exact HB.out | apply below_alloc | apply pw_below_drewN | apply below_drew1) | exact HB.out)⟩⟩
   ·
    rw [if_neg c14] at H
    have c14b0 : (t299 == 0) = false := beq_eq_false_iff_ne.mpr c14
    have c14b1 : (t299 != 0) = true := bne_iff_ne.mpr c14
    (first | rw [c14b0] | (simp only [i64_w, i32_w]; rw [c14b0]) | rw [c14b2] | skip)
    have H' := Aside0.mk H
    clear H
    go_wp2_with (first | ((with_reducible refine gate_callee (f := 18) rfl ?_); refine goesL_ (some 30) rfl rfl Tryd.func18 (by kernel_rfl) rfl #[.int .i64 t296] rfl (by (try simp only [List.map_toArray, List.map_cons, List.map_nil]); first | done | rfl | (simp only [List.length_drop, List.length_take]; rfl)) ?_; (with_reducible refine (cruciblelaw0_Num.calls t296 t299 _ A13.out).mono ?_); rintro e w' ⟨rfl, ⟨nd, rfl⟩⟩; refine ⟨_, rfl, ?_⟩))
    go_meet
    case rel => exact ⟨_, (true), (by first | rfl | (simp; done) | (simp [*]; done)), H', ⟨by first | omega | exact Nat.le_refl _⟩, ⟨by repeat (first | (with_reducible first | exact HB.out | apply below_alloc | apply pw_below_drewN | apply below_drew1) | exact HB.out)⟩⟩
  case rest =>
   clear HC9
   try clear c1
   try clear c2
   try clear p2
   try clear c3
   try clear c6
   try clear c13
   try clear c14
   try clear c14b0
   try clear c14b1
   try clear c14b2
   obtain ⟨kq, x36_8, rfl, HA, HJ8, HB⟩ := hcut
   cases kq with
   | zero => exact absurd HA.out (by simp [cruciblelaw17_DepfileUnlike.j0])
   | succ kj8 =>
    have H := HA.out
    clear HA
    simp only [cruciblelaw17_DepfileUnlike.j0] at H
    by_cases c16 : x36_8 = true
    ·
     subst c16
     have H1 : ((cruciblelaw0_Num.f t296).bind fun t301 => (if t301 = 0 then ((cruciblelaw0_Num.f t298).bind fun t302 => (if t302 = 0 then (some true) else (some (t297.toList == ([] : List UInt8))))) else (if t295.toList = ([] : List UInt8) then ((cruciblelaw0_Num.f t298).bind fun t303 => (if t303 = 0 then (some true) else (some (t297.toList == ([] : List UInt8))))) else (some false)))) = some r := by rw [if_pos rfl] at H; exact H
     clear H
     have H := H1
     clear H1
     replace H := Option.bind_eq_some_iff.mp H
     obtain ⟨t301, A170, H⟩ := H
     replace H : (if t301 = 0 then ((cruciblelaw0_Num.f t298).bind fun t302 => (if t302 = 0 then (some true) else (some (t297.toList == ([] : List UInt8))))) else (if t295.toList = ([] : List UInt8) then ((cruciblelaw0_Num.f t298).bind fun t303 => (if t303 = 0 then (some true) else (some (t297.toList == ([] : List UInt8))))) else (some false))) = some r := H
     have A17 := Aside0.mk A170
     clear A170
     by_cases c18 : t301 = 0
     ·
      rw [if_pos c18] at H
      have c18b0 : (t301 == 0) = true := beq_iff_eq.mpr c18
      have c18b1 : (t301 != 0) = false := bne_eq_false_iff_eq.mpr c18
      clear c18
      replace H := Option.bind_eq_some_iff.mp H
      obtain ⟨t302, A190, H⟩ := H
      replace H : (if t302 = 0 then (some true) else (some (t297.toList == ([] : List UInt8)))) = some r := H
      have A19 := Aside0.mk A190
      clear A190
      by_cases c20 : t302 = 0
      ·
       rw [if_pos c20] at H
       have c20b0 : (t302 == 0) = true := beq_iff_eq.mpr c20
       have c20b1 : (t302 != 0) = false := bne_eq_false_iff_eq.mpr c20
       clear c20
       obtain rfl := Option.some.inj H
       go_wp2_with (first | ((with_reducible refine gate_callee (f := 18) rfl ?_); refine goesL_ (some 38) rfl rfl Tryd.func18 (by kernel_rfl) rfl #[.int .i64 t296] rfl (by (try simp only [List.map_toArray, List.map_cons, List.map_nil]); first | done | rfl | (simp only [List.length_drop, List.length_take]; rfl)) ?_; (with_reducible refine (cruciblelaw0_Num.calls t296 t301 _ A17.out).mono ?_); rintro e w' ⟨rfl, ⟨nd, rfl⟩⟩; refine ⟨_, rfl, ?_⟩) | (go_at_call 18; (with_reducible refine (cruciblelaw0_Num.calls t298 t302 _ A19.out).mono ?_); rintro e w' ⟨rfl, ⟨nd, rfl⟩⟩))
       go_ret
       exact ⟨by first | rfl | (simp [errW_none, errW_some] <;> rfl) | (simp [*, errW_none, errW_some] <;> rfl), by repeat (first | (with_reducible first | exact HB.out | apply below_alloc | apply pw_below_drewN | apply below_drew1) | exact HB.out)⟩
      ·
       rw [if_neg c20] at H
       have c20b0 : (t302 == 0) = false := beq_eq_false_iff_ne.mpr c20
       have c20b1 : (t302 != 0) = true := bne_iff_ne.mpr c20
       obtain rfl := Option.some.inj H
       go_wp2_with (first | ((with_reducible refine gate_callee (f := 18) rfl ?_); refine goesL_ (some 38) rfl rfl Tryd.func18 (by kernel_rfl) rfl #[.int .i64 t296] rfl (by (try simp only [List.map_toArray, List.map_cons, List.map_nil]); first | done | rfl | (simp only [List.length_drop, List.length_take]; rfl)) ?_; (with_reducible refine (cruciblelaw0_Num.calls t296 t301 _ A17.out).mono ?_); rintro e w' ⟨rfl, ⟨nd, rfl⟩⟩; refine ⟨_, rfl, ?_⟩) | (go_at_call 18; (with_reducible refine (cruciblelaw0_Num.calls t298 t302 _ A19.out).mono ?_); rintro e w' ⟨rfl, ⟨nd, rfl⟩⟩))
       go_ret
       exact ⟨by first | rfl | (simp [errW_none, errW_some] <;> rfl) | (simp [*, errW_none, errW_some] <;> rfl), by repeat (first | (with_reducible first | exact HB.out | apply below_alloc | apply pw_below_drewN | apply below_drew1) | exact HB.out)⟩
     ·
      rw [if_neg c18] at H
      have c18b0 : (t301 == 0) = false := beq_eq_false_iff_ne.mpr c18
      have c18b1 : (t301 != 0) = true := bne_iff_ne.mpr c18
      by_cases c21 : t295.toList = ([] : List UInt8)
      ·
       rw [if_pos c21] at H
       have c21b0 : (t295.toList == ([] : List UInt8)) = true := beq_iff_eq.mpr c21
       have c21b1 : (t295.toList != ([] : List UInt8)) = false := bne_eq_false_iff_eq.mpr c21
       have c21b2 : t295.toList.isEmpty = true := by simpa using c21
       clear c21
       replace H := Option.bind_eq_some_iff.mp H
       obtain ⟨t303, A220, H⟩ := H
       replace H : (if t303 = 0 then (some true) else (some (t297.toList == ([] : List UInt8)))) = some r := H
       have A22 := Aside0.mk A220
       clear A220
       by_cases c23 : t303 = 0
       ·
        rw [if_pos c23] at H
        have c23b0 : (t303 == 0) = true := beq_iff_eq.mpr c23
        have c23b1 : (t303 != 0) = false := bne_eq_false_iff_eq.mpr c23
        clear c23
        obtain rfl := Option.some.inj H
        go_wp2_with (first | ((with_reducible refine gate_callee (f := 18) rfl ?_); refine goesL_ (some 38) rfl rfl Tryd.func18 (by kernel_rfl) rfl #[.int .i64 t296] rfl (by (try simp only [List.map_toArray, List.map_cons, List.map_nil]); first | done | rfl | (simp only [List.length_drop, List.length_take]; rfl)) ?_; (with_reducible refine (cruciblelaw0_Num.calls t296 t301 _ A17.out).mono ?_); rintro e w' ⟨rfl, ⟨nd, rfl⟩⟩; refine ⟨_, rfl, ?_⟩) | (go_at_call 18; (with_reducible refine (cruciblelaw0_Num.calls t298 t303 _ A22.out).mono ?_); rintro e w' ⟨rfl, ⟨nd, rfl⟩⟩))
        go_ret
        exact ⟨by first | rfl | (simp [errW_none, errW_some] <;> rfl) | (simp [*, errW_none, errW_some] <;> rfl), by repeat (first | (with_reducible first | exact HB.out | apply below_alloc | apply pw_below_drewN | apply below_drew1) | exact HB.out)⟩
       ·
        rw [if_neg c23] at H
        have c23b0 : (t303 == 0) = false := beq_eq_false_iff_ne.mpr c23
        have c23b1 : (t303 != 0) = true := bne_iff_ne.mpr c23
        obtain rfl := Option.some.inj H
        go_wp2_with (first | ((with_reducible refine gate_callee (f := 18) rfl ?_); refine goesL_ (some 38) rfl rfl Tryd.func18 (by kernel_rfl) rfl #[.int .i64 t296] rfl (by (try simp only [List.map_toArray, List.map_cons, List.map_nil]); first | done | rfl | (simp only [List.length_drop, List.length_take]; rfl)) ?_; (with_reducible refine (cruciblelaw0_Num.calls t296 t301 _ A17.out).mono ?_); rintro e w' ⟨rfl, ⟨nd, rfl⟩⟩; refine ⟨_, rfl, ?_⟩) | (go_at_call 18; (with_reducible refine (cruciblelaw0_Num.calls t298 t303 _ A22.out).mono ?_); rintro e w' ⟨rfl, ⟨nd, rfl⟩⟩))
        go_ret
        exact ⟨by first | rfl | (simp [errW_none, errW_some] <;> rfl) | (simp [*, errW_none, errW_some] <;> rfl), by repeat (first | (with_reducible first | exact HB.out | apply below_alloc | apply pw_below_drewN | apply below_drew1) | exact HB.out)⟩
      ·
       rw [if_neg c21] at H
       have c21b0 : (t295.toList == ([] : List UInt8)) = false := beq_eq_false_iff_ne.mpr c21
       have c21b1 : (t295.toList != ([] : List UInt8)) = true := bne_iff_ne.mpr c21
       have c21b2 : t295.toList.isEmpty = false := by simpa using c21
       obtain rfl := Option.some.inj H
       go_wp2_with (first | ((with_reducible refine gate_callee (f := 18) rfl ?_); refine goesL_ (some 38) rfl rfl Tryd.func18 (by kernel_rfl) rfl #[.int .i64 t296] rfl (by (try simp only [List.map_toArray, List.map_cons, List.map_nil]); first | done | rfl | (simp only [List.length_drop, List.length_take]; rfl)) ?_; (with_reducible refine (cruciblelaw0_Num.calls t296 t301 _ A17.out).mono ?_); rintro e w' ⟨rfl, ⟨nd, rfl⟩⟩; refine ⟨_, rfl, ?_⟩))
       go_ret
       exact ⟨by first | rfl | (simp [errW_none, errW_some] <;> rfl) | (simp [*, errW_none, errW_some] <;> rfl), by repeat (first | (with_reducible first | exact HB.out | apply below_alloc | apply pw_below_drewN | apply below_drew1) | exact HB.out)⟩
    ·
     replace c16 := Bool.eq_false_iff.mpr c16
     subst c16
     have H1 : ((crucibleref12_PutDepfile.f kj8 a0 l1).bind fun bt304 => (if bt304.2 = 0 then (if a0.toList = a2.toList then ((cruciblelaw0_SameTexts.f kj8 l1 l3).bind fun t306 => (some ((t295.toList == t297.toList) == t306))) else (some ((t295.toList == t297.toList) == false))) else (some false))) = some r := by rw [if_neg (show ¬ (false = true) by decide)] at H; exact H
     clear H
     have H := H1
     clear H1
     replace H := Option.bind_eq_some_iff.mp H
     obtain ⟨⟨t304, t305⟩, A240, H⟩ := H
     replace H : (if t305 = 0 then (if a0.toList = a2.toList then ((cruciblelaw0_SameTexts.f kj8 l1 l3).bind fun t306 => (some ((t295.toList == t297.toList) == t306))) else (some ((t295.toList == t297.toList) == false))) else (some false)) = some r := H
     have A24 := Aside0.mk A240
     clear A240
     by_cases c25 : t305 = 0
     ·
      rw [if_pos c25] at H
      have c25b0 : (t305 == 0) = true := beq_iff_eq.mpr c25
      have c25b1 : (t305 != 0) = false := bne_eq_false_iff_eq.mpr c25
      clear c25
      by_cases c26 : a0.toList = a2.toList
      ·
       rw [if_pos c26] at H
       have c26b0 : (a0.toList == a2.toList) = true := beq_iff_eq.mpr c26
       have c26b1 : (a0.toList != a2.toList) = false := bne_eq_false_iff_eq.mpr c26
       clear c26
       replace H := Option.bind_eq_some_iff.mp H
       obtain ⟨t306, A270, H⟩ := H
       replace H : (some ((t295.toList == t297.toList) == t306)) = some r := H
       have A27 := Aside0.mk A270
       clear A270
       obtain rfl := Option.some.inj H
       go_wp2_with (first | ((with_reducible refine gate_callee (f := 28) rfl ?_); refine goesL_ (some 56) rfl rfl Tryd.func28 (by kernel_rfl) rfl #[.string a0, .slice A1 l1.length c1] rfl (by (try simp only [List.map_toArray, List.map_cons, List.map_nil]); first | done | rfl | (simp only [List.length_drop, List.length_take]; rfl)) ?_; (with_reducible refine (crucibleref12_PutDepfile.calls kj8 a0 _ _ l1 t304 t305 _ ?side1 ?side2 A24.out).mono ?_); (case side1 => repeat (first | exact (Kd.C_below HR1.out HB.out) | (with_reducible refine Kd.C_alloc ?_ _) | (with_reducible refine Kd.C_drewN ?_ _) | (with_reducible refine Kd.C_drew ?_))); (case side2 => exact HC1.out); rintro e w28 ⟨rfl, hb⟩; refine ⟨_, rfl, ?_⟩; have n0_ := Aside0.mk (below_step (by repeat (first | (with_reducible first | exact HB.out | apply below_alloc | apply pw_below_drewN | apply below_drew1) | exact HB.out)) hb); clear HB; have HB := n0_; clear n0_; (try clear hb); (try clear hb2); (try clear hk); (try clear hi)) | (go_at_call 17; (with_reducible refine (cruciblelaw0_SameTexts.calls kj8 _ _ l1 _ _ l3 t306 _ ?side1 ?side2 ?side3 ?side4 A27.out).mono ?_); (case side1 => repeat (first | exact (Kd.C_below HR1.out HB.out) | (with_reducible refine Kd.C_alloc ?_ _) | (with_reducible refine Kd.C_drewN ?_ _) | (with_reducible refine Kd.C_drew ?_))); (case side2 => exact HC1.out); (case side3 => repeat (first | exact (Kd.C_below HR3.out HB.out) | (with_reducible refine Kd.C_alloc ?_ _) | (with_reducible refine Kd.C_drewN ?_ _) | (with_reducible refine Kd.C_drew ?_))); (case side4 => exact HC3.out); rintro e w' ⟨rfl, ⟨nd, rfl⟩⟩))
       go_ret
       exact ⟨by first | rfl | (simp [errW_none, errW_some] <;> rfl) | (simp [*, errW_none, errW_some] <;> rfl), by repeat (first | (with_reducible first | exact HB.out | apply below_alloc | apply pw_below_drewN | apply below_drew1) | exact HB.out)⟩
      ·
       rw [if_neg c26] at H
       have c26b0 : (a0.toList == a2.toList) = false := beq_eq_false_iff_ne.mpr c26
       have c26b1 : (a0.toList != a2.toList) = true := bne_iff_ne.mpr c26
       obtain rfl := Option.some.inj H
       go_wp2_with (first | ((with_reducible refine gate_callee (f := 28) rfl ?_); refine goesL_ (some 56) rfl rfl Tryd.func28 (by kernel_rfl) rfl #[.string a0, .slice A1 l1.length c1] rfl (by (try simp only [List.map_toArray, List.map_cons, List.map_nil]); first | done | rfl | (simp only [List.length_drop, List.length_take]; rfl)) ?_; (with_reducible refine (crucibleref12_PutDepfile.calls kj8 a0 _ _ l1 t304 t305 _ ?side1 ?side2 A24.out).mono ?_); (case side1 => repeat (first | exact (Kd.C_below HR1.out HB.out) | (with_reducible refine Kd.C_alloc ?_ _) | (with_reducible refine Kd.C_drewN ?_ _) | (with_reducible refine Kd.C_drew ?_))); (case side2 => exact HC1.out); rintro e w29 ⟨rfl, hb⟩; refine ⟨_, rfl, ?_⟩; have n0_ := Aside0.mk (below_step (by repeat (first | (with_reducible first | exact HB.out | apply below_alloc | apply pw_below_drewN | apply below_drew1) | exact HB.out)) hb); clear HB; have HB := n0_; clear n0_; (try clear hb); (try clear hb2); (try clear hk); (try clear hi)))
       go_ret
       exact ⟨by first | rfl | (simp [errW_none, errW_some] <;> rfl) | (simp [*, errW_none, errW_some] <;> rfl), by repeat (first | (with_reducible first | exact HB.out | apply below_alloc | apply pw_below_drewN | apply below_drew1) | exact HB.out)⟩
     ·
      rw [if_neg c25] at H
      have c25b0 : (t305 == 0) = false := beq_eq_false_iff_ne.mpr c25
      have c25b1 : (t305 != 0) = true := bne_iff_ne.mpr c25
      obtain rfl := Option.some.inj H
      go_wp2_with (first | ((with_reducible refine gate_callee (f := 28) rfl ?_); refine goesL_ (some 56) rfl rfl Tryd.func28 (by kernel_rfl) rfl #[.string a0, .slice A1 l1.length c1] rfl (by (try simp only [List.map_toArray, List.map_cons, List.map_nil]); first | done | rfl | (simp only [List.length_drop, List.length_take]; rfl)) ?_; (with_reducible refine (crucibleref12_PutDepfile.calls kj8 a0 _ _ l1 t304 t305 _ ?side1 ?side2 A24.out).mono ?_); (case side1 => repeat (first | exact (Kd.C_below HR1.out HB.out) | (with_reducible refine Kd.C_alloc ?_ _) | (with_reducible refine Kd.C_drewN ?_ _) | (with_reducible refine Kd.C_drew ?_))); (case side2 => exact HC1.out); rintro e w30 ⟨rfl, hb⟩; refine ⟨_, rfl, ?_⟩; have n0_ := Aside0.mk (below_step (by repeat (first | (with_reducible first | exact HB.out | apply below_alloc | apply pw_below_drewN | apply below_drew1) | exact HB.out)) hb); clear HB; have HB := n0_; clear n0_; (try clear hb); (try clear hb2); (try clear hk); (try clear hi)))
      go_ret
      exact ⟨by first | rfl | (simp [errW_none, errW_some] <;> rfl) | (simp [*, errW_none, errW_some] <;> rfl), by repeat (first | (with_reducible first | exact HB.out | apply below_alloc | apply pw_below_drewN | apply below_drew1) | exact HB.out)⟩
 ·
  replace c6 := Bool.eq_false_iff.mpr c6
  subst c6
  have H1 : (some false) = some r := by rw [if_neg (show ¬ (false = true) by decide)] at H; exact H
  clear H
  have H := H1
  clear H1
  obtain rfl := Option.some.inj H
  go_enter Tryd.func13, Tryd.ntmps13
  go_wp2_with (first | ((with_reducible refine gate_callee (f := 32) rfl ?_); refine goesL_ (some 15) rfl rfl Tryd.func32 (by kernel_rfl) rfl #[] rfl (by (try simp only [List.map_toArray, List.map_cons, List.map_nil]); first | done | rfl | (simp only [List.length_drop, List.length_take]; rfl)) ?_; (with_reducible refine (cruciblelaw17_awake.calls k  false _ A5.out).mono ?_); rintro e w31 ⟨rfl, hb⟩; refine ⟨_, rfl, ?_⟩; have n0_ := Aside0.mk (below_step (by repeat (first | (with_reducible first | exact HB.out | apply below_alloc | apply pw_below_drewN | apply below_drew1) | exact HB.out)) hb); clear HB; have HB := n0_; clear n0_; (try clear hb); (try clear hb2); (try clear hk); (try clear hi)))
  go_ret
  exact ⟨by first | rfl | (simp [errW_none, errW_some] <;> rfl) | (simp [*, errW_none, errW_some] <;> rfl), by repeat (first | (with_reducible first | exact HB.out | apply below_alloc | apply pw_below_drewN | apply below_drew1) | exact HB.out)⟩

end Go.Proofs.YtncbloieejeifaaDoor.P
