-- Made by a program of this work's own (wip/myprint.py) over the kit's print; leaves by hand.
import Derived.Test.YtilnamobmjngbaaDoorP0
import Derived.Test.YtilnamobmjngbaaDoorWRepsOne
import Derived.Test.YtilnamobmjngbaaDoorWGuard
import Derived.Test.YtilnamobmjngbaaDoorMg1
import Derived.Test.YtilnamobmjngbaaDoorP22
import Derived.Test.YtilnamobmjngbaaDoorP27
import Derived.Test.YtilnamobmjngbaaDoorP32
namespace Go.Proofs.YtilnamobmjngbaaDoor.P
open Go.Proofs.YtilnamobmjngbaaDoor.Plus
open Go.RowKit Go.Proofs.YtilnamobmjngbaaDoorW.PrintWords Go.Proofs.YtilnamobmjngbaaDoorW.PrintLast Go.Proofs.YtilnamobmjngbaaDoorW.PrintMore
attribute [local go_sem] max2_int min2_int max_two min_two max_three min_three max_four min_four   -- for this text's walks alone
set_option linter.unusedVariables false
set_option linter.unusedSimpArgs false

/-! ### cruciblelaw18_CommandSum: function 6 -/
set_option maxRecDepth 100000 in
mutual
def cruciblelaw18_CommandSum.j0 : Nat → ByteArray → Int → Int → Bool → Option (Bool)
 | 0, _, _, _, _ => none
 | k + 1, x1, x2, x7, x26 => if x26 = true then (some true) else (cruciblelaw18_CommandSum.l0 k x1 x2 x7 0 ([] : List ByteArray) (([(⟨#[113]⟩ : ByteArray)] : List ByteArray)) x1 false (⟨#[]⟩ : ByteArray))
def cruciblelaw18_CommandSum.l0 : Nat → ByteArray → Int → Int → Int → List ByteArray → List ByteArray → ByteArray → Bool → ByteArray → Option (Bool)
 | 0, _, _, _, _, _, _, _, _, _ => none
 | k + 1, x1, x2, x7, x9, x527000, x527001, x527004, x527005, x527006 => if x9 ≤ (Go.bits .and .i64 x2 7) then ((some (([(wrap64 (97 + x9)) % 256] : List Int) : List Int)).bind fun y527 => (if 1 + (strOfNums y527).size ≤ 9223372036854775807 then (if x527000.length < 8796093022208 then (cruciblelaw18_CommandSum.l0 k x1 x2 x7 (wrap64 (x9 + 1)) (x527000 ++ [(⟨#[111]⟩ : ByteArray) ++ (strOfNums y527)]) x527001 x527004 x527005 x527006) else (none)) else (none))) else ((command_Run.f k ([] : List (S33)) x527000 x527001 ([] : List ByteArray) ([] : List ByteArray) x527004 x527005 x527006 1 (([(⟨(⟨#[113]⟩ : ByteArray), x7, 1⟩ : S72)] : List (S72)))).bind fun bt536 => (cruciblelaw18_CommandSum.l1 k x1 x2 x7 bt536.1 bt536.2 0 0))
def cruciblelaw18_CommandSum.l1 : Nat → ByteArray → Int → Int → List Int → Int → Int → Int → Option (Bool)
 | 0, _, _, _, _, _, _, _ => none
 | k + 1, x1, x2, x7, x10, x11, x12, x13 => if x13 < (x1.size : Int) then (if 0 ≤ x13 then (if (bt x1 x13) < 32 then (if (x10.length : Int) = 0 then ((cruciblelaw0_Num.f x11).bind fun t540 => (some (t540 == 1800))) else (none)) else (if (bt x1 x13) > 126 then (if (x10.length : Int) = 0 then ((cruciblelaw0_Num.f x11).bind fun t541 => (some (t541 == 1800))) else (none)) else (cruciblelaw18_CommandSum.l1 k x1 x2 x7 x10 x11 (Int.tmod (wrap64 ((wrap64 (31 * x12)) + (wrap64 (bt x1 x13)))) 2147483647) (wrap64 (x13 + 1))))) else (none)) else ((cruciblelaw0_Num.f x11).bind fun t542 => (if t542 = 0 then (cruciblelaw18_CommandSum.j3 k x10 (Int.tmod (wrap64 ((wrap64 (31 * x12)) + x7)) 2147483647) ((x10.length : Int) != (wrap64 (1 + (Go.bits .and .i64 x2 7))))) else (cruciblelaw18_CommandSum.j3 k x10 (Int.tmod (wrap64 ((wrap64 (31 * x12)) + x7)) 2147483647) true)))
def cruciblelaw18_CommandSum.j3 : Nat → List Int → Int → Bool → Option (Bool)
 | 0, _, _, _ => none
 | k + 1, x10, x12, x103 => if x103 = true then (none) else (cruciblelaw18_CommandSum.l2 k x10 x12 0)
def cruciblelaw18_CommandSum.l2 : Nat → List Int → Int → Int → Option (Bool)
 | 0, _, _, _ => none
 | k + 1, x10, x12, x14 => if x14 < (x10.length : Int) then (if 0 ≤ x14 then (if (rd x10 x14) = (Int.tmod (wrap64 ((wrap64 (31 * x12)) + x14)) 2147483647) then (cruciblelaw18_CommandSum.l2 k x10 x12 (wrap64 (x14 + 1))) else (none)) else (none)) else (some true)
end
def cruciblelaw18_CommandSum.f (k : Nat) (a0 : Int) (a1 : ByteArray) (a2 : Int) : Option (Bool) := (cruciblelaw18_awake.f).bind fun t522 => (if t522 = true then (if (a1.size : Int) < 1 then (cruciblelaw18_CommandSum.j0 k a1 a2 (Go.bits .and .i64 a0 2147483647) true) else (cruciblelaw18_CommandSum.j0 k a1 a2 (Go.bits .and .i64 a0 2147483647) (decide ((a1.size : Int) > 100)))) else (none))
set_option maxRecDepth 100000 in
theorem cruciblelaw18_CommandSum.mono_l : ∀ k, (∀ y0 y1 y2 y3, LeO (cruciblelaw18_CommandSum.j0 k y0 y1 y2 y3) (cruciblelaw18_CommandSum.j0 (k + 1) y0 y1 y2 y3)) ∧ (∀ y0 y1 y2 y3 y4 y5 y6 y7 y8, LeO (cruciblelaw18_CommandSum.l0 k y0 y1 y2 y3 y4 y5 y6 y7 y8) (cruciblelaw18_CommandSum.l0 (k + 1) y0 y1 y2 y3 y4 y5 y6 y7 y8)) ∧ (∀ y0 y1 y2 y3 y4 y5 y6, LeO (cruciblelaw18_CommandSum.l1 k y0 y1 y2 y3 y4 y5 y6) (cruciblelaw18_CommandSum.l1 (k + 1) y0 y1 y2 y3 y4 y5 y6)) ∧ (∀ y0 y1 y2, LeO (cruciblelaw18_CommandSum.j3 k y0 y1 y2) (cruciblelaw18_CommandSum.j3 (k + 1) y0 y1 y2)) ∧ (∀ y0 y1 y2, LeO (cruciblelaw18_CommandSum.l2 k y0 y1 y2) (cruciblelaw18_CommandSum.l2 (k + 1) y0 y1 y2))
 | 0 => ⟨fun _ _ _ _ r h => by simp [cruciblelaw18_CommandSum.j0] at h, fun _ _ _ _ _ _ _ _ _ r h => by simp [cruciblelaw18_CommandSum.l0] at h, fun _ _ _ _ _ _ _ r h => by simp [cruciblelaw18_CommandSum.l1] at h, fun _ _ _ r h => by simp [cruciblelaw18_CommandSum.j3] at h, fun _ _ _ r h => by simp [cruciblelaw18_CommandSum.l2] at h⟩
 | k + 1 => by
  obtain ⟨ih0, ih1, ih2, ih3, ih4⟩ := cruciblelaw18_CommandSum.mono_l k
  refine ⟨?_, ?_, ?_, ?_, ?_⟩
  ·
   intro y0 y1 y2 y3
   unfold cruciblelaw18_CommandSum.j0
   repeat' first
   | (with_reducible exact ih0 _ _ _ _)
   | (with_reducible exact ih1 _ _ _ _ _ _ _ _ _)
   | (with_reducible exact ih2 _ _ _ _ _ _ _)
   | (with_reducible exact ih3 _ _ _)
   | (with_reducible exact ih4 _ _ _)
   | (with_reducible exact command_Run.mono _ _ _ _ _ _ _ _ _ _ _)
   | (with_reducible exact LeO.refl _)
   | (with_reducible exact LeO.none _)
   | (with_reducible refine LeO.ite ?_ ?_)
   | (with_reducible refine LeO.bind ?_ (fun _ => ?_))
   | exact ih0 _ _ _ _
   | exact ih1 _ _ _ _ _ _ _ _ _
   | exact ih2 _ _ _ _ _ _ _
   | exact ih3 _ _ _
   | exact ih4 _ _ _
   | exact command_Run.mono _ _ _ _ _ _ _ _ _ _ _
   | exact LeO.none _
   | refine LeO.ite ?_ ?_
   | refine LeO.bind ?_ (fun _ => ?_)
  ·
   intro y0 y1 y2 y3 y4 y5 y6 y7 y8
   unfold cruciblelaw18_CommandSum.l0
   repeat' first
   | (with_reducible exact ih0 _ _ _ _)
   | (with_reducible exact ih1 _ _ _ _ _ _ _ _ _)
   | (with_reducible exact ih2 _ _ _ _ _ _ _)
   | (with_reducible exact ih3 _ _ _)
   | (with_reducible exact ih4 _ _ _)
   | (with_reducible exact command_Run.mono _ _ _ _ _ _ _ _ _ _ _)
   | (with_reducible exact LeO.refl _)
   | (with_reducible exact LeO.none _)
   | (with_reducible refine LeO.ite ?_ ?_)
   | (with_reducible refine LeO.bind ?_ (fun _ => ?_))
   | exact ih0 _ _ _ _
   | exact ih1 _ _ _ _ _ _ _ _ _
   | exact ih2 _ _ _ _ _ _ _
   | exact ih3 _ _ _
   | exact ih4 _ _ _
   | exact command_Run.mono _ _ _ _ _ _ _ _ _ _ _
   | exact LeO.none _
   | refine LeO.ite ?_ ?_
   | refine LeO.bind ?_ (fun _ => ?_)
  ·
   intro y0 y1 y2 y3 y4 y5 y6
   unfold cruciblelaw18_CommandSum.l1
   repeat' first
   | (with_reducible exact ih0 _ _ _ _)
   | (with_reducible exact ih1 _ _ _ _ _ _ _ _ _)
   | (with_reducible exact ih2 _ _ _ _ _ _ _)
   | (with_reducible exact ih3 _ _ _)
   | (with_reducible exact ih4 _ _ _)
   | (with_reducible exact command_Run.mono _ _ _ _ _ _ _ _ _ _ _)
   | (with_reducible exact LeO.refl _)
   | (with_reducible exact LeO.none _)
   | (with_reducible refine LeO.ite ?_ ?_)
   | (with_reducible refine LeO.bind ?_ (fun _ => ?_))
   | exact ih0 _ _ _ _
   | exact ih1 _ _ _ _ _ _ _ _ _
   | exact ih2 _ _ _ _ _ _ _
   | exact ih3 _ _ _
   | exact ih4 _ _ _
   | exact command_Run.mono _ _ _ _ _ _ _ _ _ _ _
   | exact LeO.none _
   | refine LeO.ite ?_ ?_
   | refine LeO.bind ?_ (fun _ => ?_)
  ·
   intro y0 y1 y2
   unfold cruciblelaw18_CommandSum.j3
   repeat' first
   | (with_reducible exact ih0 _ _ _ _)
   | (with_reducible exact ih1 _ _ _ _ _ _ _ _ _)
   | (with_reducible exact ih2 _ _ _ _ _ _ _)
   | (with_reducible exact ih3 _ _ _)
   | (with_reducible exact ih4 _ _ _)
   | (with_reducible exact command_Run.mono _ _ _ _ _ _ _ _ _ _ _)
   | (with_reducible exact LeO.refl _)
   | (with_reducible exact LeO.none _)
   | (with_reducible refine LeO.ite ?_ ?_)
   | (with_reducible refine LeO.bind ?_ (fun _ => ?_))
   | exact ih0 _ _ _ _
   | exact ih1 _ _ _ _ _ _ _ _ _
   | exact ih2 _ _ _ _ _ _ _
   | exact ih3 _ _ _
   | exact ih4 _ _ _
   | exact command_Run.mono _ _ _ _ _ _ _ _ _ _ _
   | exact LeO.none _
   | refine LeO.ite ?_ ?_
   | refine LeO.bind ?_ (fun _ => ?_)
  ·
   intro y0 y1 y2
   unfold cruciblelaw18_CommandSum.l2
   repeat' first
   | (with_reducible exact ih0 _ _ _ _)
   | (with_reducible exact ih1 _ _ _ _ _ _ _ _ _)
   | (with_reducible exact ih2 _ _ _ _ _ _ _)
   | (with_reducible exact ih3 _ _ _)
   | (with_reducible exact ih4 _ _ _)
   | (with_reducible exact command_Run.mono _ _ _ _ _ _ _ _ _ _ _)
   | (with_reducible exact LeO.refl _)
   | (with_reducible exact LeO.none _)
   | (with_reducible refine LeO.ite ?_ ?_)
   | (with_reducible refine LeO.bind ?_ (fun _ => ?_))
   | exact ih0 _ _ _ _
   | exact ih1 _ _ _ _ _ _ _ _ _
   | exact ih2 _ _ _ _ _ _ _
   | exact ih3 _ _ _
   | exact ih4 _ _ _
   | exact command_Run.mono _ _ _ _ _ _ _ _ _ _ _
   | exact LeO.none _
   | refine LeO.ite ?_ ?_
   | refine LeO.bind ?_ (fun _ => ?_)
theorem cruciblelaw18_CommandSum.mono : ∀ a0 a1 a2 k, LeO (cruciblelaw18_CommandSum.f k a0 a1 a2) (cruciblelaw18_CommandSum.f (k + 1) a0 a1 a2) := by
 intro a0 a1 a2 k
 obtain ⟨ih0, ih1, ih2, ih3, ih4⟩ := cruciblelaw18_CommandSum.mono_l k
 unfold cruciblelaw18_CommandSum.f
 repeat' first
   | (with_reducible exact ih0 _ _ _ _)
   | (with_reducible exact ih1 _ _ _ _ _ _ _ _ _)
   | (with_reducible exact ih2 _ _ _ _ _ _ _)
   | (with_reducible exact ih3 _ _ _)
   | (with_reducible exact ih4 _ _ _)
   | (with_reducible exact command_Run.mono _ _ _ _ _ _ _ _ _ _ _)
   | (with_reducible exact LeO.refl _)
   | (with_reducible exact LeO.none _)
   | (with_reducible refine LeO.ite ?_ ?_)
   | (with_reducible refine LeO.bind ?_ (fun _ => ?_))
   | exact ih0 _ _ _ _
   | exact ih1 _ _ _ _ _ _ _ _ _
   | exact ih2 _ _ _ _ _ _ _
   | exact ih3 _ _ _
   | exact ih4 _ _ _
   | exact command_Run.mono _ _ _ _ _ _ _ _ _ _ _
   | exact LeO.none _
   | refine LeO.ite ?_ ?_
   | refine LeO.bind ?_ (fun _ => ?_)
set_option maxHeartbeats 8000000 in
set_option maxRecDepth 100000 in
theorem cruciblelaw18_CommandSum.calls (k : Nat) (a0 : Int) (a1 : ByteArray) (a2 : Int) (r : Bool) (w : World) (h : cruciblelaw18_CommandSum.f k a0 a1 a2 = some r) :
  Calls Tryd.prog 6 #[.int .i64 a0, .string a1, .int .i64 a2] w fun e w' => e = .returned (.bool r) ∧ Below w.heap.size w w' := by
 have hu25 := Tryd.underlying25
 have hu72 := Tryd.underlying72
 have hu28 := Tryd.underlying28
 have HB := Aside0.mk (Below.refl w.heap.size w)
 have H : ((cruciblelaw18_awake.f).bind fun t522 => (if t522 = true then (if (a1.size : Int) < 1 then (cruciblelaw18_CommandSum.j0 k a1 a2 (Go.bits .and .i64 a0 2147483647) true) else (cruciblelaw18_CommandSum.j0 k a1 a2 (Go.bits .and .i64 a0 2147483647) (decide ((a1.size : Int) > 100)))) else (none))) = some r := h
 clear h
 replace H := Option.bind_eq_some_iff.mp H
 obtain ⟨t522, A40, H⟩ := H
 replace H : (if t522 = true then (if (a1.size : Int) < 1 then (cruciblelaw18_CommandSum.j0 k a1 a2 (Go.bits .and .i64 a0 2147483647) true) else (cruciblelaw18_CommandSum.j0 k a1 a2 (Go.bits .and .i64 a0 2147483647) (decide ((a1.size : Int) > 100)))) else (none)) = some r := H
 have A4 := Aside0.mk A40
 clear A40
 by_cases c5 : t522 = true
 ·
  subst c5
  have H1 : (if (a1.size : Int) < 1 then (cruciblelaw18_CommandSum.j0 k a1 a2 (Go.bits .and .i64 a0 2147483647) true) else (cruciblelaw18_CommandSum.j0 k a1 a2 (Go.bits .and .i64 a0 2147483647) (decide ((a1.size : Int) > 100)))) = some r := by rw [if_pos rfl] at H; exact H
  clear H
  have H := H1
  clear H1
  have HC6 := Aside0.mk H
  clear H
  go_enter Tryd.func6, Tryd.ntmps6
  go_upto_region 4 with (first | ((with_reducible refine gate_callee (f := 32) rfl ?_); refine goesL_ (some 15) rfl rfl Tryd.func32 (by kernel_rfl) rfl #[] rfl (by (try simp only [List.map_toArray, List.map_cons, List.map_nil]); first | done | rfl | (simp only [List.length_drop, List.length_take]; rfl)) ?_; (with_reducible refine (cruciblelaw18_awake.calls  true _ A4.out).mono ?_); rintro e w7 ⟨rfl, hb⟩; refine ⟨_, rfl, ?_⟩; have n0_ := Aside0.mk (below_step (by repeat (first | (with_reducible first | exact HB.out | apply below_alloc | apply pw_below_drewN | apply below_drew1) | exact HB.out)) hb); clear HB; have HB := n0_; clear n0_; (try clear hb); (try clear hb2); (try clear hk); (try clear hi)))
  (try simp only [Act.put, List.setIfInBounds_toArray, List.set_cons_zero, List.set_cons_succ])
  go_cut [26] (fun v26 wc => ∃ (kq : Nat) (x26_5 : Bool), v26 = .bool x26_5 ∧ Aside0 (cruciblelaw18_CommandSum.j0 kq a1 a2 (Go.bits .and .i64 a0 2147483647) x26_5 = some r) ∧ Aside0 (kq ≤ k) ∧ Aside0 (Below w.heap.size w wc))
  case first =>
   have H := HC6.out
   clear HC6
   by_cases c8 : (a1.size : Int) < 1
   ·
    rw [if_pos c8] at H
    have c8b0 : decide ((a1.size : Int) < 1) = true := decide_eq_true c8
    have c8b1 : decide (a1.size < 1) = true := decide_eq_true (by omega)
    clear c8
    (first | rw [c8b0] | (simp only [i64_w, i32_w]; rw [c8b0]) | rw [c8b2] | skip)
    have H' := Aside0.mk H
    clear H
    go_wp2
    go_meet
    case rel => exact ⟨_, (true), (by first | rfl | (simp; done) | (simp [*]; done)), H', ⟨by first | omega | exact Nat.le_refl _⟩, ⟨by repeat (first | (with_reducible first | exact HB.out | apply below_alloc | apply pw_below_drewN | apply below_drew1) | exact HB.out)⟩⟩
   ·
    rw [if_neg c8] at H
    have c8b0 : decide ((a1.size : Int) < 1) = false := decide_eq_false c8
    have c8b1 : decide (a1.size < 1) = false := decide_eq_false (by omega)
    clear c8
    (first | rw [c8b0] | (simp only [i64_w, i32_w]; rw [c8b0]) | rw [c8b2] | skip)
    have H' := Aside0.mk H
    clear H
    go_wp2
    go_meet
    case rel => exact ⟨_, (decide ((a1.size : Int) > 100)), (by first | rfl | (simp; done) | (simp [*]; done)), H', ⟨by first | omega | exact Nat.le_refl _⟩, ⟨by repeat (first | (with_reducible first | exact HB.out | apply below_alloc | apply pw_below_drewN | apply below_drew1) | exact HB.out)⟩⟩
  case rest =>
   clear HC6
   try clear p2
   try clear c3
   try clear c5
   try clear c6
   try clear c8
   try clear c8b0
   try clear c8b1
   try clear c8b2
   obtain ⟨kq, x26_5, rfl, HA, HJ5, HB⟩ := hcut
   cases kq with
   | zero => exact absurd HA.out (by simp [cruciblelaw18_CommandSum.j0])
   | succ kj5 =>
    have H := HA.out
    clear HA
    simp only [cruciblelaw18_CommandSum.j0] at H
    by_cases c9 : x26_5 = true
    ·
     subst c9
     have H1 : (some true) = some r := by rw [if_pos rfl] at H; exact H
     clear H
     have H := H1
     clear H1
     obtain rfl := Option.some.inj H
     go_wp2
     go_ret
     exact ⟨by first | rfl | (simp [errW_none, errW_some] <;> rfl) | (simp [*, errW_none, errW_some] <;> rfl), by repeat (first | (with_reducible first | exact HB.out | apply below_alloc | apply pw_below_drewN | apply below_drew1) | exact HB.out)⟩
    ·
     replace c9 := Bool.eq_false_iff.mpr c9
     subst c9
     have H1 : (cruciblelaw18_CommandSum.l0 kj5 a1 a2 (Go.bits .and .i64 a0 2147483647) 0 ([] : List ByteArray) (([(⟨#[113]⟩ : ByteArray)] : List ByteArray)) a1 false (⟨#[]⟩ : ByteArray)) = some r := by rw [if_neg (show ¬ (false = true) by decide)] at H; exact H
     clear H
     have H := H1
     clear H1
     obtain ⟨y523, hy523⟩ : ∃ y_ : List ByteArray, y_ = (([(⟨#[113]⟩ : ByteArray)] : List ByteArray)) := ⟨_, rfl⟩
     replace H : (cruciblelaw18_CommandSum.l0 kj5 a1 a2 (Go.bits .and .i64 a0 2147483647) 0 ([] : List ByteArray) y523 a1 false (⟨#[]⟩ : ByteArray)) = some r := by first | (rw [hy523]; with_reducible exact H) | (have H2_ := (Option.bind_some _ _).symm.trans H; rw [hy523]; with_reducible exact H2_) | (have H2_ := (Option.bind_some _ _).symm.trans H; with_reducible exact H2_) | with_reducible exact H | (rw [hy523]; exact H) | exact H
     have Ny523 := Aside0.mk hy523
     clear hy523
     have H' := Aside0.mk H
     clear H
     go_wp2_with (first | ((with_reducible refine gate_dst (N := 27) rfl ?_); (try (refine gate_guard (by rfl) ?_; dsimp only)); refine Kd.R_lit Kd.string _ 9 ?hg (N := 27) ?hd (xs := ([(⟨#[113]⟩ : ByteArray)] : List ByteArray)) (inner := [.string (⟨#[113]⟩ : ByteArray)]) (ok := fun _ => True) (okp := fun _ => True) ?hr ?hp (fun _ hk => hk) trivial (Below.refl _ _) (Nat.le_refl _) (by simp) ?_; (case hd => rfl); (case hg => rfl); (case hr => first | (go_simp; done) | (go_simp; rfl)); (case hp => exact (Reps.one (show Kd.M Kd.string _ _ _ (⟨#[113]⟩ : ByteArray) [.string (⟨#[113]⟩ : ByteArray)] from rfl) (Reps.none _ _))); intro v524 w10 ho11 hb hg_ hnew_; clear hg_ hnew_; (first | rw [← Ny523.out] at ho11 | (simp only [Int.reduceToNat] at ho11; rw [← Ny523.out] at ho11)); have n0_ := Aside0.mk (Kd.R_lower ho11 (below_size (by repeat (first | (with_reducible first | exact HB.out | apply below_alloc | apply pw_below_drewN | apply below_drew1) | exact HB.out)))); have n1_ := Aside0.mk (below_step (by repeat (first | (with_reducible first | exact HB.out | apply below_alloc | apply pw_below_drewN | apply below_drew1) | exact HB.out)) hb); clear HB; have HO525 := n0_; have HB := n1_; clear n0_ n1_; clear hb ho11; obtain ⟨Ao12, co12, eo12⟩ := Kd.R_slice HO525.out; subst eo12) | ((with_reducible refine gate_dst (N := 8) rfl ?_); (try (refine gate_guard (by rfl) ?_; dsimp only)); refine box_event ?hg (N := 8) ?hd (cs := #[.slice none 0 0, .slice none 0 0, .slice none 0 0, .slice none 0 0, .string (⟨#[]⟩ : ByteArray), .bool false, .string (⟨#[]⟩ : ByteArray)]) (t := 25) ?hr ?_; (case hd => rfl); (case hg => rfl); (case hr => first | (go_simp; done) | (go_simp; rfl)); intro gb526 hg w13 hbox hb; have n0_ := Aside0.mk (Kd.R_below (by (with_reducible repeat (first | apply Kd.R_alloc | apply Kd.R_drewN | apply Kd.R_drew)); exact HO525.out) hb); have n1_ := Aside0.mk (below_step (by repeat (first | (with_reducible first | exact HB.out | apply below_alloc | apply pw_below_drewN | apply below_drew1) | exact HB.out)) hb); have n2_ := Aside0.mk (hbox); have n3_ := Aside0.mk ((by rw [hg]; exact (below_size (by repeat (first | (with_reducible first | exact HB.out | apply below_alloc | apply pw_below_drewN | apply below_drew1) | exact HB.out))) : w.heap.size ≤ gb526)); have n4_ := Aside0.mk ((by rw [hg]; exact (below_size (by repeat (first | (with_reducible first | exact HB.out | apply below_alloc | apply pw_below_drewN | apply below_drew1) | exact HB.out))) : w.heap.size ≤ gb526)); clear HO525; clear HB; have HO525 := n0_; have HB := n1_; have BK526 := n2_; have GW526 := n3_; have GE526 := n4_; clear n0_ n1_ n2_ n3_ n4_; clear hb hbox hg; have hcz14_0 : w13.cell? ⟨gb526, 0, none⟩ = some (.slice none 0 0) := (blk_cell BK526.out 0).trans rfl; have hcz14_1 : w13.cell? ⟨gb526, 1, none⟩ = some (.slice none 0 0) := (blk_cell BK526.out 1).trans rfl; have hcz14_2 : w13.cell? ⟨gb526, 2, none⟩ = some (.slice none 0 0) := (blk_cell BK526.out 2).trans rfl; have hcz14_3 : w13.cell? ⟨gb526, 3, none⟩ = some (.slice none 0 0) := (blk_cell BK526.out 3).trans rfl; have hcz14_4 : w13.cell? ⟨gb526, 4, none⟩ = some (.string (⟨#[]⟩ : ByteArray)) := (blk_cell BK526.out 4).trans rfl; have hcz14_5 : w13.cell? ⟨gb526, 5, none⟩ = some (.bool false) := (blk_cell BK526.out 5).trans rfl; have hcz14_6 : w13.cell? ⟨gb526, 6, none⟩ = some (.string (⟨#[]⟩ : ByteArray)) := (blk_cell BK526.out 6).trans rfl; have hfz14_0 := blk_frozen BK526.out 0; have hfz14_1 := blk_frozen BK526.out 1; have hfz14_2 := blk_frozen BK526.out 2; have hfz14_3 := blk_frozen BK526.out 3; have hfz14_4 := blk_frozen BK526.out 4; have hfz14_5 := blk_frozen BK526.out 5; have hfz14_6 := blk_frozen BK526.out 6))
     go_loopg [9] kj5 (fun kq v9 w' => ∃ (x9_2 : Int) (x527000_2 : List ByteArray) (u527000 : Value), v9 = .int .i64 x9_2 ∧ Aside0 (cruciblelaw18_CommandSum.l0 kq a1 a2 (Go.bits .and .i64 a0 2147483647) x9_2 x527000_2 y523 a1 false (⟨#[]⟩ : ByteArray) = some r) ∧ Aside0 (kq ≤ kj5) ∧ Aside0 (Kd.R Kd.string 9 w' w.heap.size (fun k_ => some k_ ≠ ((.slice Ao12 y523.length co12) : Value).ownBlock) u527000 x527000_2) ∧ Aside0 (Kd.R Kd.string 9 w' w.heap.size (fun k_ => some k_ ≠ (u527000 : Value).ownBlock) (.slice Ao12 y523.length co12) y523) ∧ Aside0 (w'.heap[gb526]? = some (.cells #[u527000, (.slice Ao12 y523.length co12), (.slice none 0 0), (.slice none 0 0), .string a1, .bool false, .string (⟨#[]⟩ : ByteArray)] 25 (0, 0))) ∧ Aside0 (Below w.heap.size w w'))
     case atStart => exact ⟨(0), (([] : List ByteArray)), (.slice none 0 0), (by first | rfl | (simp; done) | (simp [*]; done)), H', ⟨Nat.le_refl _⟩, ⟨by first | exact Kd.R_nil _ _ _ _ _ | exact Kd.N_nil _ _ _ _ _ | exact Kd.V_nil _ _ _ _ _ | exact Kd.Q_nil _ _ _ _ _ | exact Kd.S_nil _ _ _ _ _⟩, ⟨by (with_reducible repeat (first | apply Kd.R_alloc | apply Kd.R_drewN | apply Kd.R_drew)); exact Kd.R_mono (Kd.R_far (p := ⟨gb526, 6, none⟩) (Kd.R_far (p := ⟨gb526, 5, none⟩) (Kd.R_far (p := ⟨gb526, 4, none⟩) (Kd.R_far (p := ⟨gb526, 3, none⟩) (Kd.R_far (p := ⟨gb526, 2, none⟩) (Kd.R_far (p := ⟨gb526, 1, none⟩) (Kd.R_far (p := ⟨gb526, 0, none⟩) (Kd.R_types HO525.out BK526.out (by decide)) (fun _ hk => hk.2) (.slice none 0 0)) (fun _ hk => hk.2) (.slice Ao12 y523.length co12)) (fun _ hk => hk.2) (.slice none 0 0)) (fun _ hk => hk.2) (.slice none 0 0)) (fun _ hk => hk.2) (.string a1)) (fun _ hk => hk.2) (.bool false)) (fun _ hk => hk.2) (.string (⟨#[]⟩ : ByteArray))) (fun _ hk => (by simp [Value.ownBlock]))⟩, ⟨by (with_reducible repeat (first | refine blk_drewN ?_ _ | refine blk_drew ?_ | refine blk_alloc ?_ _)); refine blk_put (cs := #[.slice none 0 0, .slice Ao12 y523.length co12, .slice none 0 0, .slice none 0 0, .string a1, .bool false, .string (⟨#[]⟩ : ByteArray)]) ?_ 6 _ rfl; (with_reducible repeat (first | refine blk_drewN ?_ _ | refine blk_drew ?_ | refine blk_alloc ?_ _)); refine blk_put (cs := #[.slice none 0 0, .slice Ao12 y523.length co12, .slice none 0 0, .slice none 0 0, .string a1, .bool false, .string (⟨#[]⟩ : ByteArray)]) ?_ 5 _ rfl; (with_reducible repeat (first | refine blk_drewN ?_ _ | refine blk_drew ?_ | refine blk_alloc ?_ _)); refine blk_put (cs := #[.slice none 0 0, .slice Ao12 y523.length co12, .slice none 0 0, .slice none 0 0, .string (⟨#[]⟩ : ByteArray), .bool false, .string (⟨#[]⟩ : ByteArray)]) ?_ 4 _ rfl; (with_reducible repeat (first | refine blk_drewN ?_ _ | refine blk_drew ?_ | refine blk_alloc ?_ _)); refine blk_put (cs := #[.slice none 0 0, .slice Ao12 y523.length co12, .slice none 0 0, .slice none 0 0, .string (⟨#[]⟩ : ByteArray), .bool false, .string (⟨#[]⟩ : ByteArray)]) ?_ 3 _ rfl; (with_reducible repeat (first | refine blk_drewN ?_ _ | refine blk_drew ?_ | refine blk_alloc ?_ _)); refine blk_put (cs := #[.slice none 0 0, .slice Ao12 y523.length co12, .slice none 0 0, .slice none 0 0, .string (⟨#[]⟩ : ByteArray), .bool false, .string (⟨#[]⟩ : ByteArray)]) ?_ 2 _ rfl; (with_reducible repeat (first | refine blk_drewN ?_ _ | refine blk_drew ?_ | refine blk_alloc ?_ _)); refine blk_put (cs := #[.slice none 0 0, .slice none 0 0, .slice none 0 0, .slice none 0 0, .string (⟨#[]⟩ : ByteArray), .bool false, .string (⟨#[]⟩ : ByteArray)]) ?_ 1 _ rfl; (with_reducible repeat (first | refine blk_drewN ?_ _ | refine blk_drew ?_ | refine blk_alloc ?_ _)); refine blk_put (cs := #[.slice none 0 0, .slice none 0 0, .slice none 0 0, .slice none 0 0, .string (⟨#[]⟩ : ByteArray), .bool false, .string (⟨#[]⟩ : ByteArray)]) ?_ 0 _ rfl; (with_reducible repeat (first | refine blk_drewN ?_ _ | refine blk_drew ?_ | refine blk_alloc ?_ _)); exact BK526.out⟩, ⟨by repeat (first | (with_reducible first | exact HB.out | apply below_alloc | apply pw_below_drewN | apply below_drew1 | refine below_set ?_ GE526.out) | exact HB.out)⟩⟩
     case round =>
      clear H'
      try clear p2
      try clear c3
      try clear c5
      try clear c6
      try clear c8
      try clear c8b0
      try clear c8b1
      try clear c8b2
      try clear c9
      try clear hcz14_0
      try clear hcz14_1
      try clear hcz14_2
      try clear hcz14_3
      try clear hcz14_4
      try clear hcz14_5
      try clear hcz14_6
      try clear hfz14_0
      try clear hfz14_1
      try clear hfz14_2
      try clear hfz14_3
      try clear hfz14_4
      try clear hfz14_5
      try clear hfz14_6
      try clear p2
      obtain ⟨x9_2, x527000_2, u527000, rfl, HA, HK2, HO_527000, HO_527001, BK526, HB⟩ := hrel
      cases gk with
      | zero => exact absurd HA.out (by simp [cruciblelaw18_CommandSum.l0])
      | succ k2 =>
       have H := HA.out
       clear HA
       simp only [cruciblelaw18_CommandSum.l0] at H
       by_cases c15 : x9_2 ≤ (Go.bits .and .i64 a2 7)
       ·
        rw [if_pos c15] at H
        have c15b0 : decide (x9_2 ≤ (Go.bits .and .i64 a2 7)) = true := decide_eq_true c15
        clear c15
        obtain ⟨y527, hy527⟩ : ∃ y_ : List Int, y_ = (([(wrap64 (97 + x9_2)) % 256] : List Int)) := ⟨_, rfl⟩
        replace H : (if 1 + (strOfNums y527).size ≤ 9223372036854775807 then (if x527000_2.length < 8796093022208 then (cruciblelaw18_CommandSum.l0 k2 a1 a2 (Go.bits .and .i64 a0 2147483647) (wrap64 (x9_2 + 1)) (x527000_2 ++ [(⟨#[111]⟩ : ByteArray) ++ (strOfNums y527)]) y523 a1 false (⟨#[]⟩ : ByteArray)) else (none)) else (none)) = some r := by first | (rw [hy527]; with_reducible exact H) | (have H2_ := (Option.bind_some _ _).symm.trans H; rw [hy527]; with_reducible exact H2_) | (have H2_ := (Option.bind_some _ _).symm.trans H; with_reducible exact H2_) | with_reducible exact H | (rw [hy527]; exact H) | exact H
        have Ny527 := Aside0.mk hy527
        clear hy527
        by_cases c16 : 1 + (strOfNums y527).size ≤ 9223372036854775807
        ·
         rw [if_pos c16] at H
         have c16b0 := eq_true c16
         have c16b1 : decide (1 + (strOfNums y527).size ≤ 9223372036854775807) = true := decide_eq_true c16
         try have c16b2 : (9223372036854775807 < 1 + (strOfNums y527).size) = False := eq_false (Nat.not_lt.2 c16)
         by_cases c17 : x527000_2.length < 8796093022208
         ·
          rw [if_pos c17] at H
          have LMc17 := Aside0.mk c17
          clear c17
          obtain ⟨y530, hy530⟩ : ∃ y_ : List ByteArray, y_ = (x527000_2 ++ [(⟨#[111]⟩ : ByteArray) ++ (strOfNums y527)]) := ⟨_, rfl⟩
          replace H : (cruciblelaw18_CommandSum.l0 k2 a1 a2 (Go.bits .and .i64 a0 2147483647) (wrap64 (x9_2 + 1)) y530 y523 a1 false (⟨#[]⟩ : ByteArray)) = some r := by first | (rw [hy530]; with_reducible exact H) | (have H2_ := (Option.bind_some _ _).symm.trans H; rw [hy530]; with_reducible exact H2_) | (have H2_ := (Option.bind_some _ _).symm.trans H; with_reducible exact H2_) | with_reducible exact H | (rw [hy530]; exact H) | exact H
          have Ny530 := Aside0.mk hy530
          clear hy530
          have H' := Aside0.mk H
          clear H
          have hcz18_0 : wr.cell? ⟨gb526, 0, none⟩ = some (u527000) := (blk_cell BK526.out 0).trans rfl
          have hcz18_1 : wr.cell? ⟨gb526, 1, none⟩ = some (.slice Ao12 y523.length co12) := (blk_cell BK526.out 1).trans rfl
          have hcz18_2 : wr.cell? ⟨gb526, 2, none⟩ = some (.slice none 0 0) := (blk_cell BK526.out 2).trans rfl
          have hcz18_3 : wr.cell? ⟨gb526, 3, none⟩ = some (.slice none 0 0) := (blk_cell BK526.out 3).trans rfl
          have hcz18_4 : wr.cell? ⟨gb526, 4, none⟩ = some (.string a1) := (blk_cell BK526.out 4).trans rfl
          have hcz18_5 : wr.cell? ⟨gb526, 5, none⟩ = some (.bool false) := (blk_cell BK526.out 5).trans rfl
          have hcz18_6 : wr.cell? ⟨gb526, 6, none⟩ = some (.string (⟨#[]⟩ : ByteArray)) := (blk_cell BK526.out 6).trans rfl
          have hfz18_0 := blk_frozen BK526.out 0
          have hfz18_1 := blk_frozen BK526.out 1
          have hfz18_2 := blk_frozen BK526.out 2
          have hfz18_3 := blk_frozen BK526.out 3
          have hfz18_4 := blk_frozen BK526.out 4
          have hfz18_5 := blk_frozen BK526.out 5
          have hfz18_6 := blk_frozen BK526.out 6
          go_wp2_with (first | ((with_reducible refine gate_dst (N := 41) rfl ?_); (try (refine gate_guard (by rfl) ?_; dsimp only)); refine Kd.R_lit (Kd.int .u8) _ 5 ?hg (N := 41) ?hd (xs := ([(wrap64 (97 + x9_2)) % 256] : List Int)) (inner := [.int .u8 ((wrap64 (97 + x9_2)) % 256)]) (ok := fun _ => True) (okp := fun _ => True) ?hr ?hp (fun _ hk => hk) trivial (Below.refl _ _) (Nat.le_refl _) (by simp) ?_; (case hd => rfl); (case hg => rfl); (case hr => first | (go_simp; done) | (go_simp; rfl)); (case hp => exact (Reps.one (show Kd.M (Kd.int .u8) _ _ _ ((wrap64 (97 + x9_2)) % 256) [.int .u8 ((wrap64 (97 + x9_2)) % 256)] from rfl) (Reps.none _ _))); intro v528 w19 ho20 hb hg_ hnew_; clear hg_ hnew_; (first | rw [← Ny527.out] at ho20 | (simp only [Int.reduceToNat] at ho20; rw [← Ny527.out] at ho20)); have n0_ := Aside0.mk (Kd.R_below (by (with_reducible repeat (first | apply Kd.R_alloc | apply Kd.R_drewN | apply Kd.R_drew)); exact HO_527000.out) hb); have n1_ := Aside0.mk (Kd.R_below (by (with_reducible repeat (first | apply Kd.R_alloc | apply Kd.R_drewN | apply Kd.R_drew)); exact HO_527001.out) hb); have n2_ := Aside0.mk (Kd.R_lower ho20 (below_size (by repeat (first | (with_reducible first | exact HB.out | apply below_alloc | apply pw_below_drewN | apply below_drew1 | refine below_set ?_ GE526.out) | exact HB.out)))); have n3_ := Aside0.mk (blk_below (g := gb526) (o := .cells #[u527000, .slice Ao12 y523.length co12, .slice none 0 0, .slice none 0 0, .string a1, .bool false, .string (⟨#[]⟩ : ByteArray)] 25 (0, 0)) (by (with_reducible repeat (first | refine blk_drewN ?_ _ | refine blk_drew ?_ | refine blk_alloc ?_ _)); exact BK526.out) hb); have n4_ := Aside0.mk (below_step (by repeat (first | (with_reducible first | exact HB.out | apply below_alloc | apply pw_below_drewN | apply below_drew1 | refine below_set ?_ GE526.out) | exact HB.out)) hb); clear HO_527000; clear HO_527001; clear BK526; clear HB; have HO_527000 := n0_; have HO_527001 := n1_; have HO529 := n2_; have BK526 := n3_; have HB := n4_; clear n0_ n1_ n2_ n3_ n4_; clear hb ho20; have hcv21 := own_string (P := Tryd.prog) Tryd.underlying70 Tryd.underlying5 Tryd.underlying9 (Kd.own_of_R HO529.out)) | ((with_reducible refine gate_builtin (b := .append) (xs := #[.tmp 37, .tmp 44]) rfl ?_); (try (refine gate_guard (by rfl) ?_; dsimp only)); at_builtin; refine Kd.R_append Kd.string (w0 := w) w.heap.size rfl (.tmp 37) (.tmp 44) 23 9 (.string ⟨#[]⟩) 16 rfl Tryd.underlying23 info9 rfl (by decide) (by omega) u527000 x527000_2 ((⟨#[111]⟩ : ByteArray) ++ (strOfNums y527)) [.string ((⟨#[111]⟩ : ByteArray) ++ (strOfNums y527))] (fun k_ => some k_ ≠ (.slice Ao12 y523.length co12 : Value).ownBlock) (fun _ => False) rfl rfl ?aP (fun _ hk => hk.elim) ?aF ?aO ?aB ?aS ?aL ?_; (case aP => exact rfl); (case aB => exact (by repeat (first | (with_reducible first | exact HB.out | apply below_alloc | apply pw_below_drewN | apply below_drew1 | refine below_set ?_ GE526.out) | exact HB.out))); (case aF => exact (fun k_ hk => Kd.fresh' (Kd.R_lt (by (with_reducible repeat (first | apply Kd.R_alloc | apply Kd.R_drewN | apply Kd.R_drew)); exact HO_527001.out)) k_ hk)); (case aO => exact (by (with_reducible repeat (first | apply Kd.R_alloc | apply Kd.R_drewN | apply Kd.R_drew)); exact HO_527000.out)); (case aS => exact (below_size (by repeat (first | (with_reducible first | exact HB.out | apply below_alloc | apply pw_below_drewN | apply below_drew1 | refine below_set ?_ GE526.out) | exact HB.out)))); (case aL => have := LMc17.out; omega); intro v531 w22 ho hb hg hat; rw [← Ny530.out] at ho; have n0_ := Aside0.mk (Kd.R_after (ok := (fun _ => True)) (by (with_reducible repeat (first | apply Kd.R_alloc | apply Kd.R_drewN | apply Kd.R_drew)); exact Kd.R_mono HO_527001.out (fun _ hk => ⟨trivial, hk⟩)) hg hat); have n1_ := Aside0.mk (blk_grown (g := gb526) (o := .cells #[u527000, .slice Ao12 y523.length co12, .slice none 0 0, .slice none 0 0, .string a1, .bool false, .string (⟨#[]⟩ : ByteArray)] 25 (0, 0)) (by (with_reducible repeat (first | refine blk_drewN ?_ _ | refine blk_drew ?_ | refine blk_alloc ?_ _)); exact BK526.out) hg (Kd.R_ne HO_527000.out BK526.out (by decide))); have n2_ := Aside0.mk (Kd.R_over' (by (with_reducible repeat (first | apply Kd.R_alloc | apply Kd.R_drewN | apply Kd.R_drew)); exact HO529.out) (Kd.R_typed (by (with_reducible repeat (first | apply Kd.R_alloc | apply Kd.R_drewN | apply Kd.R_drew)); exact HO_527000.out)) (by decide) hg); have n3_ := Aside0.mk (hb); have n4_ := Aside0.mk (ho); clear HO_527001; clear BK526; clear HO529; clear HB; clear HO_527000; have HO_527001 := n0_; have BK526 := n1_; have HO529 := n2_; have HB := n3_; have HO532 := n4_; clear n0_ n1_ n2_ n3_ n4_; clear ho hb hg hat; obtain ⟨Ao23, co23, eo23⟩ := Kd.R_slice HO532.out; subst eo23; have hcz24_0 : w22.cell? ⟨gb526, 0, none⟩ = some (u527000) := (blk_cell BK526.out 0).trans rfl; have hcz24_1 : w22.cell? ⟨gb526, 1, none⟩ = some (.slice Ao12 y523.length co12) := (blk_cell BK526.out 1).trans rfl; have hcz24_2 : w22.cell? ⟨gb526, 2, none⟩ = some (.slice none 0 0) := (blk_cell BK526.out 2).trans rfl; have hcz24_3 : w22.cell? ⟨gb526, 3, none⟩ = some (.slice none 0 0) := (blk_cell BK526.out 3).trans rfl; have hcz24_4 : w22.cell? ⟨gb526, 4, none⟩ = some (.string a1) := (blk_cell BK526.out 4).trans rfl; have hcz24_5 : w22.cell? ⟨gb526, 5, none⟩ = some (.bool false) := (blk_cell BK526.out 5).trans rfl; have hcz24_6 : w22.cell? ⟨gb526, 6, none⟩ = some (.string (⟨#[]⟩ : ByteArray)) := (blk_cell BK526.out 6).trans rfl; have hfz24_0 := blk_frozen BK526.out 0; have hfz24_1 := blk_frozen BK526.out 1; have hfz24_2 := blk_frozen BK526.out 2; have hfz24_3 := blk_frozen BK526.out 3; have hfz24_4 := blk_frozen BK526.out 4; have hfz24_5 := blk_frozen BK526.out 5; have hfz24_6 := blk_frozen BK526.out 6))
          go_roundg k2
          case measure => have := HJ5.out; have := HK2.out; omega
          case rel => exact ⟨(wrap64 (x9_2 + 1)), (y530), (.slice Ao23 y530.length co23), (by first | rfl | (simp; done) | (simp [*]; done)), H', ⟨by have := HJ5.out; have := HK2.out; omega⟩, ⟨by (with_reducible repeat (first | apply Kd.R_alloc | apply Kd.R_drewN | apply Kd.R_drew)); exact Kd.R_mono (Kd.R_far (p := ⟨gb526, 0, none⟩) (Kd.R_types HO532.out BK526.out (by decide)) (fun _ hk => hk.2) (.slice Ao23 y530.length co23)) (fun _ hk => hk.1)⟩, ⟨by (with_reducible repeat (first | apply Kd.R_alloc | apply Kd.R_drewN | apply Kd.R_drew)); exact Kd.R_mono (Kd.R_far (p := ⟨gb526, 0, none⟩) (Kd.R_types HO_527001.out BK526.out (by decide)) (fun _ hk => hk.2) (.slice Ao23 y530.length co23)) (fun _ hk => hk.1.2)⟩, ⟨by (with_reducible repeat (first | refine blk_drewN ?_ _ | refine blk_drew ?_ | refine blk_alloc ?_ _)); refine blk_put (cs := #[u527000, .slice Ao12 y523.length co12, .slice none 0 0, .slice none 0 0, .string a1, .bool false, .string (⟨#[]⟩ : ByteArray)]) ?_ 0 _ rfl; (with_reducible repeat (first | refine blk_drewN ?_ _ | refine blk_drew ?_ | refine blk_alloc ?_ _)); exact BK526.out⟩, ⟨by repeat (first | (with_reducible first | exact HB.out | apply below_alloc | apply pw_below_drewN | apply below_drew1 | refine below_set ?_ GE526.out) | exact HB.out)⟩⟩
         ·
          rw [if_neg c17] at H
          exact absurd H (by simp)
        ·
         rw [if_neg c16] at H
         exact absurd H (by simp)
       ·
        rw [if_neg c15] at H
        have c15b0 : decide (x9_2 ≤ (Go.bits .and .i64 a2 7)) = false := decide_eq_false c15
        clear c15
        obtain ⟨y533, hy533⟩ : ∃ y_ : List (S72), y_ = (([(⟨(⟨#[113]⟩ : ByteArray), (Go.bits .and .i64 a0 2147483647), 1⟩ : S72)] : List (S72))) := ⟨_, rfl⟩
        replace H : ((command_Run.f k2 ([] : List (S33)) x527000_2 y523 ([] : List ByteArray) ([] : List ByteArray) a1 false (⟨#[]⟩ : ByteArray) 1 y533).bind fun bt536 => (cruciblelaw18_CommandSum.l1 k2 a1 a2 (Go.bits .and .i64 a0 2147483647) bt536.1 bt536.2 0 0)) = some r := by first | (rw [hy533]; with_reducible exact H) | (have H2_ := (Option.bind_some _ _).symm.trans H; rw [hy533]; with_reducible exact H2_) | (have H2_ := (Option.bind_some _ _).symm.trans H; with_reducible exact H2_) | with_reducible exact H | (rw [hy533]; exact H) | exact H
        have Ny533 := Aside0.mk hy533
        clear hy533
        replace H := Option.bind_eq_some_iff.mp H
        obtain ⟨⟨t536, t539⟩, A250, H⟩ := H
        replace H : (cruciblelaw18_CommandSum.l1 k2 a1 a2 (Go.bits .and .i64 a0 2147483647) t536 t539 0 0) = some r := H
        have A25 := Aside0.mk A250
        clear A250
        have H' := Aside0.mk H
        clear H
        have hcz26_0 : wr.cell? ⟨gb526, 0, none⟩ = some (u527000) := (blk_cell BK526.out 0).trans rfl
        have hcz26_1 : wr.cell? ⟨gb526, 1, none⟩ = some (.slice Ao12 y523.length co12) := (blk_cell BK526.out 1).trans rfl
        have hcz26_2 : wr.cell? ⟨gb526, 2, none⟩ = some (.slice none 0 0) := (blk_cell BK526.out 2).trans rfl
        have hcz26_3 : wr.cell? ⟨gb526, 3, none⟩ = some (.slice none 0 0) := (blk_cell BK526.out 3).trans rfl
        have hcz26_4 : wr.cell? ⟨gb526, 4, none⟩ = some (.string a1) := (blk_cell BK526.out 4).trans rfl
        have hcz26_5 : wr.cell? ⟨gb526, 5, none⟩ = some (.bool false) := (blk_cell BK526.out 5).trans rfl
        have hcz26_6 : wr.cell? ⟨gb526, 6, none⟩ = some (.string (⟨#[]⟩ : ByteArray)) := (blk_cell BK526.out 6).trans rfl
        have hfz26_0 := blk_frozen BK526.out 0
        have hfz26_1 := blk_frozen BK526.out 1
        have hfz26_2 := blk_frozen BK526.out 2
        have hfz26_3 := blk_frozen BK526.out 3
        have hfz26_4 := blk_frozen BK526.out 4
        have hfz26_5 := blk_frozen BK526.out 5
        have hfz26_6 := blk_frozen BK526.out 6
        go_wp2_with (first | ((with_reducible refine gate_dst (N := 51) rfl ?_); (try (refine gate_guard (by rfl) ?_; dsimp only)); refine Kd.R_lit k72 _ 72 ?hg (N := 51) ?hd (xs := ([(⟨(⟨#[113]⟩ : ByteArray), (Go.bits .and .i64 a0 2147483647), 1⟩ : S72)] : List (S72))) (inner := [.string (⟨#[113]⟩ : ByteArray), .int .i64 (Go.bits .and .i64 a0 2147483647), .int .i64 1]) (ok := fun _ => True) (okp := fun _ => True) ?hr ?hp (fun _ hk => hk) trivial (Below.refl _ _) (Nat.le_refl _) (by simp) ?_; (case hd => rfl); (case hg => rfl); (case hr => first | (go_simp; done) | (go_simp; rfl)); (case hp => exact (Reps.c3 (show Kd.M k72 _ _ _ (⟨(⟨#[113]⟩ : ByteArray), (Go.bits .and .i64 a0 2147483647), 1⟩ : S72) [.string (⟨#[113]⟩ : ByteArray), .int .i64 (Go.bits .and .i64 a0 2147483647), .int .i64 1] from (k72_mkM _ _ _ (⟨(⟨#[113]⟩ : ByteArray), (Go.bits .and .i64 a0 2147483647), 1⟩ : S72) )) (Reps.none _ _))); intro v534 w27 ho28 hb hg_ hnew_; clear hg_ hnew_; (first | rw [← Ny533.out] at ho28 | (simp only [Int.reduceToNat] at ho28; rw [← Ny533.out] at ho28)); have n0_ := Aside0.mk (Kd.R_below (by (with_reducible repeat (first | apply Kd.R_alloc | apply Kd.R_drewN | apply Kd.R_drew)); exact HO_527000.out) hb); have n1_ := Aside0.mk (Kd.R_below (by (with_reducible repeat (first | apply Kd.R_alloc | apply Kd.R_drewN | apply Kd.R_drew)); exact HO_527001.out) hb); have n2_ := Aside0.mk (Kd.R_lower ho28 (below_size (by repeat (first | (with_reducible first | exact HB.out | apply below_alloc | apply pw_below_drewN | apply below_drew1 | refine below_set ?_ GE526.out) | exact HB.out)))); have n3_ := Aside0.mk (blk_below (g := gb526) (o := .cells #[u527000, .slice Ao12 y523.length co12, .slice none 0 0, .slice none 0 0, .string a1, .bool false, .string (⟨#[]⟩ : ByteArray)] 25 (0, 0)) (by (with_reducible repeat (first | refine blk_drewN ?_ _ | refine blk_drew ?_ | refine blk_alloc ?_ _)); exact BK526.out) hb); have n4_ := Aside0.mk (below_step (by repeat (first | (with_reducible first | exact HB.out | apply below_alloc | apply pw_below_drewN | apply below_drew1 | refine below_set ?_ GE526.out) | exact HB.out)) hb); clear HO_527000; clear HO_527001; clear BK526; clear HB; have HO_527000 := n0_; have HO_527001 := n1_; have HO535 := n2_; have BK526 := n3_; have HB := n4_; clear n0_ n1_ n2_ n3_ n4_; clear hb ho28; obtain ⟨Ao29, co29, eo29⟩ := Kd.R_slice HO535.out; subst eo29; obtain ⟨Ao30, co30, eo30⟩ := Kd.R_slice HO_527000.out; subst eo30) | ((with_reducible refine gate_callee (f := 22) rfl ?_); refine goesL_ (some 53) rfl rfl Tryd.func22 (by kernel_rfl) rfl #[.slice none 0 0, .agg #[.slice Ao30 x527000_2.length co30, .slice Ao12 y523.length co12, .slice none 0 0, .slice none 0 0, .string a1, .bool false, .string (⟨#[]⟩ : ByteArray)], .agg #[.int .i64 1, .slice Ao29 y533.length co29]] rfl (by (try simp only [List.map_toArray, List.map_cons, List.map_nil]); first | done | rfl | (simp only [List.length_drop, List.length_take]; rfl)) ?_; (refine (command_Run.calls k2 _ _ ([] : List (S33)) _ _ x527000_2 _ _ y523 _ _ ([] : List ByteArray) _ _ ([] : List ByteArray) a1 false (⟨#[]⟩ : ByteArray) 1 _ _ y533 t536 t539 _ ?side1 ?side2 ?side3 ?side4 ?side5 ?side6 ?side7 ?side8 ?side9 ?side10 ?side11 ?side12 A25.out).mono ?_); (case side1 => exact Kd.C_nil _ _); (case side2 => exact Nat.le_refl _); (case side3 => repeat (first | exact (Kd.R_reads' HO_527000.out).2.2 | (with_reducible refine Kd.C_alloc ?_ _) | (with_reducible refine Kd.C_drewN ?_ _) | (with_reducible refine Kd.C_drew ?_))); (case side4 => exact (Kd.R_reads' HO_527000.out).2.1); (case side5 => repeat (first | exact (Kd.R_reads' HO_527001.out).2.2 | (with_reducible refine Kd.C_alloc ?_ _) | (with_reducible refine Kd.C_drewN ?_ _) | (with_reducible refine Kd.C_drew ?_))); (case side6 => exact (Kd.R_reads' HO_527001.out).2.1); (case side7 => exact Kd.C_nil _ _); (case side8 => exact Nat.le_refl _); (case side9 => exact Kd.C_nil _ _); (case side10 => exact Nat.le_refl _); (case side11 => repeat (first | exact (Kd.R_reads' HO535.out).2.2 | (with_reducible refine Kd.C_alloc ?_ _) | (with_reducible refine Kd.C_drewN ?_ _) | (with_reducible refine Kd.C_drew ?_))); (case side12 => exact (Kd.R_reads' HO535.out).2.1); rintro e w31 ⟨v537, rfl, ho0, hb⟩; refine ⟨_, rfl, ?_⟩; have n0_ := Aside0.mk (Kd.R_below (by (with_reducible repeat (first | apply Kd.R_alloc | apply Kd.R_drewN | apply Kd.R_drew)); exact HO_527000.out) hb); have n1_ := Aside0.mk (Kd.R_below (by (with_reducible repeat (first | apply Kd.R_alloc | apply Kd.R_drewN | apply Kd.R_drew)); exact HO_527001.out) hb); have n2_ := Aside0.mk (Kd.R_below (by (with_reducible repeat (first | apply Kd.R_alloc | apply Kd.R_drewN | apply Kd.R_drew)); exact HO535.out) hb); have n3_ := Aside0.mk (Kd.R_lower ho0 (below_size (by repeat (first | (with_reducible first | exact HB.out | apply below_alloc | apply pw_below_drewN | apply below_drew1 | refine below_set ?_ GE526.out) | exact HB.out)))); have n4_ := Aside0.mk (blk_below (g := gb526) (o := .cells #[.slice Ao30 x527000_2.length co30, .slice Ao12 y523.length co12, .slice none 0 0, .slice none 0 0, .string a1, .bool false, .string (⟨#[]⟩ : ByteArray)] 25 (0, 0)) (by (with_reducible repeat (first | refine blk_drewN ?_ _ | refine blk_drew ?_ | refine blk_alloc ?_ _)); exact BK526.out) hb); have n5_ := Aside0.mk (below_step (by repeat (first | (with_reducible first | exact HB.out | apply below_alloc | apply pw_below_drewN | apply below_drew1 | refine below_set ?_ GE526.out) | exact HB.out)) hb); clear HO_527000; clear HO_527001; clear HO535; clear BK526; clear HB; have HO_527000 := n0_; have HO_527001 := n1_; have HO535 := n2_; have HO538 := n3_; have BK526 := n4_; have HB := n5_; clear n0_ n1_ n2_ n3_ n4_ n5_; (try clear hb); (try clear hb2); (try clear hk); (try clear hi); (try clear ho0)))
        go_loopg [12, 13] k2 (fun kq v12 v13 w' => ∃ (x12_3 : Int) (x13_3 : Int), v12 = .int .i64 x12_3 ∧ v13 = .int .i64 x13_3 ∧ Aside0 (cruciblelaw18_CommandSum.l1 kq a1 a2 (Go.bits .and .i64 a0 2147483647) t536 t539 x12_3 x13_3 = some r) ∧ Aside0 (kq ≤ k2) ∧ Aside0 (Kd.R (Kd.int .i64) 3 w' w.heap.size (fun _ => True) v537 t536) ∧ Aside0 (Kd.R Kd.string 9 w' w.heap.size (fun k_ => some k_ ≠ ((.slice Ao12 y523.length co12) : Value).ownBlock) (.slice Ao30 x527000_2.length co30) x527000_2) ∧ Aside0 (Kd.R Kd.string 9 w' w.heap.size (fun k_ => some k_ ≠ ((.slice Ao30 x527000_2.length co30) : Value).ownBlock) (.slice Ao12 y523.length co12) y523) ∧ Aside0 (w'.heap[gb526]? = some (.cells #[(.slice Ao30 x527000_2.length co30), (.slice Ao12 y523.length co12), (.slice none 0 0), (.slice none 0 0), .string a1, .bool false, .string (⟨#[]⟩ : ByteArray)] 25 (0, 0))) ∧ Aside0 (Below w.heap.size w w'))
        case atStart => exact ⟨(0), (0), (by first | rfl | (simp; done) | (simp [*]; done)), (by first | rfl | (simp; done) | (simp [*]; done)), H', ⟨Nat.le_refl _⟩, ⟨by (with_reducible repeat (first | apply Kd.R_alloc | apply Kd.R_drewN | apply Kd.R_drew)); first | exact HO538.out | exact own_len HO538.out⟩, ⟨by (with_reducible repeat (first | apply Kd.R_alloc | apply Kd.R_drewN | apply Kd.R_drew)); first | exact HO_527000.out | exact own_len HO_527000.out⟩, ⟨by (with_reducible repeat (first | apply Kd.R_alloc | apply Kd.R_drewN | apply Kd.R_drew)); first | exact HO_527001.out | exact own_len HO_527001.out⟩, ⟨by (with_reducible repeat (first | refine blk_drewN ?_ _ | refine blk_drew ?_ | refine blk_alloc ?_ _)); exact BK526.out⟩, ⟨by repeat (first | (with_reducible first | exact HB.out | apply below_alloc | apply pw_below_drewN | apply below_drew1 | refine below_set ?_ GE526.out) | exact HB.out)⟩⟩
        case round =>
         clear H'
         try clear c1
         try clear c2
         try clear p2
         try clear hcv2
         try clear c3
         try clear c5
         try clear c6
         try clear p6
         try clear c8
         try clear c8b0
         try clear c8b1
         try clear c8b2
         try clear c9
         try clear c15
         try clear c15b0
         try clear c16
         try clear c16b0
         try clear c16b1
         try clear c16b2
         try clear c17
         try clear hcv21
         try clear c22
         try clear hcz14_0
         try clear hcz14_1
         try clear hcz14_2
         try clear hcz14_3
         try clear hcz14_4
         try clear hcz14_5
         try clear hcz14_6
         try clear hcz18_0
         try clear hcz18_1
         try clear hcz18_2
         try clear hcz18_3
         try clear hcz18_4
         try clear hcz18_5
         try clear hcz18_6
         try clear hcz24_0
         try clear hcz24_1
         try clear hcz24_2
         try clear hcz24_3
         try clear hcz24_4
         try clear hcz24_5
         try clear hcz24_6
         try clear hcz26_0
         try clear hcz26_1
         try clear hcz26_2
         try clear hcz26_3
         try clear hcz26_4
         try clear hcz26_5
         try clear hcz26_6
         try clear hfz14_0
         try clear hfz14_1
         try clear hfz14_2
         try clear hfz14_3
         try clear hfz14_4
         try clear hfz14_5
         try clear hfz14_6
         try clear hfz18_0
         try clear hfz18_1
         try clear hfz18_2
         try clear hfz18_3
         try clear hfz18_4
         try clear hfz18_5
         try clear hfz18_6
         try clear hfz24_0
         try clear hfz24_1
         try clear hfz24_2
         try clear hfz24_3
         try clear hfz24_4
         try clear hfz24_5
         try clear hfz24_6
         try clear hfz26_0
         try clear hfz26_1
         try clear hfz26_2
         try clear hfz26_3
         try clear hfz26_4
         try clear hfz26_5
         try clear hfz26_6
         try clear p2
         obtain ⟨x12_3, x13_3, rfl, rfl, HA, HK3, HO_10, HO_527000, HO_527001, BK526, HB⟩ := hrel
         cases gk with
         | zero => exact absurd HA.out (by simp [cruciblelaw18_CommandSum.l1])
         | succ k3 =>
          have H := HA.out
          clear HA
          simp only [cruciblelaw18_CommandSum.l1] at H
          by_cases c32 : x13_3 < (a1.size : Int)
          ·
           rw [if_pos c32] at H
           have c32b0 : decide (x13_3 < (a1.size : Int)) = true := decide_eq_true c32
           clear c32
           by_cases c33 : 0 ≤ x13_3
           ·
            rw [if_pos c33] at H
            have c33b0 : decide (0 ≤ x13_3) = true := decide_eq_true c33
            clear c33
            by_cases c35 : (bt a1 x13_3) < 32
            ·
             rw [if_pos c35] at H
             have c35b0 : decide ((bt a1 x13_3) < 32) = true := decide_eq_true c35
             clear c35
             by_cases c36 : (t536.length : Int) = 0
             ·
              rw [if_pos c36] at H
              have c36b0 : ((t536.length : Int) == 0) = true := beq_iff_eq.mpr c36
              have c36b1 : ((t536.length : Int) != 0) = false := bne_eq_false_iff_eq.mpr c36
              clear c36
              replace H := Option.bind_eq_some_iff.mp H
              obtain ⟨t540, A370, H⟩ := H
              replace H : (some (t540 == 1800)) = some r := H
              have A37 := Aside0.mk A370
              clear A370
              obtain rfl := Option.some.inj H
              have p34 : 0 ≤ (x13_3 : Int) := of_decide_eq_true (by first | (with_reducible assumption) | assumption)
              have q34 : x13_3 < (a1.size : Int) := of_decide_eq_true (by first | (with_reducible assumption) | assumption)
              have hx34 := bt_at a1 x13_3
              replace p34 := eq_true p34
              replace q34 := eq_true q34
              obtain ⟨Ao38, co38, eo38⟩ := Kd.R_slice HO_10.out
              subst eo38
              (try clear BK526)
              (try clear HO_10)
              (try clear HO_527000)
              (try clear HO_527001)
              go_wp2_with (first | (go_at_call 25; (with_reducible refine (cruciblelaw0_Num.calls t539 t540 _ A37.out).mono ?_); rintro e w' ⟨rfl, ⟨nd, rfl⟩⟩))
              go_ret
              exact ⟨by first | rfl | (simp [errW_none, errW_some] <;> rfl) | (simp [*, errW_none, errW_some] <;> rfl), by repeat (first | (with_reducible first | exact HB.out | apply below_alloc | apply pw_below_drewN | apply below_drew1) | exact HB.out)⟩
             ·
              rw [if_neg c36] at H
              exact absurd H (by simp)
            ·
             rw [if_neg c35] at H
             have c35b0 : decide ((bt a1 x13_3) < 32) = false := decide_eq_false c35
             clear c35
             by_cases c40 : (bt a1 x13_3) > 126
             ·
              rw [if_pos c40] at H
              have c40b0 : decide (126 < (bt a1 x13_3)) = true := decide_eq_true c40
              clear c40
              by_cases c41 : (t536.length : Int) = 0
              ·
               rw [if_pos c41] at H
               have c41b0 : ((t536.length : Int) == 0) = true := beq_iff_eq.mpr c41
               have c41b1 : ((t536.length : Int) != 0) = false := bne_eq_false_iff_eq.mpr c41
               clear c41
               replace H := Option.bind_eq_some_iff.mp H
               obtain ⟨t541, A420, H⟩ := H
               replace H : (some (t541 == 1800)) = some r := H
               have A42 := Aside0.mk A420
               clear A420
               obtain rfl := Option.some.inj H
               have p34 : 0 ≤ (x13_3 : Int) := of_decide_eq_true (by first | (with_reducible assumption) | assumption)
               have q34 : x13_3 < (a1.size : Int) := of_decide_eq_true (by first | (with_reducible assumption) | assumption)
               have hx34 := bt_at a1 x13_3
               replace p34 := eq_true p34
               replace q34 := eq_true q34
               have p39 : 0 ≤ (x13_3 : Int) := of_decide_eq_true (by first | (with_reducible assumption) | assumption)
               have q39 : x13_3 < (a1.size : Int) := of_decide_eq_true (by first | (with_reducible assumption) | assumption)
               have hx39 := bt_at a1 x13_3
               replace p39 := eq_true p39
               replace q39 := eq_true q39
               obtain ⟨Ao43, co43, eo43⟩ := Kd.R_slice HO_10.out
               subst eo43
               (try clear BK526)
               (try clear HO_10)
               (try clear HO_527000)
               (try clear HO_527001)
               go_wp2_with (first | (go_at_call 25; (with_reducible refine (cruciblelaw0_Num.calls t539 t541 _ A42.out).mono ?_); rintro e w' ⟨rfl, ⟨nd, rfl⟩⟩))
               go_ret
               exact ⟨by first | rfl | (simp [errW_none, errW_some] <;> rfl) | (simp [*, errW_none, errW_some] <;> rfl), by repeat (first | (with_reducible first | exact HB.out | apply below_alloc | apply pw_below_drewN | apply below_drew1) | exact HB.out)⟩
              ·
               rw [if_neg c41] at H
               exact absurd H (by simp)
             ·
              rw [if_neg c40] at H
              have c40b0 : decide (126 < (bt a1 x13_3)) = false := decide_eq_false c40
              clear c40
              have H' := Aside0.mk H
              clear H
              have p34 : 0 ≤ (x13_3 : Int) := of_decide_eq_true (by first | (with_reducible assumption) | assumption)
              have q34 : x13_3 < (a1.size : Int) := of_decide_eq_true (by first | (with_reducible assumption) | assumption)
              have hx34 := bt_at a1 x13_3
              replace p34 := eq_true p34
              replace q34 := eq_true q34
              have p39 : 0 ≤ (x13_3 : Int) := of_decide_eq_true (by first | (with_reducible assumption) | assumption)
              have q39 : x13_3 < (a1.size : Int) := of_decide_eq_true (by first | (with_reducible assumption) | assumption)
              have hx39 := bt_at a1 x13_3
              replace p39 := eq_true p39
              replace q39 := eq_true q39
              have p44 : 0 ≤ (x13_3 : Int) := of_decide_eq_true (by first | (with_reducible assumption) | assumption)
              have q44 : x13_3 < (a1.size : Int) := of_decide_eq_true (by first | (with_reducible assumption) | assumption)
              have hx44 := bt_at a1 x13_3
              replace p44 := eq_true p44
              replace q44 := eq_true q44
              go_wp2
              go_roundg k3
              case measure => have := HJ5.out; have := HK2.out; have := HK3.out; omega
              case rel => exact ⟨(Int.tmod (wrap64 ((wrap64 (31 * x12_3)) + (wrap64 (bt a1 x13_3)))) 2147483647), (wrap64 (x13_3 + 1)), (by first | rfl | (simp; done) | (simp [*]; done)), (by first | rfl | (simp; done) | (simp [*]; done)), H', ⟨by have := HJ5.out; have := HK2.out; have := HK3.out; omega⟩, ⟨by (with_reducible repeat (first | apply Kd.R_alloc | apply Kd.R_drewN | apply Kd.R_drew)); first | exact HO_10.out | exact own_len HO_10.out⟩, ⟨by (with_reducible repeat (first | apply Kd.R_alloc | apply Kd.R_drewN | apply Kd.R_drew)); first | exact HO_527000.out | exact own_len HO_527000.out⟩, ⟨by (with_reducible repeat (first | apply Kd.R_alloc | apply Kd.R_drewN | apply Kd.R_drew)); first | exact HO_527001.out | exact own_len HO_527001.out⟩, ⟨by (with_reducible repeat (first | refine blk_drewN ?_ _ | refine blk_drew ?_ | refine blk_alloc ?_ _)); exact BK526.out⟩, ⟨by repeat (first | (with_reducible first | exact HB.out | apply below_alloc | apply pw_below_drewN | apply below_drew1 | refine below_set ?_ GE526.out) | exact HB.out)⟩⟩
           ·
            rw [if_neg c33] at H
            exact absurd H (by simp)
          ·
           rw [if_neg c32] at H
           have c32b0 : decide (x13_3 < (a1.size : Int)) = false := decide_eq_false c32
           clear c32
           have HC45 := Aside0.mk H
           clear H
           go_upto_region 20 with (fail)
           go_cut [103] (fun v103 wc => ∃ (kq : Nat) (x103_44 : Bool), v103 = .bool x103_44 ∧ Aside0 (cruciblelaw18_CommandSum.j3 kq t536 (Int.tmod (wrap64 ((wrap64 (31 * x12_3)) + (Go.bits .and .i64 a0 2147483647))) 2147483647) x103_44 = some r) ∧ Aside0 (kq ≤ k3) ∧ Aside0 (Kd.R (Kd.int .i64) 3 wc w.heap.size (fun _ => True) v537 t536) ∧ Aside0 (Kd.R Kd.string 9 wc w.heap.size (fun k_ => some k_ ≠ ((.slice Ao12 y523.length co12) : Value).ownBlock) (.slice Ao30 x527000_2.length co30) x527000_2) ∧ Aside0 (Kd.R Kd.string 9 wc w.heap.size (fun k_ => some k_ ≠ ((.slice Ao30 x527000_2.length co30) : Value).ownBlock) (.slice Ao12 y523.length co12) y523) ∧ Aside0 (wc.heap[gb526]? = some (.cells #[(.slice Ao30 x527000_2.length co30), (.slice Ao12 y523.length co12), (.slice none 0 0), (.slice none 0 0), .string a1, .bool false, .string (⟨#[]⟩ : ByteArray)] 25 (0, 0))) ∧ Aside0 (Below w.heap.size w wc))
           case first =>
            have H := HC45.out
            clear HC45
            replace H := Option.bind_eq_some_iff.mp H
            obtain ⟨t542, A460, H⟩ := H
            replace H : (if t542 = 0 then (cruciblelaw18_CommandSum.j3 k3 t536 (Int.tmod (wrap64 ((wrap64 (31 * x12_3)) + (Go.bits .and .i64 a0 2147483647))) 2147483647) ((t536.length : Int) != (wrap64 (1 + (Go.bits .and .i64 a2 7))))) else (cruciblelaw18_CommandSum.j3 k3 t536 (Int.tmod (wrap64 ((wrap64 (31 * x12_3)) + (Go.bits .and .i64 a0 2147483647))) 2147483647) true)) = some r := H
            have A46 := Aside0.mk A460
            clear A460
            by_cases c47 : t542 = 0
            ·
             rw [if_pos c47] at H
             have c47b0 : (t542 == 0) = true := beq_iff_eq.mpr c47
             have c47b1 : (t542 != 0) = false := bne_eq_false_iff_eq.mpr c47
             clear c47
             (first | rw [c47b0] | (simp only [i64_w, i32_w]; rw [c47b0]) | rw [c47b2] | skip)
             have H' := Aside0.mk H
             clear H
             go_wp2_with (first | ((with_reducible refine gate_callee (f := 25) rfl ?_); refine goesL_ (some 94) rfl rfl Tryd.func25 (by kernel_rfl) rfl #[.int .i64 t539] rfl (by (try simp only [List.map_toArray, List.map_cons, List.map_nil]); first | done | rfl | (simp only [List.length_drop, List.length_take]; rfl)) ?_; (with_reducible refine (cruciblelaw0_Num.calls t539 t542 _ A46.out).mono ?_); rintro e w' ⟨rfl, ⟨nd, rfl⟩⟩; refine ⟨_, rfl, ?_⟩; obtain ⟨Ao48, co48, eo48⟩ := Kd.R_slice HO_10.out; subst eo48))
             go_meet
             case rel => exact ⟨_, (((t536.length : Int) != (wrap64 (1 + (Go.bits .and .i64 a2 7))))), (by first | rfl | (simp; done) | (simp [*]; done)), H', ⟨by have := HJ5.out; have := HK2.out; have := HK3.out; first | omega | exact Nat.le_refl _⟩, ⟨by (with_reducible repeat (first | apply Kd.R_alloc | apply Kd.R_drewN | apply Kd.R_drew)); first | exact HO_10.out | exact own_len HO_10.out⟩, ⟨by (with_reducible repeat (first | apply Kd.R_alloc | apply Kd.R_drewN | apply Kd.R_drew)); first | exact HO_527000.out | exact own_len HO_527000.out⟩, ⟨by (with_reducible repeat (first | apply Kd.R_alloc | apply Kd.R_drewN | apply Kd.R_drew)); first | exact HO_527001.out | exact own_len HO_527001.out⟩, ⟨by (with_reducible repeat (first | refine blk_drewN ?_ _ | refine blk_drew ?_ | refine blk_alloc ?_ _)); exact BK526.out⟩, ⟨by repeat (first | (with_reducible first | exact HB.out | apply below_alloc | apply pw_below_drewN | apply below_drew1 | refine below_set ?_ GE526.out) | exact HB.out)⟩⟩
            ·
             rw [if_neg c47] at H
             have c47b0 : (t542 == 0) = false := beq_eq_false_iff_ne.mpr c47
             have c47b1 : (t542 != 0) = true := bne_iff_ne.mpr c47
             (first | rw [c47b0] | (simp only [i64_w, i32_w]; rw [c47b0]) | rw [c47b2] | skip)
             have H' := Aside0.mk H
             clear H
             go_wp2_with (first | ((with_reducible refine gate_callee (f := 25) rfl ?_); refine goesL_ (some 94) rfl rfl Tryd.func25 (by kernel_rfl) rfl #[.int .i64 t539] rfl (by (try simp only [List.map_toArray, List.map_cons, List.map_nil]); first | done | rfl | (simp only [List.length_drop, List.length_take]; rfl)) ?_; (with_reducible refine (cruciblelaw0_Num.calls t539 t542 _ A46.out).mono ?_); rintro e w' ⟨rfl, ⟨nd, rfl⟩⟩; refine ⟨_, rfl, ?_⟩))
             go_meet
             case rel => exact ⟨_, (true), (by first | rfl | (simp; done) | (simp [*]; done)), H', ⟨by have := HJ5.out; have := HK2.out; have := HK3.out; first | omega | exact Nat.le_refl _⟩, ⟨by (with_reducible repeat (first | apply Kd.R_alloc | apply Kd.R_drewN | apply Kd.R_drew)); first | exact HO_10.out | exact own_len HO_10.out⟩, ⟨by (with_reducible repeat (first | apply Kd.R_alloc | apply Kd.R_drewN | apply Kd.R_drew)); first | exact HO_527000.out | exact own_len HO_527000.out⟩, ⟨by (with_reducible repeat (first | apply Kd.R_alloc | apply Kd.R_drewN | apply Kd.R_drew)); first | exact HO_527001.out | exact own_len HO_527001.out⟩, ⟨by (with_reducible repeat (first | refine blk_drewN ?_ _ | refine blk_drew ?_ | refine blk_alloc ?_ _)); exact BK526.out⟩, ⟨by repeat (first | (with_reducible first | exact HB.out | apply below_alloc | apply pw_below_drewN | apply below_drew1 | refine below_set ?_ GE526.out) | exact HB.out)⟩⟩
           case rest =>
            clear HC45
            try clear c1
            try clear c2
            try clear p2
            try clear hcv2
            try clear c3
            try clear p3
            try clear q3
            try clear hx3
            try clear c4
            try clear p4
            try clear q4
            try clear hx4
            try clear c5
            try clear c6
            try clear p6
            try clear c8
            try clear c8b0
            try clear c8b1
            try clear c8b2
            try clear c9
            try clear c15
            try clear c15b0
            try clear c16
            try clear c16b0
            try clear c16b1
            try clear c16b2
            try clear c17
            try clear hcv21
            try clear c22
            try clear c25
            try clear c32
            try clear c32b0
            try clear c33
            try clear c33b0
            try clear p34
            try clear q34
            try clear hx34
            try clear c35
            try clear c35b0
            try clear c36
            try clear c36b0
            try clear c36b1
            try clear p39
            try clear q39
            try clear hx39
            try clear c40
            try clear c40b0
            try clear c41
            try clear c41b0
            try clear c41b1
            try clear p44
            try clear q44
            try clear hx44
            try clear c47
            try clear c47b0
            try clear c47b1
            try clear c47b2
            try clear hcz14_0
            try clear hcz14_1
            try clear hcz14_2
            try clear hcz14_3
            try clear hcz14_4
            try clear hcz14_5
            try clear hcz14_6
            try clear hcz18_0
            try clear hcz18_1
            try clear hcz18_2
            try clear hcz18_3
            try clear hcz18_4
            try clear hcz18_5
            try clear hcz18_6
            try clear hcz24_0
            try clear hcz24_1
            try clear hcz24_2
            try clear hcz24_3
            try clear hcz24_4
            try clear hcz24_5
            try clear hcz24_6
            try clear hcz26_0
            try clear hcz26_1
            try clear hcz26_2
            try clear hcz26_3
            try clear hcz26_4
            try clear hcz26_5
            try clear hcz26_6
            try clear hfz14_0
            try clear hfz14_1
            try clear hfz14_2
            try clear hfz14_3
            try clear hfz14_4
            try clear hfz14_5
            try clear hfz14_6
            try clear hfz18_0
            try clear hfz18_1
            try clear hfz18_2
            try clear hfz18_3
            try clear hfz18_4
            try clear hfz18_5
            try clear hfz18_6
            try clear hfz24_0
            try clear hfz24_1
            try clear hfz24_2
            try clear hfz24_3
            try clear hfz24_4
            try clear hfz24_5
            try clear hfz24_6
            try clear hfz26_0
            try clear hfz26_1
            try clear hfz26_2
            try clear hfz26_3
            try clear hfz26_4
            try clear hfz26_5
            try clear hfz26_6
            try clear p2
            try clear p34
            try clear p39
            try clear p44
            try clear p6
            try clear q34
            try clear q39
            try clear q44
            obtain ⟨kq, x103_44, rfl, HA, HJ44, HO_10, HO_527000, HO_527001, BK526, HB⟩ := hcut
            cases kq with
            | zero => exact absurd HA.out (by simp [cruciblelaw18_CommandSum.j3])
            | succ kj44 =>
             have H := HA.out
             clear HA
             simp only [cruciblelaw18_CommandSum.j3] at H
             by_cases c49 : x103_44 = true
             ·
              subst c49
              have H1 : (none) = some r := by rw [if_pos rfl] at H; exact H
              clear H
              have H := H1
              clear H1
              exact absurd H (by simp)
             ·
              replace c49 := Bool.eq_false_iff.mpr c49
              subst c49
              have H1 : (cruciblelaw18_CommandSum.l2 kj44 t536 (Int.tmod (wrap64 ((wrap64 (31 * x12_3)) + (Go.bits .and .i64 a0 2147483647))) 2147483647) 0) = some r := by rw [if_neg (show ¬ (false = true) by decide)] at H; exact H
              clear H
              have H := H1
              clear H1
              have H' := Aside0.mk H
              clear H
              go_wp2
              go_loopg [14] kj44 (fun kq v14 w' => ∃ (x14_5 : Int), v14 = .int .i64 x14_5 ∧ Aside0 (cruciblelaw18_CommandSum.l2 kq t536 (Int.tmod (wrap64 ((wrap64 (31 * x12_3)) + (Go.bits .and .i64 a0 2147483647))) 2147483647) x14_5 = some r) ∧ Aside0 (kq ≤ kj44) ∧ Aside0 (Kd.R (Kd.int .i64) 3 w' w.heap.size (fun _ => True) v537 t536) ∧ Aside0 (Kd.R Kd.string 9 w' w.heap.size (fun k_ => some k_ ≠ ((.slice Ao12 y523.length co12) : Value).ownBlock) (.slice Ao30 x527000_2.length co30) x527000_2) ∧ Aside0 (Kd.R Kd.string 9 w' w.heap.size (fun k_ => some k_ ≠ ((.slice Ao30 x527000_2.length co30) : Value).ownBlock) (.slice Ao12 y523.length co12) y523) ∧ Aside0 (w'.heap[gb526]? = some (.cells #[(.slice Ao30 x527000_2.length co30), (.slice Ao12 y523.length co12), (.slice none 0 0), (.slice none 0 0), .string a1, .bool false, .string (⟨#[]⟩ : ByteArray)] 25 (0, 0))) ∧ Aside0 (Below w.heap.size w w'))
              case atStart => exact ⟨(0), (by first | rfl | (simp; done) | (simp [*]; done)), H', ⟨Nat.le_refl _⟩, ⟨by (with_reducible repeat (first | apply Kd.R_alloc | apply Kd.R_drewN | apply Kd.R_drew)); first | exact HO_10.out | exact own_len HO_10.out⟩, ⟨by (with_reducible repeat (first | apply Kd.R_alloc | apply Kd.R_drewN | apply Kd.R_drew)); first | exact HO_527000.out | exact own_len HO_527000.out⟩, ⟨by (with_reducible repeat (first | apply Kd.R_alloc | apply Kd.R_drewN | apply Kd.R_drew)); first | exact HO_527001.out | exact own_len HO_527001.out⟩, ⟨by (with_reducible repeat (first | refine blk_drewN ?_ _ | refine blk_drew ?_ | refine blk_alloc ?_ _)); exact BK526.out⟩, ⟨by repeat (first | (with_reducible first | exact HB.out | apply below_alloc | apply pw_below_drewN | apply below_drew1 | refine below_set ?_ GE526.out) | exact HB.out)⟩⟩
              case round =>
               clear H'
               try clear c1
               try clear c2
               try clear p2
               try clear hcv2
               try clear c3
               try clear p3
               try clear q3
               try clear hx3
               try clear c4
               try clear p4
               try clear q4
               try clear hx4
               try clear c5
               try clear c6
               try clear p6
               try clear c8
               try clear c8b0
               try clear c8b1
               try clear c8b2
               try clear c9
               try clear c15
               try clear c15b0
               try clear c16
               try clear c16b0
               try clear c16b1
               try clear c16b2
               try clear c17
               try clear hcv21
               try clear c22
               try clear c25
               try clear c32
               try clear c32b0
               try clear c33
               try clear c33b0
               try clear p34
               try clear q34
               try clear hx34
               try clear c35
               try clear c35b0
               try clear c36
               try clear c36b0
               try clear c36b1
               try clear p39
               try clear q39
               try clear hx39
               try clear c40
               try clear c40b0
               try clear c41
               try clear c41b0
               try clear c41b1
               try clear p44
               try clear q44
               try clear hx44
               try clear c47
               try clear c47b0
               try clear c47b1
               try clear c47b2
               try clear c49
               try clear hcz14_0
               try clear hcz14_1
               try clear hcz14_2
               try clear hcz14_3
               try clear hcz14_4
               try clear hcz14_5
               try clear hcz14_6
               try clear hcz18_0
               try clear hcz18_1
               try clear hcz18_2
               try clear hcz18_3
               try clear hcz18_4
               try clear hcz18_5
               try clear hcz18_6
               try clear hcz24_0
               try clear hcz24_1
               try clear hcz24_2
               try clear hcz24_3
               try clear hcz24_4
               try clear hcz24_5
               try clear hcz24_6
               try clear hcz26_0
               try clear hcz26_1
               try clear hcz26_2
               try clear hcz26_3
               try clear hcz26_4
               try clear hcz26_5
               try clear hcz26_6
               try clear hfz14_0
               try clear hfz14_1
               try clear hfz14_2
               try clear hfz14_3
               try clear hfz14_4
               try clear hfz14_5
               try clear hfz14_6
               try clear hfz18_0
               try clear hfz18_1
               try clear hfz18_2
               try clear hfz18_3
               try clear hfz18_4
               try clear hfz18_5
               try clear hfz18_6
               try clear hfz24_0
               try clear hfz24_1
               try clear hfz24_2
               try clear hfz24_3
               try clear hfz24_4
               try clear hfz24_5
               try clear hfz24_6
               try clear hfz26_0
               try clear hfz26_1
               try clear hfz26_2
               try clear hfz26_3
               try clear hfz26_4
               try clear hfz26_5
               try clear hfz26_6
               try clear p2
               try clear p3
               try clear p34
               try clear p39
               try clear p4
               try clear p44
               try clear p6
               try clear q3
               try clear q34
               try clear q39
               try clear q4
               try clear q44
               obtain ⟨x14_5, rfl, HA, HK5, HO_10, HO_527000, HO_527001, BK526, HB⟩ := hrel
               cases gk with
               | zero => exact absurd HA.out (by simp [cruciblelaw18_CommandSum.l2])
               | succ k5 =>
                have H := HA.out
                clear HA
                simp only [cruciblelaw18_CommandSum.l2] at H
                by_cases c50 : x14_5 < (t536.length : Int)
                ·
                 rw [if_pos c50] at H
                 have c50b0 : decide (x14_5 < (t536.length : Int)) = true := decide_eq_true c50
                 clear c50
                 by_cases c51 : 0 ≤ x14_5
                 ·
                  rw [if_pos c51] at H
                  have c51b0 : decide (0 ≤ x14_5) = true := decide_eq_true c51
                  clear c51
                  by_cases c52 : (rd t536 x14_5) = (Int.tmod (wrap64 ((wrap64 (31 * (Int.tmod (wrap64 ((wrap64 (31 * x12_3)) + (Go.bits .and .i64 a0 2147483647))) 2147483647))) + x14_5)) 2147483647)
                  ·
                   rw [if_pos c52] at H
                   have c52b0 : ((rd t536 x14_5) == (Int.tmod (wrap64 ((wrap64 (31 * (Int.tmod (wrap64 ((wrap64 (31 * x12_3)) + (Go.bits .and .i64 a0 2147483647))) 2147483647))) + x14_5)) 2147483647)) = true := beq_iff_eq.mpr c52
                   have c52b1 : ((rd t536 x14_5) != (Int.tmod (wrap64 ((wrap64 (31 * (Int.tmod (wrap64 ((wrap64 (31 * x12_3)) + (Go.bits .and .i64 a0 2147483647))) 2147483647))) + x14_5)) 2147483647)) = false := bne_eq_false_iff_eq.mpr c52
                   clear c52
                   have H' := Aside0.mk H
                   clear H
                   obtain ⟨Ao53, co53, eo53⟩ := Kd.R_slice HO_10.out
                   subst eo53
                   have p543 : 0 ≤ (x14_5 : Int) := of_decide_eq_true (by first | (with_reducible assumption) | assumption)
                   have q543 : x14_5 < (t536.length : Int) := of_decide_eq_true (by first | (with_reducible assumption) | assumption)
                   obtain ⟨ad543, e543, hx543_0⟩ := Kd.at_int (Kd.R_reads' HO_10.out).2.2 x14_5 p543 q543
                   cases e543
                   replace p543 := eq_true p543
                   replace q543 := eq_true q543
                   go_wp2
                   go_roundg k5
                   case measure => have := HJ5.out; have := HK2.out; have := HK3.out; have := HJ44.out; have := HK5.out; omega
                   case rel => exact ⟨(wrap64 (x14_5 + 1)), (by first | rfl | (simp; done) | (simp [*]; done)), H', ⟨by have := HJ5.out; have := HK2.out; have := HK3.out; have := HJ44.out; have := HK5.out; omega⟩, ⟨by (with_reducible repeat (first | apply Kd.R_alloc | apply Kd.R_drewN | apply Kd.R_drew)); first | exact HO_10.out | exact own_len HO_10.out⟩, ⟨by (with_reducible repeat (first | apply Kd.R_alloc | apply Kd.R_drewN | apply Kd.R_drew)); first | exact HO_527000.out | exact own_len HO_527000.out⟩, ⟨by (with_reducible repeat (first | apply Kd.R_alloc | apply Kd.R_drewN | apply Kd.R_drew)); first | exact HO_527001.out | exact own_len HO_527001.out⟩, ⟨by (with_reducible repeat (first | refine blk_drewN ?_ _ | refine blk_drew ?_ | refine blk_alloc ?_ _)); exact BK526.out⟩, ⟨by repeat (first | (with_reducible first | exact HB.out | apply below_alloc | apply pw_below_drewN | apply below_drew1 | refine below_set ?_ GE526.out) | exact HB.out)⟩⟩
                  ·
                   rw [if_neg c52] at H
                   exact absurd H (by simp)
                 ·
                  rw [if_neg c51] at H
                  exact absurd H (by simp)
                ·
                 rw [if_neg c50] at H
                 have c50b0 : decide (x14_5 < (t536.length : Int)) = false := decide_eq_false c50
                 clear c50
                 obtain rfl := Option.some.inj H
                 obtain ⟨Ao54, co54, eo54⟩ := Kd.R_slice HO_10.out
                 subst eo54
                 go_wp2
                 go_ret
                 exact ⟨by first | rfl | (simp [errW_none, errW_some] <;> rfl) | (simp [*, errW_none, errW_some] <;> rfl), by repeat (first | (with_reducible first | exact HB.out | apply below_alloc | apply pw_below_drewN | apply below_drew1 | refine below_set ?_ GE526.out) | exact HB.out)⟩
 ·
  replace c5 := Bool.eq_false_iff.mpr c5
  subst c5
  have H1 : (none) = some r := by rw [if_neg (show ¬ (false = true) by decide)] at H; exact H
  clear H
  have H := H1
  clear H1
  exact absurd H (by simp)

/-- THE ONE PURE STATEMENT of cruciblelaw18_CommandSum: yours. -/
def cruciblelaw18_CommandSum.Pure : Prop := ∀ (a0 : Int) (a1 : ByteArray) (a2 : Int), (Lit.int .i64 a0).wf = true → a1.size ≤ 140737488351232 → (Lit.int .i64 a2).wf = true → ∃ k, cruciblelaw18_CommandSum.f k a0 a1 a2 = some true
theorem cruciblelaw18_CommandSum.walk (P : cruciblelaw18_CommandSum.Pure) (a0 : Int) (a1 : ByteArray) (a2 : Int) (w : World) (w0 : (Lit.int .i64 a0).wf = true) (w1 : a1.size ≤ 140737488351232) (w2 : (Lit.int .i64 a2).wf = true) :
  Calls Tryd.prog 6 #[.int .i64 a0, .string a1, .int .i64 a2] w fun e w' => e = .returned (.bool true) ∧ Below w.heap.size w w' := by
 obtain ⟨k, h⟩ := P a0 a1 a2 w0 w1 w2
 refine (cruciblelaw18_CommandSum.calls k a0 a1 a2 true w h).mono ?_
 rintro e w' ⟨rfl, hd⟩
 exact ⟨rfl, hd⟩

end Go.Proofs.YtilnamobmjngbaaDoor.P
