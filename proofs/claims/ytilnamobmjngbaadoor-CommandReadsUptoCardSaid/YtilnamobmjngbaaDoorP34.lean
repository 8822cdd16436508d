-- Made by a program of this work's own (wip/myprint.py) over the kit's print; leaves by hand.
import Derived.Test.YtilnamobmjngbaaDoorP0
import Derived.Test.YtilnamobmjngbaaDoorWTab
import Derived.Test.YtilnamobmjngbaaDoorWRepsOne
import Derived.Test.YtilnamobmjngbaaDoorWGuard
import Derived.Test.YtilnamobmjngbaaDoorMg1
import Derived.Test.YtilnamobmjngbaaDoorP12
import Derived.Test.YtilnamobmjngbaaDoorP23
import Derived.Test.YtilnamobmjngbaaDoorP24
namespace Go.Proofs.YtilnamobmjngbaaDoor.P
open Go.Proofs.YtilnamobmjngbaaDoor.Plus
open Go.RowKit Go.Proofs.YtilnamobmjngbaaDoorW.PrintWords Go.Proofs.YtilnamobmjngbaaDoorW.PrintLast Go.Proofs.YtilnamobmjngbaaDoorW.PrintMore
theorem geq_P34 (t : TypeId) (a b : ByteArray) : binOp .geq t (.string a) (.string b) = pure (.bool !(Op.bytesLess a.toList b.toList)) := by simp [binOp, Op.stringOp]
attribute [local go_sem] geq_P34
attribute [local go_sem] max2_int min2_int max_two min_two max_three min_three max_four min_four   -- for this text's walks alone
set_option linter.unusedVariables false
set_option linter.unusedSimpArgs false

/-! ### crucibleref12_PutFile: function 35 -/
set_option maxRecDepth 100000 in
mutual
def crucibleref12_PutFile.j0 : Nat → ByteArray → Int → Bool → Int → List (S72) → Option (Int × (List (S72)) × Int)
 | 0, _, _, _, _, _ => none
 | k + 1, x1, x2, x24, x460000, x460001 => if x24 = true then (some (0, ([] : List (S72)), 1200)) else (crucibleref12_PutFile.l0 k x1 false 0 x460000 x460001 x1 x2 (wrap64 (x460000 + 1)) (wrap64 (x460000 + 1)) ([] : List (S72)))
def crucibleref12_PutFile.l0 : Nat → ByteArray → Bool → Int → Int → List (S72) → ByteArray → Int → Int → Int → List (S72) → Option (Int × (List (S72)) × Int)
 | 0, _, _, _, _, _, _, _, _, _, _ => none
 | k + 1, x1, x10, x11, x460000, x460001, x465000, x465001, x465002, x466000, x466001 => if x11 < (x460001.length : Int) then (if x10 = true then (crucibleref12_PutFile.j2 k x1 x10 x11 false x460000 x460001 x465000 x465001 x465002 x466000 x466001) else (if 0 ≤ x11 then (crucibleref12_PutFile.j2 k x1 x10 x11 (!(Op.bytesLess (((rd_T72 x460001 x11).f0).toList) x1.toList)) x460000 x460001 x465000 x465001 x465002 x466000 x466001) else (none))) else (if x10 = true then (if x466000 > 1048576 then (some (0, ([] : List (S72)), 1201)) else (if (x466001.length : Int) > 64 then (some (0, ([] : List (S72)), 1201)) else (some (x466000, x466001, 0)))) else (if x466001.length < 4398046511104 then ((some (x466001 ++ [(⟨x465000, x465001, x465002⟩ : S72)] : List (S72))).bind fun y480 => (if x466000 > 1048576 then (some (0, ([] : List (S72)), 1201)) else (if (y480.length : Int) > 64 then (some (0, ([] : List (S72)), 1201)) else (some (x466000, y480, 0))))) else (none)))
def crucibleref12_PutFile.j2 : Nat → ByteArray → Bool → Int → Bool → Int → List (S72) → ByteArray → Int → Int → Int → List (S72) → Option (Int × (List (S72)) × Int)
 | 0, _, _, _, _, _, _, _, _, _, _, _ => none
 | k + 1, x1, x10, x11, x54, x460000, x460001, x465000, x465001, x465002, x466000, x466001 => if x54 = true then (if x466001.length < 4398046511104 then ((some (x466001 ++ [(⟨x465000, x465001, x465002⟩ : S72)] : List (S72))).bind fun y467 => (if 0 ≤ x11 then (if x11 < (x460001.length : Int) then (if ((rd_T72 x460001 x11).f0).toList = x1.toList then (crucibleref12_PutFile.l0 k x1 true (wrap64 (x11 + 1)) x460000 x460001 x465000 x465001 x465002 x466000 y467) else (if y467.length < 4398046511104 then (crucibleref12_PutFile.l0 k x1 true (wrap64 (x11 + 1)) x460000 x460001 x465000 x465001 x465002 x466000 (y467 ++ [(⟨(rd_T72 x460001 x11).f0, (rd_T72 x460001 x11).f1, (rd_T72 x460001 x11).f2⟩ : S72)])) else (none))) else (none)) else (none))) else (none)) else (if 0 ≤ x11 then (if x11 < (x460001.length : Int) then (if ((rd_T72 x460001 x11).f0).toList = x1.toList then (crucibleref12_PutFile.l0 k x1 x10 (wrap64 (x11 + 1)) x460000 x460001 x465000 x465001 x465002 x466000 x466001) else (if x466001.length < 4398046511104 then (crucibleref12_PutFile.l0 k x1 x10 (wrap64 (x11 + 1)) x460000 x460001 x465000 x465001 x465002 x466000 (x466001 ++ [(⟨(rd_T72 x460001 x11).f0, (rd_T72 x460001 x11).f1, (rd_T72 x460001 x11).f2⟩ : S72)])) else (none))) else (none)) else (none))
end
def crucibleref12_PutFile.f (k : Nat) (a0_0 : Int) (l0_1 : List (S72)) (a1 : ByteArray) (a2 : Int) : Option (Int × (List (S72)) × Int) := (crucibleref12_DiskMay.f k a0_0 l0_1).bind fun t461 => (if t461 = true then ((crucibleref1_PathMay.f k a1).bind fun t462 => (if t462 = true then ((crucibleref12_upTo.f a2 0 2147483647).bind fun t463 => (crucibleref12_PutFile.j0 k a1 a2 (!t463) a0_0 l0_1)) else (crucibleref12_PutFile.j0 k a1 a2 true a0_0 l0_1))) else (crucibleref12_PutFile.j0 k a1 a2 true a0_0 l0_1))
set_option maxRecDepth 100000 in
theorem crucibleref12_PutFile.mono_l : ∀ k, (∀ y0 y1 y2 y3 y4, LeO (crucibleref12_PutFile.j0 k y0 y1 y2 y3 y4) (crucibleref12_PutFile.j0 (k + 1) y0 y1 y2 y3 y4)) ∧ (∀ y0 y1 y2 y3 y4 y5 y6 y7 y8 y9, LeO (crucibleref12_PutFile.l0 k y0 y1 y2 y3 y4 y5 y6 y7 y8 y9) (crucibleref12_PutFile.l0 (k + 1) y0 y1 y2 y3 y4 y5 y6 y7 y8 y9)) ∧ (∀ y0 y1 y2 y3 y4 y5 y6 y7 y8 y9 y10, LeO (crucibleref12_PutFile.j2 k y0 y1 y2 y3 y4 y5 y6 y7 y8 y9 y10) (crucibleref12_PutFile.j2 (k + 1) y0 y1 y2 y3 y4 y5 y6 y7 y8 y9 y10))
 | 0 => ⟨fun _ _ _ _ _ r h => by simp [crucibleref12_PutFile.j0] at h, fun _ _ _ _ _ _ _ _ _ _ r h => by simp [crucibleref12_PutFile.l0] at h, fun _ _ _ _ _ _ _ _ _ _ _ r h => by simp [crucibleref12_PutFile.j2] at h⟩
 | k + 1 => by
  obtain ⟨ih0, ih1, ih2⟩ := crucibleref12_PutFile.mono_l k
  refine ⟨?_, ?_, ?_⟩
  ·
   intro y0 y1 y2 y3 y4
   unfold crucibleref12_PutFile.j0
   repeat' first
   | (with_reducible exact ih0 _ _ _ _ _)
   | (with_reducible exact ih1 _ _ _ _ _ _ _ _ _ _)
   | (with_reducible exact ih2 _ _ _ _ _ _ _ _ _ _ _)
   | (with_reducible exact crucibleref12_DiskMay.mono _ _ _)
   | (with_reducible exact crucibleref1_PathMay.mono _ _)
   | (with_reducible exact LeO.refl _)
   | (with_reducible exact LeO.none _)
   | (with_reducible refine LeO.ite ?_ ?_)
   | (with_reducible refine LeO.bind ?_ (fun _ => ?_))
   | exact ih0 _ _ _ _ _
   | exact ih1 _ _ _ _ _ _ _ _ _ _
   | exact ih2 _ _ _ _ _ _ _ _ _ _ _
   | exact crucibleref12_DiskMay.mono _ _ _
   | exact crucibleref1_PathMay.mono _ _
   | exact LeO.none _
   | refine LeO.ite ?_ ?_
   | refine LeO.bind ?_ (fun _ => ?_)
  ·
   intro y0 y1 y2 y3 y4 y5 y6 y7 y8 y9
   unfold crucibleref12_PutFile.l0
   repeat' first
   | (with_reducible exact ih0 _ _ _ _ _)
   | (with_reducible exact ih1 _ _ _ _ _ _ _ _ _ _)
   | (with_reducible exact ih2 _ _ _ _ _ _ _ _ _ _ _)
   | (with_reducible exact crucibleref12_DiskMay.mono _ _ _)
   | (with_reducible exact crucibleref1_PathMay.mono _ _)
   | (with_reducible exact LeO.refl _)
   | (with_reducible exact LeO.none _)
   | (with_reducible refine LeO.ite ?_ ?_)
   | (with_reducible refine LeO.bind ?_ (fun _ => ?_))
   | exact ih0 _ _ _ _ _
   | exact ih1 _ _ _ _ _ _ _ _ _ _
   | exact ih2 _ _ _ _ _ _ _ _ _ _ _
   | exact crucibleref12_DiskMay.mono _ _ _
   | exact crucibleref1_PathMay.mono _ _
   | exact LeO.none _
   | refine LeO.ite ?_ ?_
   | refine LeO.bind ?_ (fun _ => ?_)
  ·
   intro y0 y1 y2 y3 y4 y5 y6 y7 y8 y9 y10
   unfold crucibleref12_PutFile.j2
   repeat' first
   | (with_reducible exact ih0 _ _ _ _ _)
   | (with_reducible exact ih1 _ _ _ _ _ _ _ _ _ _)
   | (with_reducible exact ih2 _ _ _ _ _ _ _ _ _ _ _)
   | (with_reducible exact crucibleref12_DiskMay.mono _ _ _)
   | (with_reducible exact crucibleref1_PathMay.mono _ _)
   | (with_reducible exact LeO.refl _)
   | (with_reducible exact LeO.none _)
   | (with_reducible refine LeO.ite ?_ ?_)
   | (with_reducible refine LeO.bind ?_ (fun _ => ?_))
   | exact ih0 _ _ _ _ _
   | exact ih1 _ _ _ _ _ _ _ _ _ _
   | exact ih2 _ _ _ _ _ _ _ _ _ _ _
   | exact crucibleref12_DiskMay.mono _ _ _
   | exact crucibleref1_PathMay.mono _ _
   | exact LeO.none _
   | refine LeO.ite ?_ ?_
   | refine LeO.bind ?_ (fun _ => ?_)
theorem crucibleref12_PutFile.mono : ∀ a0 a1 a2 a3 k, LeO (crucibleref12_PutFile.f k a0 a1 a2 a3) (crucibleref12_PutFile.f (k + 1) a0 a1 a2 a3) := by
 intro a0 a1 a2 a3 k
 obtain ⟨ih0, ih1, ih2⟩ := crucibleref12_PutFile.mono_l k
 unfold crucibleref12_PutFile.f
 repeat' first
   | (with_reducible exact ih0 _ _ _ _ _)
   | (with_reducible exact ih1 _ _ _ _ _ _ _ _ _ _)
   | (with_reducible exact ih2 _ _ _ _ _ _ _ _ _ _ _)
   | (with_reducible exact crucibleref12_DiskMay.mono _ _ _)
   | (with_reducible exact crucibleref1_PathMay.mono _ _)
   | (with_reducible exact LeO.refl _)
   | (with_reducible exact LeO.none _)
   | (with_reducible refine LeO.ite ?_ ?_)
   | (with_reducible refine LeO.bind ?_ (fun _ => ?_))
   | exact ih0 _ _ _ _ _
   | exact ih1 _ _ _ _ _ _ _ _ _ _
   | exact ih2 _ _ _ _ _ _ _ _ _ _ _
   | exact crucibleref12_DiskMay.mono _ _ _
   | exact crucibleref1_PathMay.mono _ _
   | exact LeO.none _
   | refine LeO.ite ?_ ?_
   | refine LeO.bind ?_ (fun _ => ?_)
def crucibleref12_PutFile.T13 : Bool × List (List Nat × List Nat) := (true, [([], []), ([0], [0]), ([], []), ([2], [2]), ([], []), ([3, 4], [3, 4]), ([5], [5]), ([6], [6]), ([1, 7], [1, 7]), ([0, 1, 2, 3, 4, 5, 6, 7, 8], []), ([9, 8, 8, 0, 1, 2, 3, 4, 5, 6, 7, 8], [8, 9])])
def crucibleref12_PutFile.B13 : List Nat := [0, 1, 0, 4, 0, 28, 60, 124, 255, 511, 1023]
theorem crucibleref12_PutFile.tab13 : rtab .any (opsOf Tryd.f35 13) = crucibleref12_PutFile.T13 := by kernel_rfl
theorem crucibleref12_PutFile.bits13 : waitsOk crucibleref12_PutFile.T13.2 crucibleref12_PutFile.B13 = true := by kernel_rfl
set_option maxHeartbeats 8000000 in
set_option maxRecDepth 100000 in
theorem crucibleref12_PutFile.calls (k : Nat) (a0_0 : Int) (A0_1 : Option Addr) (c0_1 : Nat) (l0_1 : List (S72)) (a1 : ByteArray) (a2 : Int) (r1 : Int) (r2 : List (S72)) (r3 : Int) (w : World) (hr0_1 : Kd.C k72 w A0_1 l0_1.length l0_1) (hc0_1 : l0_1.length ≤ c0_1) (h : crucibleref12_PutFile.f k a0_0 l0_1 a1 a2 = some (r1, r2, r3)) :
  Calls Tryd.prog 35 #[.agg #[.int .i64 a0_0, .slice A0_1 l0_1.length c0_1], .string a1, .int .i64 a2] w fun e w' => ∃ v1_ : Value, e = .returned (.tuple #[.agg #[.int .i64 r1, v1_], .int .i64 r3]) ∧ Kd.R k72 72 w' w.heap.size (fun _ => True) v1_ r2 ∧ Below w.heap.size w w' := by
 have hu28 := Tryd.underlying28
 have hu72 := Tryd.underlying72
 have HR0_1 := Aside0.mk hr0_1
 have HC0_1 := Aside0.mk hc0_1
 clear hr0_1 hc0_1
 have HB := Aside0.mk (Below.refl w.heap.size w)
 have H : ((crucibleref12_DiskMay.f k a0_0 l0_1).bind fun t461 => (if t461 = true then ((crucibleref1_PathMay.f k a1).bind fun t462 => (if t462 = true then ((crucibleref12_upTo.f a2 0 2147483647).bind fun t463 => (crucibleref12_PutFile.j0 k a1 a2 (!t463) a0_0 l0_1)) else (crucibleref12_PutFile.j0 k a1 a2 true a0_0 l0_1))) else (crucibleref12_PutFile.j0 k a1 a2 true a0_0 l0_1))) = some (r1, r2, r3) := h
 clear h
 have HC4 := Aside0.mk H
 clear H
 go_enter Tryd.func35, Tryd.ntmps35
 go_upto_region 1 with (first | ((with_reducible refine gate_dst (N := 3) rfl ?_); (try (refine gate_guard (by rfl) ?_; dsimp only)); refine box_event ?hg (N := 3) ?hd (cs := #[.int .i64 a0_0, .slice A0_1 l0_1.length c0_1]) (t := 28) ?hr ?_; (case hd => rfl); (case hg => rfl); (case hr => first | (go_simp; done) | (go_simp; rfl)); intro gb459 hg w5 hbox hb; have n0_ := Aside0.mk (below_step (by repeat (first | (with_reducible first | exact HB.out | apply below_alloc | apply pw_below_drewN | apply below_drew1) | exact HB.out)) hb); have n1_ := Aside0.mk (hbox); have n2_ := Aside0.mk ((by rw [hg]; exact (below_size (by repeat (first | (with_reducible first | exact HB.out | apply below_alloc | apply pw_below_drewN | apply below_drew1) | exact HB.out))) : w.heap.size ≤ gb459)); have n3_ := Aside0.mk ((by rw [hg]; exact (below_size (by repeat (first | (with_reducible first | exact HB.out | apply below_alloc | apply pw_below_drewN | apply below_drew1) | exact HB.out))) : w.heap.size ≤ gb459)); clear HB; have HB := n0_; have BK459 := n1_; have GW459 := n2_; have GE459 := n3_; clear n0_ n1_ n2_ n3_; clear hb hbox hg) | ((with_reducible refine gate_dst (N := 6) rfl ?_); (try (refine gate_guard (by rfl) ?_; dsimp only)); refine box_event ?hg (N := 6) ?hd (cs := #[.int .i64 0, .slice none 0 0]) (t := 28) ?hr ?_; (case hd => rfl); (case hg => rfl); (case hr => first | (go_simp; done) | (go_simp; rfl)); intro gb460 hg w6 hbox hb; have n0_ := Aside0.mk (blk_below (g := gb459) (o := .cells #[.int .i64 a0_0, .slice A0_1 l0_1.length c0_1] 28 (0, 0)) (by (with_reducible repeat (first | refine blk_drewN ?_ _ | refine blk_drew ?_ | refine blk_alloc ?_ _)); exact BK459.out) hb); have n1_ := Aside0.mk (below_step (by repeat (first | (with_reducible first | exact HB.out | apply below_alloc | apply pw_below_drewN | apply below_drew1 | refine below_set ?_ GE459.out) | exact HB.out)) hb); have n2_ := Aside0.mk (hbox); have n3_ := Aside0.mk ((by rw [hg]; exact (below_size (by repeat (first | (with_reducible first | exact HB.out | apply below_alloc | apply pw_below_drewN | apply below_drew1 | refine below_set ?_ GE459.out) | exact HB.out))) : w.heap.size ≤ gb460)); have n4_ := Aside0.mk ((by rw [hg]; exact (below_size (by repeat (first | (with_reducible first | exact HB.out | apply below_alloc | apply pw_below_drewN | apply below_drew1 | refine below_set ?_ GE459.out) | exact HB.out))) : w.heap.size ≤ gb460)); have n5_ := Aside0.mk ((by rw [hg]; exact Nat.ne_of_lt (blk_lt (g := gb459) (o := .cells #[.int .i64 a0_0, .slice A0_1 l0_1.length c0_1] 28 (0, 0)) (by (with_reducible repeat (first | refine blk_drewN ?_ _ | refine blk_drew ?_ | refine blk_alloc ?_ _)); exact BK459.out)) : gb459 ≠ gb460)); have n6_ := Aside0.mk ((by rw [hg]; exact Nat.ne_of_gt (blk_lt (g := gb459) (o := .cells #[.int .i64 a0_0, .slice A0_1 l0_1.length c0_1] 28 (0, 0)) (by (with_reducible repeat (first | refine blk_drewN ?_ _ | refine blk_drew ?_ | refine blk_alloc ?_ _)); exact BK459.out)) : gb460 ≠ gb459)); clear BK459; clear HB; have BK459 := n0_; have HB := n1_; have BK460 := n2_; have GW460 := n3_; have GE460 := n4_; have NB459_460 := n5_; have NB460_459 := n6_; clear n0_ n1_ n2_ n3_ n4_ n5_ n6_; clear hb hbox hg))
 (try simp only [Act.put, List.setIfInBounds_toArray, List.set_cons_zero, List.set_cons_succ])
 go_cut [24] (fun v24 wc => ∃ (kq : Nat) (x24_3 : Bool), v24 = .bool x24_3 ∧ Aside0 (crucibleref12_PutFile.j0 kq a1 a2 x24_3 a0_0 l0_1 = some (r1, r2, r3)) ∧ Aside0 (kq ≤ k) ∧ Aside0 (wc.heap[gb459]? = some (.cells #[.int .i64 a0_0, (.slice A0_1 l0_1.length c0_1)] 28 (0, 0))) ∧ Aside0 (wc.heap[gb460]? = some (.cells #[.int .i64 0, (.slice none 0 0)] 28 (0, 0))) ∧ Aside0 (Below w.heap.size w wc))
 case first =>
  have H := HC4.out
  clear HC4
  replace H := Option.bind_eq_some_iff.mp H
  obtain ⟨t461, A70, H⟩ := H
  replace H : (if t461 = true then ((crucibleref1_PathMay.f k a1).bind fun t462 => (if t462 = true then ((crucibleref12_upTo.f a2 0 2147483647).bind fun t463 => (crucibleref12_PutFile.j0 k a1 a2 (!t463) a0_0 l0_1)) else (crucibleref12_PutFile.j0 k a1 a2 true a0_0 l0_1))) else (crucibleref12_PutFile.j0 k a1 a2 true a0_0 l0_1)) = some (r1, r2, r3) := H
  have A7 := Aside0.mk A70
  clear A70
  by_cases c8 : t461 = true
  ·
   subst c8
   have H1 : ((crucibleref1_PathMay.f k a1).bind fun t462 => (if t462 = true then ((crucibleref12_upTo.f a2 0 2147483647).bind fun t463 => (crucibleref12_PutFile.j0 k a1 a2 (!t463) a0_0 l0_1)) else (crucibleref12_PutFile.j0 k a1 a2 true a0_0 l0_1))) = some (r1, r2, r3) := by rw [if_pos rfl] at H; exact H
   clear H
   have H := H1
   clear H1
   replace H := Option.bind_eq_some_iff.mp H
   obtain ⟨t462, A90, H⟩ := H
   replace H : (if t462 = true then ((crucibleref12_upTo.f a2 0 2147483647).bind fun t463 => (crucibleref12_PutFile.j0 k a1 a2 (!t463) a0_0 l0_1)) else (crucibleref12_PutFile.j0 k a1 a2 true a0_0 l0_1)) = some (r1, r2, r3) := H
   have A9 := Aside0.mk A90
   clear A90
   by_cases c10 : t462 = true
   ·
    subst c10
    have H1 : ((crucibleref12_upTo.f a2 0 2147483647).bind fun t463 => (crucibleref12_PutFile.j0 k a1 a2 (!t463) a0_0 l0_1)) = some (r1, r2, r3) := by rw [if_pos rfl] at H; exact H
    clear H
    have H := H1
    clear H1
    replace H := Option.bind_eq_some_iff.mp H
    obtain ⟨t463, A110, H⟩ := H
    replace H : (crucibleref12_PutFile.j0 k a1 a2 (!t463) a0_0 l0_1) = some (r1, r2, r3) := H
    have A11 := Aside0.mk A110
    clear A110
    have H' := Aside0.mk H
    clear H
    have hnb12 := NB459_460.out
    have hnc12 := NB460_459.out
    have hcz13_0 : w6.cell? ⟨gb459, 0, none⟩ = some (.int .i64 a0_0) := (blk_cell BK459.out 0).trans rfl
    have hcz13_1 : w6.cell? ⟨gb459, 1, none⟩ = some (.slice A0_1 l0_1.length c0_1) := (blk_cell BK459.out 1).trans rfl
    have hfz13_0 := blk_frozen BK459.out 0
    have hfz13_1 := blk_frozen BK459.out 1
    go_wp2_with (first | ((with_reducible refine gate_callee (f := 37) rfl ?_); refine goesL_ (some 13) rfl rfl Tryd.func37 (by kernel_rfl) rfl #[.agg #[.int .i64 a0_0, .slice A0_1 l0_1.length c0_1]] rfl (by (try simp only [List.map_toArray, List.map_cons, List.map_nil]); first | done | rfl | (simp only [List.length_drop, List.length_take]; rfl)) ?_; (with_reducible refine (crucibleref12_DiskMay.calls k a0_0 _ _ l0_1 true _ ?side1 ?side2 A7.out).mono ?_); (case side1 => repeat (first | exact (Kd.C_below HR0_1.out HB.out) | (with_reducible refine Kd.C_alloc ?_ _) | (with_reducible refine Kd.C_drewN ?_ _) | (with_reducible refine Kd.C_drew ?_))); (case side2 => exact HC0_1.out); rintro e w14 ⟨rfl, hb⟩; refine ⟨_, rfl, ?_⟩; have n0_ := Aside0.mk (blk_below (g := gb459) (o := .cells #[.int .i64 a0_0, .slice A0_1 l0_1.length c0_1] 28 (0, 0)) (by (with_reducible repeat (first | refine blk_drewN ?_ _ | refine blk_drew ?_ | refine blk_alloc ?_ _)); exact BK459.out) hb); have n1_ := Aside0.mk (blk_below (g := gb460) (o := .cells #[.int .i64 0, .slice none 0 0] 28 (0, 0)) (by (with_reducible repeat (first | refine blk_drewN ?_ _ | refine blk_drew ?_ | refine blk_alloc ?_ _)); exact BK460.out) hb); have n2_ := Aside0.mk (below_step (by repeat (first | (with_reducible first | exact HB.out | apply below_alloc | apply pw_below_drewN | apply below_drew1 | refine below_set ?_ GE459.out | refine below_set ?_ GE460.out) | exact HB.out)) hb); clear BK459; clear BK460; clear HB; have BK459 := n0_; have BK460 := n1_; have HB := n2_; clear n0_ n1_ n2_; (try clear hb); (try clear hb2); (try clear hk); (try clear hi)) | (go_at_call 58; (with_reducible refine (crucibleref1_PathMay.calls k a1 true _ A9.out).mono ?_); rintro e w15 ⟨rfl, hb⟩; have n0_ := Aside0.mk (blk_below (g := gb459) (o := .cells #[.int .i64 a0_0, .slice A0_1 l0_1.length c0_1] 28 (0, 0)) (by (with_reducible repeat (first | refine blk_drewN ?_ _ | refine blk_drew ?_ | refine blk_alloc ?_ _)); exact BK459.out) hb); have n1_ := Aside0.mk (blk_below (g := gb460) (o := .cells #[.int .i64 0, .slice none 0 0] 28 (0, 0)) (by (with_reducible repeat (first | refine blk_drewN ?_ _ | refine blk_drew ?_ | refine blk_alloc ?_ _)); exact BK460.out) hb); have n2_ := Aside0.mk (below_step (by repeat (first | (with_reducible first | exact HB.out | apply below_alloc | apply pw_below_drewN | apply below_drew1 | refine below_set ?_ GE459.out | refine below_set ?_ GE460.out) | exact HB.out)) hb); clear BK459; clear BK460; clear HB; have BK459 := n0_; have BK460 := n1_; have HB := n2_; clear n0_ n1_ n2_; (try clear hb); (try clear hb2); (try clear hk); (try clear hi)) | (go_at_call 59; (with_reducible refine (crucibleref12_upTo.calls a2 0 2147483647 t463 _ A11.out).mono ?_); rintro e w' ⟨rfl, ⟨nd, rfl⟩⟩))
    go_meet
    case rel => exact ⟨_, (!t463), (by first | rfl | (simp; done) | (simp [*]; done)), H', ⟨by first | omega | exact Nat.le_refl _⟩, ⟨by (with_reducible repeat (first | refine blk_drewN ?_ _ | refine blk_drew ?_ | refine blk_alloc ?_ _)); exact BK459.out⟩, ⟨by (with_reducible repeat (first | refine blk_drewN ?_ _ | refine blk_drew ?_ | refine blk_alloc ?_ _)); exact BK460.out⟩, ⟨by repeat (first | (with_reducible first | exact HB.out | apply below_alloc | apply pw_below_drewN | apply below_drew1 | refine below_set ?_ GE459.out | refine below_set ?_ GE460.out) | exact HB.out)⟩⟩
   ·
    replace c10 := Bool.eq_false_iff.mpr c10
    subst c10
    have H1 : (crucibleref12_PutFile.j0 k a1 a2 true a0_0 l0_1) = some (r1, r2, r3) := by rw [if_neg (show ¬ (false = true) by decide)] at H; exact H
    clear H
    have H := H1
    clear H1
    have H' := Aside0.mk H
    clear H
    have hnb16 := NB459_460.out
    have hnc16 := NB460_459.out
    have hcz17_0 : w6.cell? ⟨gb459, 0, none⟩ = some (.int .i64 a0_0) := (blk_cell BK459.out 0).trans rfl
    have hcz17_1 : w6.cell? ⟨gb459, 1, none⟩ = some (.slice A0_1 l0_1.length c0_1) := (blk_cell BK459.out 1).trans rfl
    have hfz17_0 := blk_frozen BK459.out 0
    have hfz17_1 := blk_frozen BK459.out 1
    go_wp2_with (first | ((with_reducible refine gate_callee (f := 37) rfl ?_); refine goesL_ (some 13) rfl rfl Tryd.func37 (by kernel_rfl) rfl #[.agg #[.int .i64 a0_0, .slice A0_1 l0_1.length c0_1]] rfl (by (try simp only [List.map_toArray, List.map_cons, List.map_nil]); first | done | rfl | (simp only [List.length_drop, List.length_take]; rfl)) ?_; (with_reducible refine (crucibleref12_DiskMay.calls k a0_0 _ _ l0_1 true _ ?side1 ?side2 A7.out).mono ?_); (case side1 => repeat (first | exact (Kd.C_below HR0_1.out HB.out) | (with_reducible refine Kd.C_alloc ?_ _) | (with_reducible refine Kd.C_drewN ?_ _) | (with_reducible refine Kd.C_drew ?_))); (case side2 => exact HC0_1.out); rintro e w18 ⟨rfl, hb⟩; refine ⟨_, rfl, ?_⟩; have n0_ := Aside0.mk (blk_below (g := gb459) (o := .cells #[.int .i64 a0_0, .slice A0_1 l0_1.length c0_1] 28 (0, 0)) (by (with_reducible repeat (first | refine blk_drewN ?_ _ | refine blk_drew ?_ | refine blk_alloc ?_ _)); exact BK459.out) hb); have n1_ := Aside0.mk (blk_below (g := gb460) (o := .cells #[.int .i64 0, .slice none 0 0] 28 (0, 0)) (by (with_reducible repeat (first | refine blk_drewN ?_ _ | refine blk_drew ?_ | refine blk_alloc ?_ _)); exact BK460.out) hb); have n2_ := Aside0.mk (below_step (by repeat (first | (with_reducible first | exact HB.out | apply below_alloc | apply pw_below_drewN | apply below_drew1 | refine below_set ?_ GE459.out | refine below_set ?_ GE460.out) | exact HB.out)) hb); clear BK459; clear BK460; clear HB; have BK459 := n0_; have BK460 := n1_; have HB := n2_; clear n0_ n1_ n2_; (try clear hb); (try clear hb2); (try clear hk); (try clear hi)) | (go_at_call 58; (with_reducible refine (crucibleref1_PathMay.calls k a1 false _ A9.out).mono ?_); rintro e w19 ⟨rfl, hb⟩; have n0_ := Aside0.mk (blk_below (g := gb459) (o := .cells #[.int .i64 a0_0, .slice A0_1 l0_1.length c0_1] 28 (0, 0)) (by (with_reducible repeat (first | refine blk_drewN ?_ _ | refine blk_drew ?_ | refine blk_alloc ?_ _)); exact BK459.out) hb); have n1_ := Aside0.mk (blk_below (g := gb460) (o := .cells #[.int .i64 0, .slice none 0 0] 28 (0, 0)) (by (with_reducible repeat (first | refine blk_drewN ?_ _ | refine blk_drew ?_ | refine blk_alloc ?_ _)); exact BK460.out) hb); have n2_ := Aside0.mk (below_step (by repeat (first | (with_reducible first | exact HB.out | apply below_alloc | apply pw_below_drewN | apply below_drew1 | refine below_set ?_ GE459.out | refine below_set ?_ GE460.out) | exact HB.out)) hb); clear BK459; clear BK460; clear HB; have BK459 := n0_; have BK460 := n1_; have HB := n2_; clear n0_ n1_ n2_; (try clear hb); (try clear hb2); (try clear hk); (try clear hi)))
    go_meet
    case rel => exact ⟨_, (true), (by first | rfl | (simp; done) | (simp [*]; done)), H', ⟨by first | omega | exact Nat.le_refl _⟩, ⟨by (with_reducible repeat (first | refine blk_drewN ?_ _ | refine blk_drew ?_ | refine blk_alloc ?_ _)); exact BK459.out⟩, ⟨by (with_reducible repeat (first | refine blk_drewN ?_ _ | refine blk_drew ?_ | refine blk_alloc ?_ _)); exact BK460.out⟩, ⟨by repeat (first | (with_reducible first | exact HB.out | apply below_alloc | apply pw_below_drewN | apply below_drew1 | refine below_set ?_ GE459.out | refine below_set ?_ GE460.out) | exact HB.out)⟩⟩
  ·
   replace c8 := Bool.eq_false_iff.mpr c8
   subst c8
   have H1 : (crucibleref12_PutFile.j0 k a1 a2 true a0_0 l0_1) = some (r1, r2, r3) := by rw [if_neg (show ¬ (false = true) by decide)] at H; exact H
   clear H
   have H := H1
   clear H1
   have H' := Aside0.mk H
   clear H
   have hnb20 := NB459_460.out
   have hnc20 := NB460_459.out
   have hcz21_0 : w6.cell? ⟨gb459, 0, none⟩ = some (.int .i64 a0_0) := (blk_cell BK459.out 0).trans rfl
   have hcz21_1 : w6.cell? ⟨gb459, 1, none⟩ = some (.slice A0_1 l0_1.length c0_1) := (blk_cell BK459.out 1).trans rfl
   have hfz21_0 := blk_frozen BK459.out 0
   have hfz21_1 := blk_frozen BK459.out 1
   go_wp2_with (first | ((with_reducible refine gate_callee (f := 37) rfl ?_); refine goesL_ (some 13) rfl rfl Tryd.func37 (by kernel_rfl) rfl #[.agg #[.int .i64 a0_0, .slice A0_1 l0_1.length c0_1]] rfl (by (try simp only [List.map_toArray, List.map_cons, List.map_nil]); first | done | rfl | (simp only [List.length_drop, List.length_take]; rfl)) ?_; (with_reducible refine (crucibleref12_DiskMay.calls k a0_0 _ _ l0_1 false _ ?side1 ?side2 A7.out).mono ?_); (case side1 => repeat (first | exact (Kd.C_below HR0_1.out HB.out) | (with_reducible refine Kd.C_alloc ?_ _) | (with_reducible refine Kd.C_drewN ?_ _) | (with_reducible refine Kd.C_drew ?_))); (case side2 => exact HC0_1.out); rintro e w22 ⟨rfl, hb⟩; refine ⟨_, rfl, ?_⟩; have n0_ := Aside0.mk (blk_below (g := gb459) (o := .cells #[.int .i64 a0_0, .slice A0_1 l0_1.length c0_1] 28 (0, 0)) (by (with_reducible repeat (first | refine blk_drewN ?_ _ | refine blk_drew ?_ | refine blk_alloc ?_ _)); exact BK459.out) hb); have n1_ := Aside0.mk (blk_below (g := gb460) (o := .cells #[.int .i64 0, .slice none 0 0] 28 (0, 0)) (by (with_reducible repeat (first | refine blk_drewN ?_ _ | refine blk_drew ?_ | refine blk_alloc ?_ _)); exact BK460.out) hb); have n2_ := Aside0.mk (below_step (by repeat (first | (with_reducible first | exact HB.out | apply below_alloc | apply pw_below_drewN | apply below_drew1 | refine below_set ?_ GE459.out | refine below_set ?_ GE460.out) | exact HB.out)) hb); clear BK459; clear BK460; clear HB; have BK459 := n0_; have BK460 := n1_; have HB := n2_; clear n0_ n1_ n2_; (try clear hb); (try clear hb2); (try clear hk); (try clear hi)))
   go_meet
   case rel => exact ⟨_, (true), (by first | rfl | (simp; done) | (simp [*]; done)), H', ⟨by first | omega | exact Nat.le_refl _⟩, ⟨by (with_reducible repeat (first | refine blk_drewN ?_ _ | refine blk_drew ?_ | refine blk_alloc ?_ _)); exact BK459.out⟩, ⟨by (with_reducible repeat (first | refine blk_drewN ?_ _ | refine blk_drew ?_ | refine blk_alloc ?_ _)); exact BK460.out⟩, ⟨by repeat (first | (with_reducible first | exact HB.out | apply below_alloc | apply pw_below_drewN | apply below_drew1 | refine below_set ?_ GE459.out | refine below_set ?_ GE460.out) | exact HB.out)⟩⟩
 case rest =>
  clear HC4
  try clear c1
  try clear c2
  try clear p2
  try clear c3
  try clear c8
  try clear c10
  try clear c12
  try clear c16
  try clear c20
  try clear hcz13_0
  try clear hcz13_1
  try clear hcz17_0
  try clear hcz17_1
  try clear hcz21_0
  try clear hcz21_1
  try clear hfz13_0
  try clear hfz13_1
  try clear hfz17_0
  try clear hfz17_1
  try clear hfz21_0
  try clear hfz21_1
  obtain ⟨kq, x24_3, rfl, HA, HJ3, BK459, BK460, HB⟩ := hcut
  cases kq with
  | zero => exact absurd HA.out (by simp [crucibleref12_PutFile.j0])
  | succ kj3 =>
   have H := HA.out
   clear HA
   simp only [crucibleref12_PutFile.j0] at H
   by_cases c23 : x24_3 = true
   ·
    subst c23
    have H1 : (some (0, ([] : List (S72)), 1200)) = some (r1, r2, r3) := by rw [if_pos rfl] at H; exact H
    clear H
    have H := H1
    clear H1
    simp only [Option.some.injEq, Prod.mk.injEq] at H
    obtain ⟨rfl, rfl, rfl⟩ := H
    have hnb24 := NB460_459.out
    have hnc24 := NB459_460.out
    have hcz25_0 : wc.cell? ⟨gb460, 0, none⟩ = some (.int .i64 0) := (blk_cell BK460.out 0).trans rfl
    have hcz25_1 : wc.cell? ⟨gb460, 1, none⟩ = some (.slice none 0 0) := (blk_cell BK460.out 1).trans rfl
    have hfz25_0 := blk_frozen BK460.out 0
    have hfz25_1 := blk_frozen BK460.out 1
    go_wp2
    refine bodyPost_ret (results_ct rfl _ _ gb460 28 #[.int .i64 0, .slice none 0 0] (0, 0) _ rfl (by (with_reducible repeat (first | refine blk_drewN ?_ _ | refine blk_drew ?_ | refine blk_alloc ?_ _)); refine blk_put (cs := #[.int .i64 0, .slice none 0 0]) ?_ 1 _ rfl; (with_reducible repeat (first | refine blk_drewN ?_ _ | refine blk_drew ?_ | refine blk_alloc ?_ _)); refine blk_put (cs := #[.int .i64 0, .slice none 0 0]) ?_ 0 _ rfl; (with_reducible repeat (first | refine blk_drewN ?_ _ | refine blk_drew ?_ | refine blk_alloc ?_ _)); exact BK460.out) Tryd.underlying28 rfl (by kernel_rfl)) rfl ?_
    exact ⟨_, by first | rfl | (simp [errW_none, errW_some] <;> rfl) | (simp [*, errW_none, errW_some] <;> rfl), by first | exact Kd.R_nil _ _ _ _ _ | exact Kd.N_nil _ _ _ _ _ | exact Kd.V_nil _ _ _ _ _ | exact Kd.Q_nil _ _ _ _ _ | exact Kd.S_nil _ _ _ _ _, by repeat (first | (with_reducible first | exact HB.out | apply below_alloc | apply pw_below_drewN | apply below_drew1 | refine below_set ?_ GE459.out | refine below_set ?_ GE460.out) | exact HB.out)⟩
   ·
    replace c23 := Bool.eq_false_iff.mpr c23
    subst c23
    have H1 : (crucibleref12_PutFile.l0 kj3 a1 false 0 a0_0 l0_1 a1 a2 (wrap64 (a0_0 + 1)) (wrap64 (a0_0 + 1)) ([] : List (S72))) = some (r1, r2, r3) := by rw [if_neg (show ¬ (false = true) by decide)] at H; exact H
    clear H
    have H := H1
    clear H1
    have H' := Aside0.mk H
    clear H
    have hnb26 := NB459_460.out
    have hnc26 := NB460_459.out
    have hcz27_0 : wc.cell? ⟨gb459, 0, none⟩ = some (.int .i64 a0_0) := (blk_cell BK459.out 0).trans rfl
    have hcz27_1 : wc.cell? ⟨gb459, 1, none⟩ = some (.slice A0_1 l0_1.length c0_1) := (blk_cell BK459.out 1).trans rfl
    have hfz27_0 := blk_frozen BK459.out 0
    have hfz27_1 := blk_frozen BK459.out 1
    go_wp2_with (first | ((with_reducible refine gate_dst (N := 8) rfl ?_); (try (refine gate_guard (by rfl) ?_; dsimp only)); refine box_event ?hg (N := 8) ?hd (cs := #[.string (⟨#[]⟩ : ByteArray), .int .i64 0, .int .i64 0]) (t := 72) ?hr ?_; (case hd => rfl); (case hg => rfl); (case hr => first | (go_simp; done) | (go_simp; rfl)); intro gb464 hg w28 hbox hb; have n0_ := Aside0.mk (blk_below (g := gb459) (o := .cells #[.int .i64 a0_0, .slice A0_1 l0_1.length c0_1] 28 (0, 0)) (by (with_reducible repeat (first | refine blk_drewN ?_ _ | refine blk_drew ?_ | refine blk_alloc ?_ _)); exact BK459.out) hb); have n1_ := Aside0.mk (blk_below (g := gb460) (o := .cells #[.int .i64 0, .slice none 0 0] 28 (0, 0)) (by (with_reducible repeat (first | refine blk_drewN ?_ _ | refine blk_drew ?_ | refine blk_alloc ?_ _)); exact BK460.out) hb); have n2_ := Aside0.mk (below_step (by repeat (first | (with_reducible first | exact HB.out | apply below_alloc | apply pw_below_drewN | apply below_drew1 | refine below_set ?_ GE459.out | refine below_set ?_ GE460.out) | exact HB.out)) hb); have n3_ := Aside0.mk (hbox); have n4_ := Aside0.mk ((by rw [hg]; exact (below_size (by repeat (first | (with_reducible first | exact HB.out | apply below_alloc | apply pw_below_drewN | apply below_drew1 | refine below_set ?_ GE459.out | refine below_set ?_ GE460.out) | exact HB.out))) : w.heap.size ≤ gb464)); have n5_ := Aside0.mk ((by rw [hg]; exact (below_size (by repeat (first | (with_reducible first | exact HB.out | apply below_alloc | apply pw_below_drewN | apply below_drew1 | refine below_set ?_ GE459.out | refine below_set ?_ GE460.out) | exact HB.out))) : w.heap.size ≤ gb464)); have n6_ := Aside0.mk ((by rw [hg]; exact Nat.ne_of_lt (blk_lt (g := gb459) (o := .cells #[.int .i64 a0_0, .slice A0_1 l0_1.length c0_1] 28 (0, 0)) (by (with_reducible repeat (first | refine blk_drewN ?_ _ | refine blk_drew ?_ | refine blk_alloc ?_ _)); exact BK459.out)) : gb459 ≠ gb464)); have n7_ := Aside0.mk ((by rw [hg]; exact Nat.ne_of_gt (blk_lt (g := gb459) (o := .cells #[.int .i64 a0_0, .slice A0_1 l0_1.length c0_1] 28 (0, 0)) (by (with_reducible repeat (first | refine blk_drewN ?_ _ | refine blk_drew ?_ | refine blk_alloc ?_ _)); exact BK459.out)) : gb464 ≠ gb459)); have n8_ := Aside0.mk ((by rw [hg]; exact Nat.ne_of_lt (blk_lt (g := gb460) (o := .cells #[.int .i64 0, .slice none 0 0] 28 (0, 0)) (by (with_reducible repeat (first | refine blk_drewN ?_ _ | refine blk_drew ?_ | refine blk_alloc ?_ _)); exact BK460.out)) : gb460 ≠ gb464)); have n9_ := Aside0.mk ((by rw [hg]; exact Nat.ne_of_gt (blk_lt (g := gb460) (o := .cells #[.int .i64 0, .slice none 0 0] 28 (0, 0)) (by (with_reducible repeat (first | refine blk_drewN ?_ _ | refine blk_drew ?_ | refine blk_alloc ?_ _)); exact BK460.out)) : gb464 ≠ gb460)); clear BK459; clear BK460; clear HB; have BK459 := n0_; have BK460 := n1_; have HB := n2_; have BK464 := n3_; have GW464 := n4_; have GE464 := n5_; have NB459_464 := n6_; have NB464_459 := n7_; have NB460_464 := n8_; have NB464_460 := n9_; clear n0_ n1_ n2_ n3_ n4_ n5_ n6_ n7_ n8_ n9_; clear hb hbox hg; have hnb29 := NB464_459.out; have hnc29 := NB459_464.out; have hnb30 := NB464_460.out; have hnc30 := NB460_464.out; have hcz31_0 : w28.cell? ⟨gb464, 0, none⟩ = some (.string (⟨#[]⟩ : ByteArray)) := (blk_cell BK464.out 0).trans rfl; have hcz31_1 : w28.cell? ⟨gb464, 1, none⟩ = some (.int .i64 0) := (blk_cell BK464.out 1).trans rfl; have hcz31_2 : w28.cell? ⟨gb464, 2, none⟩ = some (.int .i64 0) := (blk_cell BK464.out 2).trans rfl; have hfz31_0 := blk_frozen BK464.out 0; have hfz31_1 := blk_frozen BK464.out 1; have hfz31_2 := blk_frozen BK464.out 2; have hcz32_0 : w28.cell? ⟨gb459, 0, none⟩ = some (.int .i64 a0_0) := (blk_cell BK459.out 0).trans rfl; have hcz32_1 : w28.cell? ⟨gb459, 1, none⟩ = some (.slice A0_1 l0_1.length c0_1) := (blk_cell BK459.out 1).trans rfl; have hfz32_0 := blk_frozen BK459.out 0; have hfz32_1 := blk_frozen BK459.out 1) | ((with_reducible refine gate_dst (N := 9) rfl ?_); (try (refine gate_guard (by rfl) ?_; dsimp only)); refine box_event ?hg (N := 9) ?hd (cs := #[.int .i64 0, .slice none 0 0]) (t := 28) ?hr ?_; (case hd => rfl); (case hg => rfl); (case hr => first | (go_simp; done) | (go_simp; rfl)); intro gb465 hg w33 hbox hb; have n0_ := Aside0.mk (blk_below (g := gb459) (o := .cells #[.int .i64 a0_0, .slice A0_1 l0_1.length c0_1] 28 (0, 0)) (by (with_reducible repeat (first | refine blk_drewN ?_ _ | refine blk_drew ?_ | refine blk_alloc ?_ _)); refine blk_far ?_ NB459_464.out _; (with_reducible repeat (first | refine blk_drewN ?_ _ | refine blk_drew ?_ | refine blk_alloc ?_ _)); refine blk_far ?_ NB459_464.out _; (with_reducible repeat (first | refine blk_drewN ?_ _ | refine blk_drew ?_ | refine blk_alloc ?_ _)); refine blk_far ?_ NB459_464.out _; (with_reducible repeat (first | refine blk_drewN ?_ _ | refine blk_drew ?_ | refine blk_alloc ?_ _)); exact BK459.out) hb); have n1_ := Aside0.mk (blk_below (g := gb460) (o := .cells #[.int .i64 0, .slice none 0 0] 28 (0, 0)) (by (with_reducible repeat (first | refine blk_drewN ?_ _ | refine blk_drew ?_ | refine blk_alloc ?_ _)); refine blk_far ?_ NB460_464.out _; (with_reducible repeat (first | refine blk_drewN ?_ _ | refine blk_drew ?_ | refine blk_alloc ?_ _)); refine blk_far ?_ NB460_464.out _; (with_reducible repeat (first | refine blk_drewN ?_ _ | refine blk_drew ?_ | refine blk_alloc ?_ _)); refine blk_far ?_ NB460_464.out _; (with_reducible repeat (first | refine blk_drewN ?_ _ | refine blk_drew ?_ | refine blk_alloc ?_ _)); exact BK460.out) hb); have n2_ := Aside0.mk (blk_below (g := gb464) (o := .cells #[.string a1, .int .i64 a2, .int .i64 (wrap64 (a0_0 + 1))] 72 (0, 0)) (by (with_reducible repeat (first | refine blk_drewN ?_ _ | refine blk_drew ?_ | refine blk_alloc ?_ _)); refine blk_put (cs := #[.string a1, .int .i64 a2, .int .i64 0]) ?_ 2 _ rfl; (with_reducible repeat (first | refine blk_drewN ?_ _ | refine blk_drew ?_ | refine blk_alloc ?_ _)); refine blk_put (cs := #[.string a1, .int .i64 0, .int .i64 0]) ?_ 1 _ rfl; (with_reducible repeat (first | refine blk_drewN ?_ _ | refine blk_drew ?_ | refine blk_alloc ?_ _)); refine blk_put (cs := #[.string (⟨#[]⟩ : ByteArray), .int .i64 0, .int .i64 0]) ?_ 0 _ rfl; (with_reducible repeat (first | refine blk_drewN ?_ _ | refine blk_drew ?_ | refine blk_alloc ?_ _)); exact BK464.out) hb); have n3_ := Aside0.mk (below_step (by repeat (first | (with_reducible first | exact HB.out | apply below_alloc | apply pw_below_drewN | apply below_drew1 | refine below_set ?_ GE459.out | refine below_set ?_ GE460.out | refine below_set ?_ GE464.out) | exact HB.out)) hb); have n4_ := Aside0.mk (hbox); have n5_ := Aside0.mk ((by rw [hg]; exact (below_size (by repeat (first | (with_reducible first | exact HB.out | apply below_alloc | apply pw_below_drewN | apply below_drew1 | refine below_set ?_ GE459.out | refine below_set ?_ GE460.out | refine below_set ?_ GE464.out) | exact HB.out))) : w.heap.size ≤ gb465)); have n6_ := Aside0.mk ((by rw [hg]; exact (below_size (by repeat (first | (with_reducible first | exact HB.out | apply below_alloc | apply pw_below_drewN | apply below_drew1 | refine below_set ?_ GE459.out | refine below_set ?_ GE460.out | refine below_set ?_ GE464.out) | exact HB.out))) : w.heap.size ≤ gb465)); have n7_ := Aside0.mk ((by rw [hg]; exact Nat.ne_of_lt (blk_lt (g := gb459) (o := .cells #[.int .i64 a0_0, .slice A0_1 l0_1.length c0_1] 28 (0, 0)) (by (with_reducible repeat (first | refine blk_drewN ?_ _ | refine blk_drew ?_ | refine blk_alloc ?_ _)); refine blk_far ?_ NB459_464.out _; (with_reducible repeat (first | refine blk_drewN ?_ _ | refine blk_drew ?_ | refine blk_alloc ?_ _)); refine blk_far ?_ NB459_464.out _; (with_reducible repeat (first | refine blk_drewN ?_ _ | refine blk_drew ?_ | refine blk_alloc ?_ _)); refine blk_far ?_ NB459_464.out _; (with_reducible repeat (first | refine blk_drewN ?_ _ | refine blk_drew ?_ | refine blk_alloc ?_ _)); exact BK459.out)) : gb459 ≠ gb465)); have n8_ := Aside0.mk ((by rw [hg]; exact Nat.ne_of_gt (blk_lt (g := gb459) (o := .cells #[.int .i64 a0_0, .slice A0_1 l0_1.length c0_1] 28 (0, 0)) (by (with_reducible repeat (first | refine blk_drewN ?_ _ | refine blk_drew ?_ | refine blk_alloc ?_ _)); refine blk_far ?_ NB459_464.out _; (with_reducible repeat (first | refine blk_drewN ?_ _ | refine blk_drew ?_ | refine blk_alloc ?_ _)); refine blk_far ?_ NB459_464.out _; (with_reducible repeat (first | refine blk_drewN ?_ _ | refine blk_drew ?_ | refine blk_alloc ?_ _)); refine blk_far ?_ NB459_464.out _; (with_reducible repeat (first | refine blk_drewN ?_ _ | refine blk_drew ?_ | refine blk_alloc ?_ _)); exact BK459.out)) : gb465 ≠ gb459)); have n9_ := Aside0.mk ((by rw [hg]; exact Nat.ne_of_lt (blk_lt (g := gb460) (o := .cells #[.int .i64 0, .slice none 0 0] 28 (0, 0)) (by (with_reducible repeat (first | refine blk_drewN ?_ _ | refine blk_drew ?_ | refine blk_alloc ?_ _)); refine blk_far ?_ NB460_464.out _; (with_reducible repeat (first | refine blk_drewN ?_ _ | refine blk_drew ?_ | refine blk_alloc ?_ _)); refine blk_far ?_ NB460_464.out _; (with_reducible repeat (first | refine blk_drewN ?_ _ | refine blk_drew ?_ | refine blk_alloc ?_ _)); refine blk_far ?_ NB460_464.out _; (with_reducible repeat (first | refine blk_drewN ?_ _ | refine blk_drew ?_ | refine blk_alloc ?_ _)); exact BK460.out)) : gb460 ≠ gb465)); have n10_ := Aside0.mk ((by rw [hg]; exact Nat.ne_of_gt (blk_lt (g := gb460) (o := .cells #[.int .i64 0, .slice none 0 0] 28 (0, 0)) (by (with_reducible repeat (first | refine blk_drewN ?_ _ | refine blk_drew ?_ | refine blk_alloc ?_ _)); refine blk_far ?_ NB460_464.out _; (with_reducible repeat (first | refine blk_drewN ?_ _ | refine blk_drew ?_ | refine blk_alloc ?_ _)); refine blk_far ?_ NB460_464.out _; (with_reducible repeat (first | refine blk_drewN ?_ _ | refine blk_drew ?_ | refine blk_alloc ?_ _)); refine blk_far ?_ NB460_464.out _; (with_reducible repeat (first | refine blk_drewN ?_ _ | refine blk_drew ?_ | refine blk_alloc ?_ _)); exact BK460.out)) : gb465 ≠ gb460)); have n11_ := Aside0.mk ((by rw [hg]; exact Nat.ne_of_lt (blk_lt (g := gb464) (o := .cells #[.string a1, .int .i64 a2, .int .i64 (wrap64 (a0_0 + 1))] 72 (0, 0)) (by (with_reducible repeat (first | refine blk_drewN ?_ _ | refine blk_drew ?_ | refine blk_alloc ?_ _)); refine blk_put (cs := #[.string a1, .int .i64 a2, .int .i64 0]) ?_ 2 _ rfl; (with_reducible repeat (first | refine blk_drewN ?_ _ | refine blk_drew ?_ | refine blk_alloc ?_ _)); refine blk_put (cs := #[.string a1, .int .i64 0, .int .i64 0]) ?_ 1 _ rfl; (with_reducible repeat (first | refine blk_drewN ?_ _ | refine blk_drew ?_ | refine blk_alloc ?_ _)); refine blk_put (cs := #[.string (⟨#[]⟩ : ByteArray), .int .i64 0, .int .i64 0]) ?_ 0 _ rfl; (with_reducible repeat (first | refine blk_drewN ?_ _ | refine blk_drew ?_ | refine blk_alloc ?_ _)); exact BK464.out)) : gb464 ≠ gb465)); have n12_ := Aside0.mk ((by rw [hg]; exact Nat.ne_of_gt (blk_lt (g := gb464) (o := .cells #[.string a1, .int .i64 a2, .int .i64 (wrap64 (a0_0 + 1))] 72 (0, 0)) (by (with_reducible repeat (first | refine blk_drewN ?_ _ | refine blk_drew ?_ | refine blk_alloc ?_ _)); refine blk_put (cs := #[.string a1, .int .i64 a2, .int .i64 0]) ?_ 2 _ rfl; (with_reducible repeat (first | refine blk_drewN ?_ _ | refine blk_drew ?_ | refine blk_alloc ?_ _)); refine blk_put (cs := #[.string a1, .int .i64 0, .int .i64 0]) ?_ 1 _ rfl; (with_reducible repeat (first | refine blk_drewN ?_ _ | refine blk_drew ?_ | refine blk_alloc ?_ _)); refine blk_put (cs := #[.string (⟨#[]⟩ : ByteArray), .int .i64 0, .int .i64 0]) ?_ 0 _ rfl; (with_reducible repeat (first | refine blk_drewN ?_ _ | refine blk_drew ?_ | refine blk_alloc ?_ _)); exact BK464.out)) : gb465 ≠ gb464)); clear BK459; clear BK460; clear BK464; clear HB; have BK459 := n0_; have BK460 := n1_; have BK464 := n2_; have HB := n3_; have BK465 := n4_; have GW465 := n5_; have GE465 := n6_; have NB459_465 := n7_; have NB465_459 := n8_; have NB460_465 := n9_; have NB465_460 := n10_; have NB464_465 := n11_; have NB465_464 := n12_; clear n0_ n1_ n2_ n3_ n4_ n5_ n6_ n7_ n8_ n9_ n10_ n11_ n12_; clear hb hbox hg; have hnb34 := NB465_459.out; have hnc34 := NB459_465.out; have hnb35 := NB465_460.out; have hnc35 := NB460_465.out; have hnb36 := NB465_464.out; have hnc36 := NB464_465.out; have hcz37_0 : w33.cell? ⟨gb465, 0, none⟩ = some (.int .i64 0) := (blk_cell BK465.out 0).trans rfl; have hcz37_1 : w33.cell? ⟨gb465, 1, none⟩ = some (.slice none 0 0) := (blk_cell BK465.out 1).trans rfl; have hfz37_0 := blk_frozen BK465.out 0; have hfz37_1 := blk_frozen BK465.out 1))
    go_loopg [10, 11] kj3 (fun kq v10 v11 w' => ∃ (x10_2 : Bool) (x11_2 : Int) (x466001_2 : List (S72)) (u466001 : Value), v10 = .bool x10_2 ∧ v11 = .int .i64 x11_2 ∧ Aside0 (crucibleref12_PutFile.l0 kq a1 x10_2 x11_2 a0_0 l0_1 a1 a2 (wrap64 (a0_0 + 1)) (wrap64 (a0_0 + 1)) x466001_2 = some (r1, r2, r3)) ∧ Aside0 (kq ≤ kj3) ∧ Aside0 (Kd.R k72 72 w' w.heap.size (fun k_ => k_ ≠ gb464) u466001 x466001_2) ∧ Aside0 (w'.heap[gb459]? = some (.cells #[.int .i64 a0_0, (.slice A0_1 l0_1.length c0_1)] 28 (0, 0))) ∧ Aside0 (w'.heap[gb460]? = some (.cells #[.int .i64 0, (.slice none 0 0)] 28 (0, 0))) ∧ Aside0 (w'.heap[gb464]? = some (.cells #[.string a1, .int .i64 a2, .int .i64 (wrap64 (a0_0 + 1))] 72 (0, 0))) ∧ Aside0 (w'.heap[gb465]? = some (.cells #[.int .i64 (wrap64 (a0_0 + 1)), u466001] 28 (0, 0))) ∧ Aside0 (Below w.heap.size w w'))
    case atStart => exact ⟨(false), (0), (([] : List (S72))), (.slice none 0 0), (by first | rfl | (simp; done) | (simp [*]; done)), (by first | rfl | (simp; done) | (simp [*]; done)), H', ⟨Nat.le_refl _⟩, ⟨by first | exact Kd.R_nil _ _ _ _ _ | exact Kd.N_nil _ _ _ _ _ | exact Kd.V_nil _ _ _ _ _ | exact Kd.Q_nil _ _ _ _ _ | exact Kd.S_nil _ _ _ _ _⟩, ⟨by (with_reducible repeat (first | refine blk_drewN ?_ _ | refine blk_drew ?_ | refine blk_alloc ?_ _)); refine blk_far ?_ NB459_465.out _; (with_reducible repeat (first | refine blk_drewN ?_ _ | refine blk_drew ?_ | refine blk_alloc ?_ _)); refine blk_far ?_ NB459_465.out _; (with_reducible repeat (first | refine blk_drewN ?_ _ | refine blk_drew ?_ | refine blk_alloc ?_ _)); exact BK459.out⟩, ⟨by (with_reducible repeat (first | refine blk_drewN ?_ _ | refine blk_drew ?_ | refine blk_alloc ?_ _)); refine blk_far ?_ NB460_465.out _; (with_reducible repeat (first | refine blk_drewN ?_ _ | refine blk_drew ?_ | refine blk_alloc ?_ _)); refine blk_far ?_ NB460_465.out _; (with_reducible repeat (first | refine blk_drewN ?_ _ | refine blk_drew ?_ | refine blk_alloc ?_ _)); exact BK460.out⟩, ⟨by (with_reducible repeat (first | refine blk_drewN ?_ _ | refine blk_drew ?_ | refine blk_alloc ?_ _)); refine blk_far ?_ NB464_465.out _; (with_reducible repeat (first | refine blk_drewN ?_ _ | refine blk_drew ?_ | refine blk_alloc ?_ _)); refine blk_far ?_ NB464_465.out _; (with_reducible repeat (first | refine blk_drewN ?_ _ | refine blk_drew ?_ | refine blk_alloc ?_ _)); exact BK464.out⟩, ⟨by (with_reducible repeat (first | refine blk_drewN ?_ _ | refine blk_drew ?_ | refine blk_alloc ?_ _)); refine blk_put (cs := #[.int .i64 (wrap64 (a0_0 + 1)), .slice none 0 0]) ?_ 1 _ rfl; (with_reducible repeat (first | refine blk_drewN ?_ _ | refine blk_drew ?_ | refine blk_alloc ?_ _)); refine blk_put (cs := #[.int .i64 0, .slice none 0 0]) ?_ 0 _ rfl; (with_reducible repeat (first | refine blk_drewN ?_ _ | refine blk_drew ?_ | refine blk_alloc ?_ _)); exact BK465.out⟩, ⟨by repeat (first | (with_reducible first | exact HB.out | apply below_alloc | apply pw_below_drewN | apply below_drew1 | refine below_set ?_ GE459.out | refine below_set ?_ GE460.out | refine below_set ?_ GE464.out | refine below_set ?_ GE465.out) | exact HB.out)⟩⟩
    case round =>
     clear H'
     try clear c1
     try clear c2
     try clear p2
     try clear c3
     try clear p6
     try clear c8
     try clear c10
     try clear c12
     try clear c16
     try clear c20
     try clear c23
     try clear c24
     try clear c26
     try clear c29
     try clear c30
     try clear c34
     try clear c35
     try clear c36
     try clear c37
     try clear hcz13_0
     try clear hcz13_1
     try clear hcz17_0
     try clear hcz17_1
     try clear hcz21_0
     try clear hcz21_1
     try clear hcz25_0
     try clear hcz25_1
     try clear hcz27_0
     try clear hcz27_1
     try clear hcz31_0
     try clear hcz31_1
     try clear hcz31_2
     try clear hcz32_0
     try clear hcz32_1
     try clear hcz37_0
     try clear hcz37_1
     try clear hfz13_0
     try clear hfz13_1
     try clear hfz17_0
     try clear hfz17_1
     try clear hfz21_0
     try clear hfz21_1
     try clear hfz25_0
     try clear hfz25_1
     try clear hfz27_0
     try clear hfz27_1
     try clear hfz31_0
     try clear hfz31_1
     try clear hfz31_2
     try clear hfz32_0
     try clear hfz32_1
     try clear hfz37_0
     try clear hfz37_1
     try clear p2
     obtain ⟨x10_2, x11_2, x466001_2, u466001, rfl, rfl, HA, HK2, HO_466001, BK459, BK460, BK464, BK465, HB⟩ := hrel
     cases gk with
     | zero => exact absurd HA.out (by simp [crucibleref12_PutFile.l0])
     | succ k2 =>
      have H := HA.out
      clear HA
      simp only [crucibleref12_PutFile.l0] at H
      by_cases c38 : x11_2 < (l0_1.length : Int)
      ·
       rw [if_pos c38] at H
       have c38b0 : decide (x11_2 < (l0_1.length : Int)) = true := decide_eq_true c38
       clear c38
       have HC39 := Aside0.mk H
       clear H
       have hnb40 := NB459_460.out
       have hnc40 := NB460_459.out
       have hnb41 := NB459_464.out
       have hnc41 := NB464_459.out
       have hnb42 := NB459_465.out
       have hnc42 := NB465_459.out
       have hcz43_0 : wr.cell? ⟨gb459, 0, none⟩ = some (.int .i64 a0_0) := (blk_cell BK459.out 0).trans rfl
       have hcz43_1 : wr.cell? ⟨gb459, 1, none⟩ = some (.slice A0_1 l0_1.length c0_1) := (blk_cell BK459.out 1).trans rfl
       have hfz43_0 := blk_frozen BK459.out 0
       have hfz43_1 := blk_frozen BK459.out 1
       go_upto_region 9 with (fail)
       go_cut [54] (fun v54 wc => ∃ (kq : Nat) (x54_38 : Bool), v54 = .bool x54_38 ∧ Aside0 (crucibleref12_PutFile.j2 kq a1 x10_2 x11_2 x54_38 a0_0 l0_1 a1 a2 (wrap64 (a0_0 + 1)) (wrap64 (a0_0 + 1)) x466001_2 = some (r1, r2, r3)) ∧ Aside0 (kq ≤ k2) ∧ Aside0 (Kd.R k72 72 wc w.heap.size (fun k_ => k_ ≠ gb464) u466001 x466001_2) ∧ Aside0 (wc.heap[gb459]? = some (.cells #[.int .i64 a0_0, (.slice A0_1 l0_1.length c0_1)] 28 (0, 0))) ∧ Aside0 (wc.heap[gb460]? = some (.cells #[.int .i64 0, (.slice none 0 0)] 28 (0, 0))) ∧ Aside0 (wc.heap[gb464]? = some (.cells #[.string a1, .int .i64 a2, .int .i64 (wrap64 (a0_0 + 1))] 72 (0, 0))) ∧ Aside0 (wc.heap[gb465]? = some (.cells #[.int .i64 (wrap64 (a0_0 + 1)), u466001] 28 (0, 0))) ∧ Aside0 (Below w.heap.size w wc))
       case first =>
        have H := HC39.out
        clear HC39
        by_cases c44 : x10_2 = true
        ·
         subst c44
         have H1 : (crucibleref12_PutFile.j2 k2 a1 true x11_2 false a0_0 l0_1 a1 a2 (wrap64 (a0_0 + 1)) (wrap64 (a0_0 + 1)) x466001_2) = some (r1, r2, r3) := by rw [if_pos rfl] at H; exact H
         clear H
         have H := H1
         clear H1
         have H' := Aside0.mk H
         clear H
         go_wp2
         go_meet
         case rel => exact ⟨_, (false), (by first | rfl | (simp; done) | (simp [*]; done)), H', ⟨by have := HJ3.out; have := HK2.out; first | omega | exact Nat.le_refl _⟩, ⟨by (with_reducible repeat (first | apply Kd.R_alloc | apply Kd.R_drewN | apply Kd.R_drew)); first | exact HO_466001.out | exact own_len HO_466001.out⟩, ⟨by (with_reducible repeat (first | refine blk_drewN ?_ _ | refine blk_drew ?_ | refine blk_alloc ?_ _)); exact BK459.out⟩, ⟨by (with_reducible repeat (first | refine blk_drewN ?_ _ | refine blk_drew ?_ | refine blk_alloc ?_ _)); exact BK460.out⟩, ⟨by (with_reducible repeat (first | refine blk_drewN ?_ _ | refine blk_drew ?_ | refine blk_alloc ?_ _)); exact BK464.out⟩, ⟨by (with_reducible repeat (first | refine blk_drewN ?_ _ | refine blk_drew ?_ | refine blk_alloc ?_ _)); exact BK465.out⟩, ⟨by repeat (first | (with_reducible first | exact HB.out | apply below_alloc | apply pw_below_drewN | apply below_drew1 | refine below_set ?_ GE459.out | refine below_set ?_ GE460.out | refine below_set ?_ GE464.out | refine below_set ?_ GE465.out) | exact HB.out)⟩⟩
        ·
         replace c44 := Bool.eq_false_iff.mpr c44
         subst c44
         have H1 : (if 0 ≤ x11_2 then (crucibleref12_PutFile.j2 k2 a1 false x11_2 (!(Op.bytesLess (((rd_T72 l0_1 x11_2).f0).toList) a1.toList)) a0_0 l0_1 a1 a2 (wrap64 (a0_0 + 1)) (wrap64 (a0_0 + 1)) x466001_2) else (none)) = some (r1, r2, r3) := by rw [if_neg (show ¬ (false = true) by decide)] at H; exact H
         clear H
         have H := H1
         clear H1
         by_cases c45 : 0 ≤ x11_2
         ·
          rw [if_pos c45] at H
          have c45b0 : decide (0 ≤ x11_2) = true := decide_eq_true c45
          clear c45
          (first | rw [c45b0] | (simp only [i64_w, i32_w]; rw [c45b0]) | rw [c45b2] | skip)
          have H' := Aside0.mk H
          clear H
          have hnb46 := NB459_460.out
          have hnc46 := NB460_459.out
          have hnb47 := NB459_464.out
          have hnc47 := NB464_459.out
          have hnb48 := NB459_465.out
          have hnc48 := NB465_459.out
          have hcz49_0 : wr.cell? ⟨gb459, 0, none⟩ = some (.int .i64 a0_0) := (blk_cell BK459.out 0).trans rfl
          have hcz49_1 : wr.cell? ⟨gb459, 1, none⟩ = some (.slice A0_1 l0_1.length c0_1) := (blk_cell BK459.out 1).trans rfl
          have hfz49_0 := blk_frozen BK459.out 0
          have hfz49_1 := blk_frozen BK459.out 1
          have p466 : 0 ≤ (x11_2 : Int) := of_decide_eq_true (by first | (with_reducible assumption) | assumption)
          have q466 : x11_2 < (l0_1.length : Int) := of_decide_eq_true (by first | (with_reducible assumption) | assumption)
          obtain ⟨ad466, e466, hx466_0, hx466_1, hx466_2⟩ := at_T72 HR0_1.out x11_2 p466 q466
          cases e466
          replace hx466_0 := (HB.out.cell (World.block_lt_of_cell? w _ hx466_0)).trans hx466_0
          replace hx466_1 := (HB.out.cell (World.block_lt_of_cell? w _ hx466_1)).trans hx466_1
          replace hx466_2 := (HB.out.cell (World.block_lt_of_cell? w _ hx466_2)).trans hx466_2
          replace p466 := eq_true p466
          replace q466 := eq_true q466
          go_wp2
          go_meet
          case rel => exact ⟨_, (!(Op.bytesLess (((rd_T72 l0_1 x11_2).f0).toList) a1.toList)), (by first | rfl | (simp; done) | (simp [*]; done)), H', ⟨by have := HJ3.out; have := HK2.out; first | omega | exact Nat.le_refl _⟩, ⟨by (with_reducible repeat (first | apply Kd.R_alloc | apply Kd.R_drewN | apply Kd.R_drew)); first | exact HO_466001.out | exact own_len HO_466001.out⟩, ⟨by (with_reducible repeat (first | refine blk_drewN ?_ _ | refine blk_drew ?_ | refine blk_alloc ?_ _)); exact BK459.out⟩, ⟨by (with_reducible repeat (first | refine blk_drewN ?_ _ | refine blk_drew ?_ | refine blk_alloc ?_ _)); exact BK460.out⟩, ⟨by (with_reducible repeat (first | refine blk_drewN ?_ _ | refine blk_drew ?_ | refine blk_alloc ?_ _)); exact BK464.out⟩, ⟨by (with_reducible repeat (first | refine blk_drewN ?_ _ | refine blk_drew ?_ | refine blk_alloc ?_ _)); exact BK465.out⟩, ⟨by repeat (first | (with_reducible first | exact HB.out | apply below_alloc | apply pw_below_drewN | apply below_drew1 | refine below_set ?_ GE459.out | refine below_set ?_ GE460.out | refine below_set ?_ GE464.out | refine below_set ?_ GE465.out) | exact HB.out)⟩⟩
         ·
          rw [if_neg c45] at H
          exact absurd H (by simp)
       case rest =>
        clear HC39
        try clear c1
        try clear c2
        try clear p2
        try clear c3
        try clear c4
        try clear p4
        try clear q4
        try clear hx4
        try clear p6
        try clear c8
        try clear c10
        try clear c12
        try clear c16
        try clear c20
        try clear c23
        try clear c24
        try clear c26
        try clear c29
        try clear c30
        try clear c34
        try clear c35
        try clear c36
        try clear c37
        try clear c38
        try clear c38b0
        try clear c40
        try clear c41
        try clear c42
        try clear c44
        try clear c45
        try clear c45b0
        try clear c45b2
        try clear c46
        try clear p46
        try clear q46
        try clear hx46
        try clear c47
        try clear c48
        try clear hcz13_0
        try clear hcz13_1
        try clear hcz17_0
        try clear hcz17_1
        try clear hcz21_0
        try clear hcz21_1
        try clear hcz25_0
        try clear hcz25_1
        try clear hcz27_0
        try clear hcz27_1
        try clear hcz31_0
        try clear hcz31_1
        try clear hcz31_2
        try clear hcz32_0
        try clear hcz32_1
        try clear hcz37_0
        try clear hcz37_1
        try clear hcz43_0
        try clear hcz43_1
        try clear hcz49_0
        try clear hcz49_1
        try clear hfz13_0
        try clear hfz13_1
        try clear hfz17_0
        try clear hfz17_1
        try clear hfz21_0
        try clear hfz21_1
        try clear hfz25_0
        try clear hfz25_1
        try clear hfz27_0
        try clear hfz27_1
        try clear hfz31_0
        try clear hfz31_1
        try clear hfz31_2
        try clear hfz32_0
        try clear hfz32_1
        try clear hfz37_0
        try clear hfz37_1
        try clear hfz43_0
        try clear hfz43_1
        try clear hfz49_0
        try clear hfz49_1
        try clear hx466_0
        try clear hx466_1
        try clear hx466_2
        try clear p2
        try clear p466
        try clear p6
        try clear q466
        obtain ⟨kq, x54_38, rfl, HA, HJ38, HO_466001, BK459, BK460, BK464, BK465, HB⟩ := hcut
        cases kq with
        | zero => exact absurd HA.out (by simp [crucibleref12_PutFile.j2])
        | succ kj38 =>
         have H := HA.out
         clear HA
         simp only [crucibleref12_PutFile.j2] at H
         by_cases c50 : x54_38 = true
         ·
          subst c50
          have H1 : (if x466001_2.length < 4398046511104 then ((some (x466001_2 ++ [(⟨a1, a2, (wrap64 (a0_0 + 1))⟩ : S72)] : List (S72))).bind fun y467 => (if 0 ≤ x11_2 then (if x11_2 < (l0_1.length : Int) then (if ((rd_T72 l0_1 x11_2).f0).toList = a1.toList then (crucibleref12_PutFile.l0 kj38 a1 true (wrap64 (x11_2 + 1)) a0_0 l0_1 a1 a2 (wrap64 (a0_0 + 1)) (wrap64 (a0_0 + 1)) y467) else (if y467.length < 4398046511104 then (crucibleref12_PutFile.l0 kj38 a1 true (wrap64 (x11_2 + 1)) a0_0 l0_1 a1 a2 (wrap64 (a0_0 + 1)) (wrap64 (a0_0 + 1)) (y467 ++ [(⟨(rd_T72 l0_1 x11_2).f0, (rd_T72 l0_1 x11_2).f1, (rd_T72 l0_1 x11_2).f2⟩ : S72)])) else (none))) else (none)) else (none))) else (none)) = some (r1, r2, r3) := by rw [if_pos rfl] at H; exact H
          clear H
          have H := H1
          clear H1
          by_cases c51 : x466001_2.length < 4398046511104
          ·
           rw [if_pos c51] at H
           have LMc51 := Aside0.mk c51
           clear c51
           obtain ⟨y467, hy467⟩ : ∃ y_ : List (S72), y_ = (x466001_2 ++ [(⟨a1, a2, (wrap64 (a0_0 + 1))⟩ : S72)]) := ⟨_, rfl⟩
           replace H : (if 0 ≤ x11_2 then (if x11_2 < (l0_1.length : Int) then (if ((rd_T72 l0_1 x11_2).f0).toList = a1.toList then (crucibleref12_PutFile.l0 kj38 a1 true (wrap64 (x11_2 + 1)) a0_0 l0_1 a1 a2 (wrap64 (a0_0 + 1)) (wrap64 (a0_0 + 1)) y467) else (if y467.length < 4398046511104 then (crucibleref12_PutFile.l0 kj38 a1 true (wrap64 (x11_2 + 1)) a0_0 l0_1 a1 a2 (wrap64 (a0_0 + 1)) (wrap64 (a0_0 + 1)) (y467 ++ [(⟨(rd_T72 l0_1 x11_2).f0, (rd_T72 l0_1 x11_2).f1, (rd_T72 l0_1 x11_2).f2⟩ : S72)])) else (none))) else (none)) else (none)) = some (r1, r2, r3) := by first | (rw [hy467]; with_reducible exact H) | (have H2_ := (Option.bind_some _ _).symm.trans H; rw [hy467]; with_reducible exact H2_) | (have H2_ := (Option.bind_some _ _).symm.trans H; with_reducible exact H2_) | with_reducible exact H | (rw [hy467]; exact H) | exact H
           have Ny467 := Aside0.mk hy467
           clear hy467
           by_cases c52 : 0 ≤ x11_2
           ·
            rw [if_pos c52] at H
            have c52b0 : decide (0 ≤ x11_2) = true := decide_eq_true c52
            clear c52
            by_cases c53 : x11_2 < (l0_1.length : Int)
            ·
             rw [if_pos c53] at H
             have c53b0 : decide (x11_2 < (l0_1.length : Int)) = true := decide_eq_true c53
             clear c53
             by_cases c54 : ((rd_T72 l0_1 x11_2).f0).toList = a1.toList
             ·
              rw [if_pos c54] at H
              have c54b0 : (((rd_T72 l0_1 x11_2).f0).toList == a1.toList) = true := beq_iff_eq.mpr c54
              have c54b1 : (((rd_T72 l0_1 x11_2).f0).toList != a1.toList) = false := bne_eq_false_iff_eq.mpr c54
              clear c54
              have H' := Aside0.mk H
              clear H
              have hnb55 := NB465_459.out
              have hnc55 := NB459_465.out
              have hnb56 := NB465_460.out
              have hnc56 := NB460_465.out
              have hnb57 := NB465_464.out
              have hnc57 := NB464_465.out
              have hcz58_0 : wc.cell? ⟨gb465, 0, none⟩ = some (.int .i64 (wrap64 (a0_0 + 1))) := (blk_cell BK465.out 0).trans rfl
              have hcz58_1 : wc.cell? ⟨gb465, 1, none⟩ = some (u466001) := (blk_cell BK465.out 1).trans rfl
              have hfz58_0 := blk_frozen BK465.out 0
              have hfz58_1 := blk_frozen BK465.out 1
              have hnb59 := NB464_459.out
              have hnc59 := NB459_464.out
              have hnb60 := NB464_460.out
              have hnc60 := NB460_464.out
              have hcz61_0 : wc.cell? ⟨gb464, 0, none⟩ = some (.string a1) := (blk_cell BK464.out 0).trans rfl
              have hcz61_1 : wc.cell? ⟨gb464, 1, none⟩ = some (.int .i64 a2) := (blk_cell BK464.out 1).trans rfl
              have hcz61_2 : wc.cell? ⟨gb464, 2, none⟩ = some (.int .i64 (wrap64 (a0_0 + 1))) := (blk_cell BK464.out 2).trans rfl
              have hfz61_0 := blk_frozen BK464.out 0
              have hfz61_1 := blk_frozen BK464.out 1
              have hfz61_2 := blk_frozen BK464.out 2
              go_wp2_with (first | ((with_reducible refine gate_builtin (b := .append) (xs := #[.tmp 56, .tmp 58]) rfl ?_); (try (refine gate_guard (by rfl) ?_; dsimp only)); at_builtin; refine Kd.R_append k72 (w0 := w) w.heap.size rfl (.tmp 56) (.tmp 58) 26 72 (.agg #[(.string ⟨#[]⟩), (.int .i64 0), (.int .i64 0)]) 32 rfl Tryd.underlying26 info72 rfl (by decide) (by omega) u466001 x466001_2 (⟨a1, a2, (wrap64 (a0_0 + 1))⟩ : S72) [.string a1, .int .i64 a2, .int .i64 (wrap64 (a0_0 + 1))] (fun k_ => k_ ≠ gb464) (fun _ => False) rfl rfl ?aP (fun _ hk => hk.elim) ?aF ?aO ?aB ?aS ?aL ?_; (case aP => exact k72_mkM _ _ _ (⟨a1, a2, (wrap64 (a0_0 + 1))⟩ : S72)); (case aB => exact (by repeat (first | (with_reducible first | exact HB.out | apply below_alloc | apply pw_below_drewN | apply below_drew1 | refine below_set ?_ GE459.out | refine below_set ?_ GE460.out | refine below_set ?_ GE464.out | refine below_set ?_ GE465.out) | exact HB.out))); (case aF => exact (fun k_ hk => Kd.freshB (g := gb464) (o := .cells #[.string a1, .int .i64 a2, .int .i64 (wrap64 (a0_0 + 1))] 72 (0, 0)) (by (with_reducible repeat (first | refine blk_drewN ?_ _ | refine blk_drew ?_ | refine blk_alloc ?_ _)); exact BK464.out) k_ hk)); (case aO => exact (by (with_reducible repeat (first | apply Kd.R_alloc | apply Kd.R_drewN | apply Kd.R_drew)); exact HO_466001.out)); (case aS => exact (below_size (by repeat (first | (with_reducible first | exact HB.out | apply below_alloc | apply pw_below_drewN | apply below_drew1 | refine below_set ?_ GE459.out | refine below_set ?_ GE460.out | refine below_set ?_ GE464.out | refine below_set ?_ GE465.out) | exact HB.out)))); (case aL => have := LMc51.out; omega); intro v468 w62 ho hb hg hat; rw [← Ny467.out] at ho; have n0_ := Aside0.mk (blk_grown (g := gb459) (o := .cells #[.int .i64 a0_0, .slice A0_1 l0_1.length c0_1] 28 (0, 0)) (by (with_reducible repeat (first | refine blk_drewN ?_ _ | refine blk_drew ?_ | refine blk_alloc ?_ _)); exact BK459.out) hg (Kd.R_ne HO_466001.out BK459.out (by decide))); have n1_ := Aside0.mk (blk_grown (g := gb460) (o := .cells #[.int .i64 0, .slice none 0 0] 28 (0, 0)) (by (with_reducible repeat (first | refine blk_drewN ?_ _ | refine blk_drew ?_ | refine blk_alloc ?_ _)); exact BK460.out) hg (Kd.R_ne HO_466001.out BK460.out (by decide))); have n2_ := Aside0.mk (blk_grown (g := gb464) (o := .cells #[.string a1, .int .i64 a2, .int .i64 (wrap64 (a0_0 + 1))] 72 (0, 0)) (by (with_reducible repeat (first | refine blk_drewN ?_ _ | refine blk_drew ?_ | refine blk_alloc ?_ _)); exact BK464.out) hg (Kd.R_away HO_466001.out (fun _ hk => hk))); have n3_ := Aside0.mk (blk_grown (g := gb465) (o := .cells #[.int .i64 (wrap64 (a0_0 + 1)), u466001] 28 (0, 0)) (by (with_reducible repeat (first | refine blk_drewN ?_ _ | refine blk_drew ?_ | refine blk_alloc ?_ _)); exact BK465.out) hg (Kd.R_ne HO_466001.out BK465.out (by decide))); have n4_ := Aside0.mk (hb); have n5_ := Aside0.mk (ho); clear BK459; clear BK460; clear BK464; clear BK465; clear HB; clear HO_466001; have BK459 := n0_; have BK460 := n1_; have BK464 := n2_; have BK465 := n3_; have HB := n4_; have HO469 := n5_; clear n0_ n1_ n2_ n3_ n4_ n5_; clear ho hb hg hat; obtain ⟨Ao63, co63, eo63⟩ := Kd.R_slice HO469.out; subst eo63; have hcz64_0 : w62.cell? ⟨gb465, 0, none⟩ = some (.int .i64 (wrap64 (a0_0 + 1))) := (blk_cell BK465.out 0).trans rfl; have hcz64_1 : w62.cell? ⟨gb465, 1, none⟩ = some (u466001) := (blk_cell BK465.out 1).trans rfl; have hfz64_0 := blk_frozen BK465.out 0; have hfz64_1 := blk_frozen BK465.out 1; have hnb65 := NB459_460.out; have hnc65 := NB460_459.out; have hcz66_0 : w62.cell? ⟨gb459, 0, none⟩ = some (.int .i64 a0_0) := (blk_cell BK459.out 0).trans rfl; have hcz66_1 : w62.cell? ⟨gb459, 1, none⟩ = some (.slice A0_1 l0_1.length c0_1) := (blk_cell BK459.out 1).trans rfl; have hfz66_0 := blk_frozen BK459.out 0; have hfz66_1 := blk_frozen BK459.out 1; have p470 : 0 ≤ (x11_2 : Int) := of_decide_eq_true (by first | (with_reducible assumption) | assumption); have q470 : x11_2 < (l0_1.length : Int) := of_decide_eq_true (by first | (with_reducible assumption) | assumption); obtain ⟨ad470, e470, hx470_0, hx470_1, hx470_2⟩ := at_T72 HR0_1.out x11_2 p470 q470; cases e470; have hn470_0 : ad470.block ≠ gb465 := Nat.ne_of_lt (Nat.lt_of_lt_of_le (by have := World.block_lt_of_cell? _ _ hx470_0; first | rwa [add_block] at this | exact this) GW465.out); replace hx470_0 := (HB.out.cell (World.block_lt_of_cell? w _ hx470_0)).trans hx470_0; replace hx470_1 := (HB.out.cell (World.block_lt_of_cell? w _ hx470_1)).trans hx470_1; replace hx470_2 := (HB.out.cell (World.block_lt_of_cell? w _ hx470_2)).trans hx470_2; replace hx470_0 := (cell_far (p := ⟨gb465, 1, none⟩) (by first | (rw [add_block]; exact hn470_0) | (show (Addr.add _ _).block ≠ _; rw [add_block]; exact hn470_0) | exact hn470_0) (.slice Ao63 y467.length co63)).trans hx470_0; replace hx470_1 := (cell_far (p := ⟨gb465, 1, none⟩) (by first | (rw [add_block]; exact hn470_0) | (show (Addr.add _ _).block ≠ _; rw [add_block]; exact hn470_0) | exact hn470_0) (.slice Ao63 y467.length co63)).trans hx470_1; replace hx470_2 := (cell_far (p := ⟨gb465, 1, none⟩) (by first | (rw [add_block]; exact hn470_0) | (show (Addr.add _ _).block ≠ _; rw [add_block]; exact hn470_0) | exact hn470_0) (.slice Ao63 y467.length co63)).trans hx470_2; clear hn470_0; replace p470 := eq_true p470; replace q470 := eq_true q470))
              go_roundg kj38
              case measure => have := HJ3.out; have := HK2.out; have := HJ38.out; omega
              case rel => exact ⟨(true), (wrap64 (x11_2 + 1)), (y467), (.slice Ao63 y467.length co63), (by first | rfl | (simp; done) | (simp [*]; done)), (by first | rfl | (simp; done) | (simp [*]; done)), H', ⟨by have := HJ3.out; have := HK2.out; have := HJ38.out; omega⟩, ⟨by (with_reducible repeat (first | apply Kd.R_alloc | apply Kd.R_drewN | apply Kd.R_drew)); exact Kd.R_mono (Kd.R_far (p := ⟨gb465, 1, none⟩) (Kd.R_types HO469.out BK465.out (by decide)) (fun _ hk => hk.2) (.slice Ao63 y467.length co63)) (fun _ hk => hk.1)⟩, ⟨by (with_reducible repeat (first | refine blk_drewN ?_ _ | refine blk_drew ?_ | refine blk_alloc ?_ _)); refine blk_far ?_ NB459_465.out _; (with_reducible repeat (first | refine blk_drewN ?_ _ | refine blk_drew ?_ | refine blk_alloc ?_ _)); exact BK459.out⟩, ⟨by (with_reducible repeat (first | refine blk_drewN ?_ _ | refine blk_drew ?_ | refine blk_alloc ?_ _)); refine blk_far ?_ NB460_465.out _; (with_reducible repeat (first | refine blk_drewN ?_ _ | refine blk_drew ?_ | refine blk_alloc ?_ _)); exact BK460.out⟩, ⟨by (with_reducible repeat (first | refine blk_drewN ?_ _ | refine blk_drew ?_ | refine blk_alloc ?_ _)); refine blk_far ?_ NB464_465.out _; (with_reducible repeat (first | refine blk_drewN ?_ _ | refine blk_drew ?_ | refine blk_alloc ?_ _)); exact BK464.out⟩, ⟨by (with_reducible repeat (first | refine blk_drewN ?_ _ | refine blk_drew ?_ | refine blk_alloc ?_ _)); refine blk_put (cs := #[.int .i64 (wrap64 (a0_0 + 1)), u466001]) ?_ 1 _ rfl; (with_reducible repeat (first | refine blk_drewN ?_ _ | refine blk_drew ?_ | refine blk_alloc ?_ _)); exact BK465.out⟩, ⟨by repeat (first | (with_reducible first | exact HB.out | apply below_alloc | apply pw_below_drewN | apply below_drew1 | refine below_set ?_ GE459.out | refine below_set ?_ GE460.out | refine below_set ?_ GE464.out | refine below_set ?_ GE465.out) | exact HB.out)⟩⟩
             ·
              rw [if_neg c54] at H
              have c54b0 : (((rd_T72 l0_1 x11_2).f0).toList == a1.toList) = false := beq_eq_false_iff_ne.mpr c54
              have c54b1 : (((rd_T72 l0_1 x11_2).f0).toList != a1.toList) = true := bne_iff_ne.mpr c54
              by_cases c67 : y467.length < 4398046511104
              ·
               rw [if_pos c67] at H
               have LMc67 := Aside0.mk c67
               clear c67
               obtain ⟨y472, hy472⟩ : ∃ y_ : List (S72), y_ = (y467 ++ [(⟨(rd_T72 l0_1 x11_2).f0, (rd_T72 l0_1 x11_2).f1, (rd_T72 l0_1 x11_2).f2⟩ : S72)]) := ⟨_, rfl⟩
               replace H : (crucibleref12_PutFile.l0 kj38 a1 true (wrap64 (x11_2 + 1)) a0_0 l0_1 a1 a2 (wrap64 (a0_0 + 1)) (wrap64 (a0_0 + 1)) y472) = some (r1, r2, r3) := by first | (rw [hy472]; with_reducible exact H) | (have H2_ := (Option.bind_some _ _).symm.trans H; rw [hy472]; with_reducible exact H2_) | (have H2_ := (Option.bind_some _ _).symm.trans H; with_reducible exact H2_) | with_reducible exact H | (rw [hy472]; exact H) | exact H
               have Ny472 := Aside0.mk hy472
               clear hy472
               have H' := Aside0.mk H
               clear H
               have hnb68 := NB465_459.out
               have hnc68 := NB459_465.out
               have hnb69 := NB465_460.out
               have hnc69 := NB460_465.out
               have hnb70 := NB465_464.out
               have hnc70 := NB464_465.out
               have hcz71_0 : wc.cell? ⟨gb465, 0, none⟩ = some (.int .i64 (wrap64 (a0_0 + 1))) := (blk_cell BK465.out 0).trans rfl
               have hcz71_1 : wc.cell? ⟨gb465, 1, none⟩ = some (u466001) := (blk_cell BK465.out 1).trans rfl
               have hfz71_0 := blk_frozen BK465.out 0
               have hfz71_1 := blk_frozen BK465.out 1
               have hnb72 := NB464_459.out
               have hnc72 := NB459_464.out
               have hnb73 := NB464_460.out
               have hnc73 := NB460_464.out
               have hcz74_0 : wc.cell? ⟨gb464, 0, none⟩ = some (.string a1) := (blk_cell BK464.out 0).trans rfl
               have hcz74_1 : wc.cell? ⟨gb464, 1, none⟩ = some (.int .i64 a2) := (blk_cell BK464.out 1).trans rfl
               have hcz74_2 : wc.cell? ⟨gb464, 2, none⟩ = some (.int .i64 (wrap64 (a0_0 + 1))) := (blk_cell BK464.out 2).trans rfl
               have hfz74_0 := blk_frozen BK464.out 0
               have hfz74_1 := blk_frozen BK464.out 1
               have hfz74_2 := blk_frozen BK464.out 2
               try go_wp2_with (first | ((with_reducible refine gate_builtin (b := .append) (xs := #[.tmp 56, .tmp 58]) rfl ?_); (try (refine gate_guard (by rfl) ?_; dsimp only)); at_builtin; refine Kd.R_append k72 (w0 := w) w.heap.size rfl (.tmp 56) (.tmp 58) 26 72 (.agg #[(.string ⟨#[]⟩), (.int .i64 0), (.int .i64 0)]) 32 rfl Tryd.underlying26 info72 rfl (by decide) (by omega) u466001 x466001_2 (⟨a1, a2, (wrap64 (a0_0 + 1))⟩ : S72) [.string a1, .int .i64 a2, .int .i64 (wrap64 (a0_0 + 1))] (fun k_ => k_ ≠ gb464) (fun _ => False) rfl rfl ?aP (fun _ hk => hk.elim) ?aF ?aO ?aB ?aS ?aL ?_; (case aP => exact k72_mkM _ _ _ (⟨a1, a2, (wrap64 (a0_0 + 1))⟩ : S72)); (case aB => exact (by repeat (first | (with_reducible first | exact HB.out | apply below_alloc | apply pw_below_drewN | apply below_drew1 | refine below_set ?_ GE459.out | refine below_set ?_ GE460.out | refine below_set ?_ GE464.out | refine below_set ?_ GE465.out) | exact HB.out))); (case aF => exact (fun k_ hk => Kd.freshB (g := gb464) (o := .cells #[.string a1, .int .i64 a2, .int .i64 (wrap64 (a0_0 + 1))] 72 (0, 0)) (by (with_reducible repeat (first | refine blk_drewN ?_ _ | refine blk_drew ?_ | refine blk_alloc ?_ _)); exact BK464.out) k_ hk)); (case aO => exact (by (with_reducible repeat (first | apply Kd.R_alloc | apply Kd.R_drewN | apply Kd.R_drew)); exact HO_466001.out)); (case aS => exact (below_size (by repeat (first | (with_reducible first | exact HB.out | apply below_alloc | apply pw_below_drewN | apply below_drew1 | refine below_set ?_ GE459.out | refine below_set ?_ GE460.out | refine below_set ?_ GE464.out | refine below_set ?_ GE465.out) | exact HB.out)))); (case aL => have := LMc51.out; omega); intro v468 w75 ho hb hg hat; rw [← Ny467.out] at ho; have n0_ := Aside0.mk (blk_grown (g := gb459) (o := .cells #[.int .i64 a0_0, .slice A0_1 l0_1.length c0_1] 28 (0, 0)) (by (with_reducible repeat (first | refine blk_drewN ?_ _ | refine blk_drew ?_ | refine blk_alloc ?_ _)); exact BK459.out) hg (Kd.R_ne HO_466001.out BK459.out (by decide))); have n1_ := Aside0.mk (blk_grown (g := gb460) (o := .cells #[.int .i64 0, .slice none 0 0] 28 (0, 0)) (by (with_reducible repeat (first | refine blk_drewN ?_ _ | refine blk_drew ?_ | refine blk_alloc ?_ _)); exact BK460.out) hg (Kd.R_ne HO_466001.out BK460.out (by decide))); have n2_ := Aside0.mk (blk_grown (g := gb464) (o := .cells #[.string a1, .int .i64 a2, .int .i64 (wrap64 (a0_0 + 1))] 72 (0, 0)) (by (with_reducible repeat (first | refine blk_drewN ?_ _ | refine blk_drew ?_ | refine blk_alloc ?_ _)); exact BK464.out) hg (Kd.R_away HO_466001.out (fun _ hk => hk))); have n3_ := Aside0.mk (blk_grown (g := gb465) (o := .cells #[.int .i64 (wrap64 (a0_0 + 1)), u466001] 28 (0, 0)) (by (with_reducible repeat (first | refine blk_drewN ?_ _ | refine blk_drew ?_ | refine blk_alloc ?_ _)); exact BK465.out) hg (Kd.R_ne HO_466001.out BK465.out (by decide))); have n4_ := Aside0.mk (hb); have n5_ := Aside0.mk (ho); clear BK459; clear BK460; clear BK464; clear BK465; clear HB; clear HO_466001; have BK459 := n0_; have BK460 := n1_; have BK464 := n2_; have BK465 := n3_; have HB := n4_; have HO469 := n5_; clear n0_ n1_ n2_ n3_ n4_ n5_; clear ho hb hg hat; obtain ⟨Ao76, co76, eo76⟩ := Kd.R_slice HO469.out; subst eo76; have hcz77_0 : w75.cell? ⟨gb465, 0, none⟩ = some (.int .i64 (wrap64 (a0_0 + 1))) := (blk_cell BK465.out 0).trans rfl; have hcz77_1 : w75.cell? ⟨gb465, 1, none⟩ = some (u466001) := (blk_cell BK465.out 1).trans rfl; have hfz77_0 := blk_frozen BK465.out 0; have hfz77_1 := blk_frozen BK465.out 1; have hnb78 := NB459_460.out; have hnc78 := NB460_459.out; have hcz79_0 : w75.cell? ⟨gb459, 0, none⟩ = some (.int .i64 a0_0) := (blk_cell BK459.out 0).trans rfl; have hcz79_1 : w75.cell? ⟨gb459, 1, none⟩ = some (.slice A0_1 l0_1.length c0_1) := (blk_cell BK459.out 1).trans rfl; have hfz79_0 := blk_frozen BK459.out 0; have hfz79_1 := blk_frozen BK459.out 1; have p470 : 0 ≤ (x11_2 : Int) := of_decide_eq_true (by first | (with_reducible assumption) | assumption); have q470 : x11_2 < (l0_1.length : Int) := of_decide_eq_true (by first | (with_reducible assumption) | assumption); obtain ⟨ad470, e470, hx470_0, hx470_1, hx470_2⟩ := at_T72 HR0_1.out x11_2 p470 q470; cases e470; have hn470_0 : ad470.block ≠ gb465 := Nat.ne_of_lt (Nat.lt_of_lt_of_le (by have := World.block_lt_of_cell? _ _ hx470_0; first | rwa [add_block] at this | exact this) GW465.out); replace hx470_0 := (HB.out.cell (World.block_lt_of_cell? w _ hx470_0)).trans hx470_0; replace hx470_1 := (HB.out.cell (World.block_lt_of_cell? w _ hx470_1)).trans hx470_1; replace hx470_2 := (HB.out.cell (World.block_lt_of_cell? w _ hx470_2)).trans hx470_2; replace hx470_0 := (cell_far (p := ⟨gb465, 1, none⟩) (by first | (rw [add_block]; exact hn470_0) | (show (Addr.add _ _).block ≠ _; rw [add_block]; exact hn470_0) | exact hn470_0) (.slice Ao76 y467.length co76)).trans hx470_0; replace hx470_1 := (cell_far (p := ⟨gb465, 1, none⟩) (by first | (rw [add_block]; exact hn470_0) | (show (Addr.add _ _).block ≠ _; rw [add_block]; exact hn470_0) | exact hn470_0) (.slice Ao76 y467.length co76)).trans hx470_1; replace hx470_2 := (cell_far (p := ⟨gb465, 1, none⟩) (by first | (rw [add_block]; exact hn470_0) | (show (Addr.add _ _).block ≠ _; rw [add_block]; exact hn470_0) | exact hn470_0) (.slice Ao76 y467.length co76)).trans hx470_2; clear hn470_0; replace p470 := eq_true p470; replace q470 := eq_true q470))
               have n0_ : Aside0 (Kd.R k72 72 (w75.setCell ⟨gb465, 1, none⟩ (.slice Ao76 y467.length co76)) w.heap.size (fun k_ => k_ ≠ gb464) (.slice Ao76 y467.length co76) y467) := ⟨by (with_reducible repeat (first | apply Kd.R_alloc | apply Kd.R_drewN | apply Kd.R_drew)); exact Kd.R_mono (Kd.R_far (p := ⟨gb465, 1, none⟩) (Kd.R_types HO469.out BK465.out (by decide)) (fun _ hk => hk.2) (.slice Ao76 y467.length co76)) (fun _ hk => hk.1)⟩
               have n1_ : Aside0 ((w75.setCell ⟨gb465, 1, none⟩ (.slice Ao76 y467.length co76)).heap[gb459]? = some (.cells #[.int .i64 a0_0, .slice (some ad470) l0_1.length c0_1] 28 (0, 0))) := ⟨by (with_reducible repeat (first | refine blk_drewN ?_ _ | refine blk_drew ?_ | refine blk_alloc ?_ _)); refine blk_far ?_ NB459_465.out _; (with_reducible repeat (first | refine blk_drewN ?_ _ | refine blk_drew ?_ | refine blk_alloc ?_ _)); exact BK459.out⟩
               have n2_ : Aside0 ((w75.setCell ⟨gb465, 1, none⟩ (.slice Ao76 y467.length co76)).heap[gb460]? = some (.cells #[.int .i64 0, .slice none 0 0] 28 (0, 0))) := ⟨by (with_reducible repeat (first | refine blk_drewN ?_ _ | refine blk_drew ?_ | refine blk_alloc ?_ _)); refine blk_far ?_ NB460_465.out _; (with_reducible repeat (first | refine blk_drewN ?_ _ | refine blk_drew ?_ | refine blk_alloc ?_ _)); exact BK460.out⟩
               have n3_ : Aside0 ((w75.setCell ⟨gb465, 1, none⟩ (.slice Ao76 y467.length co76)).heap[gb464]? = some (.cells #[.string a1, .int .i64 a2, .int .i64 (wrap64 (a0_0 + 1))] 72 (0, 0))) := ⟨by (with_reducible repeat (first | refine blk_drewN ?_ _ | refine blk_drew ?_ | refine blk_alloc ?_ _)); refine blk_far ?_ NB464_465.out _; (with_reducible repeat (first | refine blk_drewN ?_ _ | refine blk_drew ?_ | refine blk_alloc ?_ _)); exact BK464.out⟩
               have n4_ : Aside0 ((w75.setCell ⟨gb465, 1, none⟩ (.slice Ao76 y467.length co76)).heap[gb465]? = some (.cells #[.int .i64 (wrap64 (a0_0 + 1)), .slice Ao76 y467.length co76] 28 (0, 0))) := ⟨by (with_reducible repeat (first | refine blk_drewN ?_ _ | refine blk_drew ?_ | refine blk_alloc ?_ _)); refine blk_put (cs := #[.int .i64 (wrap64 (a0_0 + 1)), u466001]) ?_ 1 _ rfl; (with_reducible repeat (first | refine blk_drewN ?_ _ | refine blk_drew ?_ | refine blk_alloc ?_ _)); exact BK465.out⟩
               have n5_ : Aside0 (Below w.heap.size w (w75.setCell ⟨gb465, 1, none⟩ (.slice Ao76 y467.length co76))) := ⟨by repeat (first | (with_reducible first | exact HB.out | apply below_alloc | apply pw_below_drewN | apply below_drew1 | refine below_set ?_ GE459.out | refine below_set ?_ GE460.out | refine below_set ?_ GE464.out | refine below_set ?_ GE465.out) | exact HB.out)⟩
               (try clear HO469)
               (try clear BK459)
               (try clear BK460)
               (try clear BK464)
               (try clear BK465)
               (try clear HB)
               generalize (w75.setCell ⟨gb465, 1, none⟩ (.slice Ao76 y467.length co76)) = w80 at n0_ n1_ n2_ n3_ n4_ n5_ ⊢
               have HO469 := n0_
               have BK459 := n1_
               have BK460 := n2_
               have BK464 := n3_
               have BK465 := n4_
               have HB := n5_
               clear n0_ n1_ n2_ n3_ n4_ n5_
               have n0_ := Aside0.mk (Kd.R_drew HO469.out)
               have n1_ := Aside0.mk (blk_drew BK459.out)
               have n2_ := Aside0.mk (blk_drew BK460.out)
               have n3_ := Aside0.mk (blk_drew BK464.out)
               have n4_ := Aside0.mk (blk_drew BK465.out)
               have n5_ := Aside0.mk (below_drew1 HB.out)
               clear HO469
               clear BK459
               clear BK460
               clear BK464
               clear BK465
               clear HB
               have HO469 := n0_
               have BK459 := n1_
               have BK460 := n2_
               have BK464 := n3_
               have BK465 := n4_
               have HB := n5_
               clear n0_ n1_ n2_ n3_ n4_ n5_
               have p471 : 0 ≤ (x11_2 : Int) := of_decide_eq_true (by first | (with_reducible assumption) | assumption)
               have q471 : x11_2 < (l0_1.length : Int) := of_decide_eq_true (by first | (with_reducible assumption) | assumption)
               obtain ⟨ad471, e471, hx471_0, hx471_1, hx471_2⟩ := at_T72 HR0_1.out x11_2 p471 q471
               have hw471_2 := hx471_2
               have hw471_1 := hx471_1
               have hw471_0 := hx471_0
               obtain rfl : ad470 = ad471 := (by injection e471)
               replace hx471_0 := (HB.out.cell (World.block_lt_of_cell? w _ hx471_0)).trans hx471_0
               replace hx471_1 := (HB.out.cell (World.block_lt_of_cell? w _ hx471_1)).trans hx471_1
               replace hx471_2 := (HB.out.cell (World.block_lt_of_cell? w _ hx471_2)).trans hx471_2
               replace p471 := eq_true p471
               replace q471 := eq_true q471
               refine start_ (n := 11) (S := fun w' => w'.cell? ⟨gb465, 0, none⟩ = some (.int .i64 (wrap64 (a0_0 + 1))) ∧ w'.cell? ⟨gb465, 1, none⟩ = some (.slice Ao76 y467.length co76) ∧ w'.cell? ⟨gb459, 0, none⟩ = some (.int .i64 a0_0) ∧ w'.cell? ⟨gb459, 1, none⟩ = some (.slice (some ad470) l0_1.length c0_1) ∧ w'.cell? (ad470.add ((x11_2).toNat * 3)) = some (.string ((rd_T72 l0_1 x11_2).f0)) ∧ w'.cell? ⟨(ad470.add ((x11_2).toNat * 3)).block, (ad470.add ((x11_2).toNat * 3)).off + 1, none⟩ = some (.int .i64 ((rd_T72 l0_1 x11_2).f1)) ∧ w'.cell? ⟨(ad470.add ((x11_2).toNat * 3)).block, (ad470.add ((x11_2).toNat * 3)).off + 2, none⟩ = some (.int .i64 ((rd_T72 l0_1 x11_2).f2))) (ds := [10]) #[false, false, false, false, false, false, false, false, false, false, false] (by kernel_rfl) rfl rfl ⟨(blk_cell BK465.out 0).trans rfl, (blk_cell BK465.out 1).trans rfl, (blk_cell BK459.out 0).trans rfl, (blk_cell BK459.out 1).trans rfl, ((HB.out.cell (World.block_lt_of_cell? w _ hw471_0)).trans hw471_0), ((HB.out.cell (World.block_lt_of_cell? w _ hw471_1)).trans hw471_1), ((HB.out.cell (World.block_lt_of_cell? w _ hw471_2)).trans hw471_2)⟩ (fun hHeld => ?_); refine with_tabW crucibleref12_PutFile.tab13 crucibleref12_PutFile.bits13 (fun HT_ HW_ => ?_)
               generalize w80.drew = w81 at HO469 BK459 BK460 BK464 BK465 HB hx471_0 hx471_1 hx471_2 hHeld ⊢
               refine pure_ (i := 0) (N := some 69) (v := ?_) (a' := ?_) #[true, false, false, false, false, false, false, false, false, false, false] rfl rfl (any_of HT_.out (by kernel_rfl)) (fun _ _ _ h => h) (Or.inl ⟨by rfl, ?_⟩) ?_ ?_
               rotate_left
               ·
                intro w'
                go_simp
                with_reducible rfl
               rotate_left
               ·
                simp only [Act.put, List.setIfInBounds_toArray, List.set_cons_zero, List.set_cons_succ, i64_w, i32_w]
                rfl
               refine pure_ (i := 2) (N := some 71) (v := ?_) (a' := ?_) #[true, false, true, false, false, false, false, false, false, false, false] rfl rfl (any_of HT_.out (by kernel_rfl)) (fun _ _ _ h => h) (Or.inl ⟨by rfl, ?_⟩) ?_ ?_
               rotate_left
               ·
                intro w'
                go_simp
                with_reducible rfl
               rotate_left
               ·
                simp only [Act.put, List.setIfInBounds_toArray, List.set_cons_zero, List.set_cons_succ, i64_w, i32_w]
                rfl
               refine pure_ (i := 4) (N := some 73) (v := ?_) (a' := ?_) #[true, false, true, false, true, false, false, false, false, false, false] rfl rfl (any_of HT_.out (by kernel_rfl)) (fun _ _ _ h => h) (Or.inl ⟨by rfl, ?_⟩) ?_ ?_
               rotate_left
               ·
                intro w'
                go_simp
                with_reducible rfl
               rotate_left
               ·
                simp only [Act.put, List.setIfInBounds_toArray, List.set_cons_zero, List.set_cons_succ, i64_w, i32_w]
                rfl
               refine take_ (i := 1) (N := some 70) (v := ?_) (a' := ?_) #[true, true, true, false, true, false, false, false, false, false, false] rfl rfl (take_ofW HT_.out HW_.out (by kernel_rfl)) (fun _ _ _ h => h) (Or.inl ⟨by rfl, ?_⟩) hHeld ?_ ?_
               rotate_left
               ·
                rintro w' ⟨s0, s1, s2, s3, s4, s5, s6⟩
                go_simp
                with_reducible rfl
               rotate_left
               ·
                simp only [Act.put, List.setIfInBounds_toArray, List.set_cons_zero, List.set_cons_succ, i64_w, i32_w]
                rfl
               refine take_ (i := 3) (N := some 72) (v := ?_) (a' := ?_) #[true, true, true, true, true, false, false, false, false, false, false] rfl rfl (take_ofW HT_.out HW_.out (by kernel_rfl)) (fun _ _ _ h => h) (Or.inl ⟨by rfl, ?_⟩) hHeld ?_ ?_
               rotate_left
               ·
                rintro w' ⟨s0, s1, s2, s3, s4, s5, s6⟩
                go_simp
                with_reducible rfl
               rotate_left
               ·
                simp only [Act.put, List.setIfInBounds_toArray, List.set_cons_zero, List.set_cons_succ, i64_w, i32_w]
                rfl
               refine pure_ (i := 5) (N := some 74) (v := ?_) (a' := ?_) #[true, true, true, true, true, true, false, false, false, false, false] rfl rfl (any_of HT_.out (by kernel_rfl)) (fun _ _ _ h => h) (Or.inl ⟨by rfl, ?_⟩) ?_ ?_
               rotate_left
               ·
                intro w'
                go_simp
                with_reducible rfl
               rotate_left
               ·
                simp only [Act.put, List.setIfInBounds_toArray, List.set_cons_zero, List.set_cons_succ, i64_w, i32_w]
                rfl
               refine take_ (i := 6) (N := some 75) (v := ?_) (a' := ?_) #[true, true, true, true, true, true, true, false, false, false, false] rfl rfl (take_ofW HT_.out HW_.out (by kernel_rfl)) (fun _ _ _ h => h) (Or.inl ⟨by rfl, ?_⟩) hHeld ?_ ?_
               rotate_left
               ·
                rintro w' ⟨s0, s1, s2, s3, s4, s5, s6⟩
                go_simp
                with_reducible rfl
               rotate_left
               ·
                simp only [Act.put, List.setIfInBounds_toArray, List.set_cons_zero, List.set_cons_succ, i64_w, i32_w]
                rfl
               refine one_ (i := 7) (N := some 76) #[true, true, true, true, true, true, true, true, false, false, false] rfl rfl (one_of HT_.out (by kernel_rfl)) (by decide) (fun K hK => ?_)
               refine value_ (w1 := ?_) (v := ?_) (by rfl) rfl ?_ ?_
               rotate_left 2
               ·
                go_simp
                constructor
                ·
                 rfl
                ·
                 rfl
               refine hK.out _ _ ⟨(blk_cell (blk_alloc BK465.out _) 0).trans rfl, (blk_cell (blk_alloc BK465.out _) 1).trans rfl, (blk_cell (blk_alloc BK459.out _) 0).trans rfl, (blk_cell (blk_alloc BK459.out _) 1).trans rfl, (World.cell?_alloc_lt _ _ _ (World.block_lt_of_cell? _ _ (((HB.out.cell (World.block_lt_of_cell? w _ hw471_0)).trans hw471_0)))).trans (((HB.out.cell (World.block_lt_of_cell? w _ hw471_0)).trans hw471_0)), (World.cell?_alloc_lt _ _ _ (World.block_lt_of_cell? _ _ (((HB.out.cell (World.block_lt_of_cell? w _ hw471_1)).trans hw471_1)))).trans (((HB.out.cell (World.block_lt_of_cell? w _ hw471_1)).trans hw471_1)), (World.cell?_alloc_lt _ _ _ (World.block_lt_of_cell? _ _ (((HB.out.cell (World.block_lt_of_cell? w _ hw471_2)).trans hw471_2)))).trans (((HB.out.cell (World.block_lt_of_cell? w _ hw471_2)).trans hw471_2))⟩ (fun hHeld => ?_)
               clear hK K
               refine norm_ (a' := ?_) ?_ ?_
               rotate_left
               ·
                show Act.put _ (some 76) _ = _
                simp only [Act.put, List.setIfInBounds_toArray, List.set_cons_zero, List.set_cons_succ, i64_w, i32_w]
                rfl
               refine one_ (i := 8) (N := some 77) #[true, true, true, true, true, true, true, true, true, false, false] rfl rfl (one_of HT_.out (by kernel_rfl)) (by decide) (fun K hK => ?_)
               refine Kd.R_append_step k72 (w0 := w) w.heap.size (by rfl) (.tmp 70) (.tmp 76) 26 72 (.agg #[(.string ⟨#[]⟩), (.int .i64 0), (.int .i64 0)]) 32 rfl Tryd.underlying26 info72 rfl (by decide) (by omega) (.slice Ao76 y467.length co76) y467 (⟨(rd_T72 l0_1 x11_2).f0, (rd_T72 l0_1 x11_2).f1, (rd_T72 l0_1 x11_2).f2⟩ : S72) [.string ((rd_T72 l0_1 x11_2).f0), .int .i64 ((rd_T72 l0_1 x11_2).f1), .int .i64 ((rd_T72 l0_1 x11_2).f2)] (fun k_ => k_ ≠ gb464) (fun _ => False) rfl rfl ?aP (fun _ hk => hk.elim) ?aF ?aO ?aB ?aS ?aL ?_
               (case aP => exact k72_mkM _ _ _ (⟨(rd_T72 l0_1 x11_2).f0, (rd_T72 l0_1 x11_2).f1, (rd_T72 l0_1 x11_2).f2⟩ : S72))
               (case aB => exact (by repeat (first | (with_reducible first | exact HB.out | apply below_alloc | apply pw_below_drewN | apply below_drew1 | refine below_set ?_ GE459.out | refine below_set ?_ GE460.out | refine below_set ?_ GE464.out | refine below_set ?_ GE465.out) | exact HB.out)))
               (case aF => exact (fun k_ hk => Kd.freshB (g := gb464) (o := .cells #[.string a1, .int .i64 a2, .int .i64 (wrap64 (a0_0 + 1))] 72 (0, 0)) (by (with_reducible repeat (first | refine blk_drewN ?_ _ | refine blk_drew ?_ | refine blk_alloc ?_ _)); exact BK464.out) k_ hk))
               (case aO => exact (by (with_reducible repeat (first | apply Kd.R_alloc | apply Kd.R_drewN | apply Kd.R_drew)); exact HO469.out))
               (case aS => exact (below_size (by repeat (first | (with_reducible first | exact HB.out | apply below_alloc | apply pw_below_drewN | apply below_drew1 | refine below_set ?_ GE459.out | refine below_set ?_ GE460.out | refine below_set ?_ GE464.out | refine below_set ?_ GE465.out) | exact HB.out))))
               (case aL => have := LMc67.out; omega)
               intro v473 w82 ho hb hg hat
               rw [← Ny472.out] at ho
               have n0_ := Aside0.mk (blk_grown (g := gb459) (o := .cells #[.int .i64 a0_0, .slice (some ad470) l0_1.length c0_1] 28 (0, 0)) (by (with_reducible repeat (first | refine blk_drewN ?_ _ | refine blk_drew ?_ | refine blk_alloc ?_ _)); exact BK459.out) hg (Kd.R_ne HO469.out BK459.out (by decide)))
               have n1_ := Aside0.mk (blk_grown (g := gb460) (o := .cells #[.int .i64 0, .slice none 0 0] 28 (0, 0)) (by (with_reducible repeat (first | refine blk_drewN ?_ _ | refine blk_drew ?_ | refine blk_alloc ?_ _)); exact BK460.out) hg (Kd.R_ne HO469.out BK460.out (by decide)))
               have n2_ := Aside0.mk (blk_grown (g := gb464) (o := .cells #[.string a1, .int .i64 a2, .int .i64 (wrap64 (a0_0 + 1))] 72 (0, 0)) (by (with_reducible repeat (first | refine blk_drewN ?_ _ | refine blk_drew ?_ | refine blk_alloc ?_ _)); exact BK464.out) hg (Kd.R_away HO469.out (fun _ hk => hk)))
               have n3_ := Aside0.mk (blk_grown (g := gb465) (o := .cells #[.int .i64 (wrap64 (a0_0 + 1)), .slice Ao76 y467.length co76] 28 (0, 0)) (by (with_reducible repeat (first | refine blk_drewN ?_ _ | refine blk_drew ?_ | refine blk_alloc ?_ _)); exact BK465.out) hg (Kd.R_ne HO469.out BK465.out (by decide)))
               have n4_ := Aside0.mk (hb)
               have n5_ := Aside0.mk (ho)
               clear BK459
               clear BK460
               clear BK464
               clear BK465
               clear HB
               clear HO469
               have BK459 := n0_
               have BK460 := n1_
               have BK464 := n2_
               have BK465 := n3_
               have HB := n4_
               have HO474 := n5_
               clear n0_ n1_ n2_ n3_ n4_ n5_
               clear ho hb hg hat
               obtain ⟨Ao83, co83, eo83⟩ := Kd.R_slice HO474.out
               (first | subst eo83 | (injection eo83 with f1_ f2_ f3_; have f4_ := f1_.symm; have f5_ := f3_.symm; clear f1_ f2_ f3_; subst f4_; subst f5_))
               refine hK.out _ _ ⟨(blk_cell BK465.out 0).trans rfl, (blk_cell BK465.out 1).trans rfl, (blk_cell BK459.out 0).trans rfl, (blk_cell BK459.out 1).trans rfl, ((HB.out.cell (World.block_lt_of_cell? w _ hw471_0)).trans hw471_0), ((HB.out.cell (World.block_lt_of_cell? w _ hw471_1)).trans hw471_1), ((HB.out.cell (World.block_lt_of_cell? w _ hw471_2)).trans hw471_2)⟩ (fun hHeld => ?_)
               clear hK K
               refine norm_ (a' := ?_) ?_ ?_
               rotate_left
               ·
                show Act.put _ (some 77) _ = _
                simp only [Act.put, List.setIfInBounds_toArray, List.set_cons_zero, List.set_cons_succ, i64_w, i32_w]
                rfl
               refine pure_ (i := 9) (N := some 78) (v := ?_) (a' := ?_) #[true, true, true, true, true, true, true, true, true, true, false] rfl rfl (any_of HT_.out (by kernel_rfl)) (fun _ _ _ h => h) (Or.inl ⟨by rfl, ?_⟩) ?_ ?_
               rotate_left
               ·
                intro w'
                go_simp
                with_reducible rfl
               rotate_left
               ·
                simp only [Act.put, List.setIfInBounds_toArray, List.set_cons_zero, List.set_cons_succ, i64_w, i32_w]
                rfl
               refine last_ (i := 10) (N := none) #[true, true, true, true, true, true, true, true, true, true, true] rfl rfl (one_of HT_.out (by kernel_rfl)) (by decide) (fun K hK => ?_)
               have hs84 : w82.cell? ⟨gb465, 1, none⟩ = some (.slice Ao76 y467.length co76) := (blk_cell BK465.out 1).trans rfl
               have hfs84 := blk_frozen BK465.out 1
               have hns84_0 := NB459_465.out
               have hns84_1 := NB460_465.out
               have hns84_2 := NB464_465.out
               have hms84_0 := NB465_459.out
               have hms84_1 := NB465_460.out
               have hms84_2 := NB465_464.out
               refine skip_ (w1 := ?_) (by rfl) rfl ?_ ?_
               rotate_left
               ·
                go_simp
                rfl
               refine hK.out _ _ ?_
               clear hK K
               refine done_ (done_of HT_.out (by kernel_rfl)) ?_
               try go_wp2
               go_roundg kj38
               case measure => have := HJ3.out; have := HK2.out; have := HJ38.out; omega
               case rel => exact ⟨(true), (wrap64 (x11_2 + 1)), (y472), (.slice Ao83 y472.length co83), (by first | rfl | (simp; done) | (simp [*]; done)), (by first | rfl | (simp; done) | (simp [*]; done)), H', ⟨by have := HJ3.out; have := HK2.out; have := HJ38.out; omega⟩, ⟨by (with_reducible repeat (first | apply Kd.R_alloc | apply Kd.R_drewN | apply Kd.R_drew)); exact Kd.R_mono (Kd.R_far (p := ⟨gb465, 1, none⟩) (Kd.R_types HO474.out BK465.out (by decide)) (fun _ hk => hk.2) (.slice Ao83 y472.length co83)) (fun _ hk => hk.1)⟩, ⟨by (with_reducible repeat (first | refine blk_drewN ?_ _ | refine blk_drew ?_ | refine blk_alloc ?_ _)); refine blk_far ?_ NB459_465.out _; (with_reducible repeat (first | refine blk_drewN ?_ _ | refine blk_drew ?_ | refine blk_alloc ?_ _)); exact BK459.out⟩, ⟨by (with_reducible repeat (first | refine blk_drewN ?_ _ | refine blk_drew ?_ | refine blk_alloc ?_ _)); refine blk_far ?_ NB460_465.out _; (with_reducible repeat (first | refine blk_drewN ?_ _ | refine blk_drew ?_ | refine blk_alloc ?_ _)); exact BK460.out⟩, ⟨by (with_reducible repeat (first | refine blk_drewN ?_ _ | refine blk_drew ?_ | refine blk_alloc ?_ _)); refine blk_far ?_ NB464_465.out _; (with_reducible repeat (first | refine blk_drewN ?_ _ | refine blk_drew ?_ | refine blk_alloc ?_ _)); exact BK464.out⟩, ⟨by (with_reducible repeat (first | refine blk_drewN ?_ _ | refine blk_drew ?_ | refine blk_alloc ?_ _)); refine blk_put (cs := #[.int .i64 (wrap64 (a0_0 + 1)), .slice Ao76 y467.length co76]) ?_ 1 _ rfl; (with_reducible repeat (first | refine blk_drewN ?_ _ | refine blk_drew ?_ | refine blk_alloc ?_ _)); exact BK465.out⟩, ⟨by repeat (first | (with_reducible first | exact HB.out | apply below_alloc | apply pw_below_drewN | apply below_drew1 | refine below_set ?_ GE459.out | refine below_set ?_ GE460.out | refine below_set ?_ GE464.out | refine below_set ?_ GE465.out) | exact HB.out)⟩⟩
              ·
               rw [if_neg c67] at H
               exact absurd H (by simp)
            ·
             rw [if_neg c53] at H
             exact absurd H (by simp)
           ·
            rw [if_neg c52] at H
            exact absurd H (by simp)
          ·
           rw [if_neg c51] at H
           exact absurd H (by simp)
         ·
          replace c50 := Bool.eq_false_iff.mpr c50
          subst c50
          have H1 : (if 0 ≤ x11_2 then (if x11_2 < (l0_1.length : Int) then (if ((rd_T72 l0_1 x11_2).f0).toList = a1.toList then (crucibleref12_PutFile.l0 kj38 a1 x10_2 (wrap64 (x11_2 + 1)) a0_0 l0_1 a1 a2 (wrap64 (a0_0 + 1)) (wrap64 (a0_0 + 1)) x466001_2) else (if x466001_2.length < 4398046511104 then (crucibleref12_PutFile.l0 kj38 a1 x10_2 (wrap64 (x11_2 + 1)) a0_0 l0_1 a1 a2 (wrap64 (a0_0 + 1)) (wrap64 (a0_0 + 1)) (x466001_2 ++ [(⟨(rd_T72 l0_1 x11_2).f0, (rd_T72 l0_1 x11_2).f1, (rd_T72 l0_1 x11_2).f2⟩ : S72)])) else (none))) else (none)) else (none)) = some (r1, r2, r3) := by rw [if_neg (show ¬ (false = true) by decide)] at H; exact H
          clear H
          have H := H1
          clear H1
          by_cases c85 : 0 ≤ x11_2
          ·
           rw [if_pos c85] at H
           have c85b0 : decide (0 ≤ x11_2) = true := decide_eq_true c85
           clear c85
           by_cases c86 : x11_2 < (l0_1.length : Int)
           ·
            rw [if_pos c86] at H
            have c86b0 : decide (x11_2 < (l0_1.length : Int)) = true := decide_eq_true c86
            clear c86
            by_cases c87 : ((rd_T72 l0_1 x11_2).f0).toList = a1.toList
            ·
             rw [if_pos c87] at H
             have c87b0 : (((rd_T72 l0_1 x11_2).f0).toList == a1.toList) = true := beq_iff_eq.mpr c87
             have c87b1 : (((rd_T72 l0_1 x11_2).f0).toList != a1.toList) = false := bne_eq_false_iff_eq.mpr c87
             clear c87
             have H' := Aside0.mk H
             clear H
             have hnb88 := NB459_460.out
             have hnc88 := NB460_459.out
             have hnb89 := NB459_464.out
             have hnc89 := NB464_459.out
             have hnb90 := NB459_465.out
             have hnc90 := NB465_459.out
             have hcz91_0 : wc.cell? ⟨gb459, 0, none⟩ = some (.int .i64 a0_0) := (blk_cell BK459.out 0).trans rfl
             have hcz91_1 : wc.cell? ⟨gb459, 1, none⟩ = some (.slice A0_1 l0_1.length c0_1) := (blk_cell BK459.out 1).trans rfl
             have hfz91_0 := blk_frozen BK459.out 0
             have hfz91_1 := blk_frozen BK459.out 1
             have p475 : 0 ≤ (x11_2 : Int) := of_decide_eq_true (by first | (with_reducible assumption) | assumption)
             have q475 : x11_2 < (l0_1.length : Int) := of_decide_eq_true (by first | (with_reducible assumption) | assumption)
             obtain ⟨ad475, e475, hx475_0, hx475_1, hx475_2⟩ := at_T72 HR0_1.out x11_2 p475 q475
             cases e475
             replace hx475_0 := (HB.out.cell (World.block_lt_of_cell? w _ hx475_0)).trans hx475_0
             replace hx475_1 := (HB.out.cell (World.block_lt_of_cell? w _ hx475_1)).trans hx475_1
             replace hx475_2 := (HB.out.cell (World.block_lt_of_cell? w _ hx475_2)).trans hx475_2
             replace p475 := eq_true p475
             replace q475 := eq_true q475
             go_wp2
             go_roundg kj38
             case measure => have := HJ3.out; have := HK2.out; have := HJ38.out; omega
             case rel => exact ⟨(x10_2), (wrap64 (x11_2 + 1)), (x466001_2), (u466001), (by first | rfl | (simp; done) | (simp [*]; done)), (by first | rfl | (simp; done) | (simp [*]; done)), H', ⟨by have := HJ3.out; have := HK2.out; have := HJ38.out; omega⟩, ⟨by (with_reducible repeat (first | apply Kd.R_alloc | apply Kd.R_drewN | apply Kd.R_drew)); first | exact HO_466001.out | exact own_len HO_466001.out⟩, ⟨by (with_reducible repeat (first | refine blk_drewN ?_ _ | refine blk_drew ?_ | refine blk_alloc ?_ _)); exact BK459.out⟩, ⟨by (with_reducible repeat (first | refine blk_drewN ?_ _ | refine blk_drew ?_ | refine blk_alloc ?_ _)); exact BK460.out⟩, ⟨by (with_reducible repeat (first | refine blk_drewN ?_ _ | refine blk_drew ?_ | refine blk_alloc ?_ _)); exact BK464.out⟩, ⟨by (with_reducible repeat (first | refine blk_drewN ?_ _ | refine blk_drew ?_ | refine blk_alloc ?_ _)); exact BK465.out⟩, ⟨by repeat (first | (with_reducible first | exact HB.out | apply below_alloc | apply pw_below_drewN | apply below_drew1 | refine below_set ?_ GE459.out | refine below_set ?_ GE460.out | refine below_set ?_ GE464.out | refine below_set ?_ GE465.out) | exact HB.out)⟩⟩
            ·
             rw [if_neg c87] at H
             have c87b0 : (((rd_T72 l0_1 x11_2).f0).toList == a1.toList) = false := beq_eq_false_iff_ne.mpr c87
             have c87b1 : (((rd_T72 l0_1 x11_2).f0).toList != a1.toList) = true := bne_iff_ne.mpr c87
             by_cases c92 : x466001_2.length < 4398046511104
             ·
              rw [if_pos c92] at H
              have LMc92 := Aside0.mk c92
              clear c92
              obtain ⟨y477, hy477⟩ : ∃ y_ : List (S72), y_ = (x466001_2 ++ [(⟨(rd_T72 l0_1 x11_2).f0, (rd_T72 l0_1 x11_2).f1, (rd_T72 l0_1 x11_2).f2⟩ : S72)]) := ⟨_, rfl⟩
              replace H : (crucibleref12_PutFile.l0 kj38 a1 x10_2 (wrap64 (x11_2 + 1)) a0_0 l0_1 a1 a2 (wrap64 (a0_0 + 1)) (wrap64 (a0_0 + 1)) y477) = some (r1, r2, r3) := by first | (rw [hy477]; with_reducible exact H) | (have H2_ := (Option.bind_some _ _).symm.trans H; rw [hy477]; with_reducible exact H2_) | (have H2_ := (Option.bind_some _ _).symm.trans H; with_reducible exact H2_) | with_reducible exact H | (rw [hy477]; exact H) | exact H
              have Ny477 := Aside0.mk hy477
              clear hy477
              have H' := Aside0.mk H
              clear H
              have hnb93 := NB459_460.out
              have hnc93 := NB460_459.out
              have hnb94 := NB459_464.out
              have hnc94 := NB464_459.out
              have hnb95 := NB459_465.out
              have hnc95 := NB465_459.out
              have hcz96_0 : wc.cell? ⟨gb459, 0, none⟩ = some (.int .i64 a0_0) := (blk_cell BK459.out 0).trans rfl
              have hcz96_1 : wc.cell? ⟨gb459, 1, none⟩ = some (.slice A0_1 l0_1.length c0_1) := (blk_cell BK459.out 1).trans rfl
              have hfz96_0 := blk_frozen BK459.out 0
              have hfz96_1 := blk_frozen BK459.out 1
              have p475 : 0 ≤ (x11_2 : Int) := of_decide_eq_true (by first | (with_reducible assumption) | assumption)
              have q475 : x11_2 < (l0_1.length : Int) := of_decide_eq_true (by first | (with_reducible assumption) | assumption)
              obtain ⟨ad475, e475, hx475_0, hx475_1, hx475_2⟩ := at_T72 HR0_1.out x11_2 p475 q475
              cases e475
              replace hx475_0 := (HB.out.cell (World.block_lt_of_cell? w _ hx475_0)).trans hx475_0
              replace hx475_1 := (HB.out.cell (World.block_lt_of_cell? w _ hx475_1)).trans hx475_1
              replace hx475_2 := (HB.out.cell (World.block_lt_of_cell? w _ hx475_2)).trans hx475_2
              replace p475 := eq_true p475
              replace q475 := eq_true q475
              try go_wp2
              have n0_ := Aside0.mk (Kd.R_drew HO_466001.out)
              have n1_ := Aside0.mk (blk_drew BK459.out)
              have n2_ := Aside0.mk (blk_drew BK460.out)
              have n3_ := Aside0.mk (blk_drew BK464.out)
              have n4_ := Aside0.mk (blk_drew BK465.out)
              have n5_ := Aside0.mk (below_drew1 HB.out)
              clear HO_466001
              clear BK459
              clear BK460
              clear BK464
              clear BK465
              clear HB
              have HO_466001 := n0_
              have BK459 := n1_
              have BK460 := n2_
              have BK464 := n3_
              have BK465 := n4_
              have HB := n5_
              clear n0_ n1_ n2_ n3_ n4_ n5_
              have p476 : 0 ≤ (x11_2 : Int) := of_decide_eq_true (by first | (with_reducible assumption) | assumption)
              have q476 : x11_2 < (l0_1.length : Int) := of_decide_eq_true (by first | (with_reducible assumption) | assumption)
              obtain ⟨ad476, e476, hx476_0, hx476_1, hx476_2⟩ := at_T72 HR0_1.out x11_2 p476 q476
              have hw476_2 := hx476_2
              have hw476_1 := hx476_1
              have hw476_0 := hx476_0
              obtain rfl : ad475 = ad476 := (by injection e476)
              replace hx476_0 := (HB.out.cell (World.block_lt_of_cell? w _ hx476_0)).trans hx476_0
              replace hx476_1 := (HB.out.cell (World.block_lt_of_cell? w _ hx476_1)).trans hx476_1
              replace hx476_2 := (HB.out.cell (World.block_lt_of_cell? w _ hx476_2)).trans hx476_2
              replace p476 := eq_true p476
              replace q476 := eq_true q476
              refine start_ (n := 11) (S := fun w' => w'.cell? ⟨gb465, 0, none⟩ = some (.int .i64 (wrap64 (a0_0 + 1))) ∧ w'.cell? ⟨gb465, 1, none⟩ = some (u466001) ∧ w'.cell? ⟨gb459, 0, none⟩ = some (.int .i64 a0_0) ∧ w'.cell? ⟨gb459, 1, none⟩ = some (.slice (some ad475) l0_1.length c0_1) ∧ w'.cell? (ad475.add ((x11_2).toNat * 3)) = some (.string ((rd_T72 l0_1 x11_2).f0)) ∧ w'.cell? ⟨(ad475.add ((x11_2).toNat * 3)).block, (ad475.add ((x11_2).toNat * 3)).off + 1, none⟩ = some (.int .i64 ((rd_T72 l0_1 x11_2).f1)) ∧ w'.cell? ⟨(ad475.add ((x11_2).toNat * 3)).block, (ad475.add ((x11_2).toNat * 3)).off + 2, none⟩ = some (.int .i64 ((rd_T72 l0_1 x11_2).f2))) (ds := [10]) #[false, false, false, false, false, false, false, false, false, false, false] (by kernel_rfl) rfl rfl ⟨(blk_cell BK465.out 0).trans rfl, (blk_cell BK465.out 1).trans rfl, (blk_cell BK459.out 0).trans rfl, (blk_cell BK459.out 1).trans rfl, ((HB.out.cell (World.block_lt_of_cell? w _ hw476_0)).trans hw476_0), ((HB.out.cell (World.block_lt_of_cell? w _ hw476_1)).trans hw476_1), ((HB.out.cell (World.block_lt_of_cell? w _ hw476_2)).trans hw476_2)⟩ (fun hHeld => ?_); refine with_tabW crucibleref12_PutFile.tab13 crucibleref12_PutFile.bits13 (fun HT_ HW_ => ?_)
              generalize wc.drew = w97 at HO_466001 BK459 BK460 BK464 BK465 HB hx476_0 hx476_1 hx476_2 hHeld ⊢
              refine pure_ (i := 0) (N := some 69) (v := ?_) (a' := ?_) #[true, false, false, false, false, false, false, false, false, false, false] rfl rfl (any_of HT_.out (by kernel_rfl)) (fun _ _ _ h => h) (Or.inl ⟨by rfl, ?_⟩) ?_ ?_
              rotate_left
              ·
               intro w'
               go_simp
               with_reducible rfl
              rotate_left
              ·
               simp only [Act.put, List.setIfInBounds_toArray, List.set_cons_zero, List.set_cons_succ, i64_w, i32_w]
               rfl
              refine pure_ (i := 2) (N := some 71) (v := ?_) (a' := ?_) #[true, false, true, false, false, false, false, false, false, false, false] rfl rfl (any_of HT_.out (by kernel_rfl)) (fun _ _ _ h => h) (Or.inl ⟨by rfl, ?_⟩) ?_ ?_
              rotate_left
              ·
               intro w'
               go_simp
               with_reducible rfl
              rotate_left
              ·
               simp only [Act.put, List.setIfInBounds_toArray, List.set_cons_zero, List.set_cons_succ, i64_w, i32_w]
               rfl
              refine pure_ (i := 4) (N := some 73) (v := ?_) (a' := ?_) #[true, false, true, false, true, false, false, false, false, false, false] rfl rfl (any_of HT_.out (by kernel_rfl)) (fun _ _ _ h => h) (Or.inl ⟨by rfl, ?_⟩) ?_ ?_
              rotate_left
              ·
               intro w'
               go_simp
               with_reducible rfl
              rotate_left
              ·
               simp only [Act.put, List.setIfInBounds_toArray, List.set_cons_zero, List.set_cons_succ, i64_w, i32_w]
               rfl
              refine take_ (i := 1) (N := some 70) (v := ?_) (a' := ?_) #[true, true, true, false, true, false, false, false, false, false, false] rfl rfl (take_ofW HT_.out HW_.out (by kernel_rfl)) (fun _ _ _ h => h) (Or.inl ⟨by rfl, ?_⟩) hHeld ?_ ?_
              rotate_left
              ·
               rintro w' ⟨s0, s1, s2, s3, s4, s5, s6⟩
               go_simp
               with_reducible rfl
              rotate_left
              ·
               simp only [Act.put, List.setIfInBounds_toArray, List.set_cons_zero, List.set_cons_succ, i64_w, i32_w]
               rfl
              refine take_ (i := 3) (N := some 72) (v := ?_) (a' := ?_) #[true, true, true, true, true, false, false, false, false, false, false] rfl rfl (take_ofW HT_.out HW_.out (by kernel_rfl)) (fun _ _ _ h => h) (Or.inl ⟨by rfl, ?_⟩) hHeld ?_ ?_
              rotate_left
              ·
               rintro w' ⟨s0, s1, s2, s3, s4, s5, s6⟩
               go_simp
               with_reducible rfl
              rotate_left
              ·
               simp only [Act.put, List.setIfInBounds_toArray, List.set_cons_zero, List.set_cons_succ, i64_w, i32_w]
               rfl
              refine pure_ (i := 5) (N := some 74) (v := ?_) (a' := ?_) #[true, true, true, true, true, true, false, false, false, false, false] rfl rfl (any_of HT_.out (by kernel_rfl)) (fun _ _ _ h => h) (Or.inl ⟨by rfl, ?_⟩) ?_ ?_
              rotate_left
              ·
               intro w'
               go_simp
               with_reducible rfl
              rotate_left
              ·
               simp only [Act.put, List.setIfInBounds_toArray, List.set_cons_zero, List.set_cons_succ, i64_w, i32_w]
               rfl
              refine take_ (i := 6) (N := some 75) (v := ?_) (a' := ?_) #[true, true, true, true, true, true, true, false, false, false, false] rfl rfl (take_ofW HT_.out HW_.out (by kernel_rfl)) (fun _ _ _ h => h) (Or.inl ⟨by rfl, ?_⟩) hHeld ?_ ?_
              rotate_left
              ·
               rintro w' ⟨s0, s1, s2, s3, s4, s5, s6⟩
               go_simp
               with_reducible rfl
              rotate_left
              ·
               simp only [Act.put, List.setIfInBounds_toArray, List.set_cons_zero, List.set_cons_succ, i64_w, i32_w]
               rfl
              refine one_ (i := 7) (N := some 76) #[true, true, true, true, true, true, true, true, false, false, false] rfl rfl (one_of HT_.out (by kernel_rfl)) (by decide) (fun K hK => ?_)
              refine value_ (w1 := ?_) (v := ?_) (by rfl) rfl ?_ ?_
              rotate_left 2
              ·
               go_simp
               constructor
               ·
                rfl
               ·
                rfl
              refine hK.out _ _ ⟨(blk_cell (blk_alloc BK465.out _) 0).trans rfl, (blk_cell (blk_alloc BK465.out _) 1).trans rfl, (blk_cell (blk_alloc BK459.out _) 0).trans rfl, (blk_cell (blk_alloc BK459.out _) 1).trans rfl, (World.cell?_alloc_lt _ _ _ (World.block_lt_of_cell? _ _ (((HB.out.cell (World.block_lt_of_cell? w _ hw476_0)).trans hw476_0)))).trans (((HB.out.cell (World.block_lt_of_cell? w _ hw476_0)).trans hw476_0)), (World.cell?_alloc_lt _ _ _ (World.block_lt_of_cell? _ _ (((HB.out.cell (World.block_lt_of_cell? w _ hw476_1)).trans hw476_1)))).trans (((HB.out.cell (World.block_lt_of_cell? w _ hw476_1)).trans hw476_1)), (World.cell?_alloc_lt _ _ _ (World.block_lt_of_cell? _ _ (((HB.out.cell (World.block_lt_of_cell? w _ hw476_2)).trans hw476_2)))).trans (((HB.out.cell (World.block_lt_of_cell? w _ hw476_2)).trans hw476_2))⟩ (fun hHeld => ?_)
              clear hK K
              refine norm_ (a' := ?_) ?_ ?_
              rotate_left
              ·
               show Act.put _ (some 76) _ = _
               simp only [Act.put, List.setIfInBounds_toArray, List.set_cons_zero, List.set_cons_succ, i64_w, i32_w]
               rfl
              refine one_ (i := 8) (N := some 77) #[true, true, true, true, true, true, true, true, true, false, false] rfl rfl (one_of HT_.out (by kernel_rfl)) (by decide) (fun K hK => ?_)
              refine Kd.R_append_step k72 (w0 := w) w.heap.size (by rfl) (.tmp 70) (.tmp 76) 26 72 (.agg #[(.string ⟨#[]⟩), (.int .i64 0), (.int .i64 0)]) 32 rfl Tryd.underlying26 info72 rfl (by decide) (by omega) u466001 x466001_2 (⟨(rd_T72 l0_1 x11_2).f0, (rd_T72 l0_1 x11_2).f1, (rd_T72 l0_1 x11_2).f2⟩ : S72) [.string ((rd_T72 l0_1 x11_2).f0), .int .i64 ((rd_T72 l0_1 x11_2).f1), .int .i64 ((rd_T72 l0_1 x11_2).f2)] (fun k_ => k_ ≠ gb464) (fun _ => False) rfl rfl ?aP (fun _ hk => hk.elim) ?aF ?aO ?aB ?aS ?aL ?_
              (case aP => exact k72_mkM _ _ _ (⟨(rd_T72 l0_1 x11_2).f0, (rd_T72 l0_1 x11_2).f1, (rd_T72 l0_1 x11_2).f2⟩ : S72))
              (case aB => exact (by repeat (first | (with_reducible first | exact HB.out | apply below_alloc | apply pw_below_drewN | apply below_drew1 | refine below_set ?_ GE459.out | refine below_set ?_ GE460.out | refine below_set ?_ GE464.out | refine below_set ?_ GE465.out) | exact HB.out)))
              (case aF => exact (fun k_ hk => Kd.freshB (g := gb464) (o := .cells #[.string a1, .int .i64 a2, .int .i64 (wrap64 (a0_0 + 1))] 72 (0, 0)) (by (with_reducible repeat (first | refine blk_drewN ?_ _ | refine blk_drew ?_ | refine blk_alloc ?_ _)); exact BK464.out) k_ hk))
              (case aO => exact (by (with_reducible repeat (first | apply Kd.R_alloc | apply Kd.R_drewN | apply Kd.R_drew)); exact HO_466001.out))
              (case aS => exact (below_size (by repeat (first | (with_reducible first | exact HB.out | apply below_alloc | apply pw_below_drewN | apply below_drew1 | refine below_set ?_ GE459.out | refine below_set ?_ GE460.out | refine below_set ?_ GE464.out | refine below_set ?_ GE465.out) | exact HB.out))))
              (case aL => have := LMc92.out; omega)
              intro v478 w98 ho hb hg hat
              rw [← Ny477.out] at ho
              have n0_ := Aside0.mk (blk_grown (g := gb459) (o := .cells #[.int .i64 a0_0, .slice (some ad475) l0_1.length c0_1] 28 (0, 0)) (by (with_reducible repeat (first | refine blk_drewN ?_ _ | refine blk_drew ?_ | refine blk_alloc ?_ _)); exact BK459.out) hg (Kd.R_ne HO_466001.out BK459.out (by decide)))
              have n1_ := Aside0.mk (blk_grown (g := gb460) (o := .cells #[.int .i64 0, .slice none 0 0] 28 (0, 0)) (by (with_reducible repeat (first | refine blk_drewN ?_ _ | refine blk_drew ?_ | refine blk_alloc ?_ _)); exact BK460.out) hg (Kd.R_ne HO_466001.out BK460.out (by decide)))
              have n2_ := Aside0.mk (blk_grown (g := gb464) (o := .cells #[.string a1, .int .i64 a2, .int .i64 (wrap64 (a0_0 + 1))] 72 (0, 0)) (by (with_reducible repeat (first | refine blk_drewN ?_ _ | refine blk_drew ?_ | refine blk_alloc ?_ _)); exact BK464.out) hg (Kd.R_away HO_466001.out (fun _ hk => hk)))
              have n3_ := Aside0.mk (blk_grown (g := gb465) (o := .cells #[.int .i64 (wrap64 (a0_0 + 1)), u466001] 28 (0, 0)) (by (with_reducible repeat (first | refine blk_drewN ?_ _ | refine blk_drew ?_ | refine blk_alloc ?_ _)); exact BK465.out) hg (Kd.R_ne HO_466001.out BK465.out (by decide)))
              have n4_ := Aside0.mk (hb)
              have n5_ := Aside0.mk (ho)
              clear BK459
              clear BK460
              clear BK464
              clear BK465
              clear HB
              clear HO_466001
              have BK459 := n0_
              have BK460 := n1_
              have BK464 := n2_
              have BK465 := n3_
              have HB := n4_
              have HO479 := n5_
              clear n0_ n1_ n2_ n3_ n4_ n5_
              clear ho hb hg hat
              obtain ⟨Ao99, co99, eo99⟩ := Kd.R_slice HO479.out
              (first | subst eo99 | (injection eo99 with f1_ f2_ f3_; have f4_ := f1_.symm; have f5_ := f3_.symm; clear f1_ f2_ f3_; subst f4_; subst f5_))
              refine hK.out _ _ ⟨(blk_cell BK465.out 0).trans rfl, (blk_cell BK465.out 1).trans rfl, (blk_cell BK459.out 0).trans rfl, (blk_cell BK459.out 1).trans rfl, ((HB.out.cell (World.block_lt_of_cell? w _ hw476_0)).trans hw476_0), ((HB.out.cell (World.block_lt_of_cell? w _ hw476_1)).trans hw476_1), ((HB.out.cell (World.block_lt_of_cell? w _ hw476_2)).trans hw476_2)⟩ (fun hHeld => ?_)
              clear hK K
              refine norm_ (a' := ?_) ?_ ?_
              rotate_left
              ·
               show Act.put _ (some 77) _ = _
               simp only [Act.put, List.setIfInBounds_toArray, List.set_cons_zero, List.set_cons_succ, i64_w, i32_w]
               rfl
              refine pure_ (i := 9) (N := some 78) (v := ?_) (a' := ?_) #[true, true, true, true, true, true, true, true, true, true, false] rfl rfl (any_of HT_.out (by kernel_rfl)) (fun _ _ _ h => h) (Or.inl ⟨by rfl, ?_⟩) ?_ ?_
              rotate_left
              ·
               intro w'
               go_simp
               with_reducible rfl
              rotate_left
              ·
               simp only [Act.put, List.setIfInBounds_toArray, List.set_cons_zero, List.set_cons_succ, i64_w, i32_w]
               rfl
              refine last_ (i := 10) (N := none) #[true, true, true, true, true, true, true, true, true, true, true] rfl rfl (one_of HT_.out (by kernel_rfl)) (by decide) (fun K hK => ?_)
              have hs100 : w98.cell? ⟨gb465, 1, none⟩ = some (u466001) := (blk_cell BK465.out 1).trans rfl
              have hfs100 := blk_frozen BK465.out 1
              have hns100_0 := NB459_465.out
              have hns100_1 := NB460_465.out
              have hns100_2 := NB464_465.out
              have hms100_0 := NB465_459.out
              have hms100_1 := NB465_460.out
              have hms100_2 := NB465_464.out
              refine skip_ (w1 := ?_) (by rfl) rfl ?_ ?_
              rotate_left
              ·
               go_simp
               rfl
              refine hK.out _ _ ?_
              clear hK K
              refine done_ (done_of HT_.out (by kernel_rfl)) ?_
              try go_wp2
              go_roundg kj38
              case measure => have := HJ3.out; have := HK2.out; have := HJ38.out; omega
              case rel => exact ⟨(x10_2), (wrap64 (x11_2 + 1)), (y477), (.slice Ao99 y477.length co99), (by first | rfl | (simp; done) | (simp [*]; done)), (by first | rfl | (simp; done) | (simp [*]; done)), H', ⟨by have := HJ3.out; have := HK2.out; have := HJ38.out; omega⟩, ⟨by (with_reducible repeat (first | apply Kd.R_alloc | apply Kd.R_drewN | apply Kd.R_drew)); exact Kd.R_mono (Kd.R_far (p := ⟨gb465, 1, none⟩) (Kd.R_types HO479.out BK465.out (by decide)) (fun _ hk => hk.2) (.slice Ao99 y477.length co99)) (fun _ hk => hk.1)⟩, ⟨by (with_reducible repeat (first | refine blk_drewN ?_ _ | refine blk_drew ?_ | refine blk_alloc ?_ _)); refine blk_far ?_ NB459_465.out _; (with_reducible repeat (first | refine blk_drewN ?_ _ | refine blk_drew ?_ | refine blk_alloc ?_ _)); exact BK459.out⟩, ⟨by (with_reducible repeat (first | refine blk_drewN ?_ _ | refine blk_drew ?_ | refine blk_alloc ?_ _)); refine blk_far ?_ NB460_465.out _; (with_reducible repeat (first | refine blk_drewN ?_ _ | refine blk_drew ?_ | refine blk_alloc ?_ _)); exact BK460.out⟩, ⟨by (with_reducible repeat (first | refine blk_drewN ?_ _ | refine blk_drew ?_ | refine blk_alloc ?_ _)); refine blk_far ?_ NB464_465.out _; (with_reducible repeat (first | refine blk_drewN ?_ _ | refine blk_drew ?_ | refine blk_alloc ?_ _)); exact BK464.out⟩, ⟨by (with_reducible repeat (first | refine blk_drewN ?_ _ | refine blk_drew ?_ | refine blk_alloc ?_ _)); refine blk_put (cs := #[.int .i64 (wrap64 (a0_0 + 1)), u466001]) ?_ 1 _ rfl; (with_reducible repeat (first | refine blk_drewN ?_ _ | refine blk_drew ?_ | refine blk_alloc ?_ _)); exact BK465.out⟩, ⟨by repeat (first | (with_reducible first | exact HB.out | apply below_alloc | apply pw_below_drewN | apply below_drew1 | refine below_set ?_ GE459.out | refine below_set ?_ GE460.out | refine below_set ?_ GE464.out | refine below_set ?_ GE465.out) | exact HB.out)⟩⟩
             ·
              rw [if_neg c92] at H
              exact absurd H (by simp)
           ·
            rw [if_neg c86] at H
            exact absurd H (by simp)
          ·
           rw [if_neg c85] at H
           exact absurd H (by simp)
      ·
       rw [if_neg c38] at H
       have c38b0 : decide (x11_2 < (l0_1.length : Int)) = false := decide_eq_false c38
       clear c38
       by_cases c101 : x10_2 = true
       ·
        subst c101
        have H1 : (if (wrap64 (a0_0 + 1)) > 1048576 then (some (0, ([] : List (S72)), 1201)) else (if (x466001_2.length : Int) > 64 then (some (0, ([] : List (S72)), 1201)) else (some ((wrap64 (a0_0 + 1)), x466001_2, 0)))) = some (r1, r2, r3) := by rw [if_pos rfl] at H; exact H
        clear H
        have H := H1
        clear H1
        by_cases c102 : (wrap64 (a0_0 + 1)) > 1048576
        ·
         rw [if_pos c102] at H
         have c102b0 : decide (1048576 < (wrap64 (a0_0 + 1))) = true := decide_eq_true c102
         clear c102
         simp only [Option.some.injEq, Prod.mk.injEq] at H
         obtain ⟨rfl, rfl, rfl⟩ := H
         have hnb103 := NB459_460.out
         have hnc103 := NB460_459.out
         have hnb104 := NB459_464.out
         have hnc104 := NB464_459.out
         have hnb105 := NB459_465.out
         have hnc105 := NB465_459.out
         have hcz106_0 : wr.cell? ⟨gb459, 0, none⟩ = some (.int .i64 a0_0) := (blk_cell BK459.out 0).trans rfl
         have hcz106_1 : wr.cell? ⟨gb459, 1, none⟩ = some (.slice A0_1 l0_1.length c0_1) := (blk_cell BK459.out 1).trans rfl
         have hfz106_0 := blk_frozen BK459.out 0
         have hfz106_1 := blk_frozen BK459.out 1
         have hnb107 := NB465_460.out
         have hnc107 := NB460_465.out
         have hnb108 := NB465_464.out
         have hnc108 := NB464_465.out
         have hcz109_0 : wr.cell? ⟨gb465, 0, none⟩ = some (.int .i64 (wrap64 (a0_0 + 1))) := (blk_cell BK465.out 0).trans rfl
         have hcz109_1 : wr.cell? ⟨gb465, 1, none⟩ = some (u466001) := (blk_cell BK465.out 1).trans rfl
         have hfz109_0 := blk_frozen BK465.out 0
         have hfz109_1 := blk_frozen BK465.out 1
         have hnb110 := NB460_464.out
         have hnc110 := NB464_460.out
         have hcz111_0 : wr.cell? ⟨gb460, 0, none⟩ = some (.int .i64 0) := (blk_cell BK460.out 0).trans rfl
         have hcz111_1 : wr.cell? ⟨gb460, 1, none⟩ = some (.slice none 0 0) := (blk_cell BK460.out 1).trans rfl
         have hfz111_0 := blk_frozen BK460.out 0
         have hfz111_1 := blk_frozen BK460.out 1
         go_wp2
         refine bodyPost_ret (results_ct rfl _ _ gb460 28 #[.int .i64 0, .slice none 0 0] (0, 0) _ rfl (by (with_reducible repeat (first | refine blk_drewN ?_ _ | refine blk_drew ?_ | refine blk_alloc ?_ _)); refine blk_put (cs := #[.int .i64 0, .slice none 0 0]) ?_ 1 _ rfl; (with_reducible repeat (first | refine blk_drewN ?_ _ | refine blk_drew ?_ | refine blk_alloc ?_ _)); refine blk_put (cs := #[.int .i64 0, .slice none 0 0]) ?_ 0 _ rfl; (with_reducible repeat (first | refine blk_drewN ?_ _ | refine blk_drew ?_ | refine blk_alloc ?_ _)); exact BK460.out) Tryd.underlying28 rfl (by kernel_rfl)) rfl ?_
         exact ⟨_, by first | rfl | (simp [errW_none, errW_some] <;> rfl) | (simp [*, errW_none, errW_some] <;> rfl), by first | exact Kd.R_nil _ _ _ _ _ | exact Kd.N_nil _ _ _ _ _ | exact Kd.V_nil _ _ _ _ _ | exact Kd.Q_nil _ _ _ _ _ | exact Kd.S_nil _ _ _ _ _, by repeat (first | (with_reducible first | exact HB.out | apply below_alloc | apply pw_below_drewN | apply below_drew1 | refine below_set ?_ GE459.out | refine below_set ?_ GE460.out | refine below_set ?_ GE464.out | refine below_set ?_ GE465.out) | exact HB.out)⟩
        ·
         rw [if_neg c102] at H
         have c102b0 : decide (1048576 < (wrap64 (a0_0 + 1))) = false := decide_eq_false c102
         clear c102
         by_cases c112 : (x466001_2.length : Int) > 64
         ·
          rw [if_pos c112] at H
          have c112b0 : decide (64 < (x466001_2.length : Int)) = true := decide_eq_true c112
          have c112b1 : decide (64 < x466001_2.length) = true := decide_eq_true (by omega)
          clear c112
          simp only [Option.some.injEq, Prod.mk.injEq] at H
          obtain ⟨rfl, rfl, rfl⟩ := H
          have hnb113 := NB459_460.out
          have hnc113 := NB460_459.out
          have hnb114 := NB459_464.out
          have hnc114 := NB464_459.out
          have hnb115 := NB459_465.out
          have hnc115 := NB465_459.out
          have hcz116_0 : wr.cell? ⟨gb459, 0, none⟩ = some (.int .i64 a0_0) := (blk_cell BK459.out 0).trans rfl
          have hcz116_1 : wr.cell? ⟨gb459, 1, none⟩ = some (.slice A0_1 l0_1.length c0_1) := (blk_cell BK459.out 1).trans rfl
          have hfz116_0 := blk_frozen BK459.out 0
          have hfz116_1 := blk_frozen BK459.out 1
          have hnb117 := NB465_460.out
          have hnc117 := NB460_465.out
          have hnb118 := NB465_464.out
          have hnc118 := NB464_465.out
          have hcz119_0 : wr.cell? ⟨gb465, 0, none⟩ = some (.int .i64 (wrap64 (a0_0 + 1))) := (blk_cell BK465.out 0).trans rfl
          have hcz119_1 : wr.cell? ⟨gb465, 1, none⟩ = some (u466001) := (blk_cell BK465.out 1).trans rfl
          have hfz119_0 := blk_frozen BK465.out 0
          have hfz119_1 := blk_frozen BK465.out 1
          obtain ⟨Ao120, co120, eo120⟩ := Kd.R_slice HO_466001.out
          subst eo120
          have hnb121 := NB460_464.out
          have hnc121 := NB464_460.out
          have hcz122_0 : wr.cell? ⟨gb460, 0, none⟩ = some (.int .i64 0) := (blk_cell BK460.out 0).trans rfl
          have hcz122_1 : wr.cell? ⟨gb460, 1, none⟩ = some (.slice none 0 0) := (blk_cell BK460.out 1).trans rfl
          have hfz122_0 := blk_frozen BK460.out 0
          have hfz122_1 := blk_frozen BK460.out 1
          go_wp2
          refine bodyPost_ret (results_ct rfl _ _ gb460 28 #[.int .i64 0, .slice none 0 0] (0, 0) _ rfl (by (with_reducible repeat (first | refine blk_drewN ?_ _ | refine blk_drew ?_ | refine blk_alloc ?_ _)); refine blk_put (cs := #[.int .i64 0, .slice none 0 0]) ?_ 1 _ rfl; (with_reducible repeat (first | refine blk_drewN ?_ _ | refine blk_drew ?_ | refine blk_alloc ?_ _)); refine blk_put (cs := #[.int .i64 0, .slice none 0 0]) ?_ 0 _ rfl; (with_reducible repeat (first | refine blk_drewN ?_ _ | refine blk_drew ?_ | refine blk_alloc ?_ _)); exact BK460.out) Tryd.underlying28 rfl (by kernel_rfl)) rfl ?_
          exact ⟨_, by first | rfl | (simp [errW_none, errW_some] <;> rfl) | (simp [*, errW_none, errW_some] <;> rfl), by first | exact Kd.R_nil _ _ _ _ _ | exact Kd.N_nil _ _ _ _ _ | exact Kd.V_nil _ _ _ _ _ | exact Kd.Q_nil _ _ _ _ _ | exact Kd.S_nil _ _ _ _ _, by repeat (first | (with_reducible first | exact HB.out | apply below_alloc | apply pw_below_drewN | apply below_drew1 | refine below_set ?_ GE459.out | refine below_set ?_ GE460.out | refine below_set ?_ GE464.out | refine below_set ?_ GE465.out) | exact HB.out)⟩
         ·
          rw [if_neg c112] at H
          have c112b0 : decide (64 < (x466001_2.length : Int)) = false := decide_eq_false c112
          have c112b1 : decide (64 < x466001_2.length) = false := decide_eq_false (by omega)
          clear c112
          simp only [Option.some.injEq, Prod.mk.injEq] at H
          obtain ⟨rfl, rfl, rfl⟩ := H
          have hnb123 := NB459_460.out
          have hnc123 := NB460_459.out
          have hnb124 := NB459_464.out
          have hnc124 := NB464_459.out
          have hnb125 := NB459_465.out
          have hnc125 := NB465_459.out
          have hcz126_0 : wr.cell? ⟨gb459, 0, none⟩ = some (.int .i64 a0_0) := (blk_cell BK459.out 0).trans rfl
          have hcz126_1 : wr.cell? ⟨gb459, 1, none⟩ = some (.slice A0_1 l0_1.length c0_1) := (blk_cell BK459.out 1).trans rfl
          have hfz126_0 := blk_frozen BK459.out 0
          have hfz126_1 := blk_frozen BK459.out 1
          have hnb127 := NB465_460.out
          have hnc127 := NB460_465.out
          have hnb128 := NB465_464.out
          have hnc128 := NB464_465.out
          have hcz129_0 : wr.cell? ⟨gb465, 0, none⟩ = some (.int .i64 (wrap64 (a0_0 + 1))) := (blk_cell BK465.out 0).trans rfl
          have hcz129_1 : wr.cell? ⟨gb465, 1, none⟩ = some (u466001) := (blk_cell BK465.out 1).trans rfl
          have hfz129_0 := blk_frozen BK465.out 0
          have hfz129_1 := blk_frozen BK465.out 1
          obtain ⟨Ao130, co130, eo130⟩ := Kd.R_slice HO_466001.out
          subst eo130
          have hnb131 := NB460_464.out
          have hnc131 := NB464_460.out
          have hcz132_0 : wr.cell? ⟨gb460, 0, none⟩ = some (.int .i64 0) := (blk_cell BK460.out 0).trans rfl
          have hcz132_1 : wr.cell? ⟨gb460, 1, none⟩ = some (.slice none 0 0) := (blk_cell BK460.out 1).trans rfl
          have hfz132_0 := blk_frozen BK460.out 0
          have hfz132_1 := blk_frozen BK460.out 1
          go_wp2
          refine bodyPost_ret (results_ct rfl _ _ gb460 28 #[.int .i64 (wrap64 (a0_0 + 1)), .slice Ao130 x466001_2.length co130] (0, 0) _ rfl (by (with_reducible repeat (first | refine blk_drewN ?_ _ | refine blk_drew ?_ | refine blk_alloc ?_ _)); refine blk_put (cs := #[.int .i64 (wrap64 (a0_0 + 1)), .slice none 0 0]) ?_ 1 _ rfl; (with_reducible repeat (first | refine blk_drewN ?_ _ | refine blk_drew ?_ | refine blk_alloc ?_ _)); refine blk_put (cs := #[.int .i64 0, .slice none 0 0]) ?_ 0 _ rfl; (with_reducible repeat (first | refine blk_drewN ?_ _ | refine blk_drew ?_ | refine blk_alloc ?_ _)); exact BK460.out) Tryd.underlying28 rfl (by kernel_rfl)) rfl ?_
          exact ⟨_, by first | rfl | (simp [errW_none, errW_some] <;> rfl) | (simp [*, errW_none, errW_some] <;> rfl), by (with_reducible repeat (first | apply Kd.R_alloc | apply Kd.R_drewN | apply Kd.R_drew)); exact Kd.R_mono (Kd.R_far (p := ⟨gb460, 1, none⟩) (Kd.R_far (p := ⟨gb460, 0, none⟩) (Kd.R_types HO_466001.out BK460.out (by decide)) (fun _ hk => hk.2) (.int .i64 (wrap64 (a0_0 + 1)))) (fun _ hk => hk.2) (.slice Ao130 x466001_2.length co130)) (fun _ hk => trivial), by repeat (first | (with_reducible first | exact HB.out | apply below_alloc | apply pw_below_drewN | apply below_drew1 | refine below_set ?_ GE459.out | refine below_set ?_ GE460.out | refine below_set ?_ GE464.out | refine below_set ?_ GE465.out) | exact HB.out)⟩
       ·
        replace c101 := Bool.eq_false_iff.mpr c101
        subst c101
        have H1 : (if x466001_2.length < 4398046511104 then ((some (x466001_2 ++ [(⟨a1, a2, (wrap64 (a0_0 + 1))⟩ : S72)] : List (S72))).bind fun y480 => (if (wrap64 (a0_0 + 1)) > 1048576 then (some (0, ([] : List (S72)), 1201)) else (if (y480.length : Int) > 64 then (some (0, ([] : List (S72)), 1201)) else (some ((wrap64 (a0_0 + 1)), y480, 0))))) else (none)) = some (r1, r2, r3) := by rw [if_neg (show ¬ (false = true) by decide)] at H; exact H
        clear H
        have H := H1
        clear H1
        by_cases c133 : x466001_2.length < 4398046511104
        ·
         rw [if_pos c133] at H
         have LMc133 := Aside0.mk c133
         clear c133
         obtain ⟨y480, hy480⟩ : ∃ y_ : List (S72), y_ = (x466001_2 ++ [(⟨a1, a2, (wrap64 (a0_0 + 1))⟩ : S72)]) := ⟨_, rfl⟩
         replace H : (if (wrap64 (a0_0 + 1)) > 1048576 then (some (0, ([] : List (S72)), 1201)) else (if (y480.length : Int) > 64 then (some (0, ([] : List (S72)), 1201)) else (some ((wrap64 (a0_0 + 1)), y480, 0)))) = some (r1, r2, r3) := by first | (rw [hy480]; with_reducible exact H) | (have H2_ := (Option.bind_some _ _).symm.trans H; rw [hy480]; with_reducible exact H2_) | (have H2_ := (Option.bind_some _ _).symm.trans H; with_reducible exact H2_) | with_reducible exact H | (rw [hy480]; exact H) | exact H
         have Ny480 := Aside0.mk hy480
         clear hy480
         by_cases c134 : (wrap64 (a0_0 + 1)) > 1048576
         ·
          rw [if_pos c134] at H
          have c134b0 : decide (1048576 < (wrap64 (a0_0 + 1))) = true := decide_eq_true c134
          clear c134
          simp only [Option.some.injEq, Prod.mk.injEq] at H
          obtain ⟨rfl, rfl, rfl⟩ := H
          have hnb135 := NB459_460.out
          have hnc135 := NB460_459.out
          have hnb136 := NB459_464.out
          have hnc136 := NB464_459.out
          have hnb137 := NB459_465.out
          have hnc137 := NB465_459.out
          have hcz138_0 : wr.cell? ⟨gb459, 0, none⟩ = some (.int .i64 a0_0) := (blk_cell BK459.out 0).trans rfl
          have hcz138_1 : wr.cell? ⟨gb459, 1, none⟩ = some (.slice A0_1 l0_1.length c0_1) := (blk_cell BK459.out 1).trans rfl
          have hfz138_0 := blk_frozen BK459.out 0
          have hfz138_1 := blk_frozen BK459.out 1
          have hnb139 := NB465_460.out
          have hnc139 := NB460_465.out
          have hnb140 := NB465_464.out
          have hnc140 := NB464_465.out
          have hcz141_0 : wr.cell? ⟨gb465, 0, none⟩ = some (.int .i64 (wrap64 (a0_0 + 1))) := (blk_cell BK465.out 0).trans rfl
          have hcz141_1 : wr.cell? ⟨gb465, 1, none⟩ = some (u466001) := (blk_cell BK465.out 1).trans rfl
          have hfz141_0 := blk_frozen BK465.out 0
          have hfz141_1 := blk_frozen BK465.out 1
          have hnb142 := NB464_460.out
          have hnc142 := NB460_464.out
          have hcz143_0 : wr.cell? ⟨gb464, 0, none⟩ = some (.string a1) := (blk_cell BK464.out 0).trans rfl
          have hcz143_1 : wr.cell? ⟨gb464, 1, none⟩ = some (.int .i64 a2) := (blk_cell BK464.out 1).trans rfl
          have hcz143_2 : wr.cell? ⟨gb464, 2, none⟩ = some (.int .i64 (wrap64 (a0_0 + 1))) := (blk_cell BK464.out 2).trans rfl
          have hfz143_0 := blk_frozen BK464.out 0
          have hfz143_1 := blk_frozen BK464.out 1
          have hfz143_2 := blk_frozen BK464.out 2
          go_wp2_with (first | ((with_reducible refine gate_builtin (b := .append) (xs := #[.tmp 82, .tmp 84]) rfl ?_); (try (refine gate_guard (by rfl) ?_; dsimp only)); at_builtin; refine Kd.R_append k72 (w0 := w) w.heap.size rfl (.tmp 82) (.tmp 84) 26 72 (.agg #[(.string ⟨#[]⟩), (.int .i64 0), (.int .i64 0)]) 32 rfl Tryd.underlying26 info72 rfl (by decide) (by omega) u466001 x466001_2 (⟨a1, a2, (wrap64 (a0_0 + 1))⟩ : S72) [.string a1, .int .i64 a2, .int .i64 (wrap64 (a0_0 + 1))] (fun k_ => k_ ≠ gb464) (fun _ => False) rfl rfl ?aP (fun _ hk => hk.elim) ?aF ?aO ?aB ?aS ?aL ?_; (case aP => exact k72_mkM _ _ _ (⟨a1, a2, (wrap64 (a0_0 + 1))⟩ : S72)); (case aB => exact (by repeat (first | (with_reducible first | exact HB.out | apply below_alloc | apply pw_below_drewN | apply below_drew1 | refine below_set ?_ GE459.out | refine below_set ?_ GE460.out | refine below_set ?_ GE464.out | refine below_set ?_ GE465.out) | exact HB.out))); (case aF => exact (fun k_ hk => Kd.freshB (g := gb464) (o := .cells #[.string a1, .int .i64 a2, .int .i64 (wrap64 (a0_0 + 1))] 72 (0, 0)) (by (with_reducible repeat (first | refine blk_drewN ?_ _ | refine blk_drew ?_ | refine blk_alloc ?_ _)); exact BK464.out) k_ hk)); (case aO => exact (by (with_reducible repeat (first | apply Kd.R_alloc | apply Kd.R_drewN | apply Kd.R_drew)); exact HO_466001.out)); (case aS => exact (below_size (by repeat (first | (with_reducible first | exact HB.out | apply below_alloc | apply pw_below_drewN | apply below_drew1 | refine below_set ?_ GE459.out | refine below_set ?_ GE460.out | refine below_set ?_ GE464.out | refine below_set ?_ GE465.out) | exact HB.out)))); (case aL => have := LMc133.out; omega); intro v481 w144 ho hb hg hat; rw [← Ny480.out] at ho; have n0_ := Aside0.mk (blk_grown (g := gb459) (o := .cells #[.int .i64 a0_0, .slice A0_1 l0_1.length c0_1] 28 (0, 0)) (by (with_reducible repeat (first | refine blk_drewN ?_ _ | refine blk_drew ?_ | refine blk_alloc ?_ _)); exact BK459.out) hg (Kd.R_ne HO_466001.out BK459.out (by decide))); have n1_ := Aside0.mk (blk_grown (g := gb460) (o := .cells #[.int .i64 0, .slice none 0 0] 28 (0, 0)) (by (with_reducible repeat (first | refine blk_drewN ?_ _ | refine blk_drew ?_ | refine blk_alloc ?_ _)); exact BK460.out) hg (Kd.R_ne HO_466001.out BK460.out (by decide))); have n2_ := Aside0.mk (blk_grown (g := gb464) (o := .cells #[.string a1, .int .i64 a2, .int .i64 (wrap64 (a0_0 + 1))] 72 (0, 0)) (by (with_reducible repeat (first | refine blk_drewN ?_ _ | refine blk_drew ?_ | refine blk_alloc ?_ _)); exact BK464.out) hg (Kd.R_away HO_466001.out (fun _ hk => hk))); have n3_ := Aside0.mk (blk_grown (g := gb465) (o := .cells #[.int .i64 (wrap64 (a0_0 + 1)), u466001] 28 (0, 0)) (by (with_reducible repeat (first | refine blk_drewN ?_ _ | refine blk_drew ?_ | refine blk_alloc ?_ _)); exact BK465.out) hg (Kd.R_ne HO_466001.out BK465.out (by decide))); have n4_ := Aside0.mk (hb); have n5_ := Aside0.mk (ho); clear BK459; clear BK460; clear BK464; clear BK465; clear HB; clear HO_466001; have BK459 := n0_; have BK460 := n1_; have BK464 := n2_; have BK465 := n3_; have HB := n4_; have HO482 := n5_; clear n0_ n1_ n2_ n3_ n4_ n5_; clear ho hb hg hat; obtain ⟨Ao145, co145, eo145⟩ := Kd.R_slice HO482.out; subst eo145; have hcz146_0 : w144.cell? ⟨gb465, 0, none⟩ = some (.int .i64 (wrap64 (a0_0 + 1))) := (blk_cell BK465.out 0).trans rfl; have hcz146_1 : w144.cell? ⟨gb465, 1, none⟩ = some (u466001) := (blk_cell BK465.out 1).trans rfl; have hfz146_0 := blk_frozen BK465.out 0; have hfz146_1 := blk_frozen BK465.out 1; have hcz147_0 : w144.cell? ⟨gb460, 0, none⟩ = some (.int .i64 0) := (blk_cell BK460.out 0).trans rfl; have hcz147_1 : w144.cell? ⟨gb460, 1, none⟩ = some (.slice none 0 0) := (blk_cell BK460.out 1).trans rfl; have hfz147_0 := blk_frozen BK460.out 0; have hfz147_1 := blk_frozen BK460.out 1))
          refine bodyPost_ret (results_ct rfl _ _ gb460 28 #[.int .i64 0, .slice none 0 0] (0, 0) _ rfl (by (with_reducible repeat (first | refine blk_drewN ?_ _ | refine blk_drew ?_ | refine blk_alloc ?_ _)); refine blk_put (cs := #[.int .i64 0, .slice none 0 0]) ?_ 1 _ rfl; (with_reducible repeat (first | refine blk_drewN ?_ _ | refine blk_drew ?_ | refine blk_alloc ?_ _)); refine blk_put (cs := #[.int .i64 0, .slice none 0 0]) ?_ 0 _ rfl; (with_reducible repeat (first | refine blk_drewN ?_ _ | refine blk_drew ?_ | refine blk_alloc ?_ _)); refine blk_far ?_ NB460_465.out _; (with_reducible repeat (first | refine blk_drewN ?_ _ | refine blk_drew ?_ | refine blk_alloc ?_ _)); exact BK460.out) Tryd.underlying28 rfl (by kernel_rfl)) rfl ?_
          exact ⟨_, by first | rfl | (simp [errW_none, errW_some] <;> rfl) | (simp [*, errW_none, errW_some] <;> rfl), by first | exact Kd.R_nil _ _ _ _ _ | exact Kd.N_nil _ _ _ _ _ | exact Kd.V_nil _ _ _ _ _ | exact Kd.Q_nil _ _ _ _ _ | exact Kd.S_nil _ _ _ _ _, by repeat (first | (with_reducible first | exact HB.out | apply below_alloc | apply pw_below_drewN | apply below_drew1 | refine below_set ?_ GE459.out | refine below_set ?_ GE460.out | refine below_set ?_ GE464.out | refine below_set ?_ GE465.out) | exact HB.out)⟩
         ·
          rw [if_neg c134] at H
          have c134b0 : decide (1048576 < (wrap64 (a0_0 + 1))) = false := decide_eq_false c134
          clear c134
          by_cases c148 : (y480.length : Int) > 64
          ·
           rw [if_pos c148] at H
           have c148b0 : decide (64 < (y480.length : Int)) = true := decide_eq_true c148
           have c148b1 : decide (64 < y480.length) = true := decide_eq_true (by omega)
           clear c148
           simp only [Option.some.injEq, Prod.mk.injEq] at H
           obtain ⟨rfl, rfl, rfl⟩ := H
           have hnb149 := NB459_460.out
           have hnc149 := NB460_459.out
           have hnb150 := NB459_464.out
           have hnc150 := NB464_459.out
           have hnb151 := NB459_465.out
           have hnc151 := NB465_459.out
           have hcz152_0 : wr.cell? ⟨gb459, 0, none⟩ = some (.int .i64 a0_0) := (blk_cell BK459.out 0).trans rfl
           have hcz152_1 : wr.cell? ⟨gb459, 1, none⟩ = some (.slice A0_1 l0_1.length c0_1) := (blk_cell BK459.out 1).trans rfl
           have hfz152_0 := blk_frozen BK459.out 0
           have hfz152_1 := blk_frozen BK459.out 1
           have hnb153 := NB465_460.out
           have hnc153 := NB460_465.out
           have hnb154 := NB465_464.out
           have hnc154 := NB464_465.out
           have hcz155_0 : wr.cell? ⟨gb465, 0, none⟩ = some (.int .i64 (wrap64 (a0_0 + 1))) := (blk_cell BK465.out 0).trans rfl
           have hcz155_1 : wr.cell? ⟨gb465, 1, none⟩ = some (u466001) := (blk_cell BK465.out 1).trans rfl
           have hfz155_0 := blk_frozen BK465.out 0
           have hfz155_1 := blk_frozen BK465.out 1
           have hnb156 := NB464_460.out
           have hnc156 := NB460_464.out
           have hcz157_0 : wr.cell? ⟨gb464, 0, none⟩ = some (.string a1) := (blk_cell BK464.out 0).trans rfl
           have hcz157_1 : wr.cell? ⟨gb464, 1, none⟩ = some (.int .i64 a2) := (blk_cell BK464.out 1).trans rfl
           have hcz157_2 : wr.cell? ⟨gb464, 2, none⟩ = some (.int .i64 (wrap64 (a0_0 + 1))) := (blk_cell BK464.out 2).trans rfl
           have hfz157_0 := blk_frozen BK464.out 0
           have hfz157_1 := blk_frozen BK464.out 1
           have hfz157_2 := blk_frozen BK464.out 2
           go_wp2_with (first | ((with_reducible refine gate_builtin (b := .append) (xs := #[.tmp 82, .tmp 84]) rfl ?_); (try (refine gate_guard (by rfl) ?_; dsimp only)); at_builtin; refine Kd.R_append k72 (w0 := w) w.heap.size rfl (.tmp 82) (.tmp 84) 26 72 (.agg #[(.string ⟨#[]⟩), (.int .i64 0), (.int .i64 0)]) 32 rfl Tryd.underlying26 info72 rfl (by decide) (by omega) u466001 x466001_2 (⟨a1, a2, (wrap64 (a0_0 + 1))⟩ : S72) [.string a1, .int .i64 a2, .int .i64 (wrap64 (a0_0 + 1))] (fun k_ => k_ ≠ gb464) (fun _ => False) rfl rfl ?aP (fun _ hk => hk.elim) ?aF ?aO ?aB ?aS ?aL ?_; (case aP => exact k72_mkM _ _ _ (⟨a1, a2, (wrap64 (a0_0 + 1))⟩ : S72)); (case aB => exact (by repeat (first | (with_reducible first | exact HB.out | apply below_alloc | apply pw_below_drewN | apply below_drew1 | refine below_set ?_ GE459.out | refine below_set ?_ GE460.out | refine below_set ?_ GE464.out | refine below_set ?_ GE465.out) | exact HB.out))); (case aF => exact (fun k_ hk => Kd.freshB (g := gb464) (o := .cells #[.string a1, .int .i64 a2, .int .i64 (wrap64 (a0_0 + 1))] 72 (0, 0)) (by (with_reducible repeat (first | refine blk_drewN ?_ _ | refine blk_drew ?_ | refine blk_alloc ?_ _)); exact BK464.out) k_ hk)); (case aO => exact (by (with_reducible repeat (first | apply Kd.R_alloc | apply Kd.R_drewN | apply Kd.R_drew)); exact HO_466001.out)); (case aS => exact (below_size (by repeat (first | (with_reducible first | exact HB.out | apply below_alloc | apply pw_below_drewN | apply below_drew1 | refine below_set ?_ GE459.out | refine below_set ?_ GE460.out | refine below_set ?_ GE464.out | refine below_set ?_ GE465.out) | exact HB.out)))); (case aL => have := LMc133.out; omega); intro v481 w158 ho hb hg hat; rw [← Ny480.out] at ho; have n0_ := Aside0.mk (blk_grown (g := gb459) (o := .cells #[.int .i64 a0_0, .slice A0_1 l0_1.length c0_1] 28 (0, 0)) (by (with_reducible repeat (first | refine blk_drewN ?_ _ | refine blk_drew ?_ | refine blk_alloc ?_ _)); exact BK459.out) hg (Kd.R_ne HO_466001.out BK459.out (by decide))); have n1_ := Aside0.mk (blk_grown (g := gb460) (o := .cells #[.int .i64 0, .slice none 0 0] 28 (0, 0)) (by (with_reducible repeat (first | refine blk_drewN ?_ _ | refine blk_drew ?_ | refine blk_alloc ?_ _)); exact BK460.out) hg (Kd.R_ne HO_466001.out BK460.out (by decide))); have n2_ := Aside0.mk (blk_grown (g := gb464) (o := .cells #[.string a1, .int .i64 a2, .int .i64 (wrap64 (a0_0 + 1))] 72 (0, 0)) (by (with_reducible repeat (first | refine blk_drewN ?_ _ | refine blk_drew ?_ | refine blk_alloc ?_ _)); exact BK464.out) hg (Kd.R_away HO_466001.out (fun _ hk => hk))); have n3_ := Aside0.mk (blk_grown (g := gb465) (o := .cells #[.int .i64 (wrap64 (a0_0 + 1)), u466001] 28 (0, 0)) (by (with_reducible repeat (first | refine blk_drewN ?_ _ | refine blk_drew ?_ | refine blk_alloc ?_ _)); exact BK465.out) hg (Kd.R_ne HO_466001.out BK465.out (by decide))); have n4_ := Aside0.mk (hb); have n5_ := Aside0.mk (ho); clear BK459; clear BK460; clear BK464; clear BK465; clear HB; clear HO_466001; have BK459 := n0_; have BK460 := n1_; have BK464 := n2_; have BK465 := n3_; have HB := n4_; have HO482 := n5_; clear n0_ n1_ n2_ n3_ n4_ n5_; clear ho hb hg hat; obtain ⟨Ao159, co159, eo159⟩ := Kd.R_slice HO482.out; subst eo159; have hcz160_0 : w158.cell? ⟨gb465, 0, none⟩ = some (.int .i64 (wrap64 (a0_0 + 1))) := (blk_cell BK465.out 0).trans rfl; have hcz160_1 : w158.cell? ⟨gb465, 1, none⟩ = some (u466001) := (blk_cell BK465.out 1).trans rfl; have hfz160_0 := blk_frozen BK465.out 0; have hfz160_1 := blk_frozen BK465.out 1; have hcz161_0 : w158.cell? ⟨gb460, 0, none⟩ = some (.int .i64 0) := (blk_cell BK460.out 0).trans rfl; have hcz161_1 : w158.cell? ⟨gb460, 1, none⟩ = some (.slice none 0 0) := (blk_cell BK460.out 1).trans rfl; have hfz161_0 := blk_frozen BK460.out 0; have hfz161_1 := blk_frozen BK460.out 1))
           refine bodyPost_ret (results_ct rfl _ _ gb460 28 #[.int .i64 0, .slice none 0 0] (0, 0) _ rfl (by (with_reducible repeat (first | refine blk_drewN ?_ _ | refine blk_drew ?_ | refine blk_alloc ?_ _)); refine blk_put (cs := #[.int .i64 0, .slice none 0 0]) ?_ 1 _ rfl; (with_reducible repeat (first | refine blk_drewN ?_ _ | refine blk_drew ?_ | refine blk_alloc ?_ _)); refine blk_put (cs := #[.int .i64 0, .slice none 0 0]) ?_ 0 _ rfl; (with_reducible repeat (first | refine blk_drewN ?_ _ | refine blk_drew ?_ | refine blk_alloc ?_ _)); refine blk_far ?_ NB460_465.out _; (with_reducible repeat (first | refine blk_drewN ?_ _ | refine blk_drew ?_ | refine blk_alloc ?_ _)); exact BK460.out) Tryd.underlying28 rfl (by kernel_rfl)) rfl ?_
           exact ⟨_, by first | rfl | (simp [errW_none, errW_some] <;> rfl) | (simp [*, errW_none, errW_some] <;> rfl), by first | exact Kd.R_nil _ _ _ _ _ | exact Kd.N_nil _ _ _ _ _ | exact Kd.V_nil _ _ _ _ _ | exact Kd.Q_nil _ _ _ _ _ | exact Kd.S_nil _ _ _ _ _, by repeat (first | (with_reducible first | exact HB.out | apply below_alloc | apply pw_below_drewN | apply below_drew1 | refine below_set ?_ GE459.out | refine below_set ?_ GE460.out | refine below_set ?_ GE464.out | refine below_set ?_ GE465.out) | exact HB.out)⟩
          ·
           rw [if_neg c148] at H
           have c148b0 : decide (64 < (y480.length : Int)) = false := decide_eq_false c148
           have c148b1 : decide (64 < y480.length) = false := decide_eq_false (by omega)
           clear c148
           simp only [Option.some.injEq, Prod.mk.injEq] at H
           obtain ⟨rfl, rfl, rfl⟩ := H
           have hnb162 := NB459_460.out
           have hnc162 := NB460_459.out
           have hnb163 := NB459_464.out
           have hnc163 := NB464_459.out
           have hnb164 := NB459_465.out
           have hnc164 := NB465_459.out
           have hcz165_0 : wr.cell? ⟨gb459, 0, none⟩ = some (.int .i64 a0_0) := (blk_cell BK459.out 0).trans rfl
           have hcz165_1 : wr.cell? ⟨gb459, 1, none⟩ = some (.slice A0_1 l0_1.length c0_1) := (blk_cell BK459.out 1).trans rfl
           have hfz165_0 := blk_frozen BK459.out 0
           have hfz165_1 := blk_frozen BK459.out 1
           have hnb166 := NB465_460.out
           have hnc166 := NB460_465.out
           have hnb167 := NB465_464.out
           have hnc167 := NB464_465.out
           have hcz168_0 : wr.cell? ⟨gb465, 0, none⟩ = some (.int .i64 (wrap64 (a0_0 + 1))) := (blk_cell BK465.out 0).trans rfl
           have hcz168_1 : wr.cell? ⟨gb465, 1, none⟩ = some (u466001) := (blk_cell BK465.out 1).trans rfl
           have hfz168_0 := blk_frozen BK465.out 0
           have hfz168_1 := blk_frozen BK465.out 1
           have hnb169 := NB464_460.out
           have hnc169 := NB460_464.out
           have hcz170_0 : wr.cell? ⟨gb464, 0, none⟩ = some (.string a1) := (blk_cell BK464.out 0).trans rfl
           have hcz170_1 : wr.cell? ⟨gb464, 1, none⟩ = some (.int .i64 a2) := (blk_cell BK464.out 1).trans rfl
           have hcz170_2 : wr.cell? ⟨gb464, 2, none⟩ = some (.int .i64 (wrap64 (a0_0 + 1))) := (blk_cell BK464.out 2).trans rfl
           have hfz170_0 := blk_frozen BK464.out 0
           have hfz170_1 := blk_frozen BK464.out 1
           have hfz170_2 := blk_frozen BK464.out 2
           go_wp2_with (first | ((with_reducible refine gate_builtin (b := .append) (xs := #[.tmp 82, .tmp 84]) rfl ?_); (try (refine gate_guard (by rfl) ?_; dsimp only)); at_builtin; refine Kd.R_append k72 (w0 := w) w.heap.size rfl (.tmp 82) (.tmp 84) 26 72 (.agg #[(.string ⟨#[]⟩), (.int .i64 0), (.int .i64 0)]) 32 rfl Tryd.underlying26 info72 rfl (by decide) (by omega) u466001 x466001_2 (⟨a1, a2, (wrap64 (a0_0 + 1))⟩ : S72) [.string a1, .int .i64 a2, .int .i64 (wrap64 (a0_0 + 1))] (fun k_ => k_ ≠ gb464) (fun _ => False) rfl rfl ?aP (fun _ hk => hk.elim) ?aF ?aO ?aB ?aS ?aL ?_; (case aP => exact k72_mkM _ _ _ (⟨a1, a2, (wrap64 (a0_0 + 1))⟩ : S72)); (case aB => exact (by repeat (first | (with_reducible first | exact HB.out | apply below_alloc | apply pw_below_drewN | apply below_drew1 | refine below_set ?_ GE459.out | refine below_set ?_ GE460.out | refine below_set ?_ GE464.out | refine below_set ?_ GE465.out) | exact HB.out))); (case aF => exact (fun k_ hk => Kd.freshB (g := gb464) (o := .cells #[.string a1, .int .i64 a2, .int .i64 (wrap64 (a0_0 + 1))] 72 (0, 0)) (by (with_reducible repeat (first | refine blk_drewN ?_ _ | refine blk_drew ?_ | refine blk_alloc ?_ _)); exact BK464.out) k_ hk)); (case aO => exact (by (with_reducible repeat (first | apply Kd.R_alloc | apply Kd.R_drewN | apply Kd.R_drew)); exact HO_466001.out)); (case aS => exact (below_size (by repeat (first | (with_reducible first | exact HB.out | apply below_alloc | apply pw_below_drewN | apply below_drew1 | refine below_set ?_ GE459.out | refine below_set ?_ GE460.out | refine below_set ?_ GE464.out | refine below_set ?_ GE465.out) | exact HB.out)))); (case aL => have := LMc133.out; omega); intro v481 w171 ho hb hg hat; rw [← Ny480.out] at ho; have n0_ := Aside0.mk (blk_grown (g := gb459) (o := .cells #[.int .i64 a0_0, .slice A0_1 l0_1.length c0_1] 28 (0, 0)) (by (with_reducible repeat (first | refine blk_drewN ?_ _ | refine blk_drew ?_ | refine blk_alloc ?_ _)); exact BK459.out) hg (Kd.R_ne HO_466001.out BK459.out (by decide))); have n1_ := Aside0.mk (blk_grown (g := gb460) (o := .cells #[.int .i64 0, .slice none 0 0] 28 (0, 0)) (by (with_reducible repeat (first | refine blk_drewN ?_ _ | refine blk_drew ?_ | refine blk_alloc ?_ _)); exact BK460.out) hg (Kd.R_ne HO_466001.out BK460.out (by decide))); have n2_ := Aside0.mk (blk_grown (g := gb464) (o := .cells #[.string a1, .int .i64 a2, .int .i64 (wrap64 (a0_0 + 1))] 72 (0, 0)) (by (with_reducible repeat (first | refine blk_drewN ?_ _ | refine blk_drew ?_ | refine blk_alloc ?_ _)); exact BK464.out) hg (Kd.R_away HO_466001.out (fun _ hk => hk))); have n3_ := Aside0.mk (blk_grown (g := gb465) (o := .cells #[.int .i64 (wrap64 (a0_0 + 1)), u466001] 28 (0, 0)) (by (with_reducible repeat (first | refine blk_drewN ?_ _ | refine blk_drew ?_ | refine blk_alloc ?_ _)); exact BK465.out) hg (Kd.R_ne HO_466001.out BK465.out (by decide))); have n4_ := Aside0.mk (hb); have n5_ := Aside0.mk (ho); clear BK459; clear BK460; clear BK464; clear BK465; clear HB; clear HO_466001; have BK459 := n0_; have BK460 := n1_; have BK464 := n2_; have BK465 := n3_; have HB := n4_; have HO482 := n5_; clear n0_ n1_ n2_ n3_ n4_ n5_; clear ho hb hg hat; obtain ⟨Ao172, co172, eo172⟩ := Kd.R_slice HO482.out; subst eo172; have hcz173_0 : w171.cell? ⟨gb465, 0, none⟩ = some (.int .i64 (wrap64 (a0_0 + 1))) := (blk_cell BK465.out 0).trans rfl; have hcz173_1 : w171.cell? ⟨gb465, 1, none⟩ = some (u466001) := (blk_cell BK465.out 1).trans rfl; have hfz173_0 := blk_frozen BK465.out 0; have hfz173_1 := blk_frozen BK465.out 1; have hcz174_0 : w171.cell? ⟨gb460, 0, none⟩ = some (.int .i64 0) := (blk_cell BK460.out 0).trans rfl; have hcz174_1 : w171.cell? ⟨gb460, 1, none⟩ = some (.slice none 0 0) := (blk_cell BK460.out 1).trans rfl; have hfz174_0 := blk_frozen BK460.out 0; have hfz174_1 := blk_frozen BK460.out 1))
           refine bodyPost_ret (results_ct rfl _ _ gb460 28 #[.int .i64 (wrap64 (a0_0 + 1)), .slice Ao172 y480.length co172] (0, 0) _ rfl (by (with_reducible repeat (first | refine blk_drewN ?_ _ | refine blk_drew ?_ | refine blk_alloc ?_ _)); refine blk_put (cs := #[.int .i64 (wrap64 (a0_0 + 1)), .slice none 0 0]) ?_ 1 _ rfl; (with_reducible repeat (first | refine blk_drewN ?_ _ | refine blk_drew ?_ | refine blk_alloc ?_ _)); refine blk_put (cs := #[.int .i64 0, .slice none 0 0]) ?_ 0 _ rfl; (with_reducible repeat (first | refine blk_drewN ?_ _ | refine blk_drew ?_ | refine blk_alloc ?_ _)); refine blk_far ?_ NB460_465.out _; (with_reducible repeat (first | refine blk_drewN ?_ _ | refine blk_drew ?_ | refine blk_alloc ?_ _)); exact BK460.out) Tryd.underlying28 rfl (by kernel_rfl)) rfl ?_
           exact ⟨_, by first | rfl | (simp [errW_none, errW_some] <;> rfl) | (simp [*, errW_none, errW_some] <;> rfl), by (with_reducible repeat (first | apply Kd.R_alloc | apply Kd.R_drewN | apply Kd.R_drew)); exact Kd.R_mono (Kd.R_far (p := ⟨gb460, 1, none⟩) (Kd.R_far (p := ⟨gb460, 0, none⟩) (Kd.R_far (p := ⟨gb465, 1, none⟩) (Kd.R_types (Kd.R_types HO482.out BK465.out (by decide)) BK460.out (by decide)) (fun _ hk => hk.1.2) (.slice Ao172 y480.length co172)) (fun _ hk => hk.2) (.int .i64 (wrap64 (a0_0 + 1)))) (fun _ hk => hk.2) (.slice Ao172 y480.length co172)) (fun _ hk => trivial), by repeat (first | (with_reducible first | exact HB.out | apply below_alloc | apply pw_below_drewN | apply below_drew1 | refine below_set ?_ GE459.out | refine below_set ?_ GE460.out | refine below_set ?_ GE464.out | refine below_set ?_ GE465.out) | exact HB.out)⟩
        ·
         rw [if_neg c133] at H
         exact absurd H (by simp)

end Go.Proofs.YtilnamobmjngbaaDoor.P
