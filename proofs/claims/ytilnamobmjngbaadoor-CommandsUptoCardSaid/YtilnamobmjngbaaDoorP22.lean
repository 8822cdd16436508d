-- Made by a program of this work's own (wip/myprint.py) over the kit's print; leaves by hand.
import Derived.Test.YtilnamobmjngbaaDoorP0
import Derived.Test.YtilnamobmjngbaaDoorP21
namespace Go.Proofs.YtilnamobmjngbaaDoor.P
open Go.RowKit Go.Proofs.YtilnamobmjngbaaDoorW.PrintWords Go.Proofs.YtilnamobmjngbaaDoorW.PrintLast Go.Proofs.YtilnamobmjngbaaDoorW.PrintMore
attribute [local go_sem] max2_int min2_int max_two min_two max_three min_three max_four min_four   -- for this text's walks alone
set_option linter.unusedVariables false
set_option linter.unusedSimpArgs false

/-! ### crucibleref12_Find: function 42 -/
set_option maxRecDepth 100000 in
mutual
def crucibleref12_Find.l0 : Nat → ByteArray → Int → Int → List (S72) → Option (ByteArray × Int × Int × Bool)
 | 0, _, _, _, _ => none
 | k + 1, x1, x6, x223000, x223001 => if x6 < (x223001.length : Int) then ((crucibleref12_DiskMay.f k x223000 x223001).bind fun t224 => (crucibleref12_Find.j1 k x1 x6 t224 x223000 x223001)) else (crucibleref12_Find.j1 k x1 x6 false x223000 x223001)
def crucibleref12_Find.j1 : Nat → ByteArray → Int → Bool → Int → List (S72) → Option (ByteArray × Int × Int × Bool)
 | 0, _, _, _, _, _ => none
 | k + 1, x1, x6, x15, x223000, x223001 => if x15 = true then (if 0 ≤ x6 then (if x6 < (x223001.length : Int) then (if ((rd_T72 x223001 x6).f0).toList = x1.toList then (some ((rd_T72 x223001 x6).f0, (rd_T72 x223001 x6).f1, (rd_T72 x223001 x6).f2, true)) else (crucibleref12_Find.l0 k x1 (wrap64 (x6 + 1)) x223000 x223001)) else (none)) else (none)) else (some ((⟨#[]⟩ : ByteArray), 0, 0, false))
end
def crucibleref12_Find.f (k : Nat) (a0_0 : Int) (l0_1 : List (S72)) (a1 : ByteArray) : Option (ByteArray × Int × Int × Bool) := crucibleref12_Find.l0 k a1 0 a0_0 l0_1
set_option maxRecDepth 100000 in
theorem crucibleref12_Find.mono_l : ∀ k, (∀ y0 y1 y2 y3, LeO (crucibleref12_Find.l0 k y0 y1 y2 y3) (crucibleref12_Find.l0 (k + 1) y0 y1 y2 y3)) ∧ (∀ y0 y1 y2 y3 y4, LeO (crucibleref12_Find.j1 k y0 y1 y2 y3 y4) (crucibleref12_Find.j1 (k + 1) y0 y1 y2 y3 y4))
 | 0 => ⟨fun _ _ _ _ r h => by simp [crucibleref12_Find.l0] at h, fun _ _ _ _ _ r h => by simp [crucibleref12_Find.j1] at h⟩
 | k + 1 => by
  obtain ⟨ih0, ih1⟩ := crucibleref12_Find.mono_l k
  refine ⟨?_, ?_⟩
  ·
   intro y0 y1 y2 y3
   unfold crucibleref12_Find.l0
   repeat' first
   | (with_reducible exact ih0 _ _ _ _)
   | (with_reducible exact ih1 _ _ _ _ _)
   | (with_reducible exact crucibleref12_DiskMay.mono _ _ _)
   | (with_reducible exact LeO.refl _)
   | (with_reducible exact LeO.none _)
   | (with_reducible refine LeO.ite ?_ ?_)
   | (with_reducible refine LeO.bind ?_ (fun _ => ?_))
   | exact ih0 _ _ _ _
   | exact ih1 _ _ _ _ _
   | exact crucibleref12_DiskMay.mono _ _ _
   | exact LeO.none _
   | refine LeO.ite ?_ ?_
   | refine LeO.bind ?_ (fun _ => ?_)
  ·
   intro y0 y1 y2 y3 y4
   unfold crucibleref12_Find.j1
   repeat' first
   | (with_reducible exact ih0 _ _ _ _)
   | (with_reducible exact ih1 _ _ _ _ _)
   | (with_reducible exact crucibleref12_DiskMay.mono _ _ _)
   | (with_reducible exact LeO.refl _)
   | (with_reducible exact LeO.none _)
   | (with_reducible refine LeO.ite ?_ ?_)
   | (with_reducible refine LeO.bind ?_ (fun _ => ?_))
   | exact ih0 _ _ _ _
   | exact ih1 _ _ _ _ _
   | exact crucibleref12_DiskMay.mono _ _ _
   | exact LeO.none _
   | refine LeO.ite ?_ ?_
   | refine LeO.bind ?_ (fun _ => ?_)
theorem crucibleref12_Find.mono : ∀ a0 a1 a2 k, LeO (crucibleref12_Find.f k a0 a1 a2) (crucibleref12_Find.f (k + 1) a0 a1 a2) := by
 intro a0 a1 a2 k
 obtain ⟨ih0, ih1⟩ := crucibleref12_Find.mono_l k
 unfold crucibleref12_Find.f
 repeat' first
   | (with_reducible exact ih0 _ _ _ _)
   | (with_reducible exact ih1 _ _ _ _ _)
   | (with_reducible exact crucibleref12_DiskMay.mono _ _ _)
   | (with_reducible exact LeO.refl _)
   | (with_reducible exact LeO.none _)
   | (with_reducible refine LeO.ite ?_ ?_)
   | (with_reducible refine LeO.bind ?_ (fun _ => ?_))
   | exact ih0 _ _ _ _
   | exact ih1 _ _ _ _ _
   | exact crucibleref12_DiskMay.mono _ _ _
   | exact LeO.none _
   | refine LeO.ite ?_ ?_
   | refine LeO.bind ?_ (fun _ => ?_)
set_option maxHeartbeats 8000000 in
set_option maxRecDepth 100000 in
theorem crucibleref12_Find.calls (k : Nat) (a0_0 : Int) (A0_1 : Option Addr) (c0_1 : Nat) (l0_1 : List (S72)) (a1 : ByteArray) (r1 : ByteArray) (r2 : Int) (r3 : Int) (r4 : Bool) (w : World) (hr0_1 : Kd.C k72 w A0_1 l0_1.length l0_1) (hc0_1 : l0_1.length ≤ c0_1) (h : crucibleref12_Find.f k a0_0 l0_1 a1 = some (r1, r2, r3, r4)) :
  Calls Tryd.prog 42 #[.agg #[.int .i64 a0_0, .slice A0_1 l0_1.length c0_1], .string a1] w fun e w' => e = .returned (.tuple #[.agg #[.string r1, .int .i64 r2, .int .i64 r3], .bool r4]) ∧ Below w.heap.size w w' := by
 have hu28 := Tryd.underlying28
 have hu72 := Tryd.underlying72
 have HR0_1 := Aside0.mk hr0_1
 have HC0_1 := Aside0.mk hc0_1
 clear hr0_1 hc0_1
 have HB := Aside0.mk (Below.refl w.heap.size w)
 have H : (crucibleref12_Find.l0 k a1 0 a0_0 l0_1) = some (r1, r2, r3, r4) := h
 clear h
 have H' := Aside0.mk H
 clear H
 go_enter Tryd.func42, Tryd.ntmps42
 go_wp2_with (first | ((with_reducible refine gate_dst (N := 2) rfl ?_); refine box_event ?hg (N := 2) ?hd (cs := #[.int .i64 a0_0, .slice A0_1 l0_1.length c0_1]) (t := 28) ?hr ?_; (case hd => rfl); (case hg => rfl); (case hr => first | (go_simp; done) | (go_simp; rfl)); intro gb222 hg w3 hbox hb; have n0_ := Aside0.mk (below_step (by repeat (first | (with_reducible first | exact HB.out | apply below_alloc | apply pw_below_drewN | apply below_drew1) | exact HB.out)) hb); have n1_ := Aside0.mk (hbox); have n2_ := Aside0.mk ((by rw [hg]; exact (below_size (by repeat (first | (with_reducible first | exact HB.out | apply below_alloc | apply pw_below_drewN | apply below_drew1) | exact HB.out))) : w.heap.size ≤ gb222)); have n3_ := Aside0.mk ((by rw [hg]; exact (below_size (by repeat (first | (with_reducible first | exact HB.out | apply below_alloc | apply pw_below_drewN | apply below_drew1) | exact HB.out))) : w.heap.size ≤ gb222)); clear HB; have HB := n0_; have BK222 := n1_; have GW222 := n2_; have GE222 := n3_; clear n0_ n1_ n2_ n3_; clear hb hbox hg) | ((with_reducible refine gate_dst (N := 4) rfl ?_); refine box_event ?hg (N := 4) ?hd (cs := #[.string (⟨#[]⟩ : ByteArray), .int .i64 0, .int .i64 0]) (t := 72) ?hr ?_; (case hd => rfl); (case hg => rfl); (case hr => first | (go_simp; done) | (go_simp; rfl)); intro gb223 hg w4 hbox hb; have n0_ := Aside0.mk (blk_below (g := gb222) (o := .cells #[.int .i64 a0_0, .slice A0_1 l0_1.length c0_1] 28 (0, 0)) (by (with_reducible repeat (first | refine blk_drewN ?_ _ | refine blk_drew ?_ | refine blk_alloc ?_ _)); exact BK222.out) hb); have n1_ := Aside0.mk (below_step (by repeat (first | (with_reducible first | exact HB.out | apply below_alloc | apply pw_below_drewN | apply below_drew1 | refine below_set ?_ GE222.out) | exact HB.out)) hb); have n2_ := Aside0.mk (hbox); have n3_ := Aside0.mk ((by rw [hg]; exact (below_size (by repeat (first | (with_reducible first | exact HB.out | apply below_alloc | apply pw_below_drewN | apply below_drew1 | refine below_set ?_ GE222.out) | exact HB.out))) : w.heap.size ≤ gb223)); have n4_ := Aside0.mk ((by rw [hg]; exact (below_size (by repeat (first | (with_reducible first | exact HB.out | apply below_alloc | apply pw_below_drewN | apply below_drew1 | refine below_set ?_ GE222.out) | exact HB.out))) : w.heap.size ≤ gb223)); have n5_ := Aside0.mk ((by rw [hg]; exact Nat.ne_of_lt (blk_lt (g := gb222) (o := .cells #[.int .i64 a0_0, .slice A0_1 l0_1.length c0_1] 28 (0, 0)) (by (with_reducible repeat (first | refine blk_drewN ?_ _ | refine blk_drew ?_ | refine blk_alloc ?_ _)); exact BK222.out)) : gb222 ≠ gb223)); have n6_ := Aside0.mk ((by rw [hg]; exact Nat.ne_of_gt (blk_lt (g := gb222) (o := .cells #[.int .i64 a0_0, .slice A0_1 l0_1.length c0_1] 28 (0, 0)) (by (with_reducible repeat (first | refine blk_drewN ?_ _ | refine blk_drew ?_ | refine blk_alloc ?_ _)); exact BK222.out)) : gb223 ≠ gb222)); clear BK222; clear HB; have BK222 := n0_; have HB := n1_; have BK223 := n2_; have GW223 := n3_; have GE223 := n4_; have NB222_223 := n5_; have NB223_222 := n6_; clear n0_ n1_ n2_ n3_ n4_ n5_ n6_; clear hb hbox hg))
 go_loopg [6] k (fun kq v6 w' => ∃ (x6_1 : Int) (x224000_1 : ByteArray) (x224001_1 : Int) (x224002_1 : Int), v6 = .int .i64 x6_1 ∧ Aside0 (crucibleref12_Find.l0 kq a1 x6_1 a0_0 l0_1 = some (r1, r2, r3, r4)) ∧ Aside0 (kq ≤ k) ∧ Aside0 (w'.heap[gb222]? = some (.cells #[.int .i64 a0_0, (.slice A0_1 l0_1.length c0_1)] 28 (0, 0))) ∧ Aside0 (w'.heap[gb223]? = some (.cells #[.string x224000_1, .int .i64 x224001_1, .int .i64 x224002_1] 72 (0, 0))) ∧ Aside0 (Below w.heap.size w w'))
 case atStart => exact ⟨(0), ((⟨#[]⟩ : ByteArray)), (0), (0), (by first | rfl | (simp; done) | (simp [*]; done)), H', ⟨Nat.le_refl _⟩, ⟨by (with_reducible repeat (first | refine blk_drewN ?_ _ | refine blk_drew ?_ | refine blk_alloc ?_ _)); exact BK222.out⟩, ⟨by (with_reducible repeat (first | refine blk_drewN ?_ _ | refine blk_drew ?_ | refine blk_alloc ?_ _)); exact BK223.out⟩, ⟨by repeat (first | (with_reducible first | exact HB.out | apply below_alloc | apply pw_below_drewN | apply below_drew1 | refine below_set ?_ GE222.out | refine below_set ?_ GE223.out) | exact HB.out)⟩⟩
 case round =>
  clear H'
  try clear p2
  try clear c4
  obtain ⟨x6_1, x224000_1, x224001_1, x224002_1, rfl, HA, HK1, BK222, BK223, HB⟩ := hrel
  cases gk with
  | zero => exact absurd HA.out (by simp [crucibleref12_Find.l0])
  | succ k1 =>
   have H := HA.out
   clear HA
   simp only [crucibleref12_Find.l0] at H
   have HC5 := Aside0.mk H
   clear H
   go_upto_region 2 with (fail)
   go_cut [15] (fun v15 wc => ∃ (kq : Nat) (x15_4 : Bool), v15 = .bool x15_4 ∧ Aside0 (crucibleref12_Find.j1 kq a1 x6_1 x15_4 a0_0 l0_1 = some (r1, r2, r3, r4)) ∧ Aside0 (kq ≤ k1) ∧ Aside0 (wc.heap[gb222]? = some (.cells #[.int .i64 a0_0, (.slice A0_1 l0_1.length c0_1)] 28 (0, 0))) ∧ Aside0 (wc.heap[gb223]? = some (.cells #[.string x224000_1, .int .i64 x224001_1, .int .i64 x224002_1] 72 (0, 0))) ∧ Aside0 (Below w.heap.size w wc))
   case first =>
    have H := HC5.out
    clear HC5
    by_cases c6 : x6_1 < (l0_1.length : Int)
    ·
     rw [if_pos c6] at H
     have c6b0 : decide (x6_1 < (l0_1.length : Int)) = true := decide_eq_true c6
     clear c6
     (first | rw [c6b0] | (simp only [i64_w, i32_w]; rw [c6b0]) | rw [c6b2] | skip)
     replace H := Option.bind_eq_some_iff.mp H
     obtain ⟨t224, A70, H⟩ := H
     replace H : (crucibleref12_Find.j1 k1 a1 x6_1 t224 a0_0 l0_1) = some (r1, r2, r3, r4) := H
     have A7 := Aside0.mk A70
     clear A70
     have H' := Aside0.mk H
     clear H
     have hnb8 := NB222_223.out
     have hnc8 := NB223_222.out
     have hcz9_0 : wr.cell? ⟨gb222, 0, none⟩ = some (.int .i64 a0_0) := (blk_cell BK222.out 0).trans rfl
     have hcz9_1 : wr.cell? ⟨gb222, 1, none⟩ = some (.slice A0_1 l0_1.length c0_1) := (blk_cell BK222.out 1).trans rfl
     have hfz9_0 := blk_frozen BK222.out 0
     have hfz9_1 := blk_frozen BK222.out 1
     go_wp2_with (first | (go_at_call 37; (with_reducible refine (crucibleref12_DiskMay.calls k1 a0_0 _ _ l0_1 t224 _ ?side1 ?side2 A7.out).mono ?_); (case side1 => repeat (first | exact (Kd.C_below HR0_1.out HB.out) | (with_reducible refine Kd.C_alloc ?_ _) | (with_reducible refine Kd.C_drewN ?_ _) | (with_reducible refine Kd.C_drew ?_))); (case side2 => exact HC0_1.out); rintro e w10 ⟨rfl, hb⟩; have n0_ := Aside0.mk (blk_below (g := gb222) (o := .cells #[.int .i64 a0_0, .slice A0_1 l0_1.length c0_1] 28 (0, 0)) (by (with_reducible repeat (first | refine blk_drewN ?_ _ | refine blk_drew ?_ | refine blk_alloc ?_ _)); exact BK222.out) hb); have n1_ := Aside0.mk (blk_below (g := gb223) (o := .cells #[.string x224000_1, .int .i64 x224001_1, .int .i64 x224002_1] 72 (0, 0)) (by (with_reducible repeat (first | refine blk_drewN ?_ _ | refine blk_drew ?_ | refine blk_alloc ?_ _)); exact BK223.out) hb); have n2_ := Aside0.mk (below_step (by repeat (first | (with_reducible first | exact HB.out | apply below_alloc | apply pw_below_drewN | apply below_drew1 | refine below_set ?_ GE222.out | refine below_set ?_ GE223.out) | exact HB.out)) hb); clear BK222; clear BK223; clear HB; have BK222 := n0_; have BK223 := n1_; have HB := n2_; clear n0_ n1_ n2_; (try clear hb); (try clear hb2); (try clear hk); (try clear hi)))
     go_meet
     case rel => exact ⟨_, (t224), (by first | rfl | (simp; done) | (simp [*]; done)), H', ⟨by have := HK1.out; first | omega | exact Nat.le_refl _⟩, ⟨by (with_reducible repeat (first | refine blk_drewN ?_ _ | refine blk_drew ?_ | refine blk_alloc ?_ _)); exact BK222.out⟩, ⟨by (with_reducible repeat (first | refine blk_drewN ?_ _ | refine blk_drew ?_ | refine blk_alloc ?_ _)); exact BK223.out⟩, ⟨by repeat (first | (with_reducible first | exact HB.out | apply below_alloc | apply pw_below_drewN | apply below_drew1 | refine below_set ?_ GE222.out | refine below_set ?_ GE223.out) | exact HB.out)⟩⟩
    ·
     rw [if_neg c6] at H
     have c6b0 : decide (x6_1 < (l0_1.length : Int)) = false := decide_eq_false c6
     clear c6
     (first | rw [c6b0] | (simp only [i64_w, i32_w]; rw [c6b0]) | rw [c6b2] | skip)
     have H' := Aside0.mk H
     clear H
     have hnb11 := NB222_223.out
     have hnc11 := NB223_222.out
     have hcz12_0 : wr.cell? ⟨gb222, 0, none⟩ = some (.int .i64 a0_0) := (blk_cell BK222.out 0).trans rfl
     have hcz12_1 : wr.cell? ⟨gb222, 1, none⟩ = some (.slice A0_1 l0_1.length c0_1) := (blk_cell BK222.out 1).trans rfl
     have hfz12_0 := blk_frozen BK222.out 0
     have hfz12_1 := blk_frozen BK222.out 1
     go_wp2
     go_meet
     case rel => exact ⟨_, (false), (by first | rfl | (simp; done) | (simp [*]; done)), H', ⟨by have := HK1.out; first | omega | exact Nat.le_refl _⟩, ⟨by (with_reducible repeat (first | refine blk_drewN ?_ _ | refine blk_drew ?_ | refine blk_alloc ?_ _)); exact BK222.out⟩, ⟨by (with_reducible repeat (first | refine blk_drewN ?_ _ | refine blk_drew ?_ | refine blk_alloc ?_ _)); exact BK223.out⟩, ⟨by repeat (first | (with_reducible first | exact HB.out | apply below_alloc | apply pw_below_drewN | apply below_drew1 | refine below_set ?_ GE222.out | refine below_set ?_ GE223.out) | exact HB.out)⟩⟩
   case rest =>
    clear HC5
    try clear c1
    try clear p2
    try clear c4
    try clear c6
    try clear c6b0
    try clear c6b2
    try clear c8
    try clear c11
    try clear hcz12_0
    try clear hcz12_1
    try clear hcz9_0
    try clear hcz9_1
    try clear hfz12_0
    try clear hfz12_1
    try clear hfz9_0
    try clear hfz9_1
    try clear p2
    obtain ⟨kq, x15_4, rfl, HA, HJ4, BK222, BK223, HB⟩ := hcut
    cases kq with
    | zero => exact absurd HA.out (by simp [crucibleref12_Find.j1])
    | succ kj4 =>
     have H := HA.out
     clear HA
     simp only [crucibleref12_Find.j1] at H
     by_cases c13 : x15_4 = true
     ·
      subst c13
      have H1 : (if 0 ≤ x6_1 then (if x6_1 < (l0_1.length : Int) then (if ((rd_T72 l0_1 x6_1).f0).toList = a1.toList then (some ((rd_T72 l0_1 x6_1).f0, (rd_T72 l0_1 x6_1).f1, (rd_T72 l0_1 x6_1).f2, true)) else (crucibleref12_Find.l0 kj4 a1 (wrap64 (x6_1 + 1)) a0_0 l0_1)) else (none)) else (none)) = some (r1, r2, r3, r4) := by rw [if_pos rfl] at H; exact H
      clear H
      have H := H1
      clear H1
      by_cases c14 : 0 ≤ x6_1
      ·
       rw [if_pos c14] at H
       have c14b0 : decide (0 ≤ x6_1) = true := decide_eq_true c14
       clear c14
       by_cases c15 : x6_1 < (l0_1.length : Int)
       ·
        rw [if_pos c15] at H
        have c15b0 : decide (x6_1 < (l0_1.length : Int)) = true := decide_eq_true c15
        clear c15
        by_cases c16 : ((rd_T72 l0_1 x6_1).f0).toList = a1.toList
        ·
         rw [if_pos c16] at H
         have c16b0 : (((rd_T72 l0_1 x6_1).f0).toList == a1.toList) = true := beq_iff_eq.mpr c16
         have c16b1 : (((rd_T72 l0_1 x6_1).f0).toList != a1.toList) = false := bne_eq_false_iff_eq.mpr c16
         clear c16
         simp only [Option.some.injEq, Prod.mk.injEq] at H
         obtain ⟨rfl, rfl, rfl, rfl⟩ := H
         have hnb17 := NB222_223.out
         have hnc17 := NB223_222.out
         have hcz18_0 : wc.cell? ⟨gb222, 0, none⟩ = some (.int .i64 a0_0) := (blk_cell BK222.out 0).trans rfl
         have hcz18_1 : wc.cell? ⟨gb222, 1, none⟩ = some (.slice A0_1 l0_1.length c0_1) := (blk_cell BK222.out 1).trans rfl
         have hfz18_0 := blk_frozen BK222.out 0
         have hfz18_1 := blk_frozen BK222.out 1
         have p225 : 0 ≤ (x6_1 : Int) := of_decide_eq_true (by first | (with_reducible assumption) | assumption)
         have q225 : x6_1 < (l0_1.length : Int) := of_decide_eq_true (by first | (with_reducible assumption) | assumption)
         obtain ⟨ad225, e225, hx225_0, hx225_1, hx225_2⟩ := at_T72 HR0_1.out x6_1 p225 q225
         cases e225
         replace hx225_0 := (HB.out.cell (World.block_lt_of_cell? w _ hx225_0)).trans hx225_0
         replace hx225_1 := (HB.out.cell (World.block_lt_of_cell? w _ hx225_1)).trans hx225_1
         replace hx225_2 := (HB.out.cell (World.block_lt_of_cell? w _ hx225_2)).trans hx225_2
         replace p225 := eq_true p225
         replace q225 := eq_true q225
         have p226 : 0 ≤ (x6_1 : Int) := of_decide_eq_true (by first | (with_reducible assumption) | assumption)
         have q226 : x6_1 < (l0_1.length : Int) := of_decide_eq_true (by first | (with_reducible assumption) | assumption)
         obtain ⟨ad226, e226, hx226_0, hx226_1, hx226_2⟩ := at_T72 HR0_1.out x6_1 p226 q226
         obtain rfl : ad225 = ad226 := (by injection e226)
         replace hx226_0 := (HB.out.cell (World.block_lt_of_cell? w _ hx226_0)).trans hx226_0
         replace hx226_1 := (HB.out.cell (World.block_lt_of_cell? w _ hx226_1)).trans hx226_1
         replace hx226_2 := (HB.out.cell (World.block_lt_of_cell? w _ hx226_2)).trans hx226_2
         replace p226 := eq_true p226
         replace q226 := eq_true q226
         have hcz19_0 : wc.cell? ⟨gb223, 0, none⟩ = some (.string x224000_1) := (blk_cell BK223.out 0).trans rfl
         have hcz19_1 : wc.cell? ⟨gb223, 1, none⟩ = some (.int .i64 x224001_1) := (blk_cell BK223.out 1).trans rfl
         have hcz19_2 : wc.cell? ⟨gb223, 2, none⟩ = some (.int .i64 x224002_1) := (blk_cell BK223.out 2).trans rfl
         have hfz19_0 := blk_frozen BK223.out 0
         have hfz19_1 := blk_frozen BK223.out 1
         have hfz19_2 := blk_frozen BK223.out 2
         go_wp2
         refine bodyPost_ret (results_ct rfl _ _ gb223 72 #[.string ((rd_T72 l0_1 x6_1).f0), .int .i64 ((rd_T72 l0_1 x6_1).f1), .int .i64 ((rd_T72 l0_1 x6_1).f2)] (0, 0) _ rfl (by (with_reducible repeat (first | refine blk_drewN ?_ _ | refine blk_drew ?_ | refine blk_alloc ?_ _)); refine blk_put (cs := #[.string ((rd_T72 l0_1 x6_1).f0), .int .i64 ((rd_T72 l0_1 x6_1).f1), .int .i64 x224002_1]) ?_ 2 _ rfl; (with_reducible repeat (first | refine blk_drewN ?_ _ | refine blk_drew ?_ | refine blk_alloc ?_ _)); refine blk_put (cs := #[.string ((rd_T72 l0_1 x6_1).f0), .int .i64 x224001_1, .int .i64 x224002_1]) ?_ 1 _ rfl; (with_reducible repeat (first | refine blk_drewN ?_ _ | refine blk_drew ?_ | refine blk_alloc ?_ _)); refine blk_put (cs := #[.string x224000_1, .int .i64 x224001_1, .int .i64 x224002_1]) ?_ 0 _ rfl; (with_reducible repeat (first | refine blk_drewN ?_ _ | refine blk_drew ?_ | refine blk_alloc ?_ _)); exact BK223.out) Tryd.underlying72 rfl (by kernel_rfl)) rfl ?_
         exact ⟨by first | rfl | (simp [errW_none, errW_some] <;> rfl) | (simp [*, errW_none, errW_some] <;> rfl), by repeat (first | (with_reducible first | exact HB.out | apply below_alloc | apply pw_below_drewN | apply below_drew1 | refine below_set ?_ GE222.out | refine below_set ?_ GE223.out) | exact HB.out)⟩
        ·
         rw [if_neg c16] at H
         have c16b0 : (((rd_T72 l0_1 x6_1).f0).toList == a1.toList) = false := beq_eq_false_iff_ne.mpr c16
         have c16b1 : (((rd_T72 l0_1 x6_1).f0).toList != a1.toList) = true := bne_iff_ne.mpr c16
         have H' := Aside0.mk H
         clear H
         have hnb20 := NB222_223.out
         have hnc20 := NB223_222.out
         have hcz21_0 : wc.cell? ⟨gb222, 0, none⟩ = some (.int .i64 a0_0) := (blk_cell BK222.out 0).trans rfl
         have hcz21_1 : wc.cell? ⟨gb222, 1, none⟩ = some (.slice A0_1 l0_1.length c0_1) := (blk_cell BK222.out 1).trans rfl
         have hfz21_0 := blk_frozen BK222.out 0
         have hfz21_1 := blk_frozen BK222.out 1
         have p225 : 0 ≤ (x6_1 : Int) := of_decide_eq_true (by first | (with_reducible assumption) | assumption)
         have q225 : x6_1 < (l0_1.length : Int) := of_decide_eq_true (by first | (with_reducible assumption) | assumption)
         obtain ⟨ad225, e225, hx225_0, hx225_1, hx225_2⟩ := at_T72 HR0_1.out x6_1 p225 q225
         cases e225
         replace hx225_0 := (HB.out.cell (World.block_lt_of_cell? w _ hx225_0)).trans hx225_0
         replace hx225_1 := (HB.out.cell (World.block_lt_of_cell? w _ hx225_1)).trans hx225_1
         replace hx225_2 := (HB.out.cell (World.block_lt_of_cell? w _ hx225_2)).trans hx225_2
         replace p225 := eq_true p225
         replace q225 := eq_true q225
         go_wp2
         go_roundg kj4
         case measure => have := HK1.out; have := HJ4.out; omega
         case rel => exact ⟨(wrap64 (x6_1 + 1)), (x224000_1), (x224001_1), (x224002_1), (by first | rfl | (simp; done) | (simp [*]; done)), H', ⟨by have := HK1.out; have := HJ4.out; omega⟩, ⟨by (with_reducible repeat (first | refine blk_drewN ?_ _ | refine blk_drew ?_ | refine blk_alloc ?_ _)); exact BK222.out⟩, ⟨by (with_reducible repeat (first | refine blk_drewN ?_ _ | refine blk_drew ?_ | refine blk_alloc ?_ _)); exact BK223.out⟩, ⟨by repeat (first | (with_reducible first | exact HB.out | apply below_alloc | apply pw_below_drewN | apply below_drew1 | refine below_set ?_ GE222.out | refine below_set ?_ GE223.out) | exact HB.out)⟩⟩
       ·
        rw [if_neg c15] at H
        exact absurd H (by simp)
      ·
       rw [if_neg c14] at H
       exact absurd H (by simp)
     ·
      replace c13 := Bool.eq_false_iff.mpr c13
      subst c13
      have H1 : (some ((⟨#[]⟩ : ByteArray), 0, 0, false)) = some (r1, r2, r3, r4) := by rw [if_neg (show ¬ (false = true) by decide)] at H; exact H
      clear H
      have H := H1
      clear H1
      simp only [Option.some.injEq, Prod.mk.injEq] at H
      obtain ⟨rfl, rfl, rfl, rfl⟩ := H
      have hnb22 := NB223_222.out
      have hnc22 := NB222_223.out
      have hcz23_0 : wc.cell? ⟨gb223, 0, none⟩ = some (.string x224000_1) := (blk_cell BK223.out 0).trans rfl
      have hcz23_1 : wc.cell? ⟨gb223, 1, none⟩ = some (.int .i64 x224001_1) := (blk_cell BK223.out 1).trans rfl
      have hcz23_2 : wc.cell? ⟨gb223, 2, none⟩ = some (.int .i64 x224002_1) := (blk_cell BK223.out 2).trans rfl
      have hfz23_0 := blk_frozen BK223.out 0
      have hfz23_1 := blk_frozen BK223.out 1
      have hfz23_2 := blk_frozen BK223.out 2
      go_wp2
      refine bodyPost_ret (results_ct rfl _ _ gb223 72 #[.string (⟨#[]⟩ : ByteArray), .int .i64 0, .int .i64 0] (0, 0) _ rfl (by (with_reducible repeat (first | refine blk_drewN ?_ _ | refine blk_drew ?_ | refine blk_alloc ?_ _)); refine blk_put (cs := #[.string (⟨#[]⟩ : ByteArray), .int .i64 0, .int .i64 x224002_1]) ?_ 2 _ rfl; (with_reducible repeat (first | refine blk_drewN ?_ _ | refine blk_drew ?_ | refine blk_alloc ?_ _)); refine blk_put (cs := #[.string (⟨#[]⟩ : ByteArray), .int .i64 x224001_1, .int .i64 x224002_1]) ?_ 1 _ rfl; (with_reducible repeat (first | refine blk_drewN ?_ _ | refine blk_drew ?_ | refine blk_alloc ?_ _)); refine blk_put (cs := #[.string x224000_1, .int .i64 x224001_1, .int .i64 x224002_1]) ?_ 0 _ rfl; (with_reducible repeat (first | refine blk_drewN ?_ _ | refine blk_drew ?_ | refine blk_alloc ?_ _)); exact BK223.out) Tryd.underlying72 rfl (by kernel_rfl)) rfl ?_
      exact ⟨by first | rfl | (simp [errW_none, errW_some] <;> rfl) | (simp [*, errW_none, errW_some] <;> rfl), by repeat (first | (with_reducible first | exact HB.out | apply below_alloc | apply pw_below_drewN | apply below_drew1 | refine below_set ?_ GE222.out | refine below_set ?_ GE223.out) | exact HB.out)⟩

/-! ### crucibleref12_step: function 55 -/
def crucibleref12_step.f (a0 : Int) (a1 : Int) : Option (Int) := some (Int.tmod (wrap64 ((wrap64 (31 * a0)) + a1)) 2147483647)
set_option maxHeartbeats 8000000 in
set_option maxRecDepth 100000 in
theorem crucibleref12_step.calls (a0 : Int) (a1 : Int) (r : Int) (w : World) (h : crucibleref12_step.f a0 a1 = some r) :
  Calls Tryd.prog 55 #[.int .i64 a0, .int .i64 a1] w fun e w' => e = .returned (.int .i64 r) ∧ Drawn0 w w' := by
 have H : (some (Int.tmod (wrap64 ((wrap64 (31 * a0)) + a1)) 2147483647)) = some r := h
 clear h
 obtain rfl := Option.some.inj H
 go_enter Tryd.func55, Tryd.ntmps55
 go_wp2
 go_ret
 exact ⟨by first | rfl | (simp; done) | (simp [*]; done), by repeat (first | exact Drawn0.refl _ | apply Drawn0.step)⟩

end Go.Proofs.YtilnamobmjngbaaDoor.P
