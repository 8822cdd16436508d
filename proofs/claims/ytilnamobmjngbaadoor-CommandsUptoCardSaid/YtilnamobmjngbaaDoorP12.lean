-- Made by a program of this work's own (wip/myprint.py) over the kit's print; leaves by hand.
import Derived.Test.YtilnamobmjngbaaDoorP0
import Derived.Test.YtilnamobmjngbaaDoorWRepsOne
import Derived.Test.YtilnamobmjngbaaDoorP3
import Derived.Test.YtilnamobmjngbaaDoorP5
import Derived.Test.YtilnamobmjngbaaDoorP11
import Derived.BigRegion
import Derived.Test.YtilnamobmjngbaaDoorMg1
namespace Go.Proofs.YtilnamobmjngbaaDoor.P
open Go.RowKit Go.Proofs.YtilnamobmjngbaaDoorW.PrintWords Go.Proofs.YtilnamobmjngbaaDoorW.PrintLast Go.Proofs.YtilnamobmjngbaaDoorW.PrintMore
attribute [local go_sem] max2_int min2_int max_two min_two max_three min_three max_four min_four   -- for this text's walks alone
set_option linter.unusedVariables false
set_option linter.unusedSimpArgs false

/-! ### crucibleref12_ActionOf: function 19 -/
set_option maxRecDepth 100000 in
mutual
def crucibleref12_ActionOf.l0 : Nat → List (S33) → ByteArray → Int → Option (ByteArray × List ByteArray × Bool)
 | 0, _, _, _ => none
 | k + 1, x0, x1, x5 => if x5 < (x0.length : Int) then ((crucibleref12_ActionsMay.f k x0).bind fun t197 => (crucibleref12_ActionOf.j1 k x0 x1 x5 t197)) else (crucibleref12_ActionOf.j1 k x0 x1 x5 false)
def crucibleref12_ActionOf.j1 : Nat → List (S33) → ByteArray → Int → Bool → Option (ByteArray × List ByteArray × Bool)
 | 0, _, _, _, _ => none
 | k + 1, x0, x1, x5, x14 => if x14 = true then (if 0 ≤ x5 then (if x5 < (x0.length : Int) then (if ((rd_T33 x0 x5).f0).toList = x1.toList then ((some (([] : List ByteArray) : List ByteArray)).bind fun y201 => (if y201.length + ((rd_T33 x0 x5).f1).length < 8796093022208 then (some ((rd_T33 x0 x5).f0, (y201 ++ ((rd_T33 x0 x5).f1)), (rd_T33 x0 x5).f2)) else (none))) else (crucibleref12_ActionOf.l0 k x0 x1 (wrap64 (x5 + 1)))) else (none)) else (none)) else (some (x1, ([] : List ByteArray), false))
end
def crucibleref12_ActionOf.f (k : Nat) (l0 : List (S33)) (a1 : ByteArray) : Option (ByteArray × List ByteArray × Bool) := crucibleref12_ActionOf.l0 k l0 a1 0
set_option maxRecDepth 100000 in
theorem crucibleref12_ActionOf.mono_l : ∀ k, (∀ y0 y1 y2, LeO (crucibleref12_ActionOf.l0 k y0 y1 y2) (crucibleref12_ActionOf.l0 (k + 1) y0 y1 y2)) ∧ (∀ y0 y1 y2 y3, LeO (crucibleref12_ActionOf.j1 k y0 y1 y2 y3) (crucibleref12_ActionOf.j1 (k + 1) y0 y1 y2 y3))
 | 0 => ⟨fun _ _ _ r h => by simp [crucibleref12_ActionOf.l0] at h, fun _ _ _ _ r h => by simp [crucibleref12_ActionOf.j1] at h⟩
 | k + 1 => by
  obtain ⟨ih0, ih1⟩ := crucibleref12_ActionOf.mono_l k
  refine ⟨?_, ?_⟩
  ·
   intro y0 y1 y2
   unfold crucibleref12_ActionOf.l0
   repeat' first
   | (with_reducible exact ih0 _ _ _)
   | (with_reducible exact ih1 _ _ _ _)
   | (with_reducible exact crucibleref12_ActionsMay.mono _ _)
   | (with_reducible exact LeO.refl _)
   | (with_reducible exact LeO.none _)
   | (with_reducible refine LeO.ite ?_ ?_)
   | (with_reducible refine LeO.bind ?_ (fun _ => ?_))
   | exact ih0 _ _ _
   | exact ih1 _ _ _ _
   | exact crucibleref12_ActionsMay.mono _ _
   | exact LeO.none _
   | refine LeO.ite ?_ ?_
   | refine LeO.bind ?_ (fun _ => ?_)
  ·
   intro y0 y1 y2 y3
   unfold crucibleref12_ActionOf.j1
   repeat' first
   | (with_reducible exact ih0 _ _ _)
   | (with_reducible exact ih1 _ _ _ _)
   | (with_reducible exact crucibleref12_ActionsMay.mono _ _)
   | (with_reducible exact LeO.refl _)
   | (with_reducible exact LeO.none _)
   | (with_reducible refine LeO.ite ?_ ?_)
   | (with_reducible refine LeO.bind ?_ (fun _ => ?_))
   | exact ih0 _ _ _
   | exact ih1 _ _ _ _
   | exact crucibleref12_ActionsMay.mono _ _
   | exact LeO.none _
   | refine LeO.ite ?_ ?_
   | refine LeO.bind ?_ (fun _ => ?_)
theorem crucibleref12_ActionOf.mono : ∀ a0 a1 k, LeO (crucibleref12_ActionOf.f k a0 a1) (crucibleref12_ActionOf.f (k + 1) a0 a1) := by
 intro a0 a1 k
 obtain ⟨ih0, ih1⟩ := crucibleref12_ActionOf.mono_l k
 unfold crucibleref12_ActionOf.f
 repeat' first
   | (with_reducible exact ih0 _ _ _)
   | (with_reducible exact ih1 _ _ _ _)
   | (with_reducible exact crucibleref12_ActionsMay.mono _ _)
   | (with_reducible exact LeO.refl _)
   | (with_reducible exact LeO.none _)
   | (with_reducible refine LeO.ite ?_ ?_)
   | (with_reducible refine LeO.bind ?_ (fun _ => ?_))
   | exact ih0 _ _ _
   | exact ih1 _ _ _ _
   | exact crucibleref12_ActionsMay.mono _ _
   | exact LeO.none _
   | refine LeO.ite ?_ ?_
   | refine LeO.bind ?_ (fun _ => ?_)
set_option maxHeartbeats 8000000 in
set_option maxRecDepth 100000 in
theorem crucibleref12_ActionOf.calls (k : Nat) (A0 : Option Addr) (c0 : Nat) (l0 : List (S33)) (a1 : ByteArray) (r1 : ByteArray) (r2 : List ByteArray) (r3 : Bool) (w : World) (hr0 : Kd.C k33 w A0 l0.length l0) (hc0 : l0.length ≤ c0) (h : crucibleref12_ActionOf.f k l0 a1 = some (r1, r2, r3)) :
  Calls Tryd.prog 19 #[.slice A0 l0.length c0, .string a1] w fun e w' => ∃ v1_ : Value, e = .returned (.agg #[.string r1, v1_, .bool r3]) ∧ Kd.R Kd.string 9 w' w.heap.size (fun _ => True) v1_ r2 ∧ Below w.heap.size w w' := by
 have hu33 := Tryd.underlying33
 have HR0 := Aside0.mk hr0
 have HC0 := Aside0.mk hc0
 clear hr0 hc0
 have HB := Aside0.mk (Below.refl w.heap.size w)
 have H : (crucibleref12_ActionOf.l0 k l0 a1 0) = some (r1, r2, r3) := h
 clear h
 have H' := Aside0.mk H
 clear H
 go_enter Tryd.func19, Tryd.ntmps19
 go_wp2_with (first | ((with_reducible refine gate_dst (N := 4) rfl ?_); refine box_event ?hg (N := 4) ?hd (cs := #[.string (⟨#[]⟩ : ByteArray), .slice none 0 0, .bool false]) (t := 33) ?hr ?_; (case hd => rfl); (case hg => rfl); (case hr => first | (go_simp; done) | (go_simp; rfl)); intro gb196 hg w3 hbox hb; have n0_ := Aside0.mk (below_step (by repeat (first | (with_reducible first | exact HB.out | apply below_alloc | apply pw_below_drewN | apply below_drew1) | exact HB.out)) hb); have n1_ := Aside0.mk (hbox); have n2_ := Aside0.mk ((by rw [hg]; exact (below_size (by repeat (first | (with_reducible first | exact HB.out | apply below_alloc | apply pw_below_drewN | apply below_drew1) | exact HB.out))) : w.heap.size ≤ gb196)); have n3_ := Aside0.mk ((by rw [hg]; exact (below_size (by repeat (first | (with_reducible first | exact HB.out | apply below_alloc | apply pw_below_drewN | apply below_drew1) | exact HB.out))) : w.heap.size ≤ gb196)); clear HB; have HB := n0_; have BK196 := n1_; have GW196 := n2_; have GE196 := n3_; clear n0_ n1_ n2_ n3_; clear hb hbox hg))
 go_loopg [5] k (fun kq v5 w' => ∃ (x5_1 : Int) (x197000_1 : ByteArray) (x197002_1 : Bool), v5 = .int .i64 x5_1 ∧ Aside0 (crucibleref12_ActionOf.l0 kq l0 a1 x5_1 = some (r1, r2, r3)) ∧ Aside0 (kq ≤ k) ∧ Aside0 (w'.heap[gb196]? = some (.cells #[.string x197000_1, (.slice none 0 0), .bool x197002_1] 33 (0, 0))) ∧ Aside0 (Below w.heap.size w w'))
 case atStart => exact ⟨(0), ((⟨#[]⟩ : ByteArray)), (false), (by first | rfl | (simp; done) | (simp [*]; done)), H', ⟨Nat.le_refl _⟩, ⟨by (with_reducible repeat (first | refine blk_drewN ?_ _ | refine blk_drew ?_ | refine blk_alloc ?_ _)); exact BK196.out⟩, ⟨by repeat (first | (with_reducible first | exact HB.out | apply below_alloc | apply pw_below_drewN | apply below_drew1 | refine below_set ?_ GE196.out) | exact HB.out)⟩⟩
 case round =>
  clear H'
  try clear c1
  try clear p2
  obtain ⟨x5_1, x197000_1, x197002_1, rfl, HA, HK1, BK196, HB⟩ := hrel
  cases gk with
  | zero => exact absurd HA.out (by simp [crucibleref12_ActionOf.l0])
  | succ k1 =>
   have H := HA.out
   clear HA
   simp only [crucibleref12_ActionOf.l0] at H
   have HC4 := Aside0.mk H
   clear H
   go_upto_region 2 with (fail)
   go_cut [14] (fun v14 wc => ∃ (kq : Nat) (x14_3 : Bool), v14 = .bool x14_3 ∧ Aside0 (crucibleref12_ActionOf.j1 kq l0 a1 x5_1 x14_3 = some (r1, r2, r3)) ∧ Aside0 (kq ≤ k1) ∧ Aside0 (wc.heap[gb196]? = some (.cells #[.string x197000_1, (.slice none 0 0), .bool x197002_1] 33 (0, 0))) ∧ Aside0 (Below w.heap.size w wc))
   case first =>
    have H := HC4.out
    clear HC4
    by_cases c5 : x5_1 < (l0.length : Int)
    ·
     rw [if_pos c5] at H
     have c5b0 : decide (x5_1 < (l0.length : Int)) = true := decide_eq_true c5
     clear c5
     (first | rw [c5b0] | (simp only [i64_w, i32_w]; rw [c5b0]) | rw [c5b2] | skip)
     replace H := Option.bind_eq_some_iff.mp H
     obtain ⟨t197, A60, H⟩ := H
     replace H : (crucibleref12_ActionOf.j1 k1 l0 a1 x5_1 t197) = some (r1, r2, r3) := H
     have A6 := Aside0.mk A60
     clear A60
     have H' := Aside0.mk H
     clear H
     go_wp2_with (first | (go_at_call 34; (with_reducible refine (crucibleref12_ActionsMay.calls k1 _ _ l0 t197 _ ?side1 ?side2 A6.out).mono ?_); (case side1 => repeat (first | exact (Kd.C_below HR0.out HB.out) | (with_reducible refine Kd.C_alloc ?_ _) | (with_reducible refine Kd.C_drewN ?_ _) | (with_reducible refine Kd.C_drew ?_))); (case side2 => exact HC0.out); rintro e w7 ⟨rfl, hb⟩; have n0_ := Aside0.mk (blk_below (g := gb196) (o := .cells #[.string x197000_1, .slice none 0 0, .bool x197002_1] 33 (0, 0)) (by (with_reducible repeat (first | refine blk_drewN ?_ _ | refine blk_drew ?_ | refine blk_alloc ?_ _)); exact BK196.out) hb); have n1_ := Aside0.mk (below_step (by repeat (first | (with_reducible first | exact HB.out | apply below_alloc | apply pw_below_drewN | apply below_drew1 | refine below_set ?_ GE196.out) | exact HB.out)) hb); clear BK196; clear HB; have BK196 := n0_; have HB := n1_; clear n0_ n1_; (try clear hb); (try clear hb2); (try clear hk); (try clear hi)))
     go_meet
     case rel => exact ⟨_, (t197), (by first | rfl | (simp; done) | (simp [*]; done)), H', ⟨by have := HK1.out; first | omega | exact Nat.le_refl _⟩, ⟨by (with_reducible repeat (first | refine blk_drewN ?_ _ | refine blk_drew ?_ | refine blk_alloc ?_ _)); exact BK196.out⟩, ⟨by repeat (first | (with_reducible first | exact HB.out | apply below_alloc | apply pw_below_drewN | apply below_drew1 | refine below_set ?_ GE196.out) | exact HB.out)⟩⟩
    ·
     rw [if_neg c5] at H
     have c5b0 : decide (x5_1 < (l0.length : Int)) = false := decide_eq_false c5
     clear c5
     (first | rw [c5b0] | (simp only [i64_w, i32_w]; rw [c5b0]) | rw [c5b2] | skip)
     have H' := Aside0.mk H
     clear H
     go_wp2
     go_meet
     case rel => exact ⟨_, (false), (by first | rfl | (simp; done) | (simp [*]; done)), H', ⟨by have := HK1.out; first | omega | exact Nat.le_refl _⟩, ⟨by (with_reducible repeat (first | refine blk_drewN ?_ _ | refine blk_drew ?_ | refine blk_alloc ?_ _)); exact BK196.out⟩, ⟨by repeat (first | (with_reducible first | exact HB.out | apply below_alloc | apply pw_below_drewN | apply below_drew1 | refine below_set ?_ GE196.out) | exact HB.out)⟩⟩
   case rest =>
    clear HC4
    try clear c1
    try clear p2
    try clear c5
    try clear c5b0
    try clear c5b2
    try clear p2
    obtain ⟨kq, x14_3, rfl, HA, HJ3, BK196, HB⟩ := hcut
    cases kq with
    | zero => exact absurd HA.out (by simp [crucibleref12_ActionOf.j1])
    | succ kj3 =>
     have H := HA.out
     clear HA
     simp only [crucibleref12_ActionOf.j1] at H
     by_cases c8 : x14_3 = true
     ·
      subst c8
      have H1 : (if 0 ≤ x5_1 then (if x5_1 < (l0.length : Int) then (if ((rd_T33 l0 x5_1).f0).toList = a1.toList then ((some (([] : List ByteArray) : List ByteArray)).bind fun y201 => (if y201.length + ((rd_T33 l0 x5_1).f1).length < 8796093022208 then (some ((rd_T33 l0 x5_1).f0, (y201 ++ ((rd_T33 l0 x5_1).f1)), (rd_T33 l0 x5_1).f2)) else (none))) else (crucibleref12_ActionOf.l0 kj3 l0 a1 (wrap64 (x5_1 + 1)))) else (none)) else (none)) = some (r1, r2, r3) := by rw [if_pos rfl] at H; exact H
      clear H
      have H := H1
      clear H1
      by_cases c9 : 0 ≤ x5_1
      ·
       rw [if_pos c9] at H
       have c9b0 : decide (0 ≤ x5_1) = true := decide_eq_true c9
       clear c9
       by_cases c10 : x5_1 < (l0.length : Int)
       ·
        rw [if_pos c10] at H
        have c10b0 : decide (x5_1 < (l0.length : Int)) = true := decide_eq_true c10
        clear c10
        by_cases c11 : ((rd_T33 l0 x5_1).f0).toList = a1.toList
        ·
         rw [if_pos c11] at H
         have c11b0 : (((rd_T33 l0 x5_1).f0).toList == a1.toList) = true := beq_iff_eq.mpr c11
         have c11b1 : (((rd_T33 l0 x5_1).f0).toList != a1.toList) = false := bne_eq_false_iff_eq.mpr c11
         clear c11
         obtain ⟨y201, hy201⟩ : ∃ y_ : List ByteArray, y_ = (([] : List ByteArray)) := ⟨_, rfl⟩
         replace H : (if y201.length + ((rd_T33 l0 x5_1).f1).length < 8796093022208 then (some ((rd_T33 l0 x5_1).f0, (y201 ++ ((rd_T33 l0 x5_1).f1)), (rd_T33 l0 x5_1).f2)) else (none)) = some (r1, r2, r3) := by first | (rw [hy201]; with_reducible exact H) | (have H2_ := (Option.bind_some _ _).symm.trans H; rw [hy201]; with_reducible exact H2_) | (have H2_ := (Option.bind_some _ _).symm.trans H; with_reducible exact H2_) | with_reducible exact H | (rw [hy201]; exact H) | exact H
         have Ny201 := Aside0.mk hy201
         clear hy201
         by_cases c12 : y201.length + ((rd_T33 l0 x5_1).f1).length < 8796093022208
         ·
          rw [if_pos c12] at H
          have LMc12 := Aside0.mk c12
          clear c12
          obtain ⟨y204, hy204⟩ : ∃ y_ : List ByteArray, y_ = (y201 ++ ((rd_T33 l0 x5_1).f1)) := ⟨_, rfl⟩
          replace H : (some ((rd_T33 l0 x5_1).f0, y204, (rd_T33 l0 x5_1).f2)) = some (r1, r2, r3) := by first | (rw [hy204]; with_reducible exact H) | (have H2_ := (Option.bind_some _ _).symm.trans H; rw [hy204]; with_reducible exact H2_) | (have H2_ := (Option.bind_some _ _).symm.trans H; with_reducible exact H2_) | with_reducible exact H | (rw [hy204]; exact H) | exact H
          have Ny204 := Aside0.mk hy204
          clear hy204
          simp only [Option.some.injEq, Prod.mk.injEq] at H
          obtain ⟨rfl, rfl, rfl⟩ := H
          have p198 : 0 ≤ (x5_1 : Int) := of_decide_eq_true (by first | (with_reducible assumption) | assumption)
          have q198 : x5_1 < (l0.length : Int) := of_decide_eq_true (by first | (with_reducible assumption) | assumption)
          obtain ⟨ad198, A198_1, c198_1, e198, hx198_0, hx198_1, hx198_2, hl198_1, hi198_1⟩ := at_T33 HR0.out x5_1 p198 q198
          cases e198
          replace hx198_0 := (HB.out.cell (World.block_lt_of_cell? w _ hx198_0)).trans hx198_0
          replace hx198_1 := (HB.out.cell (World.block_lt_of_cell? w _ hx198_1)).trans hx198_1
          replace hx198_2 := (HB.out.cell (World.block_lt_of_cell? w _ hx198_2)).trans hx198_2
          have HR198_1 := Aside0.mk hi198_1
          have HC198_1 := Aside0.mk hl198_1
          clear hi198_1 hl198_1
          replace p198 := eq_true p198
          replace q198 := eq_true q198
          have p199 : 0 ≤ (x5_1 : Int) := of_decide_eq_true (by first | (with_reducible assumption) | assumption)
          have q199 : x5_1 < (l0.length : Int) := of_decide_eq_true (by first | (with_reducible assumption) | assumption)
          obtain ⟨ad199, A199_1, c199_1, e199, hx199_0, hx199_1, hx199_2, hl199_1, hi199_1⟩ := at_T33 HR0.out x5_1 p199 q199
          obtain rfl : ad198 = ad199 := (by injection e199)
          replace hx199_0 := (HB.out.cell (World.block_lt_of_cell? w _ hx199_0)).trans hx199_0
          replace hx199_1 := (HB.out.cell (World.block_lt_of_cell? w _ hx199_1)).trans hx199_1
          replace hx199_2 := (HB.out.cell (World.block_lt_of_cell? w _ hx199_2)).trans hx199_2
          have HR199_1 := Aside0.mk hi199_1
          have HC199_1 := Aside0.mk hl199_1
          clear hi199_1 hl199_1
          replace p199 := eq_true p199
          replace q199 := eq_true q199
          have ea_ := Option.some.inj (hx198_1.symm.trans hx199_1)
          injection ea_ with ea_ en_ ec_
          subst ea_
          subst ec_
          clear en_
          go_wp2_with (first | ((with_reducible refine gate_dst (N := 6) rfl ?_); refine box_event ?hg (N := 6) ?hd (cs := #[.string (⟨#[]⟩ : ByteArray), .slice none 0 0, .bool false]) (t := 33) ?hr ?_; (case hd => rfl); (case hg => rfl); (case hr => first | (go_simp; done) | (go_simp; rfl)); intro gb200 hg w13 hbox hb; have n0_ := Aside0.mk (blk_below (g := gb196) (o := .cells #[.string x197000_1, .slice none 0 0, .bool x197002_1] 33 (0, 0)) (by (with_reducible repeat (first | refine blk_drewN ?_ _ | refine blk_drew ?_ | refine blk_alloc ?_ _)); exact BK196.out) hb); have n1_ := Aside0.mk (below_step (by repeat (first | (with_reducible first | exact HB.out | apply below_alloc | apply pw_below_drewN | apply below_drew1 | refine below_set ?_ GE196.out) | exact HB.out)) hb); have n2_ := Aside0.mk (hbox); have n3_ := Aside0.mk ((by rw [hg]; exact (below_size (by repeat (first | (with_reducible first | exact HB.out | apply below_alloc | apply pw_below_drewN | apply below_drew1 | refine below_set ?_ GE196.out) | exact HB.out))) : w.heap.size ≤ gb200)); have n4_ := Aside0.mk ((by rw [hg]; exact (below_size (by repeat (first | (with_reducible first | exact HB.out | apply below_alloc | apply pw_below_drewN | apply below_drew1 | refine below_set ?_ GE196.out) | exact HB.out))) : w.heap.size ≤ gb200)); have n5_ := Aside0.mk ((by rw [hg]; exact Nat.ne_of_lt (blk_lt (g := gb196) (o := .cells #[.string x197000_1, .slice none 0 0, .bool x197002_1] 33 (0, 0)) (by (with_reducible repeat (first | refine blk_drewN ?_ _ | refine blk_drew ?_ | refine blk_alloc ?_ _)); exact BK196.out)) : gb196 ≠ gb200)); have n6_ := Aside0.mk ((by rw [hg]; exact Nat.ne_of_gt (blk_lt (g := gb196) (o := .cells #[.string x197000_1, .slice none 0 0, .bool x197002_1] 33 (0, 0)) (by (with_reducible repeat (first | refine blk_drewN ?_ _ | refine blk_drew ?_ | refine blk_alloc ?_ _)); exact BK196.out)) : gb200 ≠ gb196)); clear BK196; clear HB; have BK196 := n0_; have HB := n1_; have BK200 := n2_; have GW200 := n3_; have GE200 := n4_; have NB196_200 := n5_; have NB200_196 := n6_; clear n0_ n1_ n2_ n3_ n4_ n5_ n6_; clear hb hbox hg; have hnb14 := NB200_196.out; have hnc14 := NB196_200.out; have hcz15_0 : w13.cell? ⟨gb200, 0, none⟩ = some (.string (⟨#[]⟩ : ByteArray)) := (blk_cell BK200.out 0).trans rfl; have hcz15_1 : w13.cell? ⟨gb200, 1, none⟩ = some (.slice none 0 0) := (blk_cell BK200.out 1).trans rfl; have hcz15_2 : w13.cell? ⟨gb200, 2, none⟩ = some (.bool false) := (blk_cell BK200.out 2).trans rfl; have hfz15_0 := blk_frozen BK200.out 0; have hfz15_1 := blk_frozen BK200.out 1; have hfz15_2 := blk_frozen BK200.out 2) | ((with_reducible refine gate_dst (N := 28) rfl ?_); refine Kd.R_lit Kd.string _ 9 ?hg (N := 28) ?hd (xs := ([] : List ByteArray)) (inner := []) (ok := fun _ => True) (okp := fun _ => True) ?hr ?hp (fun _ hk => hk) trivial (Below.refl _ _) (Nat.le_refl _) (by simp) ?_; (case hd => rfl); (case hg => rfl); (case hr => first | (go_simp; done) | (go_simp; rfl)); (case hp => exact (Reps.none _ _)); intro v202 w16 ho17 hb hg_ hnew_; clear hg_ hnew_; (first | rw [← Ny201.out] at ho17 | (simp only [Int.reduceToNat] at ho17; rw [← Ny201.out] at ho17)); have n0_ := Aside0.mk (Kd.R_lower ho17 (below_size (by repeat (first | (with_reducible first | exact HB.out | apply below_alloc | apply pw_below_drewN | apply below_drew1 | refine below_set ?_ GE196.out | refine below_set ?_ GE200.out) | exact HB.out)))); have n1_ := Aside0.mk (blk_below (g := gb196) (o := .cells #[.string x197000_1, .slice none 0 0, .bool x197002_1] 33 (0, 0)) (by (with_reducible repeat (first | refine blk_drewN ?_ _ | refine blk_drew ?_ | refine blk_alloc ?_ _)); refine blk_far ?_ NB196_200.out _; (with_reducible repeat (first | refine blk_drewN ?_ _ | refine blk_drew ?_ | refine blk_alloc ?_ _)); refine blk_far ?_ NB196_200.out _; (with_reducible repeat (first | refine blk_drewN ?_ _ | refine blk_drew ?_ | refine blk_alloc ?_ _)); refine blk_far ?_ NB196_200.out _; (with_reducible repeat (first | refine blk_drewN ?_ _ | refine blk_drew ?_ | refine blk_alloc ?_ _)); exact BK196.out) hb); have n2_ := Aside0.mk (blk_below (g := gb200) (o := .cells #[.string ((rd_T33 l0 x5_1).f0), .slice A198_1 ((rd_T33 l0 x5_1).f1).length c198_1, .bool ((rd_T33 l0 x5_1).f2)] 33 (0, 0)) (by (with_reducible repeat (first | refine blk_drewN ?_ _ | refine blk_drew ?_ | refine blk_alloc ?_ _)); refine blk_put (cs := #[.string ((rd_T33 l0 x5_1).f0), .slice A198_1 ((rd_T33 l0 x5_1).f1).length c198_1, .bool false]) ?_ 2 _ rfl; (with_reducible repeat (first | refine blk_drewN ?_ _ | refine blk_drew ?_ | refine blk_alloc ?_ _)); refine blk_put (cs := #[.string ((rd_T33 l0 x5_1).f0), .slice none 0 0, .bool false]) ?_ 1 _ rfl; (with_reducible repeat (first | refine blk_drewN ?_ _ | refine blk_drew ?_ | refine blk_alloc ?_ _)); refine blk_put (cs := #[.string (⟨#[]⟩ : ByteArray), .slice none 0 0, .bool false]) ?_ 0 _ rfl; (with_reducible repeat (first | refine blk_drewN ?_ _ | refine blk_drew ?_ | refine blk_alloc ?_ _)); exact BK200.out) hb); have n3_ := Aside0.mk (below_step (by repeat (first | (with_reducible first | exact HB.out | apply below_alloc | apply pw_below_drewN | apply below_drew1 | refine below_set ?_ GE196.out | refine below_set ?_ GE200.out) | exact HB.out)) hb); clear BK196; clear BK200; clear HB; have HO203 := n0_; have BK196 := n1_; have BK200 := n2_; have HB := n3_; clear n0_ n1_ n2_ n3_; clear hb ho17; have hcz18_0 : w16.cell? ⟨gb200, 0, none⟩ = some (.string ((rd_T33 l0 x5_1).f0)) := (blk_cell BK200.out 0).trans rfl; have hcz18_1 : w16.cell? ⟨gb200, 1, none⟩ = some (.slice A198_1 ((rd_T33 l0 x5_1).f1).length c198_1) := (blk_cell BK200.out 1).trans rfl; have hcz18_2 : w16.cell? ⟨gb200, 2, none⟩ = some (.bool ((rd_T33 l0 x5_1).f2)) := (blk_cell BK200.out 2).trans rfl; have hfz18_0 := blk_frozen BK200.out 0; have hfz18_1 := blk_frozen BK200.out 1; have hfz18_2 := blk_frozen BK200.out 2) | ((with_reducible refine gate_builtin (b := .append) (xs := #[.tmp 28, .tmp 30]) rfl ?_); at_builtin; refine Kd.R_append_rows Kd.string (w0 := w) w.heap.size rfl (.tmp 28) (.tmp 30) 23 9 (.string ⟨#[]⟩) 16 rfl Tryd.underlying23 info9 rfl (by decide) (by omega) v202 y201 ((rd_T33 l0 x5_1).f1) _ _ _ (fun _ => True) (fun _ => False) rfl rfl ?aO ?aR (fun _ _ h => h) (fun _ h => h.elim) ?aF ?aB ?aS ?aL ?_; (case aR => repeat (first | exact (Kd.C_below HR199_1.out HB.out) | (with_reducible refine Kd.C_alloc ?_ _) | (with_reducible refine Kd.C_drewN ?_ _) | (with_reducible refine Kd.C_drew ?_))); (case aB => exact (by repeat (first | (with_reducible first | exact HB.out | apply below_alloc | apply pw_below_drewN | apply below_drew1 | refine below_set ?_ GE196.out | refine below_set ?_ GE200.out) | exact HB.out))); (case aF => exact (fun _ _ => trivial)); (case aO => exact (by (with_reducible repeat (first | apply Kd.R_alloc | apply Kd.R_drewN | apply Kd.R_drew)); exact HO203.out)); (case aS => exact (below_size (by repeat (first | (with_reducible first | exact HB.out | apply below_alloc | apply pw_below_drewN | apply below_drew1 | refine below_set ?_ GE196.out | refine below_set ?_ GE200.out) | exact HB.out)))); (case aL => have := LMc12.out; omega); intro v205 w19 ho hb hg hat; rw [← Ny204.out] at ho; have n0_ := Aside0.mk (blk_grown (g := gb196) (o := .cells #[.string x197000_1, .slice none 0 0, .bool x197002_1] 33 (0, 0)) (by (with_reducible repeat (first | refine blk_drewN ?_ _ | refine blk_drew ?_ | refine blk_alloc ?_ _)); exact BK196.out) hg (Kd.R_ne HO203.out BK196.out (by decide))); have n1_ := Aside0.mk (blk_grown (g := gb200) (o := .cells #[.string ((rd_T33 l0 x5_1).f0), .slice A198_1 ((rd_T33 l0 x5_1).f1).length c198_1, .bool ((rd_T33 l0 x5_1).f2)] 33 (0, 0)) (by (with_reducible repeat (first | refine blk_drewN ?_ _ | refine blk_drew ?_ | refine blk_alloc ?_ _)); exact BK200.out) hg (Kd.R_ne HO203.out BK200.out (by decide))); have n2_ := Aside0.mk (hb); have n3_ := Aside0.mk (ho); clear BK196; clear BK200; clear HB; clear HO203; have BK196 := n0_; have BK200 := n1_; have HB := n2_; have HO206 := n3_; clear n0_ n1_ n2_ n3_; clear ho hb hg hat; obtain ⟨Ao20, co20, eo20⟩ := Kd.R_slice HO206.out; subst eo20; have hcz21_0 : w19.cell? ⟨gb200, 0, none⟩ = some (.string ((rd_T33 l0 x5_1).f0)) := (blk_cell BK200.out 0).trans rfl; have hcz21_1 : w19.cell? ⟨gb200, 1, none⟩ = some (.slice A198_1 ((rd_T33 l0 x5_1).f1).length c198_1) := (blk_cell BK200.out 1).trans rfl; have hcz21_2 : w19.cell? ⟨gb200, 2, none⟩ = some (.bool ((rd_T33 l0 x5_1).f2)) := (blk_cell BK200.out 2).trans rfl; have hfz21_0 := blk_frozen BK200.out 0; have hfz21_1 := blk_frozen BK200.out 1; have hfz21_2 := blk_frozen BK200.out 2; have hcz22_0 : w19.cell? ⟨gb196, 0, none⟩ = some (.string x197000_1) := (blk_cell BK196.out 0).trans rfl; have hcz22_1 : w19.cell? ⟨gb196, 1, none⟩ = some (.slice none 0 0) := (blk_cell BK196.out 1).trans rfl; have hcz22_2 : w19.cell? ⟨gb196, 2, none⟩ = some (.bool x197002_1) := (blk_cell BK196.out 2).trans rfl; have hfz22_0 := blk_frozen BK196.out 0; have hfz22_1 := blk_frozen BK196.out 1; have hfz22_2 := blk_frozen BK196.out 2))
          refine bodyPost_ret (results_cell_row rfl _ _ gb196 33 #[.string ((rd_T33 l0 x5_1).f0), .slice Ao20 y204.length co20, .bool ((rd_T33 l0 x5_1).f2)] (0, 0) _ rfl (by (with_reducible repeat (first | refine blk_drewN ?_ _ | refine blk_drew ?_ | refine blk_alloc ?_ _)); refine blk_put (cs := #[.string ((rd_T33 l0 x5_1).f0), .slice Ao20 y204.length co20, .bool x197002_1]) ?_ 2 _ rfl; (with_reducible repeat (first | refine blk_drewN ?_ _ | refine blk_drew ?_ | refine blk_alloc ?_ _)); refine blk_put (cs := #[.string ((rd_T33 l0 x5_1).f0), .slice none 0 0, .bool x197002_1]) ?_ 1 _ rfl; (with_reducible repeat (first | refine blk_drewN ?_ _ | refine blk_drew ?_ | refine blk_alloc ?_ _)); refine blk_put (cs := #[.string x197000_1, .slice none 0 0, .bool x197002_1]) ?_ 0 _ rfl; (with_reducible repeat (first | refine blk_drewN ?_ _ | refine blk_drew ?_ | refine blk_alloc ?_ _)); refine blk_far ?_ NB196_200.out _; (with_reducible repeat (first | refine blk_drewN ?_ _ | refine blk_drew ?_ | refine blk_alloc ?_ _)); exact BK196.out) Tryd.underlying33 rfl (by kernel_rfl)) rfl ?_
          exact ⟨_, by first | rfl | (simp [errW_none, errW_some] <;> rfl) | (simp [*, errW_none, errW_some] <;> rfl), by (with_reducible repeat (first | apply Kd.R_alloc | apply Kd.R_drewN | apply Kd.R_drew)); exact Kd.R_mono (Kd.R_far (p := ⟨gb196, 2, none⟩) (Kd.R_far (p := ⟨gb196, 1, none⟩) (Kd.R_far (p := ⟨gb196, 0, none⟩) (Kd.R_far (p := ⟨gb200, 1, none⟩) (Kd.R_types (Kd.R_types HO206.out BK200.out (by decide)) BK196.out (by decide)) (fun _ hk => hk.1.2) (.slice Ao20 y204.length co20)) (fun _ hk => hk.2) (.string ((rd_T33 l0 x5_1).f0))) (fun _ hk => hk.2) (.slice Ao20 y204.length co20)) (fun _ hk => hk.2) (.bool ((rd_T33 l0 x5_1).f2))) (fun _ hk => trivial), by repeat (first | (with_reducible first | exact HB.out | apply below_alloc | apply pw_below_drewN | apply below_drew1 | refine below_set ?_ GE196.out | refine below_set ?_ GE200.out) | exact HB.out)⟩
         ·
          rw [if_neg c12] at H
          exact absurd H (by simp)
        ·
         rw [if_neg c11] at H
         have c11b0 : (((rd_T33 l0 x5_1).f0).toList == a1.toList) = false := beq_eq_false_iff_ne.mpr c11
         have c11b1 : (((rd_T33 l0 x5_1).f0).toList != a1.toList) = true := bne_iff_ne.mpr c11
         have H' := Aside0.mk H
         clear H
         have p198 : 0 ≤ (x5_1 : Int) := of_decide_eq_true (by first | (with_reducible assumption) | assumption)
         have q198 : x5_1 < (l0.length : Int) := of_decide_eq_true (by first | (with_reducible assumption) | assumption)
         obtain ⟨ad198, A198_1, c198_1, e198, hx198_0, hx198_1, hx198_2, hl198_1, hi198_1⟩ := at_T33 HR0.out x5_1 p198 q198
         cases e198
         replace hx198_0 := (HB.out.cell (World.block_lt_of_cell? w _ hx198_0)).trans hx198_0
         replace hx198_1 := (HB.out.cell (World.block_lt_of_cell? w _ hx198_1)).trans hx198_1
         replace hx198_2 := (HB.out.cell (World.block_lt_of_cell? w _ hx198_2)).trans hx198_2
         have HR198_1 := Aside0.mk hi198_1
         have HC198_1 := Aside0.mk hl198_1
         clear hi198_1 hl198_1
         replace p198 := eq_true p198
         replace q198 := eq_true q198
         go_wp2
         go_roundg kj3
         case measure => have := HK1.out; have := HJ3.out; omega
         case rel => exact ⟨(wrap64 (x5_1 + 1)), (x197000_1), (x197002_1), (by first | rfl | (simp; done) | (simp [*]; done)), H', ⟨by have := HK1.out; have := HJ3.out; omega⟩, ⟨by (with_reducible repeat (first | refine blk_drewN ?_ _ | refine blk_drew ?_ | refine blk_alloc ?_ _)); exact BK196.out⟩, ⟨by repeat (first | (with_reducible first | exact HB.out | apply below_alloc | apply pw_below_drewN | apply below_drew1 | refine below_set ?_ GE196.out) | exact HB.out)⟩⟩
       ·
        rw [if_neg c10] at H
        exact absurd H (by simp)
      ·
       rw [if_neg c9] at H
       exact absurd H (by simp)
     ·
      replace c8 := Bool.eq_false_iff.mpr c8
      subst c8
      have H1 : (some (a1, ([] : List ByteArray), false)) = some (r1, r2, r3) := by rw [if_neg (show ¬ (false = true) by decide)] at H; exact H
      clear H
      have H := H1
      clear H1
      simp only [Option.some.injEq, Prod.mk.injEq] at H
      obtain ⟨rfl, rfl, rfl⟩ := H
      have hcz23_0 : wc.cell? ⟨gb196, 0, none⟩ = some (.string x197000_1) := (blk_cell BK196.out 0).trans rfl
      have hcz23_1 : wc.cell? ⟨gb196, 1, none⟩ = some (.slice none 0 0) := (blk_cell BK196.out 1).trans rfl
      have hcz23_2 : wc.cell? ⟨gb196, 2, none⟩ = some (.bool x197002_1) := (blk_cell BK196.out 2).trans rfl
      have hfz23_0 := blk_frozen BK196.out 0
      have hfz23_1 := blk_frozen BK196.out 1
      have hfz23_2 := blk_frozen BK196.out 2
      go_wp2
      refine bodyPost_ret (results_cell_row rfl _ _ gb196 33 #[.string a1, .slice none 0 0, .bool false] (0, 0) _ rfl (by (with_reducible repeat (first | refine blk_drewN ?_ _ | refine blk_drew ?_ | refine blk_alloc ?_ _)); refine blk_put (cs := #[.string a1, .slice none 0 0, .bool x197002_1]) ?_ 2 _ rfl; (with_reducible repeat (first | refine blk_drewN ?_ _ | refine blk_drew ?_ | refine blk_alloc ?_ _)); refine blk_put (cs := #[.string a1, .slice none 0 0, .bool x197002_1]) ?_ 1 _ rfl; (with_reducible repeat (first | refine blk_drewN ?_ _ | refine blk_drew ?_ | refine blk_alloc ?_ _)); refine blk_put (cs := #[.string x197000_1, .slice none 0 0, .bool x197002_1]) ?_ 0 _ rfl; (with_reducible repeat (first | refine blk_drewN ?_ _ | refine blk_drew ?_ | refine blk_alloc ?_ _)); exact BK196.out) Tryd.underlying33 rfl (by kernel_rfl)) rfl ?_
      exact ⟨_, by first | rfl | (simp [errW_none, errW_some] <;> rfl) | (simp [*, errW_none, errW_some] <;> rfl), by first | exact Kd.R_nil _ _ _ _ _ | exact Kd.N_nil _ _ _ _ _ | exact Kd.V_nil _ _ _ _ _ | exact Kd.Q_nil _ _ _ _ _ | exact Kd.S_nil _ _ _ _ _, by repeat (first | (with_reducible first | exact HB.out | apply below_alloc | apply pw_below_drewN | apply below_drew1 | refine below_set ?_ GE196.out) | exact HB.out)⟩

-- HAND GraphEdge.lean
-- IMPORT Derived.Test.YtilnamobmjngbaaDoorBase
-- IMPORT Derived.BigRegion
/-! ### graph_Edge, by hand -/
def graph_Edge.f (k : Nat) (l0 l1 l2 l3 : List ByteArray) (cmd : ByteArray) (pool : ByteArray) : Option Bool :=
  (path_All.f k l0 8).bind fun b0 => if b0 = true then ((path_All.f k l1 8).bind fun b1 => if b1 = true then ((path_All.f k l2 8).bind fun b2 => if b2 = true then ((path_All.f k l3 8).bind fun b3 => if b3 = true then
    (if 0 < l0.length then ((graph_Command.f k cmd).bind fun c => if c = true then (if pool.toList = [] then some true else name_May.f pool) else some false) else some false) else some false) else some false) else some false) else some false
theorem graph_Edge.mono : ∀ l0 l1 l2 l3 cmd pool k, LeO (graph_Edge.f k l0 l1 l2 l3 cmd pool) (graph_Edge.f (k + 1) l0 l1 l2 l3 cmd pool) := by
  intro l0 l1 l2 l3 cmd pool k
  unfold graph_Edge.f
  refine LeO.bind (path_All.mono _ _ _) (fun _ => LeO.ite (LeO.bind (path_All.mono _ _ _) (fun _ => LeO.ite (LeO.bind (path_All.mono _ _ _) (fun _ => LeO.ite (LeO.bind (path_All.mono _ _ _) (fun _ => LeO.ite (LeO.ite (LeO.bind (graph_Command.mono _ _) (fun _ => LeO.refl _)) (LeO.refl _)) (LeO.refl _))) (LeO.refl _))) (LeO.refl _))) (LeO.refl _))
structure edge_At (W : World) (g : Nat) (A0 A1 A2 A3 : Option Addr) (c0 c1 c2 c3 : Nat) (l0 l1 l2 l3 : List ByteArray) (cmd : ByteArray) (dep : Bool) (pool : ByteArray) : Prop where
  f0 : W.cell? ⟨g, 0, none⟩ = some (.slice A0 l0.length c0)
  f1 : W.cell? ⟨g, 1, none⟩ = some (.slice A1 l1.length c1)
  f2 : W.cell? ⟨g, 2, none⟩ = some (.slice A2 l2.length c2)
  f3 : W.cell? ⟨g, 3, none⟩ = some (.slice A3 l3.length c3)
  f4 : W.cell? ⟨g, 4, none⟩ = some (.string cmd)
  f5 : W.cell? ⟨g, 5, none⟩ = some (.bool dep)
  f6 : W.cell? ⟨g, 6, none⟩ = some (.string pool)
  r0 : Kd.C Kd.string W A0 l0.length l0
  r1 : Kd.C Kd.string W A1 l1.length l1
  r2 : Kd.C Kd.string W A2 l2.length l2
  r3 : Kd.C Kd.string W A3 l3.length l3
  k0 : l0.length ≤ c0
  k1 : l1.length ≤ c1
  k2 : l2.length ≤ c2
  k3 : l3.length ≤ c3
def edge_end (k : Nat) (l0 : List ByteArray) (cmd pool : ByteArray) : Option Bool := if 0 < l0.length then ((graph_Command.f k cmd).bind fun c => if c = true then (if pool.toList = [] then some true else name_May.f pool) else some false) else some false
def edge_res (k : Nat) (L : Nat → List ByteArray) (cmd pool : ByteArray) : Nat → Option Bool
  | 0 => edge_end k (L 0) cmd pool
  | d + 1 => (path_All.f k (L (3 - d)) 8).bind fun b => if b = true then edge_res k L cmd pool d else some false
theorem edge_res_f (k : Nat) (L : Nat → List ByteArray) (cmd pool : ByteArray) : graph_Edge.f k (L 0) (L 1) (L 2) (L 3) cmd pool = edge_res k L cmd pool 4 := rfl
set_option maxHeartbeats 4000000 in
set_option maxRecDepth 100000 in
theorem graph_Edge.core (k : Nat) (g : Nat) (A : Nat → Option Addr) (c : Nat → Nat) (L : Nat → List ByteArray) (cmd : ByteArray) (pool : ByteArray) (r : Bool) (w : World)
    (f0 : w.cell? ⟨g, 0, none⟩ = some (.slice (A 0) (L 0).length (c 0))) (f1 : w.cell? ⟨g, 1, none⟩ = some (.slice (A 1) (L 1).length (c 1))) (f2 : w.cell? ⟨g, 2, none⟩ = some (.slice (A 2) (L 2).length (c 2))) (f3 : w.cell? ⟨g, 3, none⟩ = some (.slice (A 3) (L 3).length (c 3)))
    (f4 : w.cell? ⟨g, 4, none⟩ = some (.string cmd)) (f6 : w.cell? ⟨g, 6, none⟩ = some (.string pool)) (hr : ∀ j, j < 4 → Kd.C Kd.string w (A j) (L j).length (L j)) (hk : ∀ j, j < 4 → (L j).length ≤ c j) (h : edge_res k L cmd pool 4 = some r) :
    Calls Tryd.prog 51 #[.pointer (some ⟨g, 0, none⟩)] w fun e w' => e = .returned (.bool r) ∧ Below w.heap.size w w' := by
  have hg : g < w.heap.size := World.block_lt_of_cell? w _ f0
  have call : ∀ j, j < 4 → ∀ (W : World) (b : Bool), Below w.heap.size w W → path_All.f k (L j) 8 = some b → Calls Tryd.prog 69 #[.slice (A j) (L j).length (c j), .int .i64 8] W fun e w' => e = .returned (.bool b) ∧ Below W.heap.size W w' :=
    fun j hj W b hB e => path_All.calls k (A j) (c j) (L j) 8 b W (Kd.C_below (hr j hj) hB) (hk j hj) e
  have hcells : ∀ j, j < 4 → (#[.slice (A 0) (L 0).length (c 0), .slice (A 1) (L 1).length (c 1), .slice (A 2) (L 2).length (c 2), .slice (A 3) (L 3).length (c 3)] : Array Value)[j]? = some (.slice (A j) (L j).length (c j)) := fun j hj => match j, hj with
    | 0, _ => rfl | 1, _ => rfl | 2, _ => rfl | 3, _ => rfl | j + 4, h => absurd h (by omega)
  have HC := Aside0.mk hcells
  have CA := Aside0.mk call
  have H := Aside0.mk h
  have n0 : (L 0).length = (L 0).length := rfl
  generalize hn0 : (L 0).length = m0 at f0 HC
  generalize hn1 : (L 1).length = m1 at f1 HC
  generalize hn2 : (L 2).length = m2 at f2 HC
  generalize hn3 : (L 3).length = m3 at f3 HC
  have N0 := Aside0.mk hn0
  have F0 := Aside0.mk f0
  have F4 := Aside0.mk f4
  have F6 := Aside0.mk f6
  clear h hr hk hn0 hn1 hn2 hn3 hcells call n0
  go_enter Tryd.func51, Tryd.ntmps51
  go_wp2
  go_region
  go_wp2
  have B0 := below_alloc (Below.refl w.heap.size w) (.cells #[.slice (A 0) m0 (c 0), .slice (A 1) m1 (c 1), .slice (A 2) m2 (c 2), .slice (A 3) m3 (c 3)] 23)
  have hb0 : ((w.alloc (.cells #[.slice (A 0) m0 (c 0), .slice (A 1) m1 (c 1), .slice (A 2) m2 (c 2), .slice (A 3) m3 (c 3)] 23)).drew).heap[w.heap.size]? = some (.cells #[.slice (A 0) m0 (c 0), .slice (A 1) m1 (c 1), .slice (A 2) m2 (c 2), .slice (A 3) m3 (c 3)] 23 (0, 0)) := heap_alloc_new w _
  have HB0 := Aside0.mk hb0
  have BB0 := Aside0.mk (below_drew B0)
  clear B0 hb0 f0 f1 f2 f3 f4 f6
  go_loopw [23] (fun i wr => ∃ d : Nat, d ≤ 4 ∧ i = .int .i64 (4 - d : Nat) ∧ Aside0 (edge_res k L cmd pool d = some r) ∧ Aside0 (Below w.heap.size w wr) ∧ Aside0 (wr.heap[w.heap.size]? = some (.cells #[.slice (A 0) m0 (c 0), .slice (A 1) m1 (c 1), .slice (A 2) m2 (c 2), .slice (A 3) m3 (c 3)] 23 (0, 0)))) (fun i _ => 4 - (intOf i).toNat)
  case atStart => exact ⟨4, Nat.le_refl _, rfl, H, BB0, HB0⟩
  case round =>
    obtain ⟨d, hd, rfl, R, BW, HBW⟩ := hrel
    cases d with
    | zero =>
      have hg1 := BW.out.cell (p := ⟨g, 0, none⟩) hg
      have c0 : wr.cell? ⟨g, 0, none⟩ = some (.slice (A 0) m0 (c 0)) := (BW.out.cell (p := ⟨g, 0, none⟩) hg).trans F0.out
      have c4 : wr.cell? ⟨g, 4, none⟩ = some (.string cmd) := (BW.out.cell (p := ⟨g, 4, none⟩) hg).trans F4.out
      have c6 : wr.cell? ⟨g, 6, none⟩ = some (.string pool) := (BW.out.cell (p := ⟨g, 6, none⟩) hg).trans F6.out
      have hgr : g < wr.heap.size := Nat.lt_of_lt_of_le hg BW.out.size
      clear hg1
      have hres : edge_end k (L 0) cmd pool = some r := R.out
      unfold edge_end at hres
      rw [N0.out] at hres
      by_cases h0 : 0 < m0
      · rw [if_pos h0] at hres
        obtain ⟨b, hb, hres⟩ := Option.bind_eq_some_iff.1 hres
        have h0z : (0 : Int) < (m0 : Int) := by omega
        have hcmd := fun W => graph_Command.calls k cmd b W hb
        clear hb h0
        cases b with
        | false =>
          have hr : false = r := by simpa using hres
          subst hr
          clear hres R
          go_wp2_with (go_at_call 70; refine (hcmd _).mono ?_; rintro e w1 ⟨rfl, hd1⟩; obtain ⟨nd, hd1⟩ := hd1.out; subst hd1)
          go_ret
          exact ⟨rfl, pw_below_drewN BW.out _⟩
        | true =>
          rw [if_pos rfl] at hres
          by_cases hp : pool.toList = []
          · rw [if_pos hp] at hres
            have hr : true = r := Option.some.inj hres
            subst hr
            have hp2 : (pool.toList == []) = true := by simpa using hp
            clear hres R
            go_wp2_with (go_at_call 70; refine (hcmd _).mono ?_; rintro e w1 ⟨rfl, hd1⟩; obtain ⟨nd, hd1⟩ := hd1.out; subst hd1)
            go_ret
            exact ⟨rfl, pw_below_drewN BW.out _⟩
          · rw [if_neg hp] at hres
            have hp2 : (pool.toList == []) = false := by simpa using hp
            have hmay := fun W => name_May.calls pool r W hres
            clear hres R
            go_wp2_with (first
              | (go_at_call 70; refine (hcmd _).mono ?_; rintro e w1 ⟨rfl, hd1⟩; obtain ⟨nd, hd1⟩ := hd1.out; subst hd1)
              | (go_at_call 71; refine (hmay _).mono ?_; rintro e w2 ⟨rfl, hB2⟩))
            go_ret
            exact ⟨rfl, below_then (pw_below_drewN BW.out _) BW.out.size hB2⟩
      · rw [if_neg h0] at hres
        have hr : false = r := Option.some.inj hres
        subst hr
        obtain rfl : m0 = 0 := by omega
        clear hres R h0
        go_wp2
        go_ret
        exact ⟨rfl, BW.out⟩
    | succ d =>
      obtain ⟨j, hj⟩ : ∃ j, 4 - (d + 1) = j := ⟨_, rfl⟩
      have hj4 : j < 4 := by omega
      have hjz : (j : Int) < 4 := by omega
      have hj3 : 3 - d = j := by omega
      obtain ⟨b, hb, hres⟩ := Option.bind_eq_some_iff.1 (show ((path_All.f k (L (3 - d)) 8).bind fun b => if b = true then edge_res k L cmd pool d else some false) = some r from R.out)
      rw [hj3] at hb
      have hcell : wr.cell? ⟨w.heap.size, j, none⟩ = some (.slice (A j) (L j).length (c j)) := by rw [blk_cell HBW.out j]; exact HC.out j hj4
      have hcall := CA.out j hj4 wr b BW.out hb
      have hB1 : w.heap.size < wr.heap.size := blk_lt HBW.out
      generalize (L j).length = n at hcell hcall
      generalize A j = Aj at hcell hcall
      generalize c j = cj at hcell hcall
      have HR := Aside0.mk hres
      have HJ := Aside0.mk hj
      have HJ3 := Aside0.mk hj3
      have hjd : d = 3 - j := by omega
      have HJD := Aside0.mk hjd
      rw [hj]
      clear hres hb hj hj3 hjd R
      cases b with
      | false =>
        go_wp2_with (go_at_call 69; refine hcall.mono ?_; rintro e w1 ⟨rfl, hB⟩)
        go_ret
        have := HR.out
        simp at this
        exact ⟨by rw [← this]; rfl, below_then BW.out BW.out.size hB⟩
      | true =>
        go_wp2_with (go_at_call 69; refine hcall.mono ?_; rintro e w1 ⟨rfl, hB⟩)
        go_roundw
        case rel => exact ⟨d, by omega, by rw [show 4 - d = j + 1 by have := HJ.out; omega]; go_num, ⟨by simpa using HR.out⟩, ⟨below_then BW.out BW.out.size hB⟩, ⟨(hB.block _ hB1).trans HBW.out⟩⟩
        case measure => simp [intOf]; omega
theorem graph_Edge.walk (k : Nat) (g : Nat) (A0 A1 A2 A3 : Option Addr) (c0 c1 c2 c3 : Nat) (l0 l1 l2 l3 : List ByteArray) (cmd : ByteArray) (dep : Bool) (pool : ByteArray) (r : Bool) (w : World) (hE : edge_At w g A0 A1 A2 A3 c0 c1 c2 c3 l0 l1 l2 l3 cmd dep pool) (h : graph_Edge.f k l0 l1 l2 l3 cmd pool = some r) :
    Calls Tryd.prog 51 #[.pointer (some ⟨g, 0, none⟩)] w fun e w' => e = .returned (.bool r) ∧ Below w.heap.size w w' :=
  graph_Edge.core k g (fun | 0 => A0 | 1 => A1 | 2 => A2 | _ => A3) (fun | 0 => c0 | 1 => c1 | 2 => c2 | _ => c3) (fun | 0 => l0 | 1 => l1 | 2 => l2 | _ => l3) cmd pool r w hE.f0 hE.f1 hE.f2 hE.f3 hE.f4 hE.f6
    (fun j hj => match j, hj with | 0, _ => hE.r0 | 1, _ => hE.r1 | 2, _ => hE.r2 | 3, _ => hE.r3 | j + 4, h => absurd h (by omega))
    (fun j hj => match j, hj with | 0, _ => hE.k0 | 1, _ => hE.k1 | 2, _ => hE.k2 | 3, _ => hE.k3 | j + 4, h => absurd h (by omega)) h

end Go.Proofs.YtilnamobmjngbaaDoor.P
