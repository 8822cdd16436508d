-- Made by a program of this work's own (wip/myprint.py) over the kit's print; leaves by hand.
import Derived.Test.YtaokgnhdagcepaaDoorP0
import Derived.LoopIn
import Derived.LoopNIn
import Derived.OwnWalkIn
import Derived.RangeFuncBound
import Derived.RangeFuncBox
import Derived.RangeFuncCalls
import Derived.RangeFuncLeaves
import Derived.RangeFuncNested
import Derived.Shelf.Abstract
import Derived.Shelf.RegionOpen
import Derived.TacticsInMore
import Derived.Test.YtaokgnhdagcepaaDoorMg1
namespace Go.Proofs.YtaokgnhdagcepaaDoor.P
open Go.RowKit Go.Proofs.YtaokgnhdagcepaaDoorW.PrintWords Go.Proofs.YtaokgnhdagcepaaDoorW.PrintLast Go.Proofs.YtaokgnhdagcepaaDoorW.PrintMore
attribute [local go_sem] max2_int min2_int max_two min_two max_three min_three max_four min_four   -- for this text's walks alone
set_option linter.unusedVariables false
set_option linter.unusedSimpArgs false

-- HANDBIG DeplogLast.lean
-- IMPORT Derived.Test.YtaokgnhdagcepaaDoorPlain
-- IMPORT Derived.RangeFuncNested
-- IMPORT Derived.RangeFuncBound
-- IMPORT Derived.RangeFuncCalls
-- IMPORT Derived.RangeFuncLeaves
-- IMPORT Derived.RangeFuncBox
-- IMPORT Derived.Shelf.Abstract
-- IMPORT Derived.Shelf.RegionOpen
-- IMPORT Derived.OwnWalkIn
-- IMPORT Derived.TacticsInMore
-- IMPORT Derived.LoopNIn
-- IMPORT Derived.LoopIn
/-! ### deplog_last, by hand -/
section
open Go.Shelf
attribute [local go_sem] Oper.semAt_some
def deplog_lastUpto (l0 : List (S32)) (out : ByteArray) : Nat → Int
  | 0 => -1
  | n + 1 => if (rd_T32 l0 (n : Int)).f0 = out then (n : Int) else deplog_lastUpto l0 out n
def deplog_last.f (l0 : List (S32)) (out : ByteArray) : Option Int := if l0.length ≤ 4294967296 then some (deplog_lastUpto l0 out l0.length) else none
abbrev BackE := Nat × ByteArray × Int × Option Addr × Nat × Nat
def backEnc (x : BackE) : Array Value := #[.int .i64 (x.1 : Int), .agg #[.string x.2.1, .int .i64 x.2.2.1, .slice x.2.2.2.1 x.2.2.2.2.1 x.2.2.2.2.2]]
def backUpto (el : Nat → BackE) (n k : Nat) : List BackE := (List.range k).map fun i => el (n - 1 - i)
theorem backUpto_length (el : Nat → BackE) (n k : Nat) : (backUpto el n k).length = k := by simp [backUpto]
theorem backUpto_step (el : Nat → BackE) (n m : Nat) (h : m + 1 ≤ n) : backUpto el n (n - m) = backUpto el n (n - (m + 1)) ++ [el m] := by
  have e1 : n - m = (n - (m + 1)) + 1 := by omega
  have e2 : n - 1 - (n - (m + 1)) = m := by omega
  rw [e1, backUpto, List.range_succ, List.map_append, List.map_singleton, e2]
  rfl
theorem back_blk {A B : World} {row : Option Nat} {k : Nat} {c : Array Value} {t : TypeId} {fr : Nat × Nat} (h : A.heap[k]? = some (.cells c t fr)) (hg : A.grownBy B row) (hr : ∀ r, row = some r → ∃ o : Obj, A.heap[r]? = some o ∧ o.isCells = false) : B.heap[k]? = some (.cells c t fr) :=
  (hg.block k (blk_lt h) (fun e => by obtain ⟨o, ho, hc⟩ := hr k e.symm; rw [h] at ho; cases ho; simp [Obj.isCells] at hc)).trans h
structure BackCells (W : World) (ad : Addr) (x : BackE) (j : Nat) : Prop where
  c0 : W.cell? (ad.add (j * 3)) = some (.string x.2.1)
  c1 : W.cell? ⟨(ad.add (j * 3)).block, (ad.add (j * 3)).off + 1, none⟩ = some (.int .i64 x.2.2.1)
  c2 : W.cell? ⟨(ad.add (j * 3)).block, (ad.add (j * 3)).off + 2, none⟩ = some (.slice x.2.2.2.1 x.2.2.2.2.1 x.2.2.2.2.2)
theorem BackCells.below {n₀ : Nat} {A B : World} {ad : Addr} {x : BackE} {j : Nat} (h : BackCells A ad x j) (hB : Below n₀ A B) (hb : ad.block < n₀) : BackCells B ad x j := by
  have hb' : (ad.add (j * 3)).block < n₀ := by rw [add_block]; exact hb
  exact ⟨(hB.cell (p := ad.add (j * 3)) hb').trans h.c0, (hB.cell (p := ⟨(ad.add (j * 3)).block, (ad.add (j * 3)).off + 1, none⟩) hb').trans h.c1, (hB.cell (p := ⟨(ad.add (j * 3)).block, (ad.add (j * 3)).off + 2, none⟩) hb').trans h.c2⟩
set_option maxRecDepth 100000 in
set_option maxHeartbeats 2000000 in
theorem back1_in (n : Nat) (hn : 1 ≤ n) (l Bs n₀ len cap : Nat) (A : Option Addr) (el : Nat → BackE) (hidx : ∀ j, (el j).1 = j) (hlen : len ≤ 4294967296) (hBs0 : Bs < n₀) (J Jx : List BackE → World → Prop)
    (hY : ∀ pre x W, J pre W → pre.length < len → YieldAt Fence.wide (n - 1) Tryd.prog l (backEnc x) W fun e W' =>
      (e = .returned (.bool true) ∧ J (pre ++ [x]) W' ∧ Below n₀ W W') ∨ (e = .returned (.bool false) ∧ Jx (pre ++ [x]) W'))
    (W : World) (hBs : W.cell? ⟨Bs, 0, none⟩ = some (.slice A len cap)) (hc : ∀ j, j < len → ∃ ad, A = some ad ∧ ad.block < n₀ ∧ BackCells W ad (el j) j) (h0 : J [] W) :
    CallsIn Fence.wide n Tryd.prog 55 #[.func (.yield l) #[] #[], .pointer (some ⟨Bs, 0, none⟩)] W fun e W' => (∃ v, e = .returned v) ∧
      ((∃ ys, ys = backUpto el len len ∧ J ys W') ∨ (∃ pre, (∃ k, k ≤ len ∧ pre = backUpto el len k) ∧ Jx pre W')) := by
  have w0 : wrap64 ((len : Int) - 1) = (len : Int) - 1 := Spec.wrap_id (by omega) (by omega)
  refine callsIn_of_wp Tryd.func55 rfl trivial ?_ rfl
  simp only [Tryd.ntmps55, List.size_toArray, List.length_cons, List.length_nil, Nat.reduceAdd, Nat.reduceSub, Array.replicate_succ, Array.replicate_zero, List.push_toArray, List.append_toArray, List.nil_append, List.cons_append]
  gi_wp2
  gi_loopw [3] (fun i wr => ∃ m : Nat, m ≤ len ∧ i = .int .i64 ((m : Int) - 1) ∧ J (backUpto el len (len - m)) wr ∧ Below n₀ W wr)
    (fun i _ => (intOf i + 1).toNat)
  case atStart => exact ⟨len, Nat.le_refl _, rfl, by rw [Nat.sub_self]; exact h0, Below.refl _ _⟩
  case round =>
    obtain ⟨m, hm, hi, hJs, hnx⟩ := hrel
    cases m with
    | zero =>
      have e : (((0 : Nat) : Int) - 1) = -1 := rfl
      rw [e] at hi
      subst hi
      rw [Nat.sub_zero] at hJs
      gi_wp2
      go_end0
      exact ⟨⟨_, rfl⟩, .inl ⟨_, rfl, hJs⟩⟩
    | succ m =>
      have e : (((m + 1 : Nat) : Int) - 1) = (m : Int) := by omega
      rw [e] at hi
      subst hi
      obtain ⟨ad, hA, hb, hcl⟩ := hc m (by omega)
      subst hA
      have hBr := (hnx.cell (p := ⟨Bs, 0, none⟩) hBs0).trans hBs
      obtain ⟨c0, c1, c2⟩ := hcl.below hnx hb
      have hx := hidx m
      obtain ⟨fn, tmps, assign, body, hy, hR⟩ := hY _ (el m) wr hJs (by rw [backUpto_length]; omega)
      unfold backEnc at hy
      rw [hx] at hy
      have hlt : (m : Int) < (len : Int) := by omega
      have hge : (0 : Int) ≤ (m : Int) := by omega
      gi_wp2
      refine hR.mono ?_
      rintro e W3 (⟨rfl, hJ3, hk3⟩ | ⟨rfl, hJx3⟩)
      · gi_wp2
        go_roundw
        case rel => exact ⟨m, by omega, rfl, by rw [backUpto_step el len m hm]; exact hJ3, hnx.trans hk3⟩
        case measure => simp [intOf]
      · gi_wp2
        refine bodyPost_ret (results_none rfl _ _ _) rfl ?_
        exact ⟨⟨_, rfl⟩, .inr ⟨_, ⟨len - m, by omega, (backUpto_step el len m hm).symm⟩, hJx3⟩⟩
theorem back_stops (n : Nat) (hn : 1 ≤ n) (Bs n₀ len cap : Nat) (A : Option Addr) (el : Nat → BackE) (hidx : ∀ j, (el j).1 = j) (hlen : len ≤ 4294967296) (hBs0 : Bs < n₀) (w : World) (hn₀ : n₀ ≤ w.heap.size) (hBs : w.cell? ⟨Bs, 0, none⟩ = some (.slice A len cap))
    (hc : ∀ j, j < len → ∃ ad, A = some ad ∧ ad.block < n₀ ∧ BackCells w ad (el j) j) :
    SeqStopsK Fence.wide n Tryd.prog 55 #[.pointer (some ⟨Bs, 0, none⟩)] backEnc (Below n₀) (fun ys => ys = backUpto el len len) (fun pre => ∃ k, k ≤ len ∧ pre = backUpto el len k) len w := fun l J Jx W hW _ _ hY h0 =>
  back1_in n hn l Bs n₀ len cap A el hidx hlen hBs0 J Jx hY W ((hW.cell (p := ⟨Bs, 0, none⟩) (Nat.lt_of_lt_of_le hBs0 hn₀)).trans hBs) (fun j hj => by
    obtain ⟨ad, hA, hb, hcl⟩ := hc j hj
    exact ⟨ad, hA, hb, hcl.below (hW.mono hn₀) hb⟩) h0
theorem back_in (n : Nat) (a : Option Addr) (len cap : Nat) (w : World) :
    CallsIn Fence.wide n Tryd.prog 43 #[.slice a len cap] w fun e w' => e = .returned (.func (.func 55) #[] #[.pointer (some ⟨w.heap.size, 0, none⟩)]) ∧ w' = w.alloc (.cells #[.slice a len cap] 22) := by
  refine callsIn_of_wp Tryd.func43 rfl trivial ?_ rfl
  simp only [Tryd.ntmps43, List.size_toArray, List.length_cons, List.length_nil, Nat.reduceAdd, Nat.reduceSub, Array.replicate_succ, Array.replicate_zero, List.push_toArray, List.append_toArray, List.nil_append, List.cons_append]
  gi_wp2
  go_ret
  exact ⟨rfl, rfl⟩
theorem lastUpto_pre (l0 : List (S32)) (out : ByteArray) (N : Nat) : ∀ k m, m + k = N → (∀ i, i < k → (rd_T32 l0 ((N - 1 - i : Nat) : Int)).f0 ≠ out) → deplog_lastUpto l0 out N = deplog_lastUpto l0 out m
  | 0, m, h, _ => by rw [← h]; rfl
  | k + 1, m, h, hne => by
    rw [lastUpto_pre l0 out N k (m + 1) (by omega) (fun i hi => hne i (by omega)), deplog_lastUpto]
    have := hne k (by omega)
    rw [show N - 1 - k = m by omega] at this
    rw [if_neg this]
set_option maxRecDepth 100000 in
set_option maxHeartbeats 2000000 in
theorem deplog_last_in (A : Option Addr) (c : Nat) (l0 : List (S32)) (out : ByteArray) (el : Nat → BackE) (hidx : ∀ j, (el j).1 = j) (hel : ∀ j, (el j).2.1 = (rd_T32 l0 (j : Int)).f0) (hlen : l0.length ≤ 4294967296) (w : World)
    (hc : ∀ j, j < l0.length → ∃ ad, A = some ad ∧ ad.block < w.heap.size ∧ BackCells w ad (el j) j) :
    CallsIn Fence.wide 6 Tryd.prog 27 #[.slice A l0.length c, .string out] w fun e w' => e = .returned (.int .i64 (deplog_lastUpto l0 out l0.length)) ∧ Below w.heap.size w w' := by
  generalize hlenN : l0.length = N at *
  refine callsIn_of_wp_marks Tryd.func27 rfl trivial ?_ rfl
  simp only [Tryd.ntmps27, List.size_toArray, List.length_cons, List.length_nil, Nat.reduceAdd, Nat.reduceSub, Array.replicate_succ, Array.replicate_zero, List.push_toArray, List.append_toArray, List.nil_append, List.cons_append]
  gi_wp2_with (refine ⟨trivial, ?_⟩; gi_at_call 43; refine (back_in _ _ _ _ _).mono ?_; rintro e w' ⟨rfl, rfl⟩)
  have hO := heap_alloc_new w (.cells #[.string out] 9)
  have hR := heap_alloc_new (w.alloc (.cells #[.string out] 9)) (.cells #[.int .i64 0] 3)
  have hS := heap_alloc_new ((w.alloc (.cells #[.string out] 9)).alloc (.cells #[.int .i64 0] 3)) (.cells #[.slice A N c] 22)
  rw [World.size_alloc] at hR
  simp only [World.size_alloc] at hS
  replace hR := (Below.heap_alloc _ (.cells #[.slice A N c] 22) _ (blk_lt hR)).trans hR
  replace hO := (Below.heap_alloc _ (.cells #[.int .i64 0] 3) _ (blk_lt hO)).trans hO
  replace hO := (Below.heap_alloc _ (.cells #[.slice A N c] 22) _ (blk_lt hO)).trans hO
  have hB0 : Below w.heap.size w (((w.alloc (.cells #[.string out] 9)).alloc (.cells #[.int .i64 0] 3)).alloc (.cells #[.slice A N c] 22)) := (((Below.refl _ w).alloc (Nat.le_refl _) _).alloc (by simp) _).alloc (by simp; omega) _
  have hsz : (((w.alloc (.cells #[.string out] 9)).alloc (.cells #[.int .i64 0] 3)).alloc (.cells #[.slice A N c] 22)).heap.size = w.heap.size + 3 := by simp
  obtain ⟨W0, hW0⟩ : ∃ W0, ((w.alloc (.cells #[.string out] 9)).alloc (.cells #[.int .i64 0] 3)).alloc (.cells #[.slice A N c] 22) = W0 := ⟨_, rfl⟩
  rw [hW0] at hO hR hS hB0 hsz ⊢
  clear hW0
  have hSc : W0.cell? ⟨w.heap.size + 1 + 1, 0, none⟩ = some (.slice A N c) := by rw [blk_cell hS 0]; rfl
  refine wpIn_rangeFunc_ownH rfl (by omega) (gf := 55) (lb := #[.pointer (some ⟨w.heap.size + 1 + 1, 0, none⟩)]) rfl trivial (enters_of Tryd.func55 (by kernel_rfl) rfl)
    (back_stops 5 (by omega) (w.heap.size + 1 + 1) (w.heap.size + 3) N c A el hidx hlen (by omega) W0 (by omega) hSc (fun j hj => by
      obtain ⟨ad, hA, hb, hcl⟩ := hc j hj
      exact ⟨ad, hA, by omega, hcl.below hB0 hb⟩)) belowK_t (belowK_b (by omega)) (Below.refl _ _) (fun _ => rfl)
    (fun pre W => ((∀ x ∈ pre, x.2.1 ≠ out) ∧ W.heap[w.heap.size]? = some (.cells #[.string out] 9 (0, 0)) ∧ W.heap[w.heap.size + 1]? = some (.cells #[.int .i64 0] 3 (0, 0)) ∧ W.heap[w.heap.size + 1 + 1]? = some (.cells #[.slice A N c] 22 (0, 0))) ∧ Below w.heap.size w W)
    (fun cd pre W => (cd = .ret ∧ ∃ ini last, pre = ini ++ [last] ∧ (∀ x ∈ ini, x.2.1 ≠ out) ∧ last.2.1 = out ∧ W.heap[w.heap.size + 1]? = some (.cells #[.int .i64 (last.1 : Int)] 3 (0, 0))) ∧ Below w.heap.size w W)
    (OwnFrom.and (Own.from (fun s X Y row hs hg hr => ⟨hs.1, back_blk hs.2.1 hg hr, back_blk hs.2.2.1 hg hr, back_blk hs.2.2.2 hg hr⟩) _) (ownFrom_below (Nat.le_refl _) (by omega)))
    (fun cd => OwnFrom.and (Own.from (fun s X Y row hs hg hr => by obtain ⟨hcd, ini, last, e1, e2, e3, e4⟩ := hs; exact ⟨hcd, ini, last, e1, e2, e3, back_blk e4 hg hr⟩) _) (ownFrom_below (Nat.le_refl _) (by omega)))
    ⟨⟨by simp, hO, hR, hS⟩, hB0⟩
    (fun x a' W => ∃ Bx, w.heap.size + 1 < Bx ∧ W.heap[Bx]? = some (.cells #[.string x.2.1, .int .i64 x.2.2.1, .slice x.2.2.2.1 x.2.2.2.2.1 x.2.2.2.2.2] 32 (0, 0)) ∧ a' = { tmps := #[.slice A N c, .string out, undef, .pointer (some ⟨w.heap.size, 0, none⟩), .pointer (some ⟨w.heap.size + 1, 0, none⟩), .int .i64 (x.1 : Int), .pointer (some ⟨Bx, 0, none⟩), .slice A N c, .func (.func 55) #[] #[.pointer (some ⟨w.heap.size + 1 + 1, 0, none⟩)], .int .i64 (x.1 : Int), .agg #[.string x.2.1, .int .i64 x.2.2.1, .slice x.2.2.2.1 x.2.2.2.2.1 x.2.2.2.2.2], undef, undef, undef, undef, undef], defers := [] })
    (fun x a' _ X Y row hs hg hr => by obtain ⟨Bx, h1, h2, h3⟩ := hs; exact ⟨Bx, h1, back_blk h2 hg (fun r e => (hr r e).2), h3⟩)
    ?assign ?body ?done ?stop
  case assign =>
    rintro l pre x W K ⟨⟨hp, hO1, hR1, hS1⟩, hB1⟩ hK
    have hR1l := blk_lt hR1
    have hS1l := blk_lt hS1
    unfold backEnc
    gi_wp2
    exact hK _ _ ((KeepsOthers.alloc _ _).from _) ((Below.refl _ W).alloc (by omega) _) ⟨⟨hp, (Below.heap_alloc _ _ _ (blk_lt hO1)).trans hO1, (Below.heap_alloc _ _ _ (blk_lt hR1)).trans hR1, (Below.heap_alloc _ _ _ (blk_lt hS1)).trans hS1⟩, hB1.alloc hB1.size _⟩ ⟨W.heap.size, hR1l, heap_alloc_new _ _, rfl⟩
  case body =>
    rintro l pre x a' W hl ⟨r, hr⟩ ⟨⟨hp, hO1, hR1, hS1⟩, hB1⟩ ⟨Bx, hBx, bX, rfl⟩ hlt
    have cO : W.cell? ⟨w.heap.size, 0, none⟩ = some (.string out) := by rw [blk_cell hO1 0]; rfl
    have cR : W.cell? ⟨w.heap.size + 1, 0, none⟩ = some (.int .i64 0) := by rw [blk_cell hR1 0]; rfl
    have fR := blk_frozen hR1 0
    have cX : W.cell? ⟨Bx, 0, none⟩ = some (.string x.2.1) := by rw [blk_cell bX 0]; rfl
    by_cases hx : x.2.1 = out
    · have hxb : (x.2.1.toList == out.toList) = true := by rw [hx]; exact beq_self_eq_true _
      gi_wp2
      exact ⟨(KeepsOthers.setCell _ _ _).from _, ⟨rfl, pre, x, rfl, hp, hx, by rw [blk_set hR1 0]; rfl⟩, hB1.setCell (p := ⟨w.heap.size + 1, 0, none⟩) (by simp) _⟩
    · have hxb : (x.2.1.toList == out.toList) = false := by
        rw [beq_eq_false_iff_ne]
        intro e
        exact hx (Spec.data_inj (by rw [← Spec.toList_data, ← Spec.toList_data]; exact e))
      gi_wp2
      exact ⟨KeepsFrom.refl _ _, Below.refl _ _, ⟨⟨fun y hy => (List.mem_append.1 hy).elim (hp y) (fun e => by rw [List.mem_singleton.1 e]; exact hx), hO1, hR1, hS1⟩, hB1⟩⟩
  case done =>
    rintro D ys W hD rfl ⟨⟨hp, hO1, hR1, hS1⟩, hB1⟩ hK
    have cR : W.cell? ⟨w.heap.size + 1, 0, none⟩ = some (.int .i64 0) := by rw [blk_cell hR1 0]; rfl
    have fR := blk_frozen hR1 0
    gi_wp2
    have hK' := (KeepsOthers.setCell W ⟨w.heap.size + 1, 0, none⟩ (.int .i64 (-1))).same D _ hK rfl
    refine ⟨by simp, .inl ⟨_, _, rfl, run_takeDeferred hK', ?_⟩⟩
    have hc5 := cell_kept (World.cell?_setCell_same' W ⟨w.heap.size + 1, 0, none⟩ (.int .i64 (-1)) (by rw [cR]; rfl)) (grownBy_putObj' _ D (.deferred none)) (fun r e => by cases e; exact ⟨_, hK', rfl⟩)
    have hno : deplog_lastUpto l0 out N = -1 := by
      rw [lastUpto_pre l0 out N N 0 (by omega) (fun i hi => ?_)]
      · rfl
      · have := hp (el (N - 1 - i)) (by simp only [backUpto, List.mem_map, List.mem_range]; exact ⟨i, hi, rfl⟩)
        rwa [hel] at this
    rw [hno]
    refine ⟨.int .i64 (-1), ?_, rfl, (hB1.setCell (p := ⟨w.heap.size + 1, 0, none⟩) (by simp) _).trans (belowK_b (w := w) (Nat.le_refl _) _ D _ _ (by omega) hK' rfl rfl)⟩
    simp [results, Tryd.f27, go_sem, hc5]
  case stop =>
    rintro D cd pre W hD ⟨k, hk, rfl⟩ ⟨⟨rfl, ini, last, e1, e2, e3, hcr⟩, hB⟩ hK
    have cR : W.cell? ⟨w.heap.size + 1, 0, none⟩ = some (.int .i64 (last.1 : Int)) := by rw [blk_cell hcr 0]; rfl
    gi_wp2
    refine ⟨by simp, .inl ⟨_, _, rfl, run_takeDeferred hK, ?_⟩⟩
    have hc5 := cell_kept cR (grownBy_putObj' _ D (.deferred none)) (fun r e => by cases e; exact ⟨_, hK, rfl⟩)
    obtain ⟨k', rfl⟩ : ∃ k', k = k' + 1 := by
      cases k with
      | zero => simp [backUpto] at e1
      | succ k' => exact ⟨k', rfl⟩
    have hs : backUpto el N (k' + 1) = backUpto el N k' ++ [el (N - 1 - k')] := by simp [backUpto, List.range_succ]
    rw [hs] at e1
    obtain ⟨rfl, e5⟩ := List.append_inj' e1 rfl
    obtain rfl : el (N - 1 - k') = last := by simpa using e5
    have hat : deplog_lastUpto l0 out N = ((N - 1 - k' : Nat) : Int) := by
      rw [lastUpto_pre l0 out N k' (N - 1 - k' + 1) (by omega) (fun i hi => ?_), deplog_lastUpto]
      · rw [if_pos (by rw [← hel]; exact e3)]
      · have := e2 (el (N - 1 - i)) (by simp only [backUpto, List.mem_map, List.mem_range]; exact ⟨i, hi, rfl⟩)
        rwa [hel] at this
    rw [hat]
    refine ⟨.int .i64 ((N - 1 - k' : Nat) : Int), ?_, rfl, hB.trans (belowK_b (w := w) (Nat.le_refl _) W D _ _ (by omega) hK rfl rfl)⟩
    rw [hidx] at hc5
    simp [results, Tryd.f27, go_sem, hc5]
theorem deplog_last.calls (A0 : Option Addr) (c0 : Nat) (l0 : List (S32)) (a1 : ByteArray) (r : Int) (w : World) (hr0 : Kd.C k32 w A0 l0.length l0) (hc0 : l0.length ≤ c0) (h : deplog_last.f l0 a1 = some r) :
    Calls Tryd.prog 27 #[.slice A0 l0.length c0, .string a1] w fun e w' => e = .returned (.int .i64 r) ∧ Below w.heap.size w w' := by
  unfold deplog_last.f at h
  split at h
  case isFalse => cases h
  rename_i hl
  obtain rfl := Option.some.inj h
  have hex : ∀ j : Nat, ∃ x : BackE, x.1 = j ∧ x.2.1 = (rd_T32 l0 (j : Int)).f0 ∧ (j < l0.length → ∃ ad, A0 = some ad ∧ ad.block < w.heap.size ∧ BackCells w ad x j) := fun j => by
    by_cases hj : j < l0.length
    · obtain ⟨ad, A2, c2, hA, h0, h1, h2, h3, h4⟩ := at_T32 hr0 (j : Int) (by omega) (by omega)
      rw [Int.toNat_natCast] at h0 h1 h2
      refine ⟨(j, (rd_T32 l0 (j : Int)).f0, (rd_T32 l0 (j : Int)).f1, A2, (rd_T32 l0 (j : Int)).f2.length, c2), rfl, rfl, fun _ => ⟨ad, hA, ?_, h0, h1, h2⟩⟩
      have := World.block_lt_of_cell? w _ h0
      rwa [add_block] at this
    · exact ⟨(j, (rd_T32 l0 (j : Int)).f0, 0, none, 0, 0), rfl, rfl, fun h => absurd h hj⟩
  obtain ⟨el, hel⟩ := Classical.axiomOfChoice hex
  exact callsIn_wide.1 (deplog_last_in A0 c0 l0 a1 el (fun j => (hel j).1) (fun j => (hel j).2.1) hl w (fun j hj => (hel j).2.2 hj))
end

end Go.Proofs.YtaokgnhdagcepaaDoor.P
