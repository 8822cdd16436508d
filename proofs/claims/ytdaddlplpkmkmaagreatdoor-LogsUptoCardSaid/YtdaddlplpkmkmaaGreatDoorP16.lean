-- Made by a program of this work's own (wip/myprint.py) over the kit's print; leaves by hand.
import Derived.Test.YtdaddlplpkmkmaaGreatDoorP0
import Derived.Test.YtdaddlplpkmkmaaGreatDoorP15
import Derived.LoopIn
import Derived.LoopNIn
import Derived.OwnWalkIn
import Derived.RangeFuncBound
import Derived.RangeFuncBox
import Derived.RangeFuncCalls
import Derived.RangeFuncLeaves
import Derived.RangeFuncNested
import Derived.Shelf.Abstract
import Derived.Shelf.RegionOpen
import Derived.Sort.LoopGhostIn
import Derived.TacticsInMore
import Derived.Test.YtdaddlplpkmkmaaGreatDoorMg1
import Derived.Test.YtdaddlplpkmkmaaGreatDoorShelf
import Derived.Test.YtdaddlplpkmkmaaGreatDoorTb
namespace Go.Proofs.YtdaddlplpkmkmaaGreatDoor.P
open Go.RowKit Go.Proofs.YtdaddlplpkmkmaaGreatDoorW.PrintWords Go.Proofs.YtdaddlplpkmkmaaGreatDoorW.PrintLast Go.Proofs.YtdaddlplpkmkmaaGreatDoorW.PrintMore
attribute [local go_sem] max2_int min2_int max_two min_two max_three min_three max_four min_four   -- for this text's walks alone
set_option linter.unusedVariables false
set_option linter.unusedSimpArgs false

-- HANDBIG LogLoad.lean
-- IMPORT Derived.Test.YtdaddlplpkmkmaaGreatDoorAfter
-- IMPORT Derived.Test.YtdaddlplpkmkmaaGreatDoorTb
-- IMPORT Derived.Test.YtdaddlplpkmkmaaGreatDoorShelf
-- IMPORT Derived.RangeFuncNested
-- IMPORT Derived.RangeFuncBound
-- IMPORT Derived.RangeFuncCalls
-- IMPORT Derived.RangeFuncLeaves
-- IMPORT Derived.RangeFuncBox
-- IMPORT Derived.Shelf.Abstract
-- IMPORT Derived.Shelf.RegionOpen
-- IMPORT Derived.OwnWalkIn
-- IMPORT Derived.TacticsInMore
-- IMPORT Derived.LoopNIn
-- IMPORT Derived.LoopIn
-- IMPORT Derived.Sort.LoopGhostIn
/-! ### log_Load, by hand -/
section
open Go.Shelf
attribute [local go_sem] Oper.semAt_some
def log_take (k : Nat) : Nat → List ByteArray → Option (List (S31))
  | _, [] => some []
  | n, p :: ps => (logline_Get.f k p).bind fun r => if r.2.2.2 = 0 ∧ 0 < n then (log_take k (n - 1) ps).bind fun xs => some (⟨r.1, r.2.1, r.2.2.1⟩ :: xs) else some []
def log_Load.f (k : Nat) (a0 : ByteArray) : Option (List (S31)) := if a0.size < 4294967281 then log_take k 256 ((Spec.after 10 a0.data.toList).map Spec.str) else none
theorem log_take.mono : ∀ (ps : List ByteArray) (n k : Nat), LeO (log_take k n ps) (log_take (k + 1) n ps)
  | [], _, _ => LeO.refl _
  | _ :: ps, n, k => LeO.bind (logline_Get.mono _ _) (fun _ => LeO.ite (LeO.bind (log_take.mono ps (n - 1) k) (fun _ => LeO.refl _)) (LeO.refl _))
theorem log_Load.mono : ∀ a0 k, LeO (log_Load.f k a0) (log_Load.f (k + 1) a0) := fun a0 k => LeO.ite (log_take.mono _ _ _) (LeO.none _)

/-! the iterator: it writes its own box alone -/
abbrev ldS (s : ByteArray) : Obj := .cells #[.string s] 9
theorem ld_index (t : ByteArray) (W : World) : Calls Tryz.prog 54 #[.string t, .string ⟨#[10]⟩] W fun e w' => e = .returned (.int .i64 (Lib.index t.data.toList [10])) ∧ w' = W :=
  (Tryz.strings_Index_one t 10 W).mono fun e w' ⟨he, hw⟩ => ⟨by rw [he, ← Lib.index_one], hw⟩
structure LdBox (Bs : Nat) (t : ByteArray) (W : World) : Prop where
  s : W.heap[Bs]? = some (.cells #[.string t] 9 (0, 0))
  sep : W.heap[Bs + 1]? = some (.cells #[.string ⟨#[10]⟩] 9 (0, 0))
  save : W.heap[Bs + 2]? = some (.cells #[.int .i64 1] 3 (0, 0))
abbrev LdKeep (Bs : Nat) (W W' : World) : Prop := ∀ k, Bs ≤ k → k < Bs + 3 → W'.heap[k]? = W.heap[k]?
theorem LdBox.keep {Bs : Nat} {t : ByteArray} {W W' : World} (h : LdBox Bs t W) (hB : LdKeep Bs W W') : LdBox Bs t W' :=
  ⟨(hB _ (by omega) (by omega)).trans h.s, (hB _ (by omega) (by omega)).trans h.sep, (hB _ (by omega) (by omega)).trans h.save⟩
theorem LdBox.put {Bs : Nat} {t : ByteArray} {W : World} (h : LdBox Bs t W) (u : ByteArray) : LdBox Bs u (W.setCell ⟨Bs, 0, none⟩ (.string u)) :=
  ⟨blk_put h.s 0 _ rfl, blk_far h.sep (by simp) _, blk_far h.save (by simp) _⟩
theorem ld_hit (u : ByteArray) (hm : (10 : UInt8) ∈ u.data.toList) : ∃ (i : Nat) (x r : ByteArray), Lib.index u.data.toList [10] = (i : Int) ∧ u.extract 0 (i + 1) = x ∧ u.extract (i + 1) u.size = r ∧ (Spec.after 10 u.data.toList).map Spec.str = x :: (Spec.after 10 r.data.toList).map Spec.str ∧ r.size < u.size ∧ ¬ ((i : Int) < 0) ∧ (0 : Int) ≤ (i : Int) + 1 ∧ (i : Int) + 1 ≤ (u.size : Int) ∧ i + 1 ≤ u.size := by
  have hix := Spec.index_cut 10 u.data.toList hm
  have e4 := Spec.after_step 10 u.data.toList hm
  obtain ⟨e1, e2, e3⟩ := Spec.cut_take 10 u.data.toList hm
  have hz := Spec.size_data u
  obtain ⟨p, hp⟩ : ∃ p, (Spec.cutAt 10 u.data.toList).1 = p := ⟨_, rfl⟩
  obtain ⟨q, hq⟩ : ∃ q, (Spec.cutAt 10 u.data.toList).2 = q := ⟨_, rfl⟩
  rw [hp] at hix e1 e2 e3 e4
  rw [hq] at e2 e4
  have hx : u.extract 0 (p.length + 1) = Spec.str (p ++ [10]) := Spec.str_eq _ _ (by rw [Spec.extract_data, List.drop_zero, e1])
  have hr : u.extract (p.length + 1) u.size = Spec.str q := Spec.str_eq _ _ (by rw [Spec.extract_data, List.take_of_length_le (by omega), e2])
  refine ⟨p.length, _, _, hix, rfl, rfl, ?_, ?_, by omega, by omega, by omega, by omega⟩
  · rw [hx, hr, Spec.str_data, e4, List.map_cons]
  · rw [ByteArray.size_extract]; omega
set_option maxRecDepth 100000 in
set_option maxHeartbeats 2000000 in
theorem split1_in (n : Nat) (hn : 1 ≤ n) (l Bs : Nat) (s : ByteArray) (J Jx : List ByteArray → World → Prop) (hJ : ∀ pre W v, J pre W → J pre (W.setCell ⟨Bs, 0, none⟩ v))
    (hY : ∀ pre x W, (∃ rest, (Spec.after 10 s.data.toList).map Spec.str = pre ++ x :: rest) → J pre W → YieldAt Fence.wide (n - 1) Tryz.prog l #[.string x] W fun e W' => (e = .returned (.bool true) ∧ J (pre ++ [x]) W' ∧ LdKeep Bs W W') ∨ (e = .returned (.bool false) ∧ Jx (pre ++ [x]) W'))
    (hs : s.size < 4294967281) (W : World) (hb : LdBox Bs s W) (h0 : J [] W) :
    CallsIn Fence.wide n Tryz.prog 52 #[.func (.yield l) #[] #[], .pointer (some ⟨Bs + 1, 0, none⟩), .pointer (some ⟨Bs, 0, none⟩), .pointer (some ⟨Bs + 2, 0, none⟩)] W fun e W' => (∃ v, e = .returned v) ∧
      ((∃ ys, ys = (Spec.after 10 s.data.toList).map Spec.str ∧ J ys W') ∨ (∃ pre, (∃ rest, (Spec.after 10 s.data.toList).map Spec.str = pre ++ rest) ∧ Jx pre W')) := by
  have HB := Aside0.mk hb
  have H0 := Aside0.mk h0
  have HS := Aside0.mk hs
  have k1 := blk_cell hb.sep 0
  clear hb h0
  refine callsIn_of_wp Tryz.func52 rfl trivial ?_ rfl
  simp only [Tryz.ntmps52, List.size_toArray, List.length_cons, List.length_nil, Nat.reduceAdd, Nat.reduceSub, Array.replicate_succ, Array.replicate_zero, List.push_toArray, List.append_toArray, List.nil_append, List.cons_append]
  gi_wp2
  gi_loopg [7, 8] (s.size + 1) (fun gg _ _ wr => ∃ (u : ByteArray) (pre : List ByteArray), u.size < gg ∧ u.size < 4294967281 ∧ (Spec.after 10 s.data.toList).map Spec.str = pre ++ (Spec.after 10 u.data.toList).map Spec.str ∧ Aside0 (LdBox Bs u wr) ∧ Aside0 (J pre wr))
  case atStart => exact ⟨s, [], by omega, HS.out, rfl, HB, H0⟩
  case round =>
    obtain ⟨u, pre, hg, hu, hp, HB, HJ⟩ := hrel
    have cI := ld_index u wr
    have s0 := blk_cell HB.out.s 0
    have s1 := blk_cell HB.out.sep 0
    have s2 := blk_cell HB.out.save 0
    have f0 := blk_frozen HB.out.s 0
    have hz := Spec.size_data u
    by_cases hm : (10 : UInt8) ∈ u.data.toList
    · obtain ⟨i, x, r, hix, hx, hr, e4, hrs, c1, c2, c3, c4⟩ := ld_hit u hm
      rw [hix] at cI
      obtain ⟨fn, tmps, assign, body, hy, hR⟩ := hY pre x wr ⟨_, by rw [hp, e4]⟩ HJ.out
      have HP : Aside0 ((Spec.after 10 s.data.toList).map Spec.str = (pre ++ [x]) ++ (Spec.after 10 r.data.toList).map Spec.str) := ⟨by rw [hp, e4, List.append_assoc]; rfl⟩
      have HE := Aside0.mk hrs
      clear e4 hix hrs hp hz hm
      gi_wp2_with (refine ⟨trivial, ?_⟩; gi_at_call 54; refine (callsIn_wide.2 cI).mono ?_; rintro e w' ⟨rfl, hw'⟩; rw [hw']; clear hw')
      refine hR.mono ?_
      rintro e W3 (⟨rfl, hJ3, hk3⟩ | ⟨rfl, hJx3⟩)
      · have hb3 := HB.out.keep hk3
        have s0 := blk_cell hb3.s 0
        have s1 := blk_cell hb3.sep 0
        have f0 := blk_frozen hb3.s 0
        have HB3 := Aside0.mk hb3
        have HJ3 := Aside0.mk hJ3
        clear hb3 hJ3 hk3
        gi_wp2
        go_roundg (r.size + 1)
        case measure => exact Nat.lt_of_le_of_lt HE.out hg
        case rel => exact ⟨r, pre ++ [x], Nat.lt_succ_self _, Nat.lt_trans HE.out hu, HP.out, ⟨HB3.out.put r⟩, ⟨hJ _ _ _ HJ3.out⟩⟩
      · gi_wp2
        refine bodyPost_ret (results_none rfl _ _ _) rfl ?_
        exact ⟨⟨_, rfl⟩, .inr ⟨_, ⟨_, HP.out⟩, hJx3⟩⟩
    · have hix := (Spec.index_none_count 10 u.data.toList).2 hm
      have e4 := Spec.after_none 10 u.data.toList hm
      rw [hix] at cI
      have c1 : ((-1 : Int) < 0) := by omega
      obtain ⟨fn, tmps, assign, body, hy, hR⟩ := hY pre u wr ⟨[], by rw [hp, e4, List.map_cons, List.map_nil, Spec.str_of]⟩ HJ.out
      have HP : Aside0 ((Spec.after 10 s.data.toList).map Spec.str = pre ++ [u]) := ⟨by rw [hp, e4, List.map_cons, List.map_nil, Spec.str_of]⟩
      clear e4 hix hp hz hm
      gi_wp2_with (refine ⟨trivial, ?_⟩; gi_at_call 54; refine (callsIn_wide.2 cI).mono ?_; rintro e w' ⟨rfl, hw'⟩; rw [hw']; clear hw')
      refine hR.mono ?_
      rintro e W3 (⟨rfl, hJ3, hk3⟩ | ⟨rfl, hJx3⟩)
      · gi_wp2
        go_end0
        exact ⟨⟨_, rfl⟩, .inl ⟨_, HP.out.symm, hJ3⟩⟩
      · gi_wp2
        go_end0
        exact ⟨⟨_, rfl⟩, .inr ⟨_, ⟨[], by rw [List.append_nil]; exact HP.out⟩, hJx3⟩⟩

theorem splitAfter_in (n : Nat) (hn : 2 ≤ n) (s : ByteArray) (w : World) :
    CallsIn Fence.wide n Tryz.prog 27 #[.string s, .string ⟨#[10]⟩] w fun e w' => e = .returned (.func (.func 52) #[] #[.pointer (some ⟨w.heap.size + 1, 0, none⟩), .pointer (some ⟨w.heap.size, 0, none⟩), .pointer (some ⟨w.heap.size + 2, 0, none⟩)]) ∧ w' = ((w.alloc (ldS s)).alloc (ldS ⟨#[10]⟩)).alloc (.cells #[.int .i64 1] 3) := by
  have hn1 : 1 ≤ n := by omega
  have c1 : ∀ m, CallsIn Fence.wide m Tryz.prog 38 #[.string s, .string ⟨#[10]⟩, .int .i64 1] w fun e w' => e = .returned (.func (.func 52) #[] #[.pointer (some ⟨w.heap.size + 1, 0, none⟩), .pointer (some ⟨w.heap.size, 0, none⟩), .pointer (some ⟨w.heap.size + 2, 0, none⟩)]) ∧ w' = ((w.alloc (ldS s)).alloc (ldS ⟨#[10]⟩)).alloc (.cells #[.int .i64 1] 3) := fun m => by
    refine callsIn_of_wp Tryz.func38 rfl trivial ?_ rfl
    simp only [Tryz.ntmps38, List.size_toArray, List.length_cons, List.length_nil, Nat.reduceAdd, Nat.reduceSub, Array.replicate_succ, Array.replicate_zero, List.push_toArray, List.append_toArray, List.nil_append, List.cons_append]
    gi_wp2
    go_ret
    exact ⟨rfl, rfl⟩
  refine callsIn_of_wp Tryz.func27 rfl trivial ?_ rfl
  simp only [Tryz.ntmps27, List.size_toArray, List.length_cons, List.length_nil, Nat.reduceAdd, Nat.reduceSub, Array.replicate_succ, Array.replicate_zero, List.push_toArray, List.append_toArray, List.nil_append, List.cons_append]
  gi_wp2_with (refine ⟨trivial, ?_⟩; gi_at_call 38; refine (c1 _).mono ?_; rintro e w' ⟨rfl, rfl⟩)
  go_ret
  exact ⟨rfl, rfl⟩

/-! the range: the iterator may write its own box -/
def rbPost (I Ix : List ByteArray → World → Prop) (Kp : World → World → Prop) (xs : List ByteArray) (W : World) : Exit → Act → World → Prop
  | .normal, _, W' => KeepsOthers W W' ∧ Kp W W' ∧ I xs W'
  | .exit id, _, W' => id = 0 ∧ KeepsOthers W W' ∧ Ix xs W'
  | _, _, _ => False
theorem range_box {n : Nat} {g : Operand} {ps : Array Tmp} {assign body : Code} {Q : Exit → Act → World → Prop} {a : Act} {w : World} (h1 : 1 ≤ n) {gf : Nat} {lb : Array Value}
    (hg : a.eval g = .func (.func gf) #[] lb) (eg : ∀ args w, (callFunc gf args).run Tryz.prog w = .ok (.enter gf args) w) (hps : ∀ x : ByteArray, (#[Value.string x] : Array Value).size = ps.size)
    {Bs : Nat} (hBs : Bs < w.heap.size) (Kp : World → World → Prop) {all : List ByteArray}
    (hseq : ∀ (l : Nat) (J Jx : List ByteArray → World → Prop) (W1 : World), Below w.heap.size w W1 → (∀ pre W v, J pre W → J pre (W.setCell ⟨Bs, 0, none⟩ v)) →
      (∀ pre x W, (∃ rest, all = pre ++ x :: rest) → J pre W → YieldAt Fence.wide (n - 1 - 1) Tryz.prog l #[.string x] W fun e W' => (e = .returned (.bool true) ∧ J (pre ++ [x]) W' ∧ Kp W W') ∨ (e = .returned (.bool false) ∧ Jx (pre ++ [x]) W')) → J [] W1 →
      CallsIn Fence.wide (n - 1) Tryz.prog gf (#[.func (.yield l) #[] #[]] ++ lb) W1 fun e W' => (∃ v, e = .returned v) ∧ ((∃ ys, ys = all ∧ J ys W') ∨ (∃ pre, (∃ rest, all = pre ++ rest) ∧ Jx pre W')))
    (hKt : ∀ {A B C : World}, Kp A B → Kp B C → Kp A C) (hKb : ∀ (W : World) (l : Nat) (o' : Obj), w.heap.size ≤ l → Kp W (W.putObj l o'))
    (I Ix : List ByteArray → World → Prop) (hI : OwnFrom w.heap.size I) (hIx : OwnFrom w.heap.size Ix) (hIb : ∀ pre W v, I pre W → I pre (W.setCell ⟨Bs, 0, none⟩ v)) (h0 : I [] w)
    (act : ByteArray → Act)
    (hassign : ∀ (l : Nat) (x : ByteArray) (W : World) (K : Act → World → Prop), K (act x) W → assign.wpIn (Fence.wide.inRound l) (n - 1 - 1) Tryz.prog (Exit.then K (fun _ _ _ => False)) { tmps := (ps.zip #[Value.string x]).foldl (fun t (p, v) => t.setIfInBounds p v) a.tmps, defers := [] } W)
    (hbody : ∀ (l : Nat) (pre : List ByteArray) (x : ByteArray) (W : World), (∃ rest, all = pre ++ x :: rest) → I pre W → body.wpIn (Fence.wide.inRound l) (n - 1 - 1) Tryz.prog (rbPost I Ix Kp (pre ++ [x]) W) (act x) W)
    (hdone : ∀ (D : Nat) (W : World), w.heap.size ≤ D → I all W → W.heap[D]? = some (.deferred (some [])) → Q .normal { a with defers := { target := .collected D, args := #[] } :: a.defers } W)
    (hstop : ∀ (D : Nat) (pre : List ByteArray) (W : World), w.heap.size ≤ D → Ix pre W → W.heap[D]? = some (.deferred (some [])) → (Code.exit 0).wpIn Fence.wide n Tryz.prog Q { a with defers := { target := .collected D, args := #[] } :: a.defers } W) :
    (Code.rangeFunc g ps assign body).wpIn Fence.wide n Tryz.prog Q a w := by
  refine wpIn_rangeFunc fun fn hfn => ?_
  obtain ⟨rc, hrc⟩ : ∃ rc : LoopState → Option Code → Loop, rc = fun st pe => { state := st, pending := pe, fn, tmps := a.tmps, params := ps, assign, body, defers := w.heap.size } := ⟨_, rfl⟩
  have hent : (Instr.enterLoop fn a.tmps ps assign body Fence.wide.round).run Tryz.prog w = .ok (w.heap.size + 1, [{ target := .collected w.heap.size, args := #[] }]) ((w.alloc (.deferred (some []))).alloc (.loop (rc .ready none))) := by
    rw [hrc]; exact run_enterLoop_outer fn a.tmps ps assign body
  have hL1 := World.alloc_heap_new (w.alloc (.deferred (some []))) (.loop (rc .ready none))
  have hK1 := (Below.heap_alloc (w.alloc (.deferred (some []))) (.loop (rc .ready none)) w.heap.size (by simp)).trans (World.alloc_heap_new w (.deferred (some [])))
  have hI1 : I [] ((w.alloc (.deferred (some []))).alloc (.loop (rc .ready none))) := hI.alloc _ (hI.alloc _ h0)
  have hb1 : Below w.heap.size w ((w.alloc (.deferred (some []))).alloc (.loop (rc .ready none))) := ((Below.refl _ w).alloc (Nat.le_refl _) _).alloc (by simp) _
  rw [World.size_alloc] at hL1
  obtain ⟨W1, hW1⟩ : ∃ W1, (w.alloc (.deferred (some []))).alloc (.loop (rc .ready none)) = W1 := ⟨_, rfl⟩
  rw [hW1] at hL1 hK1 hI1 hb1 hent
  clear hW1
  have hpar : ∀ st pe, (rc st pe).params = ps := fun st pe => by rw [hrc]
  refine ⟨w.heap.size + 1, [{ target := .collected w.heap.size, args := #[] }], W1, { target := .fn (.func gf) lb, args := #[.func (.yield (w.heap.size + 1)) #[] #[]] }, W1, gf, #[.func (.yield (w.heap.size + 1)) #[] #[]] ++ lb, W1, hent, ?_, fun f' hf' => by simp [Target.leads] at hf'; subst hf'; trivial, by simp [invoke, go_sem, eg], fun _ => h1, ?_⟩
  · simp only [resolve, hg]
    simp [go_sem]
  have far : ∀ {W : World} {k : Nat} {o : Obj} (v : Value), w.heap.size ≤ k → W.heap[k]? = some o → (W.setCell ⟨Bs, 0, none⟩ v).heap[k]? = some o := fun v hk h => (Below.heap_setCell _ ⟨Bs, 0, none⟩ v _ (by show _ ≠ Bs; omega)).trans h
  refine (hseq (w.heap.size + 1)
    (fun pre W => I pre W ∧ W.heap[w.heap.size + 1]? = some (.loop (rc .ready none)) ∧ W.heap[w.heap.size]? = some (.deferred (some [])))
    (fun pre W => Ix pre W ∧ W.heap[w.heap.size + 1]? = some (.loop (rc .done (some (.exit 0)))) ∧ W.heap[w.heap.size]? = some (.deferred (some [])))
    W1 hb1 (fun pre W v h => ⟨hIb _ _ _ h.1, far v (by omega) h.2.1, far v (Nat.le_refl _) h.2.2⟩) ?_ ⟨hI1, hL1, hK1⟩).mono ?_
  · rintro pre x W hpre ⟨hi, hl, hk⟩
    have hy := run_yield (P := Tryz.prog) (args := #[.string x]) hl (by rw [hpar]; exact hps x)
    rw [hrc] at hy
    refine ⟨fn, _, assign, body, hy, roundIn_of_wpIn hfn (hassign _ x W _ ?_)⟩
    clear hy
    have hst : (rc .ready none).state = .ready := by rw [hrc]
    refine ⟨_, run_beginRound hl hst, ?_⟩
    have hlt : w.heap.size + 1 < W.heap.size := (Array.getElem?_eq_some_iff.1 hl).1
    obtain ⟨bz, hbz⟩ : ∃ bz, ({ rc .ready none with state := .busy } : Loop) = bz := ⟨_, rfl⟩
    rw [hbz]
    have hl2 : (W.putObj (w.heap.size + 1) (.loop bz)).heap[w.heap.size + 1]? = some (.loop bz) := World.putObj_heap_same hlt
    have hk2 : (W.putObj (w.heap.size + 1) (.loop bz)).heap[w.heap.size]? = some (.deferred (some [])) := (World.putObj_heap_other (by omega)).trans hk
    have hw2 : Kp W (W.putObj (w.heap.size + 1) (.loop bz)) := hKb _ _ _ (by omega)
    refine wpIn_mono (hbody _ pre x _ hpre (hI.putObj _ hi (by omega) hl rfl)) ?_
    rintro e a3 W3 hp
    cases e with
    | normal =>
      obtain ⟨hk3, hkp3, hi3⟩ := hp
      have hl3 := hk3.same _ _ hl2 rfl
      have hr := run_endRound (P := Tryz.prog) none hl3
      have e1 : ({ bz with state := if (none : Option Code).isNone then .ready else .done, pending := none } : Loop) = rc .ready none := by rw [← hbz, hrc]; rfl
      rw [e1] at hr
      exact ⟨_, _, hr, .inl ⟨rfl, ⟨hI.putObj _ hi3 (by omega) hl3 rfl, World.putObj_heap_same (Array.getElem?_eq_some_iff.1 hl3).1, (World.putObj_heap_other (by omega)).trans (hk3.same _ _ hk2 rfl)⟩, hKt (hKt hw2 hkp3) (hKb _ _ _ (by omega))⟩⟩
    | exit id =>
      obtain ⟨rfl, hk3, hi3⟩ := hp
      have hl3 := hk3.same _ _ hl2 rfl
      have hr := run_endRound (P := Tryz.prog) (some (.exit 0)) hl3
      have e1 : ({ bz with state := if (some (Code.exit 0) : Option Code).isNone then .ready else .done, pending := some (.exit 0) } : Loop) = rc .done (some (.exit 0)) := by rw [← hbz, hrc]; rfl
      rw [e1] at hr
      exact ⟨_, _, hr, .inr ⟨rfl, hIx.putObj _ hi3 (by omega) hl3 rfl, World.putObj_heap_same (Array.getElem?_eq_some_iff.1 hl3).1, (World.putObj_heap_other (by omega)).trans (hk3.same _ _ hk2 rfl)⟩⟩
    | ret => exact hp.elim
    | goto t => exact hp.elim
    | panic ch => exact hp.elim
    | outgrown => exact hp.elim
  · rintro e W2 ⟨⟨v, rfl⟩, (⟨xs, rfl, hi, hl, hk⟩ | ⟨pre, _, hi, hl, hk⟩)⟩
    · have hr := run_endLoop (P := Tryz.prog) hl (by rw [hrc]; simp)
      have e1 : (rc .ready none).pending = none := by rw [hrc]
      rw [e1] at hr
      exact ⟨none, _, hr, hdone _ _ (Nat.le_refl _) (hI.putObj _ hi (by omega) hl rfl) ((World.putObj_heap_other (by omega)).trans hk)⟩
    · have hr := run_endLoop (P := Tryz.prog) hl (by rw [hrc]; simp)
      have e1 : (rc .done (some (.exit 0))).pending = some (.exit 0) := by rw [hrc]
      rw [e1] at hr
      exact ⟨some (.exit 0), _, hr, hstop _ pre _ (Nat.le_refl _) (hIx.putObj _ hi (by omega) hl rfl) ((World.putObj_heap_other (by omega)).trans hk)⟩

/-! the function -/
abbrev ldRec (x : S31) : List Value := [.string x.f0, .int .i64 x.f1, .string x.f2]
structure LdHas (w W : World) (xs : List (S31)) : Prop where
  has : ∃ v cells, Boxed W w.heap.size 22 v ∧ W.ownsRow (w.heap.size + 4) 31 3 v xs.length cells ∧ Reps (fun x c => c = ldRec x) 3 xs cells
  below : Below w.heap.size w W
  big : w.heap.size + 4 ≤ W.heap.size
theorem ld_own_lt {W : World} {base : Nat} {e : TypeId} {size k : Nat} {v : Value} {xs : List Value} (h : W.ownsRow base e size v k xs) (g : Nat) (hg : v.ownBlock = some g) : base ≤ g ∧ g < W.heap.size ∧ ∃ cur, W.heap[g]? = some (.cells cur e (0, 0)) := ⟨own_base h g hg, own_lt h g hg, own_typed h g hg⟩
theorem LdHas.grown {w X Y : World} {xs : List (S31)} {row : Option Nat} (h : LdHas w X xs) (hg : X.grownBy Y row) (hr : ∀ r, row = some r → w.heap.size ≤ r ∧ ∃ o : Obj, X.heap[r]? = some o ∧ o.isCells = false) : LdHas w Y xs := by
  obtain ⟨⟨v, cells, hb, ho, hp⟩, hB, hS⟩ := h
  refine ⟨⟨v, cells, hb.kept hg (fun e => ?_), ho.kept hg ?_, hp⟩, hB.grown hg hB.size (fun j ej => (hr j ej).1), Nat.le_trans hS hg.size⟩
  · obtain ⟨_, o, h1, h2⟩ := hr _ e.symm
    rw [show X.heap[w.heap.size]? = _ from hb] at h1
    cases h1; cases h2
  · rcases own_base' ho with hn | ⟨b, hv, _⟩
    · exact .inl hn
    · refine .inr fun e => ?_
      obtain ⟨_, o, h1, h2⟩ := hr b (e.symm.trans hv)
      obtain ⟨_, _, cur, h3⟩ := ld_own_lt ho b hv
      rw [h3] at h1
      cases h1; cases h2
theorem LdHas.set {w W : World} {xs : List (S31)} (h : LdHas w W xs) (b : Nat) (h1 : w.heap.size < b) (h2 : b < w.heap.size + 4) (u : Value) : LdHas w (W.setCell ⟨b, 0, none⟩ u) xs := by
  obtain ⟨⟨v, cells, hb, ho, hp⟩, hB, hS⟩ := h
  refine ⟨⟨v, cells, hb.kept (grownBy_setCell' W b u) (fun e => by cases e; omega), ho.kept (grownBy_setCell' W b u) ?_, hp⟩, hB.setCell (p := ⟨b, 0, none⟩) (by show _ ≤ b; omega) _, Nat.le_trans hS (grownBy_setCell' W b u).size⟩
  rcases own_base' ho with hn | ⟨c, hv, hc⟩
  · exact .inl hn
  · exact .inr fun e => by rw [hv] at e; cases e; omega
theorem LdHas.own {w : World} (xs : List (S31)) : OwnFrom w.heap.size (fun (_ : List ByteArray) W => LdHas w W xs) := fun _ _ _ _ h hg hr => h.grown hg hr
theorem LdHas.next {w W W' : World} {xs : List (S31)} (h : LdHas w W xs) (hB : Below W.heap.size W W') : LdHas w W' xs := by
  obtain ⟨⟨v, cells, hb, ho, hp⟩, hB0, hS⟩ := h
  exact ⟨⟨v, cells, (hB.block _ (blk_lt hb)).trans hb, own_move ho (fun j hj => hB.block j (own_lt ho j hj)), hp⟩, below_then hB0 hB0.size hB, Nat.le_trans hS hB.size⟩
abbrev ldO (o : ByteArray) (t : Int) (g : ByteArray) : Obj := .cells #[.string o, .int .i64 t, .string g] 31
theorem keep_of_below {W W' : World} (h : Below W.heap.size W W') : KeepsOthers W W' := ⟨h.size, fun j o hj _ => (h.block j (blk_lt hj)).trans hj⟩
theorem ld_append {w W W4 w5 : World} {n : Nat} {A : Option Addr} {c : Nat} {xs : List (S31)} {x : S31} {cells : List Value} {v' : Value} (hW : w.heap.size + 4 ≤ W4.heap.size) (hn : n = xs.length)
    (hb : Boxed W4 w.heap.size 22 (.slice A n c)) (ho : W4.ownsRow (w.heap.size + 4) 31 3 (.slice A n c) n cells) (hp : Reps (fun x c => c = ldRec x) 3 xs cells) (hB : Below w.heap.size w W4)
    (hk : KeepsOthers W W4) (hl : LdKeep (w.heap.size + 1) W W4)
    (ho' : w5.ownsRow (w.heap.size + 4) 31 3 v' (n + 1) (cells ++ ldRec x)) (hg : (W4.alloc (ldO x.f0 x.f1 x.f2)).grownBy w5 (Value.slice A n c).ownBlock) :
    ∃ A' c', v' = .slice A' (n + 1) c' ∧ w5.cell? ⟨w.heap.size, 0, none⟩ = some (.slice A n c) ∧ w5.frozen? ⟨w.heap.size, 0, none⟩ = false ∧ KeepsOthers W (w5.setCell ⟨w.heap.size, 0, none⟩ v') ∧ LdKeep (w.heap.size + 1) W (w5.setCell ⟨w.heap.size, 0, none⟩ v') ∧ LdHas w (w5.setCell ⟨w.heap.size, 0, none⟩ v') (xs ++ [x]) := by
  subst hn
  obtain ⟨hv1, hv2, _, hko, hbe⟩ := Boxed.appended (n₀ := w.heap.size) hb (by decide) (own_weaken ho (by omega)) (by omega) (Nat.le_refl _) (own_weaken ho' (by omega)) hg
  have hlen : (xs ++ [x]).length = xs.length + 1 := by simp
  have hp' : Reps (fun x c => c = ldRec x) 3 (xs ++ [x]) (cells ++ ldRec x) := hp.snoc rfl rfl
  have ho2 : w5.ownsRow (w.heap.size + 4) 31 3 v' (xs ++ [x]).length (cells ++ ldRec x) := by rw [hlen]; exact ho'
  obtain ⟨A', c', rfl, hle⟩ := OwnRow.slice_ (show OwnRow _ _ _ _ _ _ (xs ++ [x]) from ⟨_, ho2, hp'⟩)
  have far : ∀ j, (Value.slice A xs.length c).ownBlock = some j → w.heap.size + 4 ≤ j := fun j hj => own_base ho j hj
  have far' : ∀ j, (Value.slice A' (xs ++ [x]).length c').ownBlock = some j → w.heap.size + 4 ≤ j := fun j hj => own_base ho2 j hj
  refine ⟨A', c', by rw [hlen], hv1.cell, hv1.frozen, hk.trans hko, fun j ha hb' => ?_, ⟨⟨_, _, hv2, ho2.kept (grownBy_setCell' w5 w.heap.size _) ?_, hp'⟩, hB.trans hbe, ?_⟩⟩
  · rw [Below.heap_setCell w5 ⟨w.heap.size, 0, none⟩ _ j (by show j ≠ w.heap.size; omega), hg.block j (by simp; omega) (fun e => by have := far j e.symm; omega), Below.heap_alloc _ _ _ (by omega)]
    exact hl j ha hb'
  · rcases own_base' ho2 with h | ⟨b, h, _⟩
    · exact .inl h
    · refine .inr fun e => ?_
      have := far' _ e
      omega
  · have h1 := hg.size
    have h2 := (grownBy_setCell' w5 w.heap.size (.slice A' (xs ++ [x]).length c')).size
    simp at h1
    omega
def LdI (k : Nat) (w : World) (all : List ByteArray) (r : List (S31)) (pre : List ByteArray) (W : World) : Prop :=
  ∃ xs : List (S31), xs.length ≤ 256 ∧ (∀ rest, all = pre ++ rest → ∃ rs, log_take k (256 - xs.length) rest = some rs ∧ xs ++ rs = r) ∧ LdHas w W xs
theorem LdI.own {k : Nat} {w : World} {all : List ByteArray} {r : List (S31)} : OwnFrom w.heap.size (LdI k w all r) := fun _ _ _ _ ⟨xs, h1, h2, h3⟩ hg hr => ⟨xs, h1, h2, h3.grown hg hr⟩
theorem LdHas.fin {w W : World} {r : List (S31)} {D : Nat} (h : LdHas w W r) (hD : w.heap.size ≤ D) (hK : W.heap[D]? = some (.deferred (some []))) : ∃ v, W.cell? ⟨w.heap.size, 0, none⟩ = some v ∧ Kd.R k31 31 (W.putObj D (.deferred none)) w.heap.size (fun _ => True) v r ∧ Below w.heap.size w (W.putObj D (.deferred none)) := by
  have h2 := h.grown (grownBy_putObj' W D (.deferred none)) (fun j ej => by cases ej; exact ⟨hD, _, hK, rfl⟩)
  obtain ⟨⟨v, cells, hb, ho, hp⟩, hB, _⟩ := h
  obtain ⟨_, hB2, _⟩ := h2
  refine ⟨v, hb.cell, ⟨fun _ _ => trivial, cells, own_weaken (ownsRow_putObj ho _ hK rfl) (by omega), hp.imp_ (fun p c hc => ?_)⟩, hB2⟩
  subst hc
  exact k31_mkM _ _ _ p
set_option maxRecDepth 100000 in
set_option maxHeartbeats 2000000 in
theorem log_Load.calls (k : Nat) (a0 : ByteArray) (r : List (S31)) (w : World) (h : log_Load.f k a0 = some r) (hT : Tb w) :
    Calls Tryz.prog 9 #[.string a0] w fun e w' => ∃ v0_ : Value, e = .returned (v0_) ∧ Kd.R k31 31 w' w.heap.size (fun _ => True) v0_ r ∧ Below w.heap.size w w' := by
  unfold log_Load.f at h
  split at h
  case isFalse => cases h
  rename_i hs
  obtain ⟨all, hall⟩ : ∃ all, (Spec.after 10 a0.data.toList).map Spec.str = all := ⟨_, rfl⟩
  rw [hall] at h
  refine (callsIn_wide (n := 6)).1 ?_
  refine callsIn_of_wp_marks Tryz.func9 rfl trivial ?_ rfl
  simp only [Tryz.ntmps9, List.size_toArray, List.length_cons, List.length_nil, Nat.reduceAdd, Nat.reduceSub, Array.replicate_succ, Array.replicate_zero, List.push_toArray, List.append_toArray, List.nil_append, List.cons_append]
  gi_wp2_with (refine ⟨trivial, ?_⟩; gi_at_call 27; refine (splitAfter_in _ (by omega) _ _).mono ?_; rintro e w' ⟨rfl, rfl⟩)
  have hO := heap_alloc_new w (.cells #[.slice none 0 0] 22)
  obtain ⟨w1, hw1⟩ : ∃ w1, w.alloc (.cells #[.slice none 0 0] 22) = w1 := ⟨_, rfl⟩
  have hz1 : w1.heap.size = w.heap.size + 1 := by rw [← hw1, World.size_alloc]
  have hB1 : Below w.heap.size w w1 := by rw [← hw1]; exact below_alloc (Below.refl _ _) _
  rw [hw1] at hO ⊢
  have hA := heap_alloc_new w1 (ldS a0)
  have hBx := heap_alloc_new (w1.alloc (ldS a0)) (ldS ⟨#[10]⟩)
  have hC := heap_alloc_new ((w1.alloc (ldS a0)).alloc (ldS ⟨#[10]⟩)) (.cells #[.int .i64 1] 3)
  have st : ∀ (W : World) (o : Obj) (j : Nat) (q : Obj), W.heap[j]? = some q → (W.alloc o).heap[j]? = some q := fun W o j q h => (Below.heap_alloc W o j (blk_lt h)).trans h
  have hO2 := st _ (.cells #[.int .i64 1] 3) _ _ (st _ (ldS ⟨#[10]⟩) _ _ (st _ (ldS a0) _ _ hO))
  have hA2 := st _ (.cells #[.int .i64 1] 3) _ _ (st _ (ldS ⟨#[10]⟩) _ _ hA)
  have hB2 := st _ (.cells #[.int .i64 1] 3) _ _ hBx
  have hBel : Below w.heap.size w (((w1.alloc (ldS a0)).alloc (ldS ⟨#[10]⟩)).alloc (.cells #[.int .i64 1] 3)) := below_alloc (below_alloc (below_alloc hB1 _) _) _
  have hsz : (((w1.alloc (ldS a0)).alloc (ldS ⟨#[10]⟩)).alloc (.cells #[.int .i64 1] 3)).heap.size = w.heap.size + 4 := by simp [hz1]
  simp only [World.size_alloc] at hB2 hC
  obtain ⟨W0, hW0⟩ : ∃ W0, ((w1.alloc (ldS a0)).alloc (ldS ⟨#[10]⟩)).alloc (.cells #[.int .i64 1] 3) = W0 := ⟨_, rfl⟩
  rw [hW0] at hO2 hA2 hB2 hC hBel hsz ⊢
  rw [hz1] at hA2 hB2 hC
  clear hW0 hO hA hBx hB1 st
  have hBox : LdBox (w.heap.size + 1) a0 W0 := ⟨hA2, hB2, hC⟩
  refine range_box (by omega) (gf := 52) (lb := #[.pointer (some ⟨w.heap.size + 1 + 1, 0, none⟩), .pointer (some ⟨w.heap.size + 1, 0, none⟩), .pointer (some ⟨w.heap.size + 1 + 2, 0, none⟩)]) rfl (enters_of Tryz.func52 (by kernel_rfl) rfl) (fun _ => rfl)
    (Bs := w.heap.size + 1) (by omega) (LdKeep (w.heap.size + 1)) (all := all) ?seq (fun h1 h2 j ha hb => (h2 j ha hb).trans (h1 j ha hb)) (fun W l o' hl j ha hb => World.putObj_heap_other (by omega))
    (LdI k w all r) (fun _ W => LdHas w W r) (fun s X Y row h hg hr => LdI.own s X Y row h hg (fun j ej => ⟨by have := (hr j ej).1; omega, (hr j ej).2⟩)) (fun s X Y row h hg hr => LdHas.grown h hg (fun j ej => ⟨by have := (hr j ej).1; omega, (hr j ej).2⟩))
    (fun pre W v ⟨xs, h1, h2, h3⟩ => ⟨xs, h1, h2, h3.set _ (by omega) (by omega) v⟩) ⟨[], by simp, fun rest hr => ⟨r, by rw [List.nil_append] at hr; rw [← hr]; exact h, rfl⟩, ⟨⟨_, [], hO2, own_nil _ _ _ _, Reps.none _ _⟩, hBel, by omega⟩⟩
    ?act ?assign ?body ?done ?stop
  case seq =>
    intro l J Jx W1 hB hJ hY hJ0
    refine split1_in 5 (by omega) l (w.heap.size + 1) a0 J Jx hJ (fun pre x W hp hj => ?_) hs W1 (hBox.keep (fun j _ hj => hB.block j (by omega))) hJ0 |>.mono ?_
    · exact hY pre x W (by rw [← hall]; exact hp) hj
    · rw [hall]
      exact fun e W' h => h
  case act => exact fun x => { tmps := #[.string a0, undef, .slice none 0 0, .pointer (some ⟨w.heap.size, 0, none⟩), .string x, undef, undef, .string a0, .func (.func 52) #[] #[.pointer (some ⟨w.heap.size + 1 + 1, 0, none⟩), .pointer (some ⟨w.heap.size + 1, 0, none⟩), .pointer (some ⟨w.heap.size + 1 + 2, 0, none⟩)], .string x, undef, undef, undef, undef, undef, undef, undef, undef, undef, undef, undef, undef, undef, undef, undef, undef, undef], defers := [] }
  case assign =>
    intro l x W K hK
    gi_wp2
    exact hK
  case body =>
    rintro l pre x W ⟨rest, hrest⟩ ⟨xs, h1, h2, h3⟩
    obtain ⟨rs, e1, rfl⟩ := h2 (x :: rest) hrest
    have hcut : ∀ rest', all = (pre ++ [x]) ++ rest' → rest' = rest := fun rest' he => by
      rw [hrest, List.append_assoc] at he
      have := List.append_cancel_left he
      exact (List.cons.inj this).2.symm
    rw [log_take] at e1
    obtain ⟨⟨g1, g2, g3, g4⟩, hG, e1⟩ := Option.bind_eq_some_iff.1 e1
    simp only [] at e1
    have cG := logline_Get.calls k x g1 g2 g3 g4 W hG (hT.below h3.below)
    have hsz3 := h3.below.size
    have FACT : Aside0 (∀ w2, Below W.heap.size W w2 → ∃ A c cells, Boxed (w2.alloc (ldO g1 g2 g3)) w.heap.size 22 (.slice A xs.length c) ∧ (w2.alloc (ldO g1 g2 g3)).ownsRow (w.heap.size + 4) 31 3 (.slice A xs.length c) xs.length cells ∧ Reps (fun x c => c = ldRec x) 3 xs cells ∧ Below w.heap.size w (w2.alloc (ldO g1 g2 g3)) ∧ xs.length ≤ c ∧ (w2.alloc (ldO g1 g2 g3)).cell? ⟨w.heap.size, 0, none⟩ = some (.slice A xs.length c)) := ⟨fun w2 hb => by
      obtain ⟨⟨v, cells, hb4, ho4, hp4⟩, hB4, _⟩ := (h3.next hb).next (below_alloc (Below.refl _ w2) (ldO g1 g2 g3))
      obtain ⟨A, c, rfl, hle⟩ := OwnRow.slice_ (show OwnRow _ _ _ _ _ _ xs from ⟨cells, ho4, hp4⟩)
      exact ⟨A, c, cells, hb4, ho4, hp4, hB4, hle, hb4.cell⟩⟩
    have H2 := Aside0.mk h2
    have HCUT := Aside0.mk hcut
    have H3 := Aside0.mk h3
    have HL := Aside0.mk h1
    by_cases hg4 : g4 = 0
    · by_cases hn : xs.length < 256
      · have hn1 : ((xs.length : Int) == 256) = false := by rw [beq_eq_false_iff_ne]; omega
        have hn2 : decide ((xs.length : Int) = 256) = false := decide_eq_false (by omega)
        subst hg4
        rw [if_pos ⟨rfl, by omega⟩] at e1
        obtain ⟨rs', e2, e3⟩ := Option.bind_eq_some_iff.1 e1
        obtain rfl := Option.some.inj e3
        have HE2 := Aside0.mk e2
        have HH := Aside0.mk h
        have HN := Aside0.mk hn
        clear e1 e2 e3 h2 hcut h3 h hrest hBel hBox hO2 hA2 hB2 hC hG h1 hn hsz3
        have hbig := H3.out.big
        obtain ⟨i0, hi, hz0, hz1, hz2⟩ := info_parts info31
        have HI := Aside0.mk hi
        have HZ0 := Aside0.mk hz0
        have HZ1 := Aside0.mk hz1
        have HZ2 := Aside0.mk hz2
        have HBIG := Aside0.mk hbig
        have HM : Aside0 (xs.length + 1 ≤ maxLen ∧ (xs.length + 1) * 40 ≤ 140737488355328) := ⟨by have := HN.out; unfold maxLen; omega, by have := HN.out; omega⟩
        clear hi hz0 hz1 hz2 hbig
        gi_wp2_with (first
          | (refine ⟨trivial, ?_⟩; gi_at_call 28; refine (CallsIn.inRound l (callsIn_wide.2 cG)).mono ?_; rintro e w2 ⟨rfl, hb2⟩; obtain ⟨A, c, cells, hb4, ho4, hp4, hB4, hle4, cO⟩ := FACT.out w2 hb2; have hz := heap_alloc_new w2 (ldO g1 g2 g3); have hnew := heap_alloc_new (w2.alloc (ldO g1 g2 g3)) (ldO g1 g2 g3); rw [World.size_alloc] at hnew; have HNEW := Aside0.mk hnew; clear hnew; have k0 := blk_cell hz 0; have k1 := blk_cell hz 1; have k2 := blk_cell hz 2; have z0 := blk_frozen hz 0; have z1 := blk_frozen hz 1; have z2 := blk_frozen hz 2; have HB2 := Aside0.mk hb2; have HB4 := Aside0.mk hb4; have HO4 := Aside0.mk ho4; have HP4 := Aside0.mk hp4; have HBB := Aside0.mk hB4; have HLE := Aside0.mk hle4; clear hb2 hb4 ho4 hp4 hB4 hle4 hz)
          | (gi_at_builtin; refine wpListIn_append_own _ rfl _ _ 22 rfl (w.heap.size + 4) 31 i0 (.agg #[(.string ⟨#[]⟩), (.int .i64 0), (.string ⟨#[]⟩)]) 3 40 Tryz.underlying22 HI.out HZ0.out HZ1.out HZ2.out rfl (by decide) _ _ _ rfl (HO4.out.alloc _) ⟨w2.heap.size + 1, 0, none⟩ 1 1 (ldRec ⟨g1, g2, g3⟩) rfl rfl (fun j u hu => by rw [add_plain, blk_cell (HNEW.out)]; simpa using hu) (by simp [Value.oneCell']) HM.out.1 HM.out.2 (by have := HB2.out.size; have := HBIG.out; simp; omega) ?_; intro v' w5 hown' hg5 hnil5; obtain ⟨A', c', rfl, cO5, fO5, hk5, hl5, hh5⟩ := ld_append (x := ⟨g1, g2, g3⟩) (W := W) (by have := HB2.out.size; have := HBIG.out; simp; omega) rfl HB4.out HO4.out HP4.out HBB.out ((keep_of_below HB2.out).trans (KeepsOthers.alloc _ _)) (fun j ha hb => (Below.heap_alloc _ _ _ (by have := HB2.out.size; have := HBIG.out; omega)).trans (HB2.out.block j (by have := HBIG.out; omega))) hown' hg5; have HK5 := Aside0.mk hk5; have HL5 := Aside0.mk hl5; have HH5 := Aside0.mk hh5; clear hown' hg5 hnil5 hk5 hl5 hh5))

        exact ⟨HK5.out, HL5.out, ⟨_, by have := HN.out; simp; omega, fun rest' he => ⟨rs', by rw [HCUT.out rest' he]; have e := HE2.out; rw [show 256 - xs.length - 1 = 256 - (xs ++ [(⟨g1, g2, g3⟩ : S31)]).length by simp; omega] at e; exact e, by simp⟩, HH5.out⟩⟩
      · have hn1 : ((xs.length : Int) == 256) = true := by rw [beq_iff_eq]; omega
        have hn2 : decide ((xs.length : Int) = 256) = true := decide_eq_true (by omega)
        subst hg4
        rw [if_neg (by omega)] at e1
        obtain rfl := Option.some.inj e1
        have HH := Aside0.mk h
        clear e1 h2 hcut h3 h hrest hBel hBox hO2 hA2 hB2 hC hG h1 hn hsz3
        gi_wp2_with (refine ⟨trivial, ?_⟩; gi_at_call 28; refine (CallsIn.inRound l (callsIn_wide.2 cG)).mono ?_; rintro e w2 ⟨rfl, hb2⟩; obtain ⟨A, c, cells, hb4, ho4, hp4, hB4, hle4, cO⟩ := FACT.out w2 hb2; have hz := heap_alloc_new w2 (ldO g1 g2 g3); have k0 := blk_cell hz 0; have k1 := blk_cell hz 1; have k2 := blk_cell hz 2; have z0 := blk_frozen hz 0; have z1 := blk_frozen hz 1; have z2 := blk_frozen hz 2; have HB2 := Aside0.mk hb2; have HB4 := Aside0.mk hb4; have HO4 := Aside0.mk ho4; have HP4 := Aside0.mk hp4; have HBB := Aside0.mk hB4; have HLE := Aside0.mk hle4; clear hb2 hb4 ho4 hp4 hB4 hle4 hz)
        refine ⟨rfl, (keep_of_below HB2.out).trans (KeepsOthers.alloc _ _), ?_⟩
        rw [List.append_nil]
        exact ⟨⟨_, _, HB4.out, HO4.out, HP4.out⟩, HBB.out, Nat.le_trans H3.out.big (Nat.le_trans HB2.out.size (by simp))⟩
    · have hn1 : (g4 != 0) = true := bne_iff_ne.2 hg4
      have hn2 : (g4 == 0) = false := beq_eq_false_iff_ne.2 hg4
      rw [if_neg (fun h => hg4 h.1)] at e1
      obtain rfl := Option.some.inj e1
      have HH := Aside0.mk h
      clear e1 h2 hcut h3 h hrest hBel hBox hO2 hA2 hB2 hC hG h1 hg4 hsz3
      gi_wp2_with (refine ⟨trivial, ?_⟩; gi_at_call 28; refine (CallsIn.inRound l (callsIn_wide.2 cG)).mono ?_; rintro e w2 ⟨rfl, hb2⟩; obtain ⟨A, c, cells, hb4, ho4, hp4, hB4, hle4, cO⟩ := FACT.out w2 hb2; have hz := heap_alloc_new w2 (ldO g1 g2 g3); have k0 := blk_cell hz 0; have k1 := blk_cell hz 1; have k2 := blk_cell hz 2; have z0 := blk_frozen hz 0; have z1 := blk_frozen hz 1; have z2 := blk_frozen hz 2; have HB2 := Aside0.mk hb2; have HB4 := Aside0.mk hb4; have HO4 := Aside0.mk ho4; have HP4 := Aside0.mk hp4; have HBB := Aside0.mk hB4; have HLE := Aside0.mk hle4; clear hb2 hb4 ho4 hp4 hB4 hle4 hz)
      refine ⟨rfl, (keep_of_below HB2.out).trans (KeepsOthers.alloc _ _), ?_⟩
      rw [List.append_nil]
      exact ⟨⟨_, _, HB4.out, HO4.out, HP4.out⟩, HBB.out, Nat.le_trans H3.out.big (Nat.le_trans HB2.out.size (by simp))⟩
  case done =>
    rintro D W hD ⟨xs, h1, h2, h3⟩ hK
    obtain ⟨rs, e1, rfl⟩ := h2 [] (by simp)
    have e2 : rs = [] := by cases hm : 256 - xs.length <;> rw [hm, log_take] at e1 <;> exact (Option.some.inj e1).symm
    subst e2
    have h4 : LdHas w W (xs ++ []) := by rw [List.append_nil]; exact h3
    obtain ⟨v, cR, hR, hBf⟩ := h4.fin (by omega) hK
    gi_wp2
    refine ⟨by simp, .inl ⟨_, _, rfl, run_takeDeferred hK, ?_⟩⟩
    refine ⟨v, ?_, v, rfl, hR, hBf⟩
    simp [results, Tryz.f9, go_sem]
  case stop =>
    rintro D pre W hD h3 hK
    obtain ⟨v, cR, hR, hBf⟩ := h3.fin (by omega) hK
    gi_wp2
    refine ⟨by simp, .inl ⟨_, _, rfl, run_takeDeferred hK, ?_⟩⟩
    refine ⟨v, ?_, v, rfl, hR, hBf⟩
    simp [results, Tryz.f9, go_sem]
end

end Go.Proofs.YtdaddlplpkmkmaaGreatDoor.P
