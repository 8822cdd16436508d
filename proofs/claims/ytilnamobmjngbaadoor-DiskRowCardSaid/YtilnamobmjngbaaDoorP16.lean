-- Made by a program of this work's own (wip/myprint.py) over the kit's print; leaves by hand.
import Derived.Test.YtilnamobmjngbaaDoorP0
import Derived.Laws.Externs
import Derived.Laws.IdiomCopy
import Derived.Laws.NewBlocks
import Derived.Lib.AppendZerosOnto
import Derived.Lib.Overlaps
import Derived.Lib.SliceRun
import Derived.Shelf.RegionOpenPlain
import Derived.Test.YtilnamobmjngbaaDoorWRepsOne
namespace Go.Proofs.YtilnamobmjngbaaDoor.P
open Go.RowKit Go.Proofs.YtilnamobmjngbaaDoorW.PrintWords Go.Proofs.YtilnamobmjngbaaDoorW.PrintLast Go.Proofs.YtilnamobmjngbaaDoorW.PrintMore
attribute [local go_sem] max2_int min2_int max_two min_two max_three min_three max_four min_four   -- for this text's walks alone
set_option linter.unusedVariables false
set_option linter.unusedSimpArgs false

-- HANDBIG DiskInsert.lean
-- IMPORT Derived.Laws.IdiomCopy
-- IMPORT Derived.Laws.NewBlocks
-- IMPORT Derived.Laws.Externs
-- IMPORT Derived.Lib.SliceRun
-- IMPORT Derived.Lib.Overlaps
-- IMPORT Derived.Lib.AppendZerosOnto
-- IMPORT Derived.Test.YtilnamobmjngbaaDoorWRepsOne
-- IMPORT Derived.Shelf.RegionOpenPlain
/-! ### slices.Insert of files, by hand -/
def cF (x : S72) : List Value := [.string x.f0, .int .i64 x.f1, .int .i64 x.f2]
def rowF (xs : List (S72)) : List Value := xs.flatMap cF
theorem rowF_nil : rowF [] = [] := rfl
theorem rowF_cons (x : S72) (xs : List (S72)) : rowF (x :: xs) = .string x.f0 :: .int .i64 x.f1 :: .int .i64 x.f2 :: rowF xs := rfl
theorem rowF_app (xs ys : List (S72)) : rowF (xs ++ ys) = rowF xs ++ rowF ys := List.flatMap_append
theorem rowF_len : ∀ xs : List (S72), (rowF xs).length = xs.length * 3
  | [] => rfl
  | x :: xs => by rw [rowF_cons]; simp [rowF_len xs]; omega
theorem rowF_one : ∀ (xs : List (S72)), ∀ v ∈ rowF xs, v.oneCell' = true
  | [], v, h => by simp [rowF_nil] at h
  | x :: xs, v, h => by
    rw [rowF_cons] at h
    simp only [List.mem_cons] at h
    rcases h with rfl | rfl | rfl | h
    · rfl
    · rfl
    · rfl
    · exact rowF_one xs v h
theorem rowF_take : ∀ (xs : List (S72)) (i : Nat), (rowF xs).take (i * 3) = rowF (xs.take i)
  | [], i => by simp [rowF_nil]
  | x :: xs, 0 => by simp [rowF_nil]
  | x :: xs, i + 1 => by rw [rowF_cons, List.take_succ_cons, rowF_cons, show (i + 1) * 3 = i * 3 + 1 + 1 + 1 by omega, List.take_succ_cons, List.take_succ_cons, List.take_succ_cons, rowF_take xs i]
theorem rowF_drop : ∀ (xs : List (S72)) (i : Nat), (rowF xs).drop (i * 3) = rowF (xs.drop i)
  | [], i => by simp [rowF_nil]
  | x :: xs, 0 => by simp
  | x :: xs, i + 1 => by rw [rowF_cons, List.drop_succ_cons, show (i + 1) * 3 = i * 3 + 1 + 1 + 1 by omega, List.drop_succ_cons, List.drop_succ_cons, List.drop_succ_cons, rowF_drop xs i]
theorem reps_rowF {W : World} {base : Nat} {ok : Nat → Prop} : ∀ (xs : List (S72)) (inner : List Value), Reps (k72.M W base ok) 3 xs inner → inner = rowF xs
  | [], inner, h => by
    have := h.1
    simp at this
    rw [this]; rfl
  | x :: xs, inner, h => by
    have h0 := k72_openM (h.2 0 x rfl)
    have h1 := reps_rowF xs _ (Kd.reps_drop (m := 1) h)
    simp only [Nat.zero_mul, List.drop_zero, Nat.one_mul] at h0 h1
    rw [rowF_cons, ← h1, ← List.take_append_drop 3 inner, h0]
    rfl
theorem rowF_reps {W : World} {base : Nat} {ok : Nat → Prop} : ∀ (xs : List (S72)), Reps (k72.M W base ok) 3 xs (rowF xs)
  | [] => Reps.none _ _
  | x :: xs => Reps.c3 (k72_mkM _ _ _ x) (rowF_reps xs)
theorem rF_open {W : World} {base g n c : Nat} {ok : Nat → Prop} {xs : List (S72)} (h : Kd.R k72 72 W base ok (.slice (some ⟨g, 0, none⟩) n c) xs) :
    ∃ cur : Array Value, W.heap[g]? = some (.cells cur 72 (0, 0)) ∧ cur.size = c * 3 ∧ cur.toList.take (n * 3) = rowF xs ∧ base ≤ g ∧ n ≤ c ∧ c ≤ maxLen ∧ n = xs.length ∧ ok g := by
  have hn := (Kd.R_reads' h).1
  obtain ⟨hok, inner, hown, hr⟩ := h
  have hi := reps_rowF _ _ hr
  rcases hown.2 with ⟨hv, _⟩ | ⟨g', cap', cur, hv, hb, hh, hnc, hcm, hcs, ht⟩
  · cases hv
  injection hv with ha _ hc
  injection ha with ha
  injection ha with hg
  subst hg; subst hc
  exact ⟨cur, hh, hcs, by rw [hn, ← hi]; exact ht, hb, by omega, hcm, hn, hok _ (by simp [Value.ownBlock])⟩
theorem rF_shut {W : World} {base g c : Nat} {ok : Nat → Prop} {xs : List (S72)} {cur : Array Value} (hh : W.heap[g]? = some (.cells cur 72 (0, 0))) (hs : cur.size = c * 3) (ht : cur.toList.take (xs.length * 3) = rowF xs) (hb : base ≤ g) (hn : xs.length ≤ c) (hc : c ≤ maxLen) (hok : ok g) :
    Kd.R k72 72 W base ok (.slice (some ⟨g, 0, none⟩) xs.length c) xs :=
  ⟨fun k hk => by
    have : g = k := by simpa [Value.ownBlock] using hk
    exact this ▸ hok, rowF xs, ⟨rowF_len xs, .inr ⟨g, c, cur, rfl, hb, hh, hn, hc, hs, ht⟩⟩, rowF_reps xs⟩
theorem rF_some {W : World} {base : Nat} {ok : Nat → Prop} {v : Value} {xs : List (S72)} (h : Kd.R k72 72 W base ok v xs) (h0 : 0 < xs.length) : ∃ g c, v = .slice (some ⟨g, 0, none⟩) xs.length c := by
  obtain ⟨hok, inner, hown, hr⟩ := h
  rcases hown.2 with ⟨hv, h1⟩ | ⟨g', cap', cur, hv, hb, hh, hnc, hcm, hcs, ht⟩
  · omega
  · exact ⟨g', cap', hv⟩
theorem run_copy_cellsN {P : Program} (w : World) (dT sT ty elem : TypeId) (b o dLen dCap : Nat) (a : Addr) (sLen sCap : Nat) (cs : List Value) (size : Nat)
    (hu : P.underlying dT = some (.slice elem)) (hs : (P.info? elem).map (·.size) = some size) (hn : cs.length = Nat.min sLen dLen * size)
    (hsrc : ∀ j v, cs[j]? = some v → w.cell? (a.add j) = some v) (hc : ∀ j, j < cs.length → (w.cell? ⟨b, o + j, none⟩).isSome = true) (hf : ∀ j, j < cs.length → w.frozen? ⟨b, o + j, none⟩ = false) (h1 : ∀ v ∈ cs, v.oneCell' = true) :
    (Builtin.copy_ #[dT, sT] ty #[.slice (some ⟨b, o, none⟩) dLen dCap, .slice (some a) sLen sCap]).run P w = .ok (goInt ((Nat.min sLen dLen : Nat) : Int)) (w.setCells b o cs) := by
  have hl := run_loadCells_list (P := P) w a cs hsrc
  have hst := run_storeCells_cells (P := P) b o cs 0 w (by simpa using hc) (by simpa using hf) h1
  cases hq : P.info? elem with
  | none => simp [hq] at hs
  | some i =>
    have hi : i.size = size := by simpa [hq] using hs
    simp [Builtin.copy_, run_underlying hu, Builtin.lenOf, Builtin.firstCells, sizeOf, typeInfo, hq, hi, ← hn, hl, hst]
theorem isSome_setN (b : Nat) (vs : List Value) (o : Nat) (w : World) (h : ∀ j, j < vs.length → (w.cell? ⟨b, o + j, none⟩).isSome = true) (k : Nat) (hk : (w.cell? ⟨b, k, none⟩).isSome = true) : ((w.setCells b o vs).cell? ⟨b, k, none⟩).isSome = true := by
  by_cases hin : o ≤ k ∧ k < o + vs.length
  · have := World.cell?_setCells_in b vs o w h (k - o) (by omega)
    rw [show o + (k - o) = k by omega] at this
    rw [this]; rfl
  · rw [World.cell?_setCells_out b vs o w ⟨b, k, none⟩ (fun _ _ => by show k < o ∨ o + vs.length ≤ k; omega)]
    exact hk
/-- 'copy(d, s)' where its run is known by an equation. -/
theorem di_wp {P : Program} (w : World) {o : Oper} {a : Act} {K : Act → World → Prop} {Q : Exit → Act → World → Prop} (d s : Operand) (t t' : TypeId)
    (ho : o.op = .call { callee := .builtin .copy, args := #[d, s], argTypes := #[t, t'] }) (v u : Value) (hd : a.eval d = v) (hs : a.eval s = u) {v' : Value} {w' : World}
    (hr : (Builtin.copy_ #[t, t'] o.type #[v, u]).run P w = .ok v' w') (h : K (a.put o.dst v') w') : o.wp P a w K Q := by
  unfold Oper.wp execOp
  simp only [ho, resolve, invoke, builtin, Sem.run_bind, Sem.run_pure, Result.andThen_ok, List.map_toArray, List.map_cons, List.map_nil, hd, hs, hr]
  exact h
theorem di_list {P : Program} (w : World) {ops : Array Oper} {rest : List Oper} {o : Oper} {a : Act} {Q : Exit → Act → World → Prop} (hgd : o.guard = none) (d s : Operand) (t t' : TypeId)
    (ho : o.op = .call { callee := .builtin .copy, args := #[d, s], argTypes := #[t, t'] }) (v u : Value) (hd : a.eval d = v) (hs : a.eval s = u) {v' : Value} {w' : World}
    (hr : (Builtin.copy_ #[t, t'] o.type #[v, u]).run P w = .ok v' w') (h : wpList P ops Q rest (a.put o.dst v') w') : wpList P ops Q (o :: rest) a w :=
  wpList_plain hgd fun _ hK => di_wp w d s t t' ho v u hd hs hr (hK _ _ h)
theorem di_step {P : Program} {ops : Array Oper} {o : Oper} {a : Act} {w : World} {K : Act → World → Prop} {Q : Exit → Act → World → Prop} {E : Prop}
    (hg : o.guard = none) (d x : Operand) (dT sT : TypeId) (hop : o.op = Op.call { callee := Callee.builtin Builtin.copy, args := #[d, x], argTypes := #[dT, sT] })
    (v u : Value) (hd : a.eval d = v) (hx : a.eval x = u) {v' : Value} {w' : World} (hr : (Builtin.copy_ #[dT, sT] o.type #[v, u]).run P w = .ok v' w') (hK : K (a.put o.dst v') w') :
    if Region.wanted o (yielded ops a.tmps) = true then Oper.wp P o a w K Q else E := by
  have hw : Region.wanted o (yielded ops a.tmps) = true := by simp [Region.wanted, hg]
  rw [if_pos hw]
  unfold Oper.wp
  simp [execOp, hop, resolve, invoke, builtin, hd, hx, hr, Result.andThen]
  exact hK
set_option maxHeartbeats 4000000 in
set_option maxRecDepth 100000 in
theorem di_shift (g n c i vb : Nat) (cs vs : List Value) (cur : Array Value) (w : World) (hi : i < n) (hroom : n + 1 ≤ c) (hc63 : c ≤ 9223372036854775807) (hvb : vb ≠ g)
    (hg : w.heap[g]? = some (.cells cur 72 (0, 0))) (hs : cur.size = c * 3) (ht : cur.toList.take (n * 3) = cs) (h1c : ∀ v ∈ cs, v.oneCell' = true)
    (hv : w.heap[vb]? = some (.cells vs.toArray 72 (0, 0))) (hvl : vs.length = 3) (h1v : ∀ v ∈ vs, v.oneCell' = true) :
    Calls Tryd.prog 64 #[.slice (some ⟨g, 0, none⟩) n c, .int .i64 i, .slice (some ⟨vb, 0, none⟩) 1 1] w fun e w' =>
      e = .returned (.slice (some ⟨g, 0, none⟩) (n + 1) c) ∧ w' = (w.drew.setCells g ((i + 1) * 3) (cs.drop (i * 3))).setCells g (i * 3) vs := by
  have hz2 : ¬ ((i : Int) = (n : Int)) := by omega
  have mixed : Tryd.prog.follows Departure.mixedOrders = true := by kernel_rfl
  have hov : ∀ lb cb, (callFunc 80 #[.slice (some ⟨vb, 0, none⟩) 1 1, .slice (some ⟨g, (i + 1) * 3, none⟩) lb cb]).run Tryd.prog w = .ok (.value (.bool false)) w := fun lb cb => by
    have hz : ∀ w : World, (sizeOf 72).run Tryd.prog w = .ok 3 w := fun w => by
      obtain ⟨i0, hi0, h0, h1, h2⟩ := info_parts info72
      simp [sizeOf, typeInfo, hi0, h1]
    rw [run_callFunc_extern Tryd.func80 (by kernel_rfl) (by kernel_rfl) (by kernel_rfl) (e := Extern.SlicesOverlaps.overlaps #[26, 26] #[4]) (by kernel_rfl),
      Lib.run_overlaps_apart w 26 4 72 Tryd.underlying26 3 hz ⟨vb, 0, none⟩ ⟨g, (i + 1) * 3, none⟩ 1 1 lb cb hvb 72 72 vs.toArray.size cur.size (by simp [World.shape?, hv]) (by simp [World.shape?, hg]) (by omega) (blk_frozen hv _) (blk_frozen hv _)]
    rfl
  have hw1 : IntKind.i64.wrap ((i : Int) + 1) = (i : Int) + 1 := by rw [IntKind.wrap_i64]; omega
  have hw2 : IntKind.i64.wrap ((n : Int) + 1) = (n : Int) + 1 := by rw [IntKind.wrap_i64]; omega
  have hb1 : (0 : Int) ≤ (i : Int) + 1 := by omega
  have hb0 : (0 : Int) ≤ (n : Int) + 1 := by omega
  have hin : i ≤ n := by omega
  have htn : ((i : Int) + 1).toNat = i + 1 := by omega
  have htn2 : ((n : Int) + 1).toNat = n + 1 := by omega
  have hb2 : ¬ (c = i + 1) := by omega
  have hb3 : (i : Int) ≤ (n : Int) + 1 := by omega
  have hb4 : ¬ (c = i) := by omega
  have hb5 : ¬ ((c : Int) < (n : Int) + 1) := by omega
  have hb6 : ((n : Int) + 1) ≤ (c : Int) := by omega
  have hb7 : (i : Int) ≤ (n : Int) := by omega
  have hb8 : ((i : Int) + 1) ≤ (n : Int) + 1 := by omega
  have hsz : (Tryd.prog.info? 72).map (·.size) = some 3 := by
    obtain ⟨i0, hi0, h0, h1, h2⟩ := info_parts info72
    rw [hi0]; simp [h1]
  have hcl : cs.length = n * 3 := by rw [← ht, List.length_take, Array.length_toList, hs]; omega
  have hdl : (cs.drop (i * 3)).length = (n - i) * 3 := by rw [List.length_drop, hcl]; omega
  have hcs : ∀ j v, cs[j]? = some v → w.cell? ⟨g, j, none⟩ = some v := fun j v h => by
    rw [cell_of_row w g _ cur _ (0, 0) hg, ← Array.getElem?_toList]
    rw [← ht, List.getElem?_take] at h
    split at h
    · exact h
    · cases h
  have hsp : ∀ j, j < (n + 1) * 3 → (w.cell? ⟨g, j, none⟩).isSome = true := fun j hj => by
    rw [cell_of_row w g _ cur _ (0, 0) hg]
    simp; omega
  have hfz : ∀ j, w.frozen? ⟨g, j, none⟩ = false := fun j => blk_frozen hg _
  have hvs : ∀ j v, vs[j]? = some v → w.cell? ⟨vb, j, none⟩ = some v := fun j v h => by
    rw [cell_of_row w vb _ _ _ (0, 0) hv]
    simpa using h
  have hcp1 : ∀ ty dc sc, (Builtin.copy_ #[26, 26] ty #[.slice (some ⟨g, (i + 1) * 3, none⟩) (n - i) dc, .slice (some ⟨g, i * 3, none⟩) (n + 1 - i) sc]).run Tryd.prog w.drew = .ok (goInt ((Nat.min (n + 1 - i) (n - i) : Nat) : Int)) (w.drew.setCells g ((i + 1) * 3) (cs.drop (i * 3))) := fun ty dc sc =>
    run_copy_cellsN w.drew _ _ ty 72 g ((i + 1) * 3) (n - i) dc ⟨g, i * 3, none⟩ (n + 1 - i) sc (cs.drop (i * 3)) 3 Tryd.underlying26 hsz (by rw [hdl]; simp only [Nat.min_def]; split <;> omega)
      (fun j v hj => by rw [Addr.add_lit]; exact hcs _ v (by rwa [List.getElem?_drop] at hj))
      (fun j hj => hsp _ (by omega)) (fun j hj => hfz _) (fun v hv => h1c v (List.mem_of_mem_drop hv))
  obtain ⟨W1, hW1⟩ : ∃ W1, W1 = w.drew.setCells g ((i + 1) * 3) (cs.drop (i * 3)) := ⟨_, rfl⟩
  have hsp1 : ∀ k, k < (n + 1) * 3 → (W1.cell? ⟨g, k, none⟩).isSome = true := fun k hk => by
    rw [hW1]
    exact isSome_setN g (cs.drop (i * 3)) ((i + 1) * 3) w.drew (fun j hj => hsp _ (by rw [hdl] at hj; omega)) k (hsp k hk)
  have hcp2 : ∀ (W : World), (∀ x, W.cell? x = W1.cell? x) → (∀ x, W.frozen? x = W1.frozen? x) → ∀ ty dc, (Builtin.copy_ #[26, 26] ty #[.slice (some ⟨g, i * 3, none⟩) (n + 1 - i) dc, .slice (some ⟨vb, 0, none⟩) 1 1]).run Tryd.prog W = .ok (goInt ((Nat.min 1 (n + 1 - i) : Nat) : Int)) (W.setCells g (i * 3) vs) := fun W hWc hWf ty dc =>
    run_copy_cellsN W _ _ ty 72 g (i * 3) (n + 1 - i) dc ⟨vb, 0, none⟩ 1 1 vs 3 Tryd.underlying26 hsz (by rw [hvl]; simp only [Nat.min_def]; split <;> omega)
      (fun j v hj => by
        rw [Addr.add_lit, Nat.zero_add, hWc, hW1, World.cell?_setCells_out g _ _ _ _ (fun h _ => absurd h hvb)]
        exact hvs j v hj)
      (fun j hj => by rw [hWc]; exact hsp1 _ (by omega)) (fun j hj => by rw [hWf, hW1, World.frozen?_setCells]; exact hfz _) h1v
  rw [← hW1] at hcp1
  have HW1 := Aside0.mk hW1
  clear ht h1c h1v hv hvl hg hs hsz hcl hdl hcs hsp hfz hvs hsp1 hW1
  go_enter Tryd.func64, Tryd.ntmps64
  go_wp2_with (simp only [hov])
  go_region_law_o (refine di_step rfl _ _ 26 26 rfl _ _ (by simp [Act.eval, Act.put]) (by simp [Act.eval, Act.put]) (hcp1 _ _ _) ?_)
  go_wp2_with (at_builtin; refine di_list _ rfl _ _ 26 26 rfl _ _ rfl rfl (hcp2 _ (fun _ => rfl) (fun _ => rfl) _ _) ?_)
  go_ret
  first | exact ⟨rfl, by rw [HW1.out]⟩ | exact ⟨rfl, rfl⟩
abbrev zF : Array Value := #[.string ⟨#[]⟩, .int .i64 0, .int .i64 0]
theorem zF_size (n : Nat) : (Builtin.zeroCells zF n).size = n * 3 := by simp [Builtin.zeroCells]
set_option maxHeartbeats 4000000 in
set_option maxRecDepth 100000 in
theorem di_grow (g n c i vb : Nat) (cs vs : List Value) (cur : Array Value) (w : World) (hi : i < n) (hnc : n ≤ c) (hroom : c < n + 1) (hbig : n ≤ 1000000) (hc63 : c ≤ 9223372036854775807) (hvb : vb ≠ g)
    (hg : w.heap[g]? = some (.cells cur 72 (0, 0))) (hs : cur.size = c * 3) (ht : cur.toList.take (n * 3) = cs) (h1c : ∀ v ∈ cs, v.oneCell' = true)
    (hv : w.heap[vb]? = some (.cells vs.toArray 72 (0, 0))) (hvl : vs.length = 3) (h1v : ∀ v ∈ vs, v.oneCell' = true) :
    Calls Tryd.prog 64 #[.slice (some ⟨g, 0, none⟩) n c, .int .i64 i, .slice (some ⟨vb, 0, none⟩) 1 1] w fun e w' =>
      ∃ G, n + 1 ≤ G ∧ G ≤ maxLen ∧ e = .returned (.slice (some ⟨w.heap.size, 0, none⟩) (n + 1) G) ∧ w' = (((w.alloc (.cells ((cs.take (i * 3)).toArray ++ Builtin.zeroCells zF (n + 1 - i) ++ Builtin.zeroCells zF (G - (n + 1))) 72)).drew.setCells w.heap.size (i * 3) vs).drew).setCells w.heap.size ((i + 1) * 3) (cs.drop (i * 3)) := by
  have hz2 : ¬ ((i : Int) = (n : Int)) := by omega
  have mixed : Tryd.prog.follows Departure.mixedOrders = true := by kernel_rfl
  obtain ⟨i0, hi0, hz0, hzs, hzb⟩ := info_parts info72
  have hz3 : (c : Int) < (n : Int) + 1 := by omega
  have hsz : (Tryd.prog.info? 72).map (·.size) = some 3 := by rw [hi0]; simp [hzs]
  have hcl : cs.length = n * 3 := by rw [← ht, List.length_take, Array.length_toList, hs]; omega
  have hdl : (cs.drop (i * 3)).length = (n - i) * 3 := by rw [List.length_drop, hcl]; omega
  have hcs : ∀ j v, cs[j]? = some v → w.cell? ⟨g, j, none⟩ = some v := fun j v h => by
    rw [cell_of_row w g _ cur _ (0, 0) hg, ← Array.getElem?_toList]
    rw [← ht, List.getElem?_take] at h
    split at h
    · exact h
    · cases h
  have hvs : ∀ j v, vs[j]? = some v → w.cell? ⟨vb, j, none⟩ = some v := fun j v h => by
    rw [cell_of_row w vb _ _ _ (0, 0) hv]
    simpa using h
  have hbw : g < w.heap.size := blk_lt hg
  have hvw : vb < w.heap.size := blk_lt hv
  have hkk : (n : Int) + 1 - (i : Int) = ((n + 1 - i : Nat) : Int) := by omega
  have hik : i + (n + 1 - i) = n + 1 := by omega
  have hold : (Builtin.firstCells i0.size i (.slice (some ⟨g, 0, none⟩) i c)).run Tryd.prog w.drew = .ok (cs.take (i * 3)).toArray w.drew := by
    rw [hzs]
    exact run_firstCells_some w.drew 3 i ⟨g, 0, none⟩ i c (cs.take (i * 3)) (by rw [List.length_take]; omega) (fun j v hj => by
      rw [Addr.add_lit, Nat.zero_add]
      rw [List.getElem?_take] at hj
      split at hj
      · exact hcs j v hj
      · cases hj)
  obtain ⟨G, hG⟩ : ∃ G, G = grownCap w (n + 1) c 72 := ⟨_, rfl⟩
  have hrz : ∀ ty, (Builtin.append_ #[26, 3] ty #[.slice (some ⟨g, 0, none⟩) i c, .int .i64 ((n : Int) + 1 - (i : Int))]).run Tryd.prog w =
      .ok (.slice (some ⟨w.heap.size, 0, none⟩) (n + 1) G) (w.drew.alloc (.cells ((cs.take (i * 3)).toArray ++ Builtin.zeroCells zF (n + 1 - i) ++ Builtin.zeroCells zF (G - (n + 1))) 72)) := fun ty => by
    have h := Lib.run_append_grow_zeros w 26 3 ty 72 i0 _ .i64 .i64 Tryd.underlying26 Tryd.underlying3 hi0 hz0 (some ⟨g, 0, none⟩) i c (cs.take (i * 3)) hold (n + 1 - i) (by omega) (by omega) (by omega) (by omega) (by rw [hzb]; omega) (by rw [hzb, hik]; exact growslice_fits hroom (by omega))
    rw [hik] at h
    rw [hkk, hG]
    exact h
  obtain ⟨ROW, hROW⟩ : ∃ ROW : Array Value, ROW = (cs.take (i * 3)).toArray ++ Builtin.zeroCells zF (n + 1 - i) ++ Builtin.zeroCells zF (G - (n + 1)) := ⟨_, rfl⟩
  have hGn : n + 1 ≤ G := by rw [hG]; exact grownCap_ge w _ _ _
  have hGm : G ≤ maxLen := by rw [hG]; exact grownCap_le_maxLen w (n + 1) c 72 (by unfold maxLen; omega)
  rw [← hROW] at hrz
  have hRl : (n + 1) * 3 ≤ ROW.size := by
    rw [hROW, Array.size_append, Array.size_append, zF_size, zF_size]
    have : (cs.take (i * 3)).length = i * 3 := by rw [List.length_take]; omega
    simp only [List.size_toArray, this]
    omega
  obtain ⟨W1, hW1⟩ : ∃ W1, W1 = w.drew.alloc (.cells ROW 72) := ⟨_, rfl⟩
  rw [← hW1] at hrz
  have hN : ∀ j, j < (n + 1) * 3 → (W1.cell? ⟨w.heap.size, j, none⟩).isSome = true := fun j hj => by
    rw [hW1, World.cell?_alloc_at (w := w.drew) ROW _ w.heap.size j rfl, Array.getElem?_eq_getElem (by omega)]; rfl
  have hNf : ∀ j, W1.frozen? ⟨w.heap.size, j, none⟩ = false := fun j => by rw [hW1]; exact World.frozen?_alloc_at (w := w.drew) ROW _ w.heap.size j rfl
  have hOb : ∀ j v, w.cell? ⟨g, j, none⟩ = some v → W1.cell? ⟨g, j, none⟩ = some v := fun j v h => by rw [hW1, World.cell?_alloc_past (w := w.drew) _ g j hbw]; exact h
  have hOv : ∀ j v, w.cell? ⟨vb, j, none⟩ = some v → W1.cell? ⟨vb, j, none⟩ = some v := fun j v h => by rw [hW1, World.cell?_alloc_past (w := w.drew) _ vb j hvw]; exact h
  have hcpA : ∀ (W : World), (∀ x, W.cell? x = W1.cell? x) → (∀ x, W.frozen? x = W1.frozen? x) → ∀ ty dc, (Builtin.copy_ #[26, 26] ty #[.slice (some ⟨w.heap.size, i * 3, none⟩) (n + 1 - i) dc, .slice (some ⟨vb, 0, none⟩) 1 1]).run Tryd.prog W = .ok (goInt ((Nat.min 1 (n + 1 - i) : Nat) : Int)) (W.setCells w.heap.size (i * 3) vs) := fun W hWc hWf ty dc =>
    run_copy_cellsN W _ _ ty 72 w.heap.size (i * 3) (n + 1 - i) dc ⟨vb, 0, none⟩ 1 1 vs 3 Tryd.underlying26 hsz (by rw [hvl]; simp only [Nat.min_def]; split <;> omega)
      (fun j v hj => by rw [Addr.add_lit, Nat.zero_add, hWc]; exact hOv _ v (hvs j v hj))
      (fun j hj => by rw [hWc]; exact hN _ (by omega)) (fun j hj => by rw [hWf]; exact hNf _) h1v
  have hbN : g ≠ w.heap.size := by omega
  have hcpB : ∀ (W : World), (∀ x, W.cell? x = (W1.setCells w.heap.size (i * 3) vs).cell? x) → (∀ x, W.frozen? x = (W1.setCells w.heap.size (i * 3) vs).frozen? x) → ∀ ty dc sc, (Builtin.copy_ #[26, 26] ty #[.slice (some ⟨w.heap.size, (i + 1) * 3, none⟩) (n - i) dc, .slice (some ⟨g, i * 3, none⟩) (n - i) sc]).run Tryd.prog W = .ok (goInt ((Nat.min (n - i) (n - i) : Nat) : Int)) (W.setCells w.heap.size ((i + 1) * 3) (cs.drop (i * 3))) := fun W hWc hWf ty dc sc =>
    run_copy_cellsN W _ _ ty 72 w.heap.size ((i + 1) * 3) (n - i) dc ⟨g, i * 3, none⟩ (n - i) sc (cs.drop (i * 3)) 3 Tryd.underlying26 hsz (by rw [hdl]; simp only [Nat.min_def]; split <;> omega)
      (fun j v hj => by
        rw [Addr.add_lit, hWc, World.cell?_setCells_out _ _ _ _ _ (fun h _ => absurd h hbN)]
        exact hOb _ v (hcs _ v (by rwa [List.getElem?_drop] at hj)))
      (fun j hj => by rw [hWc]; exact isSome_setN w.heap.size vs (i * 3) W1 (fun t ht => hN _ (by omega)) _ (hN _ (by omega)))
      (fun j hj => by rw [hWf, World.frozen?_setCells]; exact hNf _) (fun v hv => h1c v (List.mem_of_mem_drop hv))
  subst hW1
  have hE1 : ∀ x, ((w.alloc (.cells ROW 72)).drew).cell? x = (w.drew.alloc (.cells ROW 72)).cell? x := fun x => rfl
  have hE2 : ∀ x, ((w.alloc (.cells ROW 72)).drew).frozen? x = (w.drew.alloc (.cells ROW 72)).frozen? x := fun x => rfl
  have hF1 : ∀ x, (((w.alloc (.cells ROW 72)).drew.setCells w.heap.size (i * 3) vs).drew).cell? x = ((w.drew.alloc (.cells ROW 72)).setCells w.heap.size (i * 3) vs).cell? x := fun x => rfl
  have hF2 : ∀ x, (((w.alloc (.cells ROW 72)).drew.setCells w.heap.size (i * 3) vs).drew).frozen? x = ((w.drew.alloc (.cells ROW 72)).setCells w.heap.size (i * 3) vs).frozen? x := fun x => rfl
  have hw1 : IntKind.i64.wrap ((i : Int) + 1) = (i : Int) + 1 := by rw [IntKind.wrap_i64]; omega
  have hw2 : IntKind.i64.wrap ((n : Int) + 1) = (n : Int) + 1 := by rw [IntKind.wrap_i64]; omega
  have hw3 : IntKind.i64.wrap ((n : Int) + 1 - (i : Int)) = (n : Int) + 1 - (i : Int) := by rw [IntKind.wrap_i64]; omega
  have hb1 : (0 : Int) ≤ (i : Int) + 1 := by omega
  have hin : i ≤ n := by omega
  have htn : ((i : Int) + 1).toNat = i + 1 := by omega
  have hb3 : (i : Int) ≤ (n : Int) := by omega
  have hb4 : (i : Int) ≤ (c : Int) := by omega
  have hb5 : (i : Int) ≤ (n : Int) + 1 := by omega
  have hb6 : ((i : Int) + 1) ≤ (n : Int) + 1 := by omega
  have hGi : ¬ (G = i) := by omega
  have hGim : ¬ (G = i + 1) := by omega
  have hci : ¬ (c = i) := by omega
  have HR := Aside0.mk hROW
  have HGN := Aside0.mk hGn
  have HGM := Aside0.mk hGm
  clear hkk hik hold hROW hG hRl ht h1c h1v hv hvl hg hs hsz hcl hdl hcs hvs hN hNf hOb hOv hi0 hz0 hzs hzb hGn hGm hbw hvw
  go_enter Tryd.func64, Tryd.ntmps64
  go_wp2_with (first
    | (at_builtin; refine Lib.wpList_append_run _ rfl _ _ _ _ rfl _ _ rfl rfl _ _ (hrz _) ?_)
    | (at_builtin; refine di_list _ rfl _ _ 26 26 rfl _ _ rfl rfl (hcpA _ hE1 hE2 _ _) ?_))
  go_region_law_o (refine di_step rfl _ _ 26 26 rfl (.slice (some ⟨w.heap.size, (i + 1) * 3, none⟩) (n - i) (G - (i + 1))) (.slice (some ⟨g, i * 3, none⟩) (n - i) (c - i)) (by simp [Act.eval, Act.put]) (by simp [Act.eval, Act.put]) (hcpB _ hF1 hF2 3 (G - (i + 1)) (c - i)) ?_)
  go_wp2
  go_ret
  exact ⟨G, HGN.out, HGM.out, rfl, by rw [← HR.out]; first | done | rfl⟩

theorem di_row (xs : List (S72)) (i : Nat) (x : S72) : rowF (xs.take i ++ x :: xs.drop i) = (rowF xs).take (i * 3) ++ (cF x ++ (rowF xs).drop (i * 3)) := by
  rw [rowF_app, rowF_take, rowF_drop]
  rfl
theorem di_laid (L A B C : List Value) (i n : Nat) (hi : i < n) (hL : (n + 1) * 3 ≤ L.length) (hA : A = L.take (i * 3)) (hB : B.length = 3) (hC : C.length = (n - i) * 3) :
    ((((L.take ((i + 1) * 3)) ++ C ++ L.drop ((i + 1) * 3 + C.length)).take (i * 3) ++ B ++ ((L.take ((i + 1) * 3)) ++ C ++ L.drop ((i + 1) * 3 + C.length)).drop (i * 3 + B.length))).take ((n + 1) * 3) = A ++ (B ++ C) := by
  have h1 : ((L.take ((i + 1) * 3)) ++ C ++ L.drop ((i + 1) * 3 + C.length)).take (i * 3) = A := by
    rw [hA, List.append_assoc, List.take_append_of_le_length (by rw [List.length_take]; omega), List.take_take, Nat.min_eq_left (by omega)]
  have h2 : ((L.take ((i + 1) * 3)) ++ C ++ L.drop ((i + 1) * 3 + C.length)).drop (i * 3 + B.length) = C ++ L.drop ((i + 1) * 3 + C.length) := by
    rw [hB, show i * 3 + 3 = (i + 1) * 3 by omega, List.append_assoc, List.drop_left' (by rw [List.length_take]; omega)]
  have hAl : A.length = i * 3 := by rw [hA, List.length_take]; omega
  rw [h1, h2, List.append_assoc, ← List.append_assoc B, ← List.append_assoc A, List.take_left' (by simp [hAl, hB, hC]; omega)]
theorem di_laid2 (L A B C : List Value) (i n : Nat) (hi : i < n) (hL : (n + 1) * 3 ≤ L.length) (hA : A = L.take (i * 3)) (hB : B.length = 3) (hC : C.length = (n - i) * 3) :
    ((((L.take (i * 3)) ++ B ++ L.drop (i * 3 + B.length)).take ((i + 1) * 3) ++ C ++ ((L.take (i * 3)) ++ B ++ L.drop (i * 3 + B.length)).drop ((i + 1) * 3 + C.length))).take ((n + 1) * 3) = A ++ (B ++ C) := by
  have hAl : A.length = i * 3 := by rw [hA, List.length_take]; omega
  rw [← hA]
  rw [List.take_left' (l₁ := A ++ B) (by rw [List.length_append, hAl, hB]; omega), List.take_left' (l₁ := A ++ B ++ C) (by simp only [List.length_append, hAl, hB, hC]; omega), List.append_assoc]
theorem di_below {base g : Nat} {w0 W : World} (HB : Below base w0 W) (hb : base ≤ g) (o : Nat) (vs : List Value) : Below base w0 (W.setCells g o vs) := by
  obtain ⟨s1, s2, s3, s4⟩ := setCells_same g vs o W
  exact HB.trans ⟨s1, s2, s3, by rw [s4]; exact Nat.le_refl _, fun k hk => setCells_far vs _ k (by omega)⟩
theorem di_grown {g : Nat} {w W : World} {row : Option Nat} (h : w.grownBy W row) (hg : row = some g ∨ w.heap.size ≤ g) (o : Nat) (vs : List Value) : w.grownBy (W.setCells g o vs) row := by
  obtain ⟨s1, s2, s3, s4⟩ := setCells_same g vs o W
  exact ⟨s1.trans h.os, s2.trans h.tape, s3.trans h.output, by rw [s4]; exact h.size, fun i hi hr => (setCells_far vs _ i (hg.elim (fun hg e => hr (by rw [e]; exact hg.symm)) (fun hg => by omega))).trans (h.block i hi hr)⟩
theorem di_drew {w W : World} {row : Option Nat} (h : w.grownBy W row) : w.grownBy W.drew row := ⟨h.os, h.tape, h.output, h.size, h.block⟩
theorem di_undrew {w W : World} {row : Option Nat} (h : w.drew.grownBy W row) : w.grownBy W row := ⟨h.os, h.tape, h.output, h.size, h.block⟩
theorem di_far (g k o : Nat) (vs : List Value) (W : World) (h : k ≠ g) : (W.setCells g o vs).heap[k]? = W.heap[k]? := setCells_far vs _ k h
set_option maxHeartbeats 4000000 in
set_option maxRecDepth 100000 in
theorem di_end (x : S72) (A : Option Addr) (c : Nat) (l : List (S72)) (vb : Nat) (w w0 : World) (base : Nat) (ok : Nat → Prop) (HO : Kd.R k72 72 w base ok (.slice A l.length c) l) (hl : l.length ≤ 1000000)
    (hv : w.heap[vb]? = some (.cells #[.string x.f0, .int .i64 x.f1, .int .i64 x.f2] 72 (0, 0))) (hok : ∀ k, w.heap.size ≤ k → ok k) (hbase : base ≤ w.heap.size) (HB : Below base w0 w) :
    Calls Tryd.prog 64 #[.slice A l.length c, .int .i64 l.length, .slice (some ⟨vb, 0, none⟩) 1 1] w fun e w' =>
      ∃ v', e = .returned v' ∧ Kd.R k72 72 w' base ok v' (l ++ [x]) ∧ Below base w0 w' ∧ w.grownBy w' (.slice A l.length c : Value).ownBlock := by
  have mixed : Tryd.prog.follows Departure.mixedOrders = true := by kernel_rfl
  have hC : Kd.C k72 w (some ⟨vb, 0, none⟩) 1 [x] := (Kd.R_reads' (rF_shut (base := 0) (ok := fun _ => True) (xs := [x]) (c := 1) hv rfl rfl (Nat.zero_le _) (Nat.le_refl _) (by unfold maxLen; omega) trivial)).2.2
  have hnc := (Kd.R_reads' HO).2.1
  have HO' := Aside0.mk HO
  have HB' := Aside0.mk HB
  have HC := Aside0.mk hC
  have HOK := Aside0.mk hok
  have HBS := Aside0.mk hbase
  have h1 : (0 : Int) ≤ (l.length : Int) := by omega
  clear HO HB hC hok hbase hv
  cases A with
  | none =>
    have h0 : l.length = 0 := by
      cases hl0 : l with
      | nil => rfl
      | cons y ys =>
        obtain ⟨g, c', e⟩ := rF_some HO'.out (by rw [hl0]; simp)
        cases e
    have hnil : l = [] := List.eq_nil_of_length_eq_zero h0
    subst hnil
    have hc0 : c = 0 := by
      obtain ⟨_, inner, hown, _⟩ := HO'.out
      rcases hown.2 with ⟨hv, _⟩ | ⟨_, _, _, hv, _⟩
      · injection hv
      · cases hv
    subst hc0
    go_enter Tryd.func64, Tryd.ntmps64
    go_wp2_with (at_builtin; refine Kd.R_append_rows k72 (w0 := w0) base rfl (.tmp 23) (.tmp 24) 26 72 (.agg #[(.string ⟨#[]⟩), (.int .i64 0), (.int .i64 0)]) 32 rfl Tryd.underlying26 info72 rfl (by decide) (by omega) _ [] [x] _ _ _ ok (fun _ => False) rfl rfl HO'.out HC.out (fun _ _ h => h) (fun _ h => h.elim) HOK.out HB'.out HBS.out (by simp) ?_; intro v1 w1 ho hb hg hat; have HO1 := Aside0.mk ho; have HB1 := Aside0.mk hb; have HG1 := Aside0.mk hg; clear ho hb hg hat)
    go_ret
    exact ⟨_, rfl, HO1.out, HB1.out, HG1.out⟩
  | some ad =>
    obtain ⟨ab, ao, asp⟩ := ad
    have hlc : (l.length : Int) ≤ (c : Int) := by omega
    go_enter Tryd.func64, Tryd.ntmps64
    go_wp2_with (at_builtin; refine Kd.R_append_rows k72 (w0 := w0) base rfl (.tmp 23) (.tmp 24) 26 72 (.agg #[(.string ⟨#[]⟩), (.int .i64 0), (.int .i64 0)]) 32 rfl Tryd.underlying26 info72 rfl (by decide) (by omega) _ l [x] _ _ _ ok (fun _ => False) rfl rfl HO'.out HC.out (fun _ _ h => h) (fun _ h => h.elim) HOK.out HB'.out HBS.out (by omega) ?_; intro v1 w1 ho hb hg hat; have HO1 := Aside0.mk ho; have HB1 := Aside0.mk hb; have HG1 := Aside0.mk hg; clear ho hb hg hat)
    all_goals (go_ret; exact ⟨_, rfl, HO1.out, HB1.out, HG1.out⟩)
theorem di_insert (i : Nat) (x : S72) (v : Value) (l : List (S72)) (vb : Nat) (w w0 : World) (base : Nat) (ok : Nat → Prop) (HO : Kd.R k72 72 w base ok v l) (hi : i ≤ l.length) (hl : l.length ≤ 1000000)
    (hv : w.heap[vb]? = some (.cells #[.string x.f0, .int .i64 x.f1, .int .i64 x.f2] 72 (0, 0))) (hvb : ∀ k, v.ownBlock = some k → vb ≠ k) (hok : ∀ k, w.heap.size ≤ k → ok k) (hbase : base ≤ w.heap.size) (HB : Below base w0 w) :
    Calls Tryd.prog 64 #[v, .int .i64 i, .slice (some ⟨vb, 0, none⟩) 1 1] w fun e w' =>
      ∃ v', e = .returned v' ∧ Kd.R k72 72 w' base ok v' (l.take i ++ x :: l.drop i) ∧ Below base w0 w' ∧ w.grownBy w' v.ownBlock := by
  by_cases he : i = l.length
  · subst he
    obtain ⟨A, c, rfl⟩ := Kd.R_slice HO
    have := di_end x A c l vb w w0 base ok HO hl hv hok hbase HB
    rwa [List.take_length, List.drop_length]
  · have hlt : i < l.length := by omega
    obtain ⟨g, c, rfl⟩ := rF_some HO (by omega)
    obtain ⟨cur, hg, hs, ht, hb, hnc, hcm, _, hgo⟩ := rF_open HO
    have hne : vb ≠ g := hvb g (by simp [Value.ownBlock])
    have hvl : (cF x).length = 3 := rfl
    have hv1 : ∀ u ∈ cF x, u.oneCell' = true := fun u hu => by
      have := rowF_one [x] u
      rw [rowF_cons, rowF_nil] at this
      exact this hu
    have hrl : (rowF l).length = l.length * 3 := rowF_len l
    have hdl : ((rowF l).drop (i * 3)).length = (l.length - i) * 3 := by rw [List.length_drop, hrl]; omega
    have hnl : (l.take i ++ x :: l.drop i).length = l.length + 1 := by simp; omega
    have htk : (rowF l).take (i * 3) = cur.toList.take (i * 3) := by rw [← ht, List.take_take, Nat.min_eq_left (by omega)]
    have hc63 : c ≤ 9223372036854775807 := by unfold maxLen at hcm; omega
    by_cases hroom : l.length + 1 ≤ c
    · refine (di_shift g l.length c i vb (rowF l) (cF x) cur w hlt hroom hc63 hne hg hs ht (rowF_one l) hv hvl hv1).mono ?_
      rintro e w' ⟨rfl, rfl⟩
      obtain ⟨cur1, h1, h2, h3⟩ := setCells_row (g := g) (e := 72) ((rowF l).drop (i * 3)) ((i + 1) * 3) w.drew cur hg (by omega)
      obtain ⟨cur2, h4, h5, h6⟩ := setCells_row (g := g) (e := 72) (cF x) (i * 3) _ cur1 h1 (by omega)
      refine ⟨_, rfl, ?_, ?_, di_grown (di_grown (di_drew (World.grownBy.refl w _)) (.inl (by simp [Value.ownBlock])) _ _) (.inl (by simp [Value.ownBlock])) _ _⟩
      · rw [← hnl]
        refine rF_shut h4 (by omega) ?_ hb (by omega) hcm hgo
        rw [hnl, h6, h3, di_row, htk]
        exact di_laid cur.toList _ _ _ i l.length hlt (by have := Array.length_toList (xs := cur); omega) rfl hvl hdl
      · exact di_below (di_below (below_drew1 HB) hb _ _) hb _ _
    · refine (di_grow g l.length c i vb (rowF l) (cF x) cur w hlt hnc (by omega) hl hc63 hne hg hs ht (rowF_one l) hv hvl hv1).mono ?_
      rintro e w' ⟨G, hG1, hG2, rfl, rfl⟩
      obtain ⟨ROW, hROW⟩ : ∃ ROW : Array Value, ROW = ((rowF l).take (i * 3)).toArray ++ Builtin.zeroCells zF (l.length + 1 - i) ++ Builtin.zeroCells zF (G - (l.length + 1)) := ⟨_, rfl⟩
      have hRA : ROW.toList.take (i * 3) = (rowF l).take (i * 3) := by
        rw [hROW]
        simp only [Array.toList_append, List.append_assoc]
        rw [List.take_append_of_le_length (by simp [hrl]; omega), List.take_take, Nat.min_self]
      have hRs : ROW.size = G * 3 := by
        rw [hROW, Array.size_append, Array.size_append, zF_size, zF_size]
        have : ((rowF l).take (i * 3)).length = i * 3 := by rw [List.length_take]; omega
        simp only [List.size_toArray, this]
        omega
      rw [← hROW]
      have hw1 : ((w.alloc (.cells ROW 72)).drew).heap[w.heap.size]? = some (.cells ROW 72 (0, 0)) := heap_alloc_new w (.cells ROW 72)
      obtain ⟨cur1, h1, h2, h3⟩ := setCells_row (g := w.heap.size) (e := 72) (cF x) (i * 3) _ ROW hw1 (by omega)
      obtain ⟨cur2, h4, h5, h6⟩ := setCells_row (g := w.heap.size) (e := 72) ((rowF l).drop (i * 3)) ((i + 1) * 3) (((w.alloc (.cells ROW 72)).drew.setCells w.heap.size (i * 3) (cF x)).drew) cur1 (by exact h1) (by omega)
      refine ⟨_, rfl, ?_, ?_, di_grown (di_drew (di_grown (di_drew (World.grownBy_alloc w _ _)) (.inr (Nat.le_refl _)) _ _)) (.inr (Nat.le_refl _)) _ _⟩
      · rw [← hnl]
        refine rF_shut (cur := cur2) h4 (by omega) ?_ hbase (by omega) hG2 (hok _ (Nat.le_refl _))
        rw [hnl, h6, h3, di_row, ← hRA]
        exact di_laid2 ROW.toList _ _ _ i l.length hlt (by have := Array.length_toList (xs := ROW); omega) rfl hvl hdl
      · exact di_below (below_drew1 (di_below (below_drew1 (HB.alloc hbase _)) hbase _ _)) hbase _ _
/-! ### slices.Delete of files, by hand -/
theorem dd_beyond {W : World} {base g n c : Nat} {ok : Nat → Prop} {xs : List (S72)} (h : Kd.R k72 72 W base ok (.slice (some ⟨g, 0, none⟩) n c) xs) (o : Nat) (vs : List Value) (ho : n * 3 ≤ o) (hv : o + vs.length ≤ c * 3) :
    Kd.R k72 72 (W.setCells g o vs) base ok (.slice (some ⟨g, 0, none⟩) n c) xs := by
  obtain ⟨cur, hg, hs, ht, hb, hnc, hcm, hn, hgo⟩ := rF_open h
  obtain ⟨cur1, h1, h2, h3⟩ := setCells_row (g := g) (e := 72) vs o W cur hg (by omega)
  subst hn
  refine rF_shut h1 (by omega) ?_ hb hnc hcm hgo
  have hl : cur.toList.length = c * 3 := by rw [Array.length_toList]; exact hs
  rw [h3, List.append_assoc, List.take_append_of_le_length (by rw [List.length_take]; omega), List.take_take, Nat.min_eq_left ho, ht]
theorem dd_clear (W : World) (g n c o : Nat) {base : Nat} {ok : Nat → Prop} {xs : List (S72)} (h : Kd.R k72 72 W base ok (.slice (some ⟨g, 0, none⟩) n c) xs) (ho : o + 3 ≤ c * 3) (ty : TypeId) (cc : Nat) :
    (Builtin.clear_ #[26] ty #[.slice (some ⟨g, o, none⟩) 1 cc]).run Tryd.prog W = .ok (.tuple #[]) (W.setCells g o [.string ⟨#[]⟩, .int .i64 0, .int .i64 0]) := by
  obtain ⟨cur, hg, hs, ht, hb, hnc, hcm, hn, hgo⟩ := rF_open h
  obtain ⟨i0, hi0, hz0, hzs, hzb⟩ := info_parts info72
  have hst := run_storeCells_cells (P := Tryd.prog) g o [.string ⟨#[]⟩, .int .i64 0, .int .i64 0] 0 W (fun j hj => by rw [cell_of_row W g _ cur _ (0, 0) hg]; simp at hj; simp; omega) (fun j hj => blk_frozen hg _) (by simp [Value.oneCell'])
  have hz : (Builtin.zeroCells #[.string ⟨#[]⟩, .int .i64 0, .int .i64 0] 1).toList = [.string ⟨#[]⟩, .int .i64 0, .int .i64 0] := by simp [Builtin.zeroCells, List.range_succ]
  simp only [Nat.add_zero] at hst
  simp [Builtin.clear_, run_underlying Tryd.underlying26, zeroValue, typeInfo, hi0, hz0, Value.cells, hz, hst, Result.andThen]
theorem dd_cl {P : Program} (w : World) {ops : Array Oper} {rest : List Oper} {o : Oper} {a : Act} {Q : Exit → Act → World → Prop} (hgd : o.guard = none) (d : Operand) (t : TypeId)
    (ho : o.op = .call { callee := .builtin .clear, args := #[d], argTypes := #[t] }) (v : Value) (hd : a.eval d = v) {v' : Value} {w' : World}
    (hr : (Builtin.clear_ #[t] o.type #[v]).run P w = .ok v' w') (h : wpList P ops Q rest (a.put o.dst v') w') : wpList P ops Q (o :: rest) a w :=
  wpList_plain hgd fun _ hK => by
    unfold Oper.wp execOp
    simp only [ho, resolve, invoke, builtin, Sem.run_bind, Sem.run_pure, Result.andThen_ok, List.map_toArray, List.map_cons, List.map_nil, hd, hr]
    exact hK _ _ h
set_option maxHeartbeats 4000000 in
set_option maxRecDepth 100000 in
theorem dd_delete (i : Nat) (v : Value) (l : List (S72)) (w w0 : World) (base : Nat) (ok : Nat → Prop) (HO : Kd.R k72 72 w base ok v l) (hi : i < l.length) (hl : l.length ≤ 1000000) (hbase : base ≤ w.heap.size) (HB : Below base w0 w) :
    Calls Tryd.prog 65 #[v, .int .i64 i, .int .i64 ((i : Int) + 1)] w fun e w' =>
      ∃ v', e = .returned v' ∧ Kd.R k72 72 w' base ok v' (l.eraseIdx i) ∧ Below base w0 w' ∧ w.grownBy w' v.ownBlock := by
  have mixed : Tryd.prog.follows Departure.mixedOrders = true := by kernel_rfl
  obtain ⟨g, c, rfl⟩ := rF_some HO (by omega)
  obtain ⟨cur, hg, hs, ht, hb, hnc, hcm, hn, hgo⟩ := rF_open HO
  have hc63 : c ≤ 9223372036854775807 := by unfold maxLen at hcm; omega
  obtain ⟨m, hln⟩ : ∃ m, l.length = m + 1 := ⟨l.length - 1, by omega⟩
  rw [hln] at HO hi hl hnc ⊢
  have HO' := Aside0.mk HO
  have HB' := Aside0.mk HB
  have HBS := Aside0.mk hbase
  have HBG := Aside0.mk hb
  have h0 : ¬ ((i : Int) = (i : Int) + 1) := by omega
  have h1 : (i : Int) ≤ (i : Int) + 1 := by omega
  have h2 : (i : Int) + 1 ≤ (m : Int) + 1 := by omega
  have h3 : (i : Int) ≤ (m : Int) + 1 := by omega
  have h4 : (m : Int) + 1 ≤ (c : Int) := by omega
  have h5 : (0 : Int) ≤ (i : Int) + 1 := by omega
  have h6 : ((i : Int) + 1).toNat = i + 1 := by omega
  have h7 : i ≤ c := by omega
  have h8 : i + 1 ≤ m + 1 := by omega
  have h10 : ¬ (c = m) := by omega
  have h11 : ¬ (c = i) := by omega
  have h9 : (i : Int) ≤ (c : Int) := by omega
  have hsz : (Tryd.prog.info? 72).map (·.size) = some 3 := by
    obtain ⟨i0, hi0, h0, h1, h2⟩ := info_parts info72
    rw [hi0]; simp [h1]
  clear HO HB hbase hb hg hs ht hn hgo hln hcm
  go_enter Tryd.func65, Tryd.ntmps65
  go_wp2_with fail
  go_region_law_o (refine Kd.R_delete_step k72 (w0 := w0) base (by simp [Region.wanted]) (.tmp 22) (.tmp 25) 26 72 rfl Tryd.underlying26 hsz (g := g) (n := m + 1) (c := c) (k := i) (m := m + 1 - (i + 1)) (c2 := c - (i + 1)) (A := if c = i + 1 then some ⟨g, 0, none⟩ else (some (⟨g, 0, none⟩ : Addr)).map (·.add ((i + 1) * 3))) (xs := l) (ok := ok) (by simp [Act.eval, Act.put]) (by simp [Act.eval, Act.put, Addr.add_lit]) rfl rfl (Kd.R_drew HO'.out) hi (below_drew1 HB'.out) HBS.out ?_; intro w1 hr hb hg; rw [Nat.add_sub_cancel] at hr; have HO1 := Aside0.mk hr; have HB1 := Aside0.mk hb; have HG1 := Aside0.mk hg; clear hr hb hg HO' HB')
  have hcl := fun cc => dd_clear w1 g m _ (m * 3) HO1.out (by omega) 0 cc
  go_wp2
  all_goals (go_ret; exact ⟨.slice (some ⟨g, 0, none⟩) m _, rfl, (by first | exact dd_beyond HO1.out (m * 3) [.string ⟨#[]⟩, .int .i64 0, .int .i64 0] (Nat.le_refl _) (by simp; omega) | (rw [← (by assumption : c = i + 1)]; exact dd_beyond HO1.out (m * 3) [.string ⟨#[]⟩, .int .i64 0, .int .i64 0] (Nat.le_refl _) (by simp; omega))), di_below HB1.out HBG.out _ _, di_grown (di_undrew HG1.out) (.inl (by simp [Value.ownBlock])) _ _⟩)

end Go.Proofs.YtilnamobmjngbaaDoor.P
