-- Made by a program of this work's own (wip/myprint.py) over the kit's print; leaves by hand.
import Derived.Test.YtilnamobmjngbaaDoorP0
import Derived.Test.YtilnamobmjngbaaDoorP5
import Derived.Test.YtilnamobmjngbaaDoorP15
import Derived.BigQuiet
import Derived.Maps.OwnSet
import Derived.Test.YtilnamobmjngbaaDoorMg1
namespace Go.Proofs.YtilnamobmjngbaaDoor.P
open Go.RowKit Go.Proofs.YtilnamobmjngbaaDoorW.PrintWords Go.Proofs.YtilnamobmjngbaaDoorW.PrintLast Go.Proofs.YtilnamobmjngbaaDoorW.PrintMore
attribute [local go_sem] max2_int min2_int max_two min_two max_three min_three max_four min_four   -- for this text's walks alone
set_option linter.unusedVariables false
set_option linter.unusedSimpArgs false

-- HANDBIG DiskMay.lean
-- IMPORT Derived.Test.YtilnamobmjngbaaDoorPlain
-- IMPORT Derived.Maps.OwnSet
-- IMPORT Derived.BigQuiet
/-! ### disk_May, by hand: the times that were are a map of the call's own -/
open Go.Maps (Keyed IsMap Tidy) in
theorem dm_put_fold {H : Type} (u z : DataW H) (k : Lit) : ∀ (acc : List Lit) (m : DataW H), IsMap m → (∀ x ∈ acc, WideAt.IsKeyLit x) → (acc.foldl (fun m x => m.put x u) m).atKey k z = if acc.any (fun x => x.sameKey k) = true then u else m.atKey k z
  | [], m, _, _ => by simp
  | x :: r, m, hm, h => by
    rw [List.foldl_cons, dm_put_fold u z k r (m.put x u) (hm.put x u) (fun y hy => h y (by simp [hy])), List.any_cons]
    by_cases e : k = x
    · subst e
      rw [Maps.atKey_put_same hm (h k (by simp)), WideAt.sameKey_self (h k (by simp))]
      simp
    · rw [Maps.atKey_put_other e, Maps.sameKey_ne (fun e' => e e'.symm), Bool.false_or]
def dmD (ts : List Int) : DataW Unit := Maps.setOf (.lit (.bool true)) (ts.map fun t => Lit.int .i64 t)
theorem dm_any (ts : List Int) (t : Int) : ((ts.map fun t => Lit.int .i64 t).any fun x => x.sameKey (.int .i64 t)) = ts.any fun y => decide (y = t) := by
  rw [List.any_map]
  congr 1
  funext y
  by_cases h : y = t
  · subst h
    simp only [Function.comp, decide_true]
    exact WideAt.sameKey_self trivial
  · simp only [Function.comp, h, decide_false]
    exact Maps.sameKey_ne (fun e => h (by injection e))
theorem dm_at (ts : List Int) (t : Int) : (dmD ts).atKey (.int .i64 t) (.lit (.bool false)) = .lit (.bool (ts.any fun y => decide (y = t))) := by
  unfold dmD Maps.setOf
  rw [dm_put_fold _ _ _ _ _ Maps.isMap_empty (fun x hx => by obtain ⟨y, _, rfl⟩ := List.mem_map.1 hx; exact trivial), dm_any]
  cases ts.any fun y => decide (y = t) with
  | true => rfl
  | false => rfl
theorem dm_snoc (ts : List Int) (t : Int) : (dmD ts).put (.int .i64 t) (.lit (.bool true)) = dmD (ts ++ [t]) := by
  unfold dmD
  rw [List.map_append, List.map_cons, List.map_nil, Maps.setOf_snoc]
theorem dm_elem_inv {P : Program} {e : TypeId} (he : P.underlying e = some .bool) {v : Value} {y : Bool} {ps : List MemPlace} (h : plainElem (H := Unit) P e v = some (.lit (.bool y), ps)) : v = .bool y := by
  unfold plainElem at h
  rw [he] at h
  cases v <;> simp at h
  rw [h.1]
abbrev dmMap (W : World) (b n : Nat) (ts : List Int) : Prop := W.ownsMap Tryd.prog 3 (plainElem (H := Unit) Tryd.prog 4) b n (dmD ts)
theorem dm_law : Maps.Keyed Tryd.prog 3 := Maps.int_keyed Tryd.underlying3
theorem dm_look {W : World} {b n : Nat} {ts : List Int} (h : dmMap W b n ts) (t : Int) (h0 : -9223372036854775808 ≤ t) (h1 : t ≤ 9223372036854775807) :
    (Instr.lookup 111 (.map (some b)) (.int .i64 t) false).run Tryd.prog W = .ok (.bool (ts.any fun y => decide (y = t))) W := by
  have hw : (Lit.int .i64 t).wf = true := WalkArith.wf_i64 (by omega)
  obtain ⟨v, ps, hrun, hv⟩ := World.ownsMap.lookup h dm_law Tryd.underlying111 (z := .bool false) (by kernel_rfl) (plainElem_bool Tryd.underlying4 false) (Maps.keyOf_int_mk Tryd.underlying3 hw)
  rw [dm_at] at hv
  obtain rfl := dm_elem_inv Tryd.underlying4 hv
  exact hrun
theorem dm_store {W : World} {b n : Nat} {ts : List Int} (h : dmMap W b n ts) (t : Int) (h0 : -9223372036854775808 ≤ t) (h1 : t ≤ 9223372036854775807) (hn : n < 1000000) :
    ∃ W', (Instr.mapUpdate 111 (.map (some b)) (.int .i64 t) (.bool true)).run Tryd.prog W = .ok () W' ∧ dmMap W' b (n + 1) (ts ++ [t]) ∧ W.grownBy W' (some b) := by
  have hw : (Lit.int .i64 t).wf = true := WalkArith.wf_i64 (by omega)
  obtain ⟨W', hrun, h2, h3⟩ := World.ownsMap.update h dm_law Tryd.underlying111 (by unfold maxLen; omega) (Maps.keyOf_int_mk Tryd.underlying3 hw) (plainElem_bool Tryd.underlying4 true)
  rw [dm_snoc] at h2
  exact ⟨W', hrun, h2, h3⟩
theorem dm_below {W W' : World} {b n : Nat} {ts : List Int} (h : dmMap W b n ts) (hB : Below W.heap.size W W') : dmMap W' b n ts := by
  have hlt := h.lt
  obtain ⟨es, clock, hb, r⟩ := h
  exact ⟨es, clock, (hB.block b hlt).trans hb, r⟩
/-- is the file at a place odd? -/
def dm_step (k : Nat) (clk : Int) (l : List (S72)) (i : Nat) : Option Bool :=
  (path_Is.f k (rd_T72 l (i : Int)).f0).bind fun p => if p = false then some true else
    if ¬ (0 ≤ (rd_T72 l (i : Int)).f1 ∧ (rd_T72 l (i : Int)).f1 ≤ 2147483647) then some true else
    if (rd_T72 l (i : Int)).f2 < 1 then some true else if clk < (rd_T72 l (i : Int)).f2 then some true else
    if ((l.take i).map (·.f2)).any (fun y => decide (y = (rd_T72 l (i : Int)).f2)) = true then some true else
    if 0 < i ∧ Op.bytesLess (rd_T72 l ((i - 1 : Nat) : Int)).f0.toList (rd_T72 l (i : Int)).f0.toList = false then some true else some false
def dm_go (k : Nat) (clk : Int) (l : List (S72)) : Nat → Option Bool
  | 0 => some true
  | n + 1 => (dm_step k clk l (l.length - (n + 1))).bind fun bad => if bad = true then some false else dm_go k clk l n
def disk_May.f (k : Nat) (a0_0 : Int) (l0_1 : List (S72)) : Option Bool :=
  if l0_1.length ≤ 1000000 ∧ a0_0 ≤ 9223372036854775807 then (dm_go k a0_0 l0_1 l0_1.length).bind fun b => if b = true then some (decide (0 ≤ a0_0) && decide (a0_0 ≤ 1048576) && decide (l0_1.length ≤ 64)) else some false else none
theorem dm_go.mono (clk : Int) (l : List (S72)) (k : Nat) : ∀ n, LeO (dm_go k clk l n) (dm_go (k + 1) clk l n)
  | 0 => LeO.refl _
  | n + 1 => LeO.bind (LeO.bind (path_Is.mono _ _) (fun _ => LeO.refl _)) (fun _ => LeO.ite (LeO.refl _) (dm_go.mono clk l k n))
theorem disk_May.mono : ∀ a0 a1 k, LeO (disk_May.f k a0 a1) (disk_May.f (k + 1) a0 a1) := fun a0 a1 k => LeO.ite (LeO.bind (dm_go.mono a0 a1 k _) (fun _ => LeO.refl _)) (LeO.refl _)
theorem dm_cases {k : Nat} {clk : Int} {l : List (S72)} {i : Nat} {bad : Bool} (h : dm_step k clk l i = some bad) :
    ∃ p, path_Is.f k (rd_T72 l (i : Int)).f0 = some p ∧
    ((bad = true ∧ (p = false ∨ (p = true ∧ disk_content.f (rd_T72 l (i : Int)).f1 = some false) ∨
      (p = true ∧ disk_content.f (rd_T72 l (i : Int)).f1 = some true ∧ ((rd_T72 l (i : Int)).f2 < 1 ∨ ¬ (rd_T72 l (i : Int)).f2 < 1 ∧
        (clk < (rd_T72 l (i : Int)).f2 ∨ ¬ clk < (rd_T72 l (i : Int)).f2 ∧
          (((l.take i).map (·.f2)).any (fun y => decide (y = (rd_T72 l (i : Int)).f2)) = true ∨ ((l.take i).map (·.f2)).any (fun y => decide (y = (rd_T72 l (i : Int)).f2)) = false ∧
            0 < i ∧ Op.bytesLess (rd_T72 l ((i - 1 : Nat) : Int)).f0.toList (rd_T72 l (i : Int)).f0.toList = false)))))) ∨
     (bad = false ∧ p = true ∧ disk_content.f (rd_T72 l (i : Int)).f1 = some true ∧ ¬ (rd_T72 l (i : Int)).f2 < 1 ∧ ¬ clk < (rd_T72 l (i : Int)).f2 ∧
        ((l.take i).map (·.f2)).any (fun y => decide (y = (rd_T72 l (i : Int)).f2)) = false ∧ (i = 0 ∨ 0 < i ∧ Op.bytesLess (rd_T72 l ((i - 1 : Nat) : Int)).f0.toList (rd_T72 l (i : Int)).f0.toList = true))) := by
  unfold dm_step at h
  obtain ⟨p, hp, h⟩ := Option.bind_eq_some_iff.1 h
  refine ⟨p, hp, ?_⟩
  cases p with
  | false =>
    rw [if_pos rfl] at h
    exact .inl ⟨(Option.some.inj h).symm, .inl rfl⟩
  | true =>
    rw [if_neg (by simp)] at h
    have hc : ∀ x : Int, disk_content.f x = some (decide (0 ≤ x ∧ x ≤ 2147483647)) := fun x => by
      unfold disk_content.f
      by_cases h0 : 0 ≤ x
      · rw [if_pos h0]; simp [h0]
      · rw [if_neg h0]; simp [h0]
    rw [hc]
    split at h
    case isTrue h1 => exact .inl ⟨(Option.some.inj h).symm, .inr (.inl ⟨rfl, by rw [decide_eq_false h1]⟩)⟩
    case isFalse h1 =>
    have h1' := Classical.not_not.1 h1
    rw [decide_eq_true h1']
    split at h
    case isTrue h2 => exact .inl ⟨(Option.some.inj h).symm, .inr (.inr ⟨rfl, rfl, .inl h2⟩)⟩
    case isFalse h2 =>
    split at h
    case isTrue h3 => exact .inl ⟨(Option.some.inj h).symm, .inr (.inr ⟨rfl, rfl, .inr ⟨h2, .inl h3⟩⟩)⟩
    case isFalse h3 =>
    split at h
    case isTrue h4 => exact .inl ⟨(Option.some.inj h).symm, .inr (.inr ⟨rfl, rfl, .inr ⟨h2, .inr ⟨h3, .inl h4⟩⟩⟩)⟩
    case isFalse h4 =>
    have h4' := Bool.eq_false_iff.mpr h4
    split at h
    case isTrue h5 => exact .inl ⟨(Option.some.inj h).symm, .inr (.inr ⟨rfl, rfl, .inr ⟨h2, .inr ⟨h3, .inr ⟨h4', h5⟩⟩⟩⟩)⟩
    case isFalse h5 =>
      refine .inr ⟨(Option.some.inj h).symm, rfl, rfl, h2, h3, h4', ?_⟩
      by_cases hi : i = 0
      · exact .inl hi
      · refine .inr ⟨by omega, ?_⟩
        cases hb : Op.bytesLess (rd_T72 l ((i - 1 : Nat) : Int)).f0.toList (rd_T72 l (i : Int)).f0.toList with
        | true => rfl
        | false => exact absurd ⟨by omega, hb⟩ h5
theorem dm_take (l : List (S72)) (i : Nat) (x : S72) (h : i < l.length) (hx : rd_T72 l (i : Int) = x) : ((l.take i).map (·.f2)) ++ [x.f2] = (l.take (i + 1)).map (·.f2) := by
  have : l[i] = x := by rw [← hx]; simp [rd_T72, List.getD_eq_getElem?_getD, List.getElem?_eq_getElem h]
  rw [List.take_succ_eq_append_getElem h, List.map_append, this]
  rfl
theorem wp_quiet_C {P : Program} {id : Nat} {Q : Exit → Act → World → Prop} {a : Act} {w : World} {l : List Oper} (C : World → Prop) (hm : P.follows .mixedOrders = true) (hB : Region.lexB .any l.toArray = true) (hC : C w.drew)
    (h : wpQuiet P l.toArray C (fun a' => ∀ w', C w' → Q .normal a' w') l a) : (Code.region id l.toArray true).wp P Q a w :=
  wp_region_quiet (C := C) hm hB hC (by simpa using h)
theorem quiet_enters {f : FuncId} {P : Program} {fn : Func} (hf : P.funcs[f]? = some fn) (hname : (fn.name == "runtime.NumGoroutine") = false) (hb : fn.body.isSome = true) (C : World → Prop) (o : Oper) (a : Act) (w : World) (v : Value) (args : Array Value) (hr : (execOp a.eval o).run P w = .ok (.enter f args) w)
    (h : Calls P f args w fun e w' => e = .returned v ∧ C w') : o.quietAt P a C w v := by
  unfold Oper.quietAt
  rw [hr]
  exact ⟨rfl, h⟩
abbrev dmB (t : Int) (v : Value) : Obj := .cells #[.int .i64 t, v] 28
abbrev dmF (a : ByteArray) (c t : Int) : Obj := .cells #[.string a, .int .i64 c, .int .i64 t] 72
theorem dm_put {W : World} {g : Nat} {a : ByteArray} {c t : Int} (h : W.heap[g]? = some (dmF a c t)) (a' : ByteArray) (c' t' : Int) : (((W.setCell ⟨g, 0, none⟩ (.string a')).setCell ⟨g, 1, none⟩ (.int .i64 c')).setCell ⟨g, 2, none⟩ (.int .i64 t')).heap[g]? = some (dmF a' c' t') :=
  blk_put (cs := #[.string a', .int .i64 c', .int .i64 t]) (blk_put (cs := #[.string a', .int .i64 c, .int .i64 t]) (blk_put (cs := #[.string a, .int .i64 c, .int .i64 t]) h 0 _ rfl) 1 _ rfl) 2 _ rfl
/-- the cells of the walk, and what stands besides -/
abbrev dm5 (bf bw : Nat) (x : S72) (a : Int) (ad : Addr) (n c : Nat) (W : World) (T : Prop) : Prop :=
  W.cell? ⟨bf, 0, none⟩ = some (.string x.f0) ∧ W.cell? ⟨bf, 1, none⟩ = some (.int .i64 x.f1) ∧ W.cell? ⟨bf, 2, none⟩ = some (.int .i64 x.f2) ∧ W.cell? ⟨bw, 0, none⟩ = some (.int .i64 a) ∧ W.cell? ⟨bw, 1, none⟩ = some (.slice (some ad) n c) ∧ T
set_option maxHeartbeats 8000000 in
set_option maxRecDepth 100000 in
theorem disk_May.calls (k : Nat) (a0_0 : Int) (A0_1 : Option Addr) (c0_1 : Nat) (l0_1 : List (S72)) (r : Bool) (w : World) (hr0_1 : Kd.C k72 w A0_1 l0_1.length l0_1) (hc0_1 : l0_1.length ≤ c0_1) (h : disk_May.f k a0_0 l0_1 = some r) :
    Calls Tryd.prog 43 #[.agg #[.int .i64 a0_0, .slice A0_1 l0_1.length c0_1]] w fun e w' => e = .returned (.bool r) ∧ Below w.heap.size w w' := by
  have hu := Tryd.underlying72
  have hu2 := Tryd.underlying28
  unfold disk_May.f at h
  split at h
  case isFalse => cases h
  rename_i hl
  obtain ⟨hl, hclk⟩ := hl
  obtain ⟨rb, hgo, hrb⟩ := Option.bind_eq_some_iff.1 h
  have HR := Aside0.mk hr0_1
  have HL := Aside0.mk hl
  have HK := Aside0.mk hclk
  have HG := Aside0.mk hgo
  have HRB := Aside0.mk hrb
  have b1 : Below w.heap.size w ((w.alloc (dmB a0_0 (.slice A0_1 l0_1.length c0_1))).alloc (.map #[] 0)) := below_alloc (below_alloc (Below.refl _ _) _) _
  have F0 := heap_alloc_new w (dmB a0_0 (.slice A0_1 l0_1.length c0_1))
  have F0 := (Below.heap_alloc (w.alloc (dmB a0_0 (.slice A0_1 l0_1.length c0_1))) (.map #[] 0) w.heap.size (blk_lt F0)).trans F0
  have M0 : dmMap ((w.alloc (dmB a0_0 (.slice A0_1 l0_1.length c0_1))).alloc (.map #[] 0)) (w.heap.size + 1) 0 [] := by
    have := World.ownsMap_made (w.alloc (dmB a0_0 (.slice A0_1 l0_1.length c0_1))) Tryd.prog 3 (plainElem (H := Unit) Tryd.prog 4)
    rw [World.size_alloc] at this
    exact this
  have B1 := Aside0.mk b1
  have X0 := Aside0.mk F0
  have MM := Aside0.mk M0
  clear hr0_1 hc0_1 h hl hclk hgo hrb b1 F0 M0
  have hmm := @run_makeMap Tryd.prog
  go_enter Tryd.func43, Tryd.ntmps43
  go_wp2
  go_loopg [4, 5, 10] l0_1.length (fun gg _ _ s10 wr => ∃ i : Nat, i ≤ l0_1.length ∧ l0_1.length - i ≤ gg ∧ s10 = .int .i64 i ∧ Aside0 (dm_go k a0_0 l0_1 (l0_1.length - i) = some rb) ∧ Aside0 (dmMap wr (w.heap.size + 1) i ((l0_1.take i).map (·.f2))) ∧ Aside0 (wr.heap[w.heap.size]? = some (dmB a0_0 (.slice A0_1 l0_1.length c0_1))) ∧ Aside0 (Below w.heap.size w wr))
  case atStart => exact ⟨0, Nat.zero_le _, by omega, rfl, HG, MM, X0, B1⟩
  case round =>
    obtain ⟨i, hi, hgg, rfl, hE, hM, hX, hB⟩ := hrel
    by_cases hlt : i < l0_1.length
    · have hltz : (i : Int) < (l0_1.length : Int) := by omega
      obtain ⟨ad, hA, x0, x1, x2⟩ := at_T72 HR.out (i : Int) (by omega) hltz
      subst hA
      replace x0 := (hB.out.cell (World.block_lt_of_cell? w _ x0)).trans x0
      replace x1 := (hB.out.cell (World.block_lt_of_cell? w _ x1)).trans x1
      replace x2 := (hB.out.cell (World.block_lt_of_cell? w _ x2)).trans x2
      simp only [Int.toNat_natCast] at x0 x1 x2
      have hs := hE.out
      obtain ⟨n', hn'⟩ : ∃ n', l0_1.length - i = n' + 1 := ⟨l0_1.length - i - 1, by omega⟩
      rw [hn', dm_go, ← hn', show l0_1.length - (l0_1.length - i) = i by omega] at hs
      obtain ⟨bad, hbad, hs⟩ := Option.bind_eq_some_iff.1 hs
      obtain ⟨p, hp, hcs⟩ := dm_cases hbad
      have HS := Aside0.mk hs
      clear hs hbad hE
      go_upto_region 5 with fail
      generalize hx : rd_T72 l0_1 (i : Int) = x at x0 x1 x2 hp hcs ⊢
      have g : (wr.alloc (dmF x.f0 x.f1 x.f2)).heap[wr.heap.size]? = some (dmF x.f0 x.f1 x.f2) := heap_alloc_new wr _
      have gB : Below w.heap.size w (wr.alloc (dmF x.f0 x.f1 x.f2)) := hB.out.alloc hB.out.size _
      have gX : (wr.alloc (dmF x.f0 x.f1 x.f2)).heap[w.heap.size]? = some (dmB a0_0 (.slice (some ad) l0_1.length c0_1)) := (Below.heap_alloc wr (dmF x.f0 x.f1 x.f2) w.heap.size (blk_lt hX.out)).trans hX.out
      have gM : dmMap (wr.alloc (dmF x.f0 x.f1 x.f2)) (w.heap.size + 1) i ((l0_1.take i).map (·.f2)) := dm_below hM.out (below_alloc (Below.refl _ _) _)
      have hbw : w.heap.size ≤ wr.heap.size := hB.out.size
      have hneb : wr.heap.size ≠ w.heap.size + 1 := Nat.ne_of_gt hM.out.lt
      clear x0 x1 x2 hX hM hB
      generalize wr.heap.size = bf at g hbw hneb ⊢
      generalize wr.alloc (dmF x.f0 x.f1 x.f2) = W1 at g gB gX gM ⊢
      have hbl : bf < W1.heap.size := blk_lt g
      have hwl : w.heap.size < W1.heap.size := blk_lt gX
      have g0 : W1.cell? ⟨bf, 0, none⟩ = some (.string x.f0) := by rw [blk_cell g]; rfl
      have g1 : W1.cell? ⟨bf, 1, none⟩ = some (.int .i64 x.f1) := by rw [blk_cell g]; rfl
      have g2 : W1.cell? ⟨bf, 2, none⟩ = some (.int .i64 x.f2) := by rw [blk_cell g]; rfl
      have g3 : W1.cell? ⟨w.heap.size, 0, none⟩ = some (.int .i64 a0_0) := by rw [blk_cell gX]; rfl
      have g4 : W1.cell? ⟨w.heap.size, 1, none⟩ = some (.slice (some ad) l0_1.length c0_1) := by rw [blk_cell gX]; rfl
      have G := Aside0.mk g
      have GB := Aside0.mk gB
      have GX := Aside0.mk gX
      have MB := Aside0.mk gM
      have HP := Aside0.mk hp
      have HX := Aside0.mk hx
      clear g gB gX gM hp hx
      rcases hcs with ⟨rfl, hA⟩ | ⟨rfl, rfl, hc, h1, h2, h3, hI⟩
      · have hrb : false = rb := Option.some.inj (by have := HS.out; rw [if_pos rfl] at this; exact this)
        subst hrb
        have hr : false = r := Option.some.inj (by have := HRB.out; rw [if_neg (by simp)] at this; exact this)
        subst hr
        rcases hA with rfl | ⟨rfl, hc⟩ | ⟨rfl, hc, h1 | ⟨h1, h2 | ⟨h2, h3 | ⟨h3, h4, h5⟩⟩⟩⟩
        · skip
          have toS : ∀ W, Below W1.heap.size W1 W → (dm5 bf w.heap.size x a0_0 ad l0_1.length c0_1 W (Below W1.heap.size W1 W)) := fun W hB => ⟨(hB.cell (p := ⟨_, 0, none⟩) hbl).trans g0, (hB.cell (p := ⟨_, 1, none⟩) hbl).trans g1, (hB.cell (p := ⟨_, 2, none⟩) hbl).trans g2, (hB.cell (p := ⟨_, 0, none⟩) hwl).trans g3, (hB.cell (p := ⟨_, 1, none⟩) hwl).trans g4, hB⟩
          have cIs : ∀ W, (dm5 bf w.heap.size x a0_0 ad l0_1.length c0_1 W (Below W1.heap.size W1 W)) → Calls Tryd.prog 60 #[.string x.f0] W fun e w' => e = .returned (.bool false) ∧ (dm5 bf w.heap.size x a0_0 ad l0_1.length c0_1 w' (Below W1.heap.size W1 w')) := fun W hS => (path_Is.calls k x.f0 false W HP.out).mono fun e w' ⟨he, hb⟩ => ⟨he, toS _ (below_then hS.2.2.2.2.2 hS.2.2.2.2.2.size hb)⟩
          have fin : ∀ W, (dm5 bf w.heap.size x a0_0 ad l0_1.length c0_1 W (Below W1.heap.size W1 W)) → Below w.heap.size w W ∧ Below W1.heap.size W1 W := fun W hS => ⟨below_then GB.out GB.out.size hS.2.2.2.2.2, hS.2.2.2.2.2⟩
          have hd0 := toS W1.drew (below_drew1 (Below.refl _ _))
          clear g0 g1 g2 g3 g4 toS
          refine wp_quiet_C (fun w' => dm5 bf w.heap.size x a0_0 ad l0_1.length c0_1 w' (Below W1.heap.size W1 w')) (by kernel_rfl) (by kernel_rfl) hd0 ?_
          repeat (first | (go_big_quiet_want; go_big_quiet_op; go_big_quiet_on) | ((go_big_quiet_want; apply Exists.intro; refine ⟨fun w' hS => ?_, ?_⟩; · obtain ⟨s0, s1, s2, s3, s4, sB⟩ := hS; (unfold Oper.quietAt; go_simp); first | done | rfl | exact ⟨rfl, rfl⟩); (try simp only [Act.put, List.setIfInBounds_toArray, List.set_cons_zero, List.set_cons_succ]); go_big_quiet_on) | ((go_big_quiet_want; refine ⟨.string x.f0, fun w' hS => ?_, ?_⟩; · obtain ⟨s0, s1, s2, s3, s4, sB⟩ := hS; (unfold Oper.quietAt; go_simp)); (try simp only [Act.put, List.setIfInBounds_toArray, List.set_cons_zero, List.set_cons_succ]); go_big_quiet_on) | ((go_big_quiet_want; refine ⟨.bool false, fun w' hS => ?_, ?_⟩; · refine quiet_enters Tryd.func60 (by kernel_rfl) rfl _ _ _ _ _ #[.string x.f0] ?_ (cIs _ hS); (go_simp; done)); (try simp only [Act.put, List.setIfInBounds_toArray, List.set_cons_zero, List.set_cons_succ]); go_big_quiet_on) | go_big_quiet_skip)
          refine wpQuiet_nil ?_
          intro w9 hS9
          have z2 := hS9.2.2.1
          obtain ⟨fw, fb⟩ := fin _ hS9
          have FW := Aside0.mk fw
          have FB := Aside0.mk fb
          clear fw fb hS9 fin hd0 cIs
          clear z2
          go_wp2
          go_ret
          exact ⟨rfl, FW.out⟩
        · have HC := Aside0.mk hc
          have toS : ∀ W, Below W1.heap.size W1 W → (dm5 bf w.heap.size x a0_0 ad l0_1.length c0_1 W (Below W1.heap.size W1 W)) := fun W hB => ⟨(hB.cell (p := ⟨_, 0, none⟩) hbl).trans g0, (hB.cell (p := ⟨_, 1, none⟩) hbl).trans g1, (hB.cell (p := ⟨_, 2, none⟩) hbl).trans g2, (hB.cell (p := ⟨_, 0, none⟩) hwl).trans g3, (hB.cell (p := ⟨_, 1, none⟩) hwl).trans g4, hB⟩
          have cIs : ∀ W, (dm5 bf w.heap.size x a0_0 ad l0_1.length c0_1 W (Below W1.heap.size W1 W)) → Calls Tryd.prog 60 #[.string x.f0] W fun e w' => e = .returned (.bool true) ∧ (dm5 bf w.heap.size x a0_0 ad l0_1.length c0_1 w' (Below W1.heap.size W1 w')) := fun W hS => (path_Is.calls k x.f0 true W HP.out).mono fun e w' ⟨he, hb⟩ => ⟨he, toS _ (below_then hS.2.2.2.2.2 hS.2.2.2.2.2.size hb)⟩
          have cCo : ∀ W, (dm5 bf w.heap.size x a0_0 ad l0_1.length c0_1 W (Below W1.heap.size W1 W)) → Calls Tryd.prog 61 #[.int .i64 x.f1] W fun e w' => e = .returned (.bool false) ∧ (dm5 bf w.heap.size x a0_0 ad l0_1.length c0_1 w' (Below W1.heap.size W1 w')) := fun W hS => (disk_content.calls x.f1 false W HC.out).mono fun e w' ⟨he, hb⟩ => ⟨he, toS _ (below_then hS.2.2.2.2.2 hS.2.2.2.2.2.size hb.below)⟩
          have fin : ∀ W, (dm5 bf w.heap.size x a0_0 ad l0_1.length c0_1 W (Below W1.heap.size W1 W)) → Below w.heap.size w W ∧ Below W1.heap.size W1 W := fun W hS => ⟨below_then GB.out GB.out.size hS.2.2.2.2.2, hS.2.2.2.2.2⟩
          have hd0 := toS W1.drew (below_drew1 (Below.refl _ _))
          clear g0 g1 g2 g3 g4 toS
          refine wp_quiet_C (fun w' => dm5 bf w.heap.size x a0_0 ad l0_1.length c0_1 w' (Below W1.heap.size W1 w')) (by kernel_rfl) (by kernel_rfl) hd0 ?_
          repeat (first | (go_big_quiet_want; go_big_quiet_op; go_big_quiet_on) | ((go_big_quiet_want; apply Exists.intro; refine ⟨fun w' hS => ?_, ?_⟩; · obtain ⟨s0, s1, s2, s3, s4, sB⟩ := hS; (unfold Oper.quietAt; go_simp); first | done | rfl | exact ⟨rfl, rfl⟩); (try simp only [Act.put, List.setIfInBounds_toArray, List.set_cons_zero, List.set_cons_succ]); go_big_quiet_on) | ((go_big_quiet_want; refine ⟨.string x.f0, fun w' hS => ?_, ?_⟩; · obtain ⟨s0, s1, s2, s3, s4, sB⟩ := hS; (unfold Oper.quietAt; go_simp)); (try simp only [Act.put, List.setIfInBounds_toArray, List.set_cons_zero, List.set_cons_succ]); go_big_quiet_on) | ((go_big_quiet_want; refine ⟨.int .i64 x.f1, fun w' hS => ?_, ?_⟩; · obtain ⟨s0, s1, s2, s3, s4, sB⟩ := hS; (unfold Oper.quietAt; go_simp)); (try simp only [Act.put, List.setIfInBounds_toArray, List.set_cons_zero, List.set_cons_succ]); go_big_quiet_on) | ((go_big_quiet_want; refine ⟨.bool true, fun w' hS => ?_, ?_⟩; · refine quiet_enters Tryd.func60 (by kernel_rfl) rfl _ _ _ _ _ #[.string x.f0] ?_ (cIs _ hS); (go_simp; done)); (try simp only [Act.put, List.setIfInBounds_toArray, List.set_cons_zero, List.set_cons_succ]); go_big_quiet_on) | ((go_big_quiet_want; refine ⟨.bool false, fun w' hS => ?_, ?_⟩; · refine quiet_enters Tryd.func61 (by kernel_rfl) rfl _ _ _ _ _ #[.int .i64 x.f1] ?_ (cCo _ hS); (go_simp; done)); (try simp only [Act.put, List.setIfInBounds_toArray, List.set_cons_zero, List.set_cons_succ]); go_big_quiet_on) | go_big_quiet_skip)
          refine wpQuiet_nil ?_
          intro w9 hS9
          have z2 := hS9.2.2.1
          obtain ⟨fw, fb⟩ := fin _ hS9
          have FW := Aside0.mk fw
          have FB := Aside0.mk fb
          clear fw fb hS9 fin hd0 cIs
          clear z2
          go_wp2
          go_ret
          exact ⟨rfl, FW.out⟩
        · have HC := Aside0.mk hc
          have d1 : decide (x.f2 < 1) = true := decide_eq_true h1
          have toS : ∀ W, Below W1.heap.size W1 W → (dm5 bf w.heap.size x a0_0 ad l0_1.length c0_1 W (Below W1.heap.size W1 W)) := fun W hB => ⟨(hB.cell (p := ⟨_, 0, none⟩) hbl).trans g0, (hB.cell (p := ⟨_, 1, none⟩) hbl).trans g1, (hB.cell (p := ⟨_, 2, none⟩) hbl).trans g2, (hB.cell (p := ⟨_, 0, none⟩) hwl).trans g3, (hB.cell (p := ⟨_, 1, none⟩) hwl).trans g4, hB⟩
          have cIs : ∀ W, (dm5 bf w.heap.size x a0_0 ad l0_1.length c0_1 W (Below W1.heap.size W1 W)) → Calls Tryd.prog 60 #[.string x.f0] W fun e w' => e = .returned (.bool true) ∧ (dm5 bf w.heap.size x a0_0 ad l0_1.length c0_1 w' (Below W1.heap.size W1 w')) := fun W hS => (path_Is.calls k x.f0 true W HP.out).mono fun e w' ⟨he, hb⟩ => ⟨he, toS _ (below_then hS.2.2.2.2.2 hS.2.2.2.2.2.size hb)⟩
          have cCo : ∀ W, (dm5 bf w.heap.size x a0_0 ad l0_1.length c0_1 W (Below W1.heap.size W1 W)) → Calls Tryd.prog 61 #[.int .i64 x.f1] W fun e w' => e = .returned (.bool true) ∧ (dm5 bf w.heap.size x a0_0 ad l0_1.length c0_1 w' (Below W1.heap.size W1 w')) := fun W hS => (disk_content.calls x.f1 true W HC.out).mono fun e w' ⟨he, hb⟩ => ⟨he, toS _ (below_then hS.2.2.2.2.2 hS.2.2.2.2.2.size hb.below)⟩
          have fin : ∀ W, (dm5 bf w.heap.size x a0_0 ad l0_1.length c0_1 W (Below W1.heap.size W1 W)) → Below w.heap.size w W ∧ Below W1.heap.size W1 W := fun W hS => ⟨below_then GB.out GB.out.size hS.2.2.2.2.2, hS.2.2.2.2.2⟩
          have hd0 := toS W1.drew (below_drew1 (Below.refl _ _))
          clear g0 g1 g2 g3 g4 toS
          refine wp_quiet_C (fun w' => dm5 bf w.heap.size x a0_0 ad l0_1.length c0_1 w' (Below W1.heap.size W1 w')) (by kernel_rfl) (by kernel_rfl) hd0 ?_
          repeat (first | (go_big_quiet_want; go_big_quiet_op; go_big_quiet_on) | ((go_big_quiet_want; apply Exists.intro; refine ⟨fun w' hS => ?_, ?_⟩; · obtain ⟨s0, s1, s2, s3, s4, sB⟩ := hS; (unfold Oper.quietAt; go_simp); first | done | rfl | exact ⟨rfl, rfl⟩); (try simp only [Act.put, List.setIfInBounds_toArray, List.set_cons_zero, List.set_cons_succ]); go_big_quiet_on) | ((go_big_quiet_want; refine ⟨.string x.f0, fun w' hS => ?_, ?_⟩; · obtain ⟨s0, s1, s2, s3, s4, sB⟩ := hS; (unfold Oper.quietAt; go_simp)); (try simp only [Act.put, List.setIfInBounds_toArray, List.set_cons_zero, List.set_cons_succ]); go_big_quiet_on) | ((go_big_quiet_want; refine ⟨.int .i64 x.f1, fun w' hS => ?_, ?_⟩; · obtain ⟨s0, s1, s2, s3, s4, sB⟩ := hS; (unfold Oper.quietAt; go_simp)); (try simp only [Act.put, List.setIfInBounds_toArray, List.set_cons_zero, List.set_cons_succ]); go_big_quiet_on) | ((go_big_quiet_want; refine ⟨.int .i64 x.f2, fun w' hS => ?_, ?_⟩; · obtain ⟨s0, s1, s2, s3, s4, sB⟩ := hS; (unfold Oper.quietAt; go_simp)); (try simp only [Act.put, List.setIfInBounds_toArray, List.set_cons_zero, List.set_cons_succ]); go_big_quiet_on) | ((go_big_quiet_want; refine ⟨.bool true, fun w' hS => ?_, ?_⟩; · refine quiet_enters Tryd.func60 (by kernel_rfl) rfl _ _ _ _ _ #[.string x.f0] ?_ (cIs _ hS); (go_simp; done)); (try simp only [Act.put, List.setIfInBounds_toArray, List.set_cons_zero, List.set_cons_succ]); go_big_quiet_on) | ((go_big_quiet_want; refine ⟨.bool true, fun w' hS => ?_, ?_⟩; · refine quiet_enters Tryd.func61 (by kernel_rfl) rfl _ _ _ _ _ #[.int .i64 x.f1] ?_ (cCo _ hS); (go_simp; done)); (try simp only [Act.put, List.setIfInBounds_toArray, List.set_cons_zero, List.set_cons_succ]); go_big_quiet_on) | go_big_quiet_skip)
          refine wpQuiet_nil ?_
          intro w9 hS9
          have z2 := hS9.2.2.1
          obtain ⟨fw, fb⟩ := fin _ hS9
          have FW := Aside0.mk fw
          have FB := Aside0.mk fb
          clear fw fb hS9 fin hd0 cIs
          clear z2
          go_wp2
          go_ret
          exact ⟨rfl, FW.out⟩
        · have HC := Aside0.mk hc
          have d1 : decide (x.f2 < 1) = false := decide_eq_false h1
          have d2 : decide (a0_0 < x.f2) = true := decide_eq_true h2
          have toS : ∀ W, Below W1.heap.size W1 W → (dm5 bf w.heap.size x a0_0 ad l0_1.length c0_1 W (Below W1.heap.size W1 W)) := fun W hB => ⟨(hB.cell (p := ⟨_, 0, none⟩) hbl).trans g0, (hB.cell (p := ⟨_, 1, none⟩) hbl).trans g1, (hB.cell (p := ⟨_, 2, none⟩) hbl).trans g2, (hB.cell (p := ⟨_, 0, none⟩) hwl).trans g3, (hB.cell (p := ⟨_, 1, none⟩) hwl).trans g4, hB⟩
          have cIs : ∀ W, (dm5 bf w.heap.size x a0_0 ad l0_1.length c0_1 W (Below W1.heap.size W1 W)) → Calls Tryd.prog 60 #[.string x.f0] W fun e w' => e = .returned (.bool true) ∧ (dm5 bf w.heap.size x a0_0 ad l0_1.length c0_1 w' (Below W1.heap.size W1 w')) := fun W hS => (path_Is.calls k x.f0 true W HP.out).mono fun e w' ⟨he, hb⟩ => ⟨he, toS _ (below_then hS.2.2.2.2.2 hS.2.2.2.2.2.size hb)⟩
          have cCo : ∀ W, (dm5 bf w.heap.size x a0_0 ad l0_1.length c0_1 W (Below W1.heap.size W1 W)) → Calls Tryd.prog 61 #[.int .i64 x.f1] W fun e w' => e = .returned (.bool true) ∧ (dm5 bf w.heap.size x a0_0 ad l0_1.length c0_1 w' (Below W1.heap.size W1 w')) := fun W hS => (disk_content.calls x.f1 true W HC.out).mono fun e w' ⟨he, hb⟩ => ⟨he, toS _ (below_then hS.2.2.2.2.2 hS.2.2.2.2.2.size hb.below)⟩
          have fin : ∀ W, (dm5 bf w.heap.size x a0_0 ad l0_1.length c0_1 W (Below W1.heap.size W1 W)) → Below w.heap.size w W ∧ Below W1.heap.size W1 W := fun W hS => ⟨below_then GB.out GB.out.size hS.2.2.2.2.2, hS.2.2.2.2.2⟩
          have hd0 := toS W1.drew (below_drew1 (Below.refl _ _))
          clear g0 g1 g2 g3 g4 toS
          refine wp_quiet_C (fun w' => dm5 bf w.heap.size x a0_0 ad l0_1.length c0_1 w' (Below W1.heap.size W1 w')) (by kernel_rfl) (by kernel_rfl) hd0 ?_
          repeat (first | (go_big_quiet_want; go_big_quiet_op; go_big_quiet_on) | ((go_big_quiet_want; apply Exists.intro; refine ⟨fun w' hS => ?_, ?_⟩; · obtain ⟨s0, s1, s2, s3, s4, sB⟩ := hS; (unfold Oper.quietAt; go_simp); first | done | rfl | exact ⟨rfl, rfl⟩); (try simp only [Act.put, List.setIfInBounds_toArray, List.set_cons_zero, List.set_cons_succ]); go_big_quiet_on) | ((go_big_quiet_want; refine ⟨.string x.f0, fun w' hS => ?_, ?_⟩; · obtain ⟨s0, s1, s2, s3, s4, sB⟩ := hS; (unfold Oper.quietAt; go_simp)); (try simp only [Act.put, List.setIfInBounds_toArray, List.set_cons_zero, List.set_cons_succ]); go_big_quiet_on) | ((go_big_quiet_want; refine ⟨.int .i64 x.f1, fun w' hS => ?_, ?_⟩; · obtain ⟨s0, s1, s2, s3, s4, sB⟩ := hS; (unfold Oper.quietAt; go_simp)); (try simp only [Act.put, List.setIfInBounds_toArray, List.set_cons_zero, List.set_cons_succ]); go_big_quiet_on) | ((go_big_quiet_want; refine ⟨.int .i64 x.f2, fun w' hS => ?_, ?_⟩; · obtain ⟨s0, s1, s2, s3, s4, sB⟩ := hS; (unfold Oper.quietAt; go_simp)); (try simp only [Act.put, List.setIfInBounds_toArray, List.set_cons_zero, List.set_cons_succ]); go_big_quiet_on) | ((go_big_quiet_want; refine ⟨.int .i64 a0_0, fun w' hS => ?_, ?_⟩; · obtain ⟨s0, s1, s2, s3, s4, sB⟩ := hS; (unfold Oper.quietAt; go_simp)); (try simp only [Act.put, List.setIfInBounds_toArray, List.set_cons_zero, List.set_cons_succ]); go_big_quiet_on) | ((go_big_quiet_want; refine ⟨.bool true, fun w' hS => ?_, ?_⟩; · refine quiet_enters Tryd.func60 (by kernel_rfl) rfl _ _ _ _ _ #[.string x.f0] ?_ (cIs _ hS); (go_simp; done)); (try simp only [Act.put, List.setIfInBounds_toArray, List.set_cons_zero, List.set_cons_succ]); go_big_quiet_on) | ((go_big_quiet_want; refine ⟨.bool true, fun w' hS => ?_, ?_⟩; · refine quiet_enters Tryd.func61 (by kernel_rfl) rfl _ _ _ _ _ #[.int .i64 x.f1] ?_ (cCo _ hS); (go_simp; done)); (try simp only [Act.put, List.setIfInBounds_toArray, List.set_cons_zero, List.set_cons_succ]); go_big_quiet_on) | go_big_quiet_skip)
          refine wpQuiet_nil ?_
          intro w9 hS9
          have z2 := hS9.2.2.1
          obtain ⟨fw, fb⟩ := fin _ hS9
          have FW := Aside0.mk fw
          have FB := Aside0.mk fb
          clear fw fb hS9 fin hd0 cIs
          clear z2
          go_wp2
          go_ret
          exact ⟨rfl, FW.out⟩
        · have HC := Aside0.mk hc
          have SN := Aside0.mk h3
          have HT : Aside0 (-9223372036854775808 ≤ x.f2 ∧ x.f2 ≤ 9223372036854775807) := ⟨by have := HK.out; omega⟩
          clear h3
          have d1 : decide (x.f2 < 1) = false := decide_eq_false h1
          have d2 : decide (a0_0 < x.f2) = false := decide_eq_false h2
          have toS : ∀ W, Below W1.heap.size W1 W → (dm5 bf w.heap.size x a0_0 ad l0_1.length c0_1 W ((Instr.lookup 111 (.map (some (w.heap.size + 1))) (.int .i64 x.f2) false).run Tryd.prog W = .ok (.bool true) W ∧ Below W1.heap.size W1 W)) := fun W hB => ⟨(hB.cell (p := ⟨_, 0, none⟩) hbl).trans g0, (hB.cell (p := ⟨_, 1, none⟩) hbl).trans g1, (hB.cell (p := ⟨_, 2, none⟩) hbl).trans g2, (hB.cell (p := ⟨_, 0, none⟩) hwl).trans g3, (hB.cell (p := ⟨_, 1, none⟩) hwl).trans g4, SN.out ▸ dm_look (dm_below MB.out hB) x.f2 HT.out.1 HT.out.2, hB⟩
          have cIs : ∀ W, (dm5 bf w.heap.size x a0_0 ad l0_1.length c0_1 W ((Instr.lookup 111 (.map (some (w.heap.size + 1))) (.int .i64 x.f2) false).run Tryd.prog W = .ok (.bool true) W ∧ Below W1.heap.size W1 W)) → Calls Tryd.prog 60 #[.string x.f0] W fun e w' => e = .returned (.bool true) ∧ (dm5 bf w.heap.size x a0_0 ad l0_1.length c0_1 w' ((Instr.lookup 111 (.map (some (w.heap.size + 1))) (.int .i64 x.f2) false).run Tryd.prog w' = .ok (.bool true) w' ∧ Below W1.heap.size W1 w')) := fun W hS => (path_Is.calls k x.f0 true W HP.out).mono fun e w' ⟨he, hb⟩ => ⟨he, toS _ (below_then hS.2.2.2.2.2.2 hS.2.2.2.2.2.2.size hb)⟩
          have cCo : ∀ W, (dm5 bf w.heap.size x a0_0 ad l0_1.length c0_1 W ((Instr.lookup 111 (.map (some (w.heap.size + 1))) (.int .i64 x.f2) false).run Tryd.prog W = .ok (.bool true) W ∧ Below W1.heap.size W1 W)) → Calls Tryd.prog 61 #[.int .i64 x.f1] W fun e w' => e = .returned (.bool true) ∧ (dm5 bf w.heap.size x a0_0 ad l0_1.length c0_1 w' ((Instr.lookup 111 (.map (some (w.heap.size + 1))) (.int .i64 x.f2) false).run Tryd.prog w' = .ok (.bool true) w' ∧ Below W1.heap.size W1 w')) := fun W hS => (disk_content.calls x.f1 true W HC.out).mono fun e w' ⟨he, hb⟩ => ⟨he, toS _ (below_then hS.2.2.2.2.2.2 hS.2.2.2.2.2.2.size hb.below)⟩
          have fin : ∀ W, (dm5 bf w.heap.size x a0_0 ad l0_1.length c0_1 W ((Instr.lookup 111 (.map (some (w.heap.size + 1))) (.int .i64 x.f2) false).run Tryd.prog W = .ok (.bool true) W ∧ Below W1.heap.size W1 W)) → Below w.heap.size w W ∧ Below W1.heap.size W1 W := fun W hS => ⟨below_then GB.out GB.out.size hS.2.2.2.2.2.2, hS.2.2.2.2.2.2⟩
          have hd0 := toS W1.drew (below_drew1 (Below.refl _ _))
          clear g0 g1 g2 g3 g4 toS
          refine wp_quiet_C (fun w' => dm5 bf w.heap.size x a0_0 ad l0_1.length c0_1 w' ((Instr.lookup 111 (.map (some (w.heap.size + 1))) (.int .i64 x.f2) false).run Tryd.prog w' = .ok (.bool true) w' ∧ Below W1.heap.size W1 w')) (by kernel_rfl) (by kernel_rfl) hd0 ?_
          repeat (first | (go_big_quiet_want; go_big_quiet_op; go_big_quiet_on) | ((go_big_quiet_want; apply Exists.intro; refine ⟨fun w' hS => ?_, ?_⟩; · obtain ⟨s0, s1, s2, s3, s4, sl, sB⟩ := hS; (unfold Oper.quietAt; go_simp); first | done | rfl | exact ⟨rfl, rfl⟩); (try simp only [Act.put, List.setIfInBounds_toArray, List.set_cons_zero, List.set_cons_succ]); go_big_quiet_on) | ((go_big_quiet_want; refine ⟨.string x.f0, fun w' hS => ?_, ?_⟩; · obtain ⟨s0, s1, s2, s3, s4, sl, sB⟩ := hS; (unfold Oper.quietAt; go_simp)); (try simp only [Act.put, List.setIfInBounds_toArray, List.set_cons_zero, List.set_cons_succ]); go_big_quiet_on) | ((go_big_quiet_want; refine ⟨.int .i64 x.f1, fun w' hS => ?_, ?_⟩; · obtain ⟨s0, s1, s2, s3, s4, sl, sB⟩ := hS; (unfold Oper.quietAt; go_simp)); (try simp only [Act.put, List.setIfInBounds_toArray, List.set_cons_zero, List.set_cons_succ]); go_big_quiet_on) | ((go_big_quiet_want; refine ⟨.int .i64 x.f2, fun w' hS => ?_, ?_⟩; · obtain ⟨s0, s1, s2, s3, s4, sl, sB⟩ := hS; (unfold Oper.quietAt; go_simp)); (try simp only [Act.put, List.setIfInBounds_toArray, List.set_cons_zero, List.set_cons_succ]); go_big_quiet_on) | ((go_big_quiet_want; refine ⟨.int .i64 a0_0, fun w' hS => ?_, ?_⟩; · obtain ⟨s0, s1, s2, s3, s4, sl, sB⟩ := hS; (unfold Oper.quietAt; go_simp)); (try simp only [Act.put, List.setIfInBounds_toArray, List.set_cons_zero, List.set_cons_succ]); go_big_quiet_on) | ((go_big_quiet_want; refine ⟨.bool true, fun w' hS => ?_, ?_⟩; · obtain ⟨s0, s1, s2, s3, s4, sl, sB⟩ := hS; (unfold Oper.quietAt; go_simp)); (try simp only [Act.put, List.setIfInBounds_toArray, List.set_cons_zero, List.set_cons_succ]); go_big_quiet_on) | ((go_big_quiet_want; refine ⟨.bool true, fun w' hS => ?_, ?_⟩; · refine quiet_enters Tryd.func60 (by kernel_rfl) rfl _ _ _ _ _ #[.string x.f0] ?_ (cIs _ hS); (go_simp; done)); (try simp only [Act.put, List.setIfInBounds_toArray, List.set_cons_zero, List.set_cons_succ]); go_big_quiet_on) | ((go_big_quiet_want; refine ⟨.bool true, fun w' hS => ?_, ?_⟩; · refine quiet_enters Tryd.func61 (by kernel_rfl) rfl _ _ _ _ _ #[.int .i64 x.f1] ?_ (cCo _ hS); (go_simp; done)); (try simp only [Act.put, List.setIfInBounds_toArray, List.set_cons_zero, List.set_cons_succ]); go_big_quiet_on) | go_big_quiet_skip)
          refine wpQuiet_nil ?_
          intro w9 hS9
          have z2 := hS9.2.2.1
          obtain ⟨fw, fb⟩ := fin _ hS9
          have FW := Aside0.mk fw
          have FB := Aside0.mk fb
          clear fw fb hS9 fin hd0 cIs
          clear z2
          go_wp2
          go_ret
          exact ⟨rfl, FW.out⟩
        · skip
          obtain ⟨j, rfl⟩ : ∃ j, i = j + 1 := ⟨i - 1, by omega⟩
          have HC := Aside0.mk hc
          have SN := Aside0.mk h3
          have HT : Aside0 (-9223372036854775808 ≤ x.f2 ∧ x.f2 ≤ 9223372036854775807) := ⟨by have := HK.out; omega⟩
          obtain ⟨ad2, hA2, y0, y1, y2⟩ := at_T72 HR.out (j : Int) (by omega) (by omega)
          obtain rfl : ad = ad2 := by injection hA2
          simp only [Int.toNat_natCast] at y0
          rw [Nat.add_sub_cancel] at h5
          generalize hy : rd_T72 l0_1 (j : Int) = y at y0 h5
          have YP : Aside0 (W1.cell? (ad.add (j * 3)) = some (.string y.f0)) := ⟨(GB.out.cell (World.block_lt_of_cell? w _ y0)).trans y0⟩
          have hj1 : ((j + 1 : Nat) : Int) - 1 = (j : Int) := by omega
          have hj2 : IntKind.i64.wrap ((j : Int) + 1 - 1) = (j : Int) := by rw [IntKind.wrap_i64]; have := HL.out; omega
          have hj3 : (0 : Int) < (j : Int) + 1 := by omega
          have hj4 : (j : Int) < (l0_1.length : Int) := by omega
          have hj5 : IntKind.i64.wrap (j : Int) = (j : Int) := by rw [IntKind.wrap_i64]; have := HL.out; omega
          have hj6 : wrap64 (((j + 1 : Nat) : Int) - 1) = (j : Int) := by rw [hj1]; exact Spec.wrap_id (by omega) (by have := HL.out; omega)
          have d3 : decide ((0 : Int) < ((j + 1 : Nat) : Int)) = true := decide_eq_true (by omega)
          clear h3 y0 y1 y2 hA2 hy
          have d1 : decide (x.f2 < 1) = false := decide_eq_false h1
          have d2 : decide (a0_0 < x.f2) = false := decide_eq_false h2
          have toS : ∀ W, Below W1.heap.size W1 W → (dm5 bf w.heap.size x a0_0 ad l0_1.length c0_1 W ((Instr.lookup 111 (.map (some (w.heap.size + 1))) (.int .i64 x.f2) false).run Tryd.prog W = .ok (.bool false) W ∧ W.cell? (ad.add (j * 3)) = some (.string y.f0) ∧ Below W1.heap.size W1 W)) := fun W hB => ⟨(hB.cell (p := ⟨_, 0, none⟩) hbl).trans g0, (hB.cell (p := ⟨_, 1, none⟩) hbl).trans g1, (hB.cell (p := ⟨_, 2, none⟩) hbl).trans g2, (hB.cell (p := ⟨_, 0, none⟩) hwl).trans g3, (hB.cell (p := ⟨_, 1, none⟩) hwl).trans g4, SN.out ▸ dm_look (dm_below MB.out hB) x.f2 HT.out.1 HT.out.2, (hB.cell (World.block_lt_of_cell? W1 _ YP.out)).trans YP.out, hB⟩
          have cIs : ∀ W, (dm5 bf w.heap.size x a0_0 ad l0_1.length c0_1 W ((Instr.lookup 111 (.map (some (w.heap.size + 1))) (.int .i64 x.f2) false).run Tryd.prog W = .ok (.bool false) W ∧ W.cell? (ad.add (j * 3)) = some (.string y.f0) ∧ Below W1.heap.size W1 W)) → Calls Tryd.prog 60 #[.string x.f0] W fun e w' => e = .returned (.bool true) ∧ (dm5 bf w.heap.size x a0_0 ad l0_1.length c0_1 w' ((Instr.lookup 111 (.map (some (w.heap.size + 1))) (.int .i64 x.f2) false).run Tryd.prog w' = .ok (.bool false) w' ∧ w'.cell? (ad.add (j * 3)) = some (.string y.f0) ∧ Below W1.heap.size W1 w')) := fun W hS => (path_Is.calls k x.f0 true W HP.out).mono fun e w' ⟨he, hb⟩ => ⟨he, toS _ (below_then hS.2.2.2.2.2.2.2 hS.2.2.2.2.2.2.2.size hb)⟩
          have cCo : ∀ W, (dm5 bf w.heap.size x a0_0 ad l0_1.length c0_1 W ((Instr.lookup 111 (.map (some (w.heap.size + 1))) (.int .i64 x.f2) false).run Tryd.prog W = .ok (.bool false) W ∧ W.cell? (ad.add (j * 3)) = some (.string y.f0) ∧ Below W1.heap.size W1 W)) → Calls Tryd.prog 61 #[.int .i64 x.f1] W fun e w' => e = .returned (.bool true) ∧ (dm5 bf w.heap.size x a0_0 ad l0_1.length c0_1 w' ((Instr.lookup 111 (.map (some (w.heap.size + 1))) (.int .i64 x.f2) false).run Tryd.prog w' = .ok (.bool false) w' ∧ w'.cell? (ad.add (j * 3)) = some (.string y.f0) ∧ Below W1.heap.size W1 w')) := fun W hS => (disk_content.calls x.f1 true W HC.out).mono fun e w' ⟨he, hb⟩ => ⟨he, toS _ (below_then hS.2.2.2.2.2.2.2 hS.2.2.2.2.2.2.2.size hb.below)⟩
          have fin : ∀ W, (dm5 bf w.heap.size x a0_0 ad l0_1.length c0_1 W ((Instr.lookup 111 (.map (some (w.heap.size + 1))) (.int .i64 x.f2) false).run Tryd.prog W = .ok (.bool false) W ∧ W.cell? (ad.add (j * 3)) = some (.string y.f0) ∧ Below W1.heap.size W1 W)) → Below w.heap.size w W ∧ Below W1.heap.size W1 W := fun W hS => ⟨below_then GB.out GB.out.size hS.2.2.2.2.2.2.2, hS.2.2.2.2.2.2.2⟩
          have hd0 := toS W1.drew (below_drew1 (Below.refl _ _))
          clear g0 g1 g2 g3 g4 toS
          refine wp_quiet_C (fun w' => dm5 bf w.heap.size x a0_0 ad l0_1.length c0_1 w' ((Instr.lookup 111 (.map (some (w.heap.size + 1))) (.int .i64 x.f2) false).run Tryd.prog w' = .ok (.bool false) w' ∧ w'.cell? (ad.add (j * 3)) = some (.string y.f0) ∧ Below W1.heap.size W1 w')) (by kernel_rfl) (by kernel_rfl) hd0 ?_
          repeat (first | (go_big_quiet_want; go_big_quiet_op; go_big_quiet_on) | ((go_big_quiet_want; apply Exists.intro; refine ⟨fun w' hS => ?_, ?_⟩; · obtain ⟨s0, s1, s2, s3, s4, sl, sp, sB⟩ := hS; (unfold Oper.quietAt; go_simp); first | done | rfl | exact ⟨rfl, rfl⟩); (try simp only [Act.put, List.setIfInBounds_toArray, List.set_cons_zero, List.set_cons_succ]); go_big_quiet_on) | ((go_big_quiet_want; refine ⟨.string x.f0, fun w' hS => ?_, ?_⟩; · obtain ⟨s0, s1, s2, s3, s4, sl, sp, sB⟩ := hS; (unfold Oper.quietAt; go_simp)); (try simp only [Act.put, List.setIfInBounds_toArray, List.set_cons_zero, List.set_cons_succ]); go_big_quiet_on) | ((go_big_quiet_want; refine ⟨.int .i64 x.f1, fun w' hS => ?_, ?_⟩; · obtain ⟨s0, s1, s2, s3, s4, sl, sp, sB⟩ := hS; (unfold Oper.quietAt; go_simp)); (try simp only [Act.put, List.setIfInBounds_toArray, List.set_cons_zero, List.set_cons_succ]); go_big_quiet_on) | ((go_big_quiet_want; refine ⟨.int .i64 x.f2, fun w' hS => ?_, ?_⟩; · obtain ⟨s0, s1, s2, s3, s4, sl, sp, sB⟩ := hS; (unfold Oper.quietAt; go_simp)); (try simp only [Act.put, List.setIfInBounds_toArray, List.set_cons_zero, List.set_cons_succ]); go_big_quiet_on) | ((go_big_quiet_want; refine ⟨.int .i64 a0_0, fun w' hS => ?_, ?_⟩; · obtain ⟨s0, s1, s2, s3, s4, sl, sp, sB⟩ := hS; (unfold Oper.quietAt; go_simp)); (try simp only [Act.put, List.setIfInBounds_toArray, List.set_cons_zero, List.set_cons_succ]); go_big_quiet_on) | ((go_big_quiet_want; refine ⟨.bool false, fun w' hS => ?_, ?_⟩; · obtain ⟨s0, s1, s2, s3, s4, sl, sp, sB⟩ := hS; (unfold Oper.quietAt; go_simp)); (try simp only [Act.put, List.setIfInBounds_toArray, List.set_cons_zero, List.set_cons_succ]); go_big_quiet_on) | ((go_big_quiet_want; refine ⟨.slice (some ad) l0_1.length c0_1, fun w' hS => ?_, ?_⟩; · obtain ⟨s0, s1, s2, s3, s4, sl, sp, sB⟩ := hS; (unfold Oper.quietAt; go_simp)); (try simp only [Act.put, List.setIfInBounds_toArray, List.set_cons_zero, List.set_cons_succ]); go_big_quiet_on) | ((go_big_quiet_want; refine ⟨.string y.f0, fun w' hS => ?_, ?_⟩; · obtain ⟨s0, s1, s2, s3, s4, sl, sp, sB⟩ := hS; (unfold Oper.quietAt; go_simp)); (try simp only [Act.put, List.setIfInBounds_toArray, List.set_cons_zero, List.set_cons_succ]); go_big_quiet_on) | ((go_big_quiet_want; refine ⟨.bool true, fun w' hS => ?_, ?_⟩; · refine quiet_enters Tryd.func60 (by kernel_rfl) rfl _ _ _ _ _ #[.string x.f0] ?_ (cIs _ hS); (go_simp; done)); (try simp only [Act.put, List.setIfInBounds_toArray, List.set_cons_zero, List.set_cons_succ]); go_big_quiet_on) | ((go_big_quiet_want; refine ⟨.bool true, fun w' hS => ?_, ?_⟩; · refine quiet_enters Tryd.func61 (by kernel_rfl) rfl _ _ _ _ _ #[.int .i64 x.f1] ?_ (cCo _ hS); (go_simp; done)); (try simp only [Act.put, List.setIfInBounds_toArray, List.set_cons_zero, List.set_cons_succ]); go_big_quiet_on) | go_big_quiet_skip)
          refine wpQuiet_nil ?_
          intro w9 hS9
          have z2 := hS9.2.2.1
          obtain ⟨fw, fb⟩ := fin _ hS9
          have FW := Aside0.mk fw
          have FB := Aside0.mk fb
          clear fw fb hS9 fin hd0 cIs
          clear z2
          go_wp2
          go_ret
          exact ⟨rfl, FW.out⟩
      · have hgo := HS.out
        rw [if_neg (by simp)] at hgo
        have HGO := Aside0.mk hgo
        clear hgo HS
        rcases hI with rfl | ⟨h4, h5⟩
        · have HC := Aside0.mk hc
          have SN := Aside0.mk h3
          have HT : Aside0 (-9223372036854775808 ≤ x.f2 ∧ x.f2 ≤ 9223372036854775807) := ⟨by have := HK.out; omega⟩
          clear h3
          have d1 : decide (x.f2 < 1) = false := decide_eq_false h1
          have d2 : decide (a0_0 < x.f2) = false := decide_eq_false h2
          have toS : ∀ W, Below W1.heap.size W1 W → (dm5 bf w.heap.size x a0_0 ad l0_1.length c0_1 W ((Instr.lookup 111 (.map (some (w.heap.size + 1))) (.int .i64 x.f2) false).run Tryd.prog W = .ok (.bool false) W ∧ Below W1.heap.size W1 W)) := fun W hB => ⟨(hB.cell (p := ⟨_, 0, none⟩) hbl).trans g0, (hB.cell (p := ⟨_, 1, none⟩) hbl).trans g1, (hB.cell (p := ⟨_, 2, none⟩) hbl).trans g2, (hB.cell (p := ⟨_, 0, none⟩) hwl).trans g3, (hB.cell (p := ⟨_, 1, none⟩) hwl).trans g4, SN.out ▸ dm_look (dm_below MB.out hB) x.f2 HT.out.1 HT.out.2, hB⟩
          have cIs : ∀ W, (dm5 bf w.heap.size x a0_0 ad l0_1.length c0_1 W ((Instr.lookup 111 (.map (some (w.heap.size + 1))) (.int .i64 x.f2) false).run Tryd.prog W = .ok (.bool false) W ∧ Below W1.heap.size W1 W)) → Calls Tryd.prog 60 #[.string x.f0] W fun e w' => e = .returned (.bool true) ∧ (dm5 bf w.heap.size x a0_0 ad l0_1.length c0_1 w' ((Instr.lookup 111 (.map (some (w.heap.size + 1))) (.int .i64 x.f2) false).run Tryd.prog w' = .ok (.bool false) w' ∧ Below W1.heap.size W1 w')) := fun W hS => (path_Is.calls k x.f0 true W HP.out).mono fun e w' ⟨he, hb⟩ => ⟨he, toS _ (below_then hS.2.2.2.2.2.2 hS.2.2.2.2.2.2.size hb)⟩
          have cCo : ∀ W, (dm5 bf w.heap.size x a0_0 ad l0_1.length c0_1 W ((Instr.lookup 111 (.map (some (w.heap.size + 1))) (.int .i64 x.f2) false).run Tryd.prog W = .ok (.bool false) W ∧ Below W1.heap.size W1 W)) → Calls Tryd.prog 61 #[.int .i64 x.f1] W fun e w' => e = .returned (.bool true) ∧ (dm5 bf w.heap.size x a0_0 ad l0_1.length c0_1 w' ((Instr.lookup 111 (.map (some (w.heap.size + 1))) (.int .i64 x.f2) false).run Tryd.prog w' = .ok (.bool false) w' ∧ Below W1.heap.size W1 w')) := fun W hS => (disk_content.calls x.f1 true W HC.out).mono fun e w' ⟨he, hb⟩ => ⟨he, toS _ (below_then hS.2.2.2.2.2.2 hS.2.2.2.2.2.2.size hb.below)⟩
          have fin : ∀ W, (dm5 bf w.heap.size x a0_0 ad l0_1.length c0_1 W ((Instr.lookup 111 (.map (some (w.heap.size + 1))) (.int .i64 x.f2) false).run Tryd.prog W = .ok (.bool false) W ∧ Below W1.heap.size W1 W)) → Below w.heap.size w W ∧ Below W1.heap.size W1 W := fun W hS => ⟨below_then GB.out GB.out.size hS.2.2.2.2.2.2, hS.2.2.2.2.2.2⟩
          have hd0 := toS W1.drew (below_drew1 (Below.refl _ _))
          clear g0 g1 g2 g3 g4 toS
          refine wp_quiet_C (fun w' => dm5 bf w.heap.size x a0_0 ad l0_1.length c0_1 w' ((Instr.lookup 111 (.map (some (w.heap.size + 1))) (.int .i64 x.f2) false).run Tryd.prog w' = .ok (.bool false) w' ∧ Below W1.heap.size W1 w')) (by kernel_rfl) (by kernel_rfl) hd0 ?_
          repeat (first | (go_big_quiet_want; go_big_quiet_op; go_big_quiet_on) | ((go_big_quiet_want; apply Exists.intro; refine ⟨fun w' hS => ?_, ?_⟩; · obtain ⟨s0, s1, s2, s3, s4, sl, sB⟩ := hS; (unfold Oper.quietAt; go_simp); first | done | rfl | exact ⟨rfl, rfl⟩); (try simp only [Act.put, List.setIfInBounds_toArray, List.set_cons_zero, List.set_cons_succ]); go_big_quiet_on) | ((go_big_quiet_want; refine ⟨.string x.f0, fun w' hS => ?_, ?_⟩; · obtain ⟨s0, s1, s2, s3, s4, sl, sB⟩ := hS; (unfold Oper.quietAt; go_simp)); (try simp only [Act.put, List.setIfInBounds_toArray, List.set_cons_zero, List.set_cons_succ]); go_big_quiet_on) | ((go_big_quiet_want; refine ⟨.int .i64 x.f1, fun w' hS => ?_, ?_⟩; · obtain ⟨s0, s1, s2, s3, s4, sl, sB⟩ := hS; (unfold Oper.quietAt; go_simp)); (try simp only [Act.put, List.setIfInBounds_toArray, List.set_cons_zero, List.set_cons_succ]); go_big_quiet_on) | ((go_big_quiet_want; refine ⟨.int .i64 x.f2, fun w' hS => ?_, ?_⟩; · obtain ⟨s0, s1, s2, s3, s4, sl, sB⟩ := hS; (unfold Oper.quietAt; go_simp)); (try simp only [Act.put, List.setIfInBounds_toArray, List.set_cons_zero, List.set_cons_succ]); go_big_quiet_on) | ((go_big_quiet_want; refine ⟨.int .i64 a0_0, fun w' hS => ?_, ?_⟩; · obtain ⟨s0, s1, s2, s3, s4, sl, sB⟩ := hS; (unfold Oper.quietAt; go_simp)); (try simp only [Act.put, List.setIfInBounds_toArray, List.set_cons_zero, List.set_cons_succ]); go_big_quiet_on) | ((go_big_quiet_want; refine ⟨.bool false, fun w' hS => ?_, ?_⟩; · obtain ⟨s0, s1, s2, s3, s4, sl, sB⟩ := hS; (unfold Oper.quietAt; go_simp)); (try simp only [Act.put, List.setIfInBounds_toArray, List.set_cons_zero, List.set_cons_succ]); go_big_quiet_on) | ((go_big_quiet_want; refine ⟨.bool true, fun w' hS => ?_, ?_⟩; · refine quiet_enters Tryd.func60 (by kernel_rfl) rfl _ _ _ _ _ #[.string x.f0] ?_ (cIs _ hS); (go_simp; done)); (try simp only [Act.put, List.setIfInBounds_toArray, List.set_cons_zero, List.set_cons_succ]); go_big_quiet_on) | ((go_big_quiet_want; refine ⟨.bool true, fun w' hS => ?_, ?_⟩; · refine quiet_enters Tryd.func61 (by kernel_rfl) rfl _ _ _ _ _ #[.int .i64 x.f1] ?_ (cCo _ hS); (go_simp; done)); (try simp only [Act.put, List.setIfInBounds_toArray, List.set_cons_zero, List.set_cons_succ]); go_big_quiet_on) | go_big_quiet_skip)
          refine wpQuiet_nil ?_
          intro w9 hS9
          have z2 := hS9.2.2.1
          obtain ⟨fw, fb⟩ := fin _ hS9
          have FW := Aside0.mk fw
          have FB := Aside0.mk fb
          clear fw fb hS9 fin hd0 cIs
          go_wp2_with (at_mapUpdate; refine wpList_mapUpdate_own _ rfl _ _ _ 111 rfl 3 4 dm_law Tryd.underlying111 _ (w.heap.size + 1) (0) (dmD ((l0_1.take (0)).map (·.f2))) rfl (dm_below MB.out FB.out) (by unfold maxLen; have := HL.out; omega) _ _ (.int .i64 x.f2) rfl rfl (Maps.keyOf_int_mk Tryd.underlying3 (WalkArith.wf_i64 HT.out)) (.lit (.bool true)) [] (plainElem_bool Tryd.underlying4 true) ?_; intro w8 hown hgr; have HO := Aside0.mk hown; have HGR := Aside0.mk hgr; clear hown hgr)
          go_roundg (l0_1.length - (0 + 1))
          case measure => omega
          case rel => exact ⟨0 + 1, by omega, by omega, by first | rfl | (congr 1; have := HL.out; unfold wrap64; omega), ⟨by rw [show l0_1.length - (0 + 1) = n' by omega]; exact HGO.out⟩, ⟨by have := HO.out; rw [dm_snoc, dm_take l0_1 (0) x hlt HX.out] at this; exact this⟩, ⟨(HGR.out.block _ (blk_lt ((FB.out.block _ hwl).trans GX.out)) (by simp)).trans ((FB.out.block _ hwl).trans GX.out)⟩, ⟨FW.out.grown HGR.out FW.out.size (fun q hq => by injection hq with hq; omega)⟩⟩
        · skip
          obtain ⟨j, rfl⟩ : ∃ j, i = j + 1 := ⟨i - 1, by omega⟩
          have HC := Aside0.mk hc
          have SN := Aside0.mk h3
          have HT : Aside0 (-9223372036854775808 ≤ x.f2 ∧ x.f2 ≤ 9223372036854775807) := ⟨by have := HK.out; omega⟩
          obtain ⟨ad2, hA2, y0, y1, y2⟩ := at_T72 HR.out (j : Int) (by omega) (by omega)
          obtain rfl : ad = ad2 := by injection hA2
          simp only [Int.toNat_natCast] at y0
          rw [Nat.add_sub_cancel] at h5
          generalize hy : rd_T72 l0_1 (j : Int) = y at y0 h5
          have YP : Aside0 (W1.cell? (ad.add (j * 3)) = some (.string y.f0)) := ⟨(GB.out.cell (World.block_lt_of_cell? w _ y0)).trans y0⟩
          have hj1 : ((j + 1 : Nat) : Int) - 1 = (j : Int) := by omega
          have hj2 : IntKind.i64.wrap ((j : Int) + 1 - 1) = (j : Int) := by rw [IntKind.wrap_i64]; have := HL.out; omega
          have hj3 : (0 : Int) < (j : Int) + 1 := by omega
          have hj4 : (j : Int) < (l0_1.length : Int) := by omega
          have hj5 : IntKind.i64.wrap (j : Int) = (j : Int) := by rw [IntKind.wrap_i64]; have := HL.out; omega
          have hj6 : wrap64 (((j + 1 : Nat) : Int) - 1) = (j : Int) := by rw [hj1]; exact Spec.wrap_id (by omega) (by have := HL.out; omega)
          have d3 : decide ((0 : Int) < ((j + 1 : Nat) : Int)) = true := decide_eq_true (by omega)
          clear h3 y0 y1 y2 hA2 hy
          have d1 : decide (x.f2 < 1) = false := decide_eq_false h1
          have d2 : decide (a0_0 < x.f2) = false := decide_eq_false h2
          have toS : ∀ W, Below W1.heap.size W1 W → (dm5 bf w.heap.size x a0_0 ad l0_1.length c0_1 W ((Instr.lookup 111 (.map (some (w.heap.size + 1))) (.int .i64 x.f2) false).run Tryd.prog W = .ok (.bool false) W ∧ W.cell? (ad.add (j * 3)) = some (.string y.f0) ∧ Below W1.heap.size W1 W)) := fun W hB => ⟨(hB.cell (p := ⟨_, 0, none⟩) hbl).trans g0, (hB.cell (p := ⟨_, 1, none⟩) hbl).trans g1, (hB.cell (p := ⟨_, 2, none⟩) hbl).trans g2, (hB.cell (p := ⟨_, 0, none⟩) hwl).trans g3, (hB.cell (p := ⟨_, 1, none⟩) hwl).trans g4, SN.out ▸ dm_look (dm_below MB.out hB) x.f2 HT.out.1 HT.out.2, (hB.cell (World.block_lt_of_cell? W1 _ YP.out)).trans YP.out, hB⟩
          have cIs : ∀ W, (dm5 bf w.heap.size x a0_0 ad l0_1.length c0_1 W ((Instr.lookup 111 (.map (some (w.heap.size + 1))) (.int .i64 x.f2) false).run Tryd.prog W = .ok (.bool false) W ∧ W.cell? (ad.add (j * 3)) = some (.string y.f0) ∧ Below W1.heap.size W1 W)) → Calls Tryd.prog 60 #[.string x.f0] W fun e w' => e = .returned (.bool true) ∧ (dm5 bf w.heap.size x a0_0 ad l0_1.length c0_1 w' ((Instr.lookup 111 (.map (some (w.heap.size + 1))) (.int .i64 x.f2) false).run Tryd.prog w' = .ok (.bool false) w' ∧ w'.cell? (ad.add (j * 3)) = some (.string y.f0) ∧ Below W1.heap.size W1 w')) := fun W hS => (path_Is.calls k x.f0 true W HP.out).mono fun e w' ⟨he, hb⟩ => ⟨he, toS _ (below_then hS.2.2.2.2.2.2.2 hS.2.2.2.2.2.2.2.size hb)⟩
          have cCo : ∀ W, (dm5 bf w.heap.size x a0_0 ad l0_1.length c0_1 W ((Instr.lookup 111 (.map (some (w.heap.size + 1))) (.int .i64 x.f2) false).run Tryd.prog W = .ok (.bool false) W ∧ W.cell? (ad.add (j * 3)) = some (.string y.f0) ∧ Below W1.heap.size W1 W)) → Calls Tryd.prog 61 #[.int .i64 x.f1] W fun e w' => e = .returned (.bool true) ∧ (dm5 bf w.heap.size x a0_0 ad l0_1.length c0_1 w' ((Instr.lookup 111 (.map (some (w.heap.size + 1))) (.int .i64 x.f2) false).run Tryd.prog w' = .ok (.bool false) w' ∧ w'.cell? (ad.add (j * 3)) = some (.string y.f0) ∧ Below W1.heap.size W1 w')) := fun W hS => (disk_content.calls x.f1 true W HC.out).mono fun e w' ⟨he, hb⟩ => ⟨he, toS _ (below_then hS.2.2.2.2.2.2.2 hS.2.2.2.2.2.2.2.size hb.below)⟩
          have fin : ∀ W, (dm5 bf w.heap.size x a0_0 ad l0_1.length c0_1 W ((Instr.lookup 111 (.map (some (w.heap.size + 1))) (.int .i64 x.f2) false).run Tryd.prog W = .ok (.bool false) W ∧ W.cell? (ad.add (j * 3)) = some (.string y.f0) ∧ Below W1.heap.size W1 W)) → Below w.heap.size w W ∧ Below W1.heap.size W1 W := fun W hS => ⟨below_then GB.out GB.out.size hS.2.2.2.2.2.2.2, hS.2.2.2.2.2.2.2⟩
          have hd0 := toS W1.drew (below_drew1 (Below.refl _ _))
          clear g0 g1 g2 g3 g4 toS
          refine wp_quiet_C (fun w' => dm5 bf w.heap.size x a0_0 ad l0_1.length c0_1 w' ((Instr.lookup 111 (.map (some (w.heap.size + 1))) (.int .i64 x.f2) false).run Tryd.prog w' = .ok (.bool false) w' ∧ w'.cell? (ad.add (j * 3)) = some (.string y.f0) ∧ Below W1.heap.size W1 w')) (by kernel_rfl) (by kernel_rfl) hd0 ?_
          repeat (first | (go_big_quiet_want; go_big_quiet_op; go_big_quiet_on) | ((go_big_quiet_want; apply Exists.intro; refine ⟨fun w' hS => ?_, ?_⟩; · obtain ⟨s0, s1, s2, s3, s4, sl, sp, sB⟩ := hS; (unfold Oper.quietAt; go_simp); first | done | rfl | exact ⟨rfl, rfl⟩); (try simp only [Act.put, List.setIfInBounds_toArray, List.set_cons_zero, List.set_cons_succ]); go_big_quiet_on) | ((go_big_quiet_want; refine ⟨.string x.f0, fun w' hS => ?_, ?_⟩; · obtain ⟨s0, s1, s2, s3, s4, sl, sp, sB⟩ := hS; (unfold Oper.quietAt; go_simp)); (try simp only [Act.put, List.setIfInBounds_toArray, List.set_cons_zero, List.set_cons_succ]); go_big_quiet_on) | ((go_big_quiet_want; refine ⟨.int .i64 x.f1, fun w' hS => ?_, ?_⟩; · obtain ⟨s0, s1, s2, s3, s4, sl, sp, sB⟩ := hS; (unfold Oper.quietAt; go_simp)); (try simp only [Act.put, List.setIfInBounds_toArray, List.set_cons_zero, List.set_cons_succ]); go_big_quiet_on) | ((go_big_quiet_want; refine ⟨.int .i64 x.f2, fun w' hS => ?_, ?_⟩; · obtain ⟨s0, s1, s2, s3, s4, sl, sp, sB⟩ := hS; (unfold Oper.quietAt; go_simp)); (try simp only [Act.put, List.setIfInBounds_toArray, List.set_cons_zero, List.set_cons_succ]); go_big_quiet_on) | ((go_big_quiet_want; refine ⟨.int .i64 a0_0, fun w' hS => ?_, ?_⟩; · obtain ⟨s0, s1, s2, s3, s4, sl, sp, sB⟩ := hS; (unfold Oper.quietAt; go_simp)); (try simp only [Act.put, List.setIfInBounds_toArray, List.set_cons_zero, List.set_cons_succ]); go_big_quiet_on) | ((go_big_quiet_want; refine ⟨.bool false, fun w' hS => ?_, ?_⟩; · obtain ⟨s0, s1, s2, s3, s4, sl, sp, sB⟩ := hS; (unfold Oper.quietAt; go_simp)); (try simp only [Act.put, List.setIfInBounds_toArray, List.set_cons_zero, List.set_cons_succ]); go_big_quiet_on) | ((go_big_quiet_want; refine ⟨.slice (some ad) l0_1.length c0_1, fun w' hS => ?_, ?_⟩; · obtain ⟨s0, s1, s2, s3, s4, sl, sp, sB⟩ := hS; (unfold Oper.quietAt; go_simp)); (try simp only [Act.put, List.setIfInBounds_toArray, List.set_cons_zero, List.set_cons_succ]); go_big_quiet_on) | ((go_big_quiet_want; refine ⟨.string y.f0, fun w' hS => ?_, ?_⟩; · obtain ⟨s0, s1, s2, s3, s4, sl, sp, sB⟩ := hS; (unfold Oper.quietAt; go_simp)); (try simp only [Act.put, List.setIfInBounds_toArray, List.set_cons_zero, List.set_cons_succ]); go_big_quiet_on) | ((go_big_quiet_want; refine ⟨.bool true, fun w' hS => ?_, ?_⟩; · refine quiet_enters Tryd.func60 (by kernel_rfl) rfl _ _ _ _ _ #[.string x.f0] ?_ (cIs _ hS); (go_simp; done)); (try simp only [Act.put, List.setIfInBounds_toArray, List.set_cons_zero, List.set_cons_succ]); go_big_quiet_on) | ((go_big_quiet_want; refine ⟨.bool true, fun w' hS => ?_, ?_⟩; · refine quiet_enters Tryd.func61 (by kernel_rfl) rfl _ _ _ _ _ #[.int .i64 x.f1] ?_ (cCo _ hS); (go_simp; done)); (try simp only [Act.put, List.setIfInBounds_toArray, List.set_cons_zero, List.set_cons_succ]); go_big_quiet_on) | go_big_quiet_skip)
          refine wpQuiet_nil ?_
          intro w9 hS9
          have z2 := hS9.2.2.1
          obtain ⟨fw, fb⟩ := fin _ hS9
          have FW := Aside0.mk fw
          have FB := Aside0.mk fb
          clear fw fb hS9 fin hd0 cIs
          go_wp2_with (at_mapUpdate; refine wpList_mapUpdate_own _ rfl _ _ _ 111 rfl 3 4 dm_law Tryd.underlying111 _ (w.heap.size + 1) (j + 1) (dmD ((l0_1.take (j + 1)).map (·.f2))) rfl (dm_below MB.out FB.out) (by unfold maxLen; have := HL.out; omega) _ _ (.int .i64 x.f2) rfl rfl (Maps.keyOf_int_mk Tryd.underlying3 (WalkArith.wf_i64 HT.out)) (.lit (.bool true)) [] (plainElem_bool Tryd.underlying4 true) ?_; intro w8 hown hgr; have HO := Aside0.mk hown; have HGR := Aside0.mk hgr; clear hown hgr)
          go_roundg (l0_1.length - (j + 1 + 1))
          case measure => omega
          case rel => exact ⟨j + 1 + 1, by omega, by omega, by first | rfl | (congr 1; have := HL.out; unfold wrap64; omega), ⟨by rw [show l0_1.length - (j + 1 + 1) = n' by omega]; exact HGO.out⟩, ⟨by have := HO.out; rw [dm_snoc, dm_take l0_1 (j + 1) x hlt HX.out] at this; exact this⟩, ⟨(HGR.out.block _ (blk_lt ((FB.out.block _ hwl).trans GX.out)) (by simp)).trans ((FB.out.block _ hwl).trans GX.out)⟩, ⟨FW.out.grown HGR.out FW.out.size (fun q hq => by injection hq with hq; omega)⟩⟩
    · have he : i = l0_1.length := by omega
      subst he
      have hltz : ¬ (l0_1.length : Int) < (l0_1.length : Int) := by omega
      have hrb : true = rb := Option.some.inj (by have := hE.out; rwa [Nat.sub_self, dm_go] at this)
      subst hrb
      have hr : (decide (0 ≤ a0_0) && decide (a0_0 ≤ 1048576) && decide (l0_1.length ≤ 64)) = r := Option.some.inj (by have := HRB.out; rwa [if_pos rfl] at this)
      have z0 : wr.cell? ⟨w.heap.size, 0, none⟩ = some (.int .i64 a0_0) := by rw [blk_cell hX.out]; rfl
      have z1 : wr.cell? ⟨w.heap.size, 1, none⟩ = some (.slice A0_1 l0_1.length c0_1) := by rw [blk_cell hX.out]; rfl
      by_cases q0 : 0 ≤ a0_0
      · by_cases q1 : a0_0 ≤ 1048576
        · have hr2 : decide ((l0_1.length : Int) ≤ 64) = r := by
            rw [← hr, decide_eq_true q0, decide_eq_true q1]
            simp only [Bool.true_and, decide_eq_decide]
            omega
          clear hr
          go_wp2
          go_ret
          exact ⟨by subst hr2; rfl, hB.out⟩
        · have hr2 : false = r := by rw [← hr, decide_eq_true q0, decide_eq_false q1]; rfl
          subst hr2
          clear hr
          go_wp2
          go_ret
          exact ⟨rfl, hB.out⟩
      · have hr2 : false = r := by rw [← hr, decide_eq_false q0]; rfl
        subst hr2
        clear hr
        go_wp2
        go_ret
        exact ⟨rfl, hB.out⟩

end Go.Proofs.YtilnamobmjngbaaDoor.P
