-- Made by a program of this work's own (wip/myprint.py) over the kit's print; leaves by hand.
import Derived.Test.YtilnamobmjngbaaDoorP0
import Derived.Test.YtilnamobmjngbaaDoorP11
import Derived.Test.YtilnamobmjngbaaDoorP20
import Derived.BigQuiet
import Derived.Test.YtilnamobmjngbaaDoorMg1
namespace Go.Proofs.YtilnamobmjngbaaDoor.P
open Go.RowKit Go.Proofs.YtilnamobmjngbaaDoorW.PrintWords Go.Proofs.YtilnamobmjngbaaDoorW.PrintLast Go.Proofs.YtilnamobmjngbaaDoorW.PrintMore
attribute [local go_sem] max2_int min2_int max_two min_two max_three min_three max_four min_four   -- for this text's walks alone
set_option linter.unusedVariables false
set_option linter.unusedSimpArgs false

-- HANDBIG RefDiskMay.lean
-- IMPORT Derived.Test.YtilnamobmjngbaaDoorPlain
-- IMPORT Derived.BigQuiet
/-! ### crucibleref12_DiskMay, by hand -/
def rm_odd (k : Nat) (clk : Int) (l : List (S72)) (i : Nat) : Option Bool :=
  (crucibleref1_PathMay.f k (rd_T72 l (i : Int)).f0).bind fun p => if p = false then some true else
    if ¬ (0 ≤ (rd_T72 l (i : Int)).f1 ∧ (rd_T72 l (i : Int)).f1 ≤ 2147483647) then some true else
    if ¬ (1 ≤ (rd_T72 l (i : Int)).f2 ∧ (rd_T72 l (i : Int)).f2 ≤ clk) then some true else
    if 0 < i ∧ Op.bytesLess (rd_T72 l ((i - 1 : Nat) : Int)).f0.toList (rd_T72 l (i : Int)).f0.toList = false then some true else some false
/-- a time among the first ones: so many are left -/
def rm_in (l : List (S72)) (i : Nat) (t : Int) : Nat → Bool
  | 0 => false
  | n + 1 => if (rd_T72 l ((i - (n + 1) : Nat) : Int)).f2 = t then true else rm_in l i t n
def rm_go (k : Nat) (clk : Int) (l : List (S72)) : Nat → Option Bool
  | 0 => some true
  | n + 1 => (rm_odd k clk l (l.length - (n + 1))).bind fun bad => if bad = true then some false else if rm_in l (l.length - (n + 1)) (rd_T72 l ((l.length - (n + 1) : Nat) : Int)).f2 (l.length - (n + 1)) = true then some false else rm_go k clk l n
def crucibleref12_DiskMay.f (k : Nat) (a0_0 : Int) (l0_1 : List (S72)) : Option Bool :=
  if l0_1.length ≤ 1000000 then (rm_go k a0_0 l0_1 l0_1.length).bind fun b => if b = true then some (decide (0 ≤ a0_0) && decide (a0_0 ≤ 1048576) && decide (l0_1.length ≤ 64)) else some false else none
theorem rm_go.mono (clk : Int) (l : List (S72)) (k : Nat) : ∀ n, LeO (rm_go k clk l n) (rm_go (k + 1) clk l n)
  | 0 => LeO.refl _
  | n + 1 => LeO.bind (LeO.bind (crucibleref1_PathMay.mono _ _) (fun _ => LeO.refl _)) (fun _ => LeO.ite (LeO.refl _) (LeO.ite (LeO.refl _) (rm_go.mono clk l k n)))
theorem crucibleref12_DiskMay.mono : ∀ a0 a1 k, LeO (crucibleref12_DiskMay.f k a0 a1) (crucibleref12_DiskMay.f (k + 1) a0 a1) := fun a0 a1 k => LeO.ite (LeO.bind (rm_go.mono a0 a1 k _) (fun _ => LeO.refl _)) (LeO.refl _)
theorem rm_upTo (x a b : Int) : crucibleref12_upTo.f x a b = some (decide (a ≤ x ∧ x ≤ b)) := by
  unfold crucibleref12_upTo.f
  by_cases h0 : a ≤ x
  · rw [if_pos h0]; simp [h0]
  · rw [if_neg h0]; simp [h0]
theorem rm_cases {k : Nat} {clk : Int} {l : List (S72)} {i : Nat} {bad : Bool} (h : rm_odd k clk l i = some bad) :
    ∃ p, crucibleref1_PathMay.f k (rd_T72 l (i : Int)).f0 = some p ∧
    (p = false ∧ bad = true ∨ p = true ∧ (crucibleref12_upTo.f (rd_T72 l (i : Int)).f1 0 2147483647 = some false ∧ bad = true ∨ crucibleref12_upTo.f (rd_T72 l (i : Int)).f1 0 2147483647 = some true ∧
      (crucibleref12_upTo.f (rd_T72 l (i : Int)).f2 1 clk = some false ∧ bad = true ∨ crucibleref12_upTo.f (rd_T72 l (i : Int)).f2 1 clk = some true ∧
        (i = 0 ∧ bad = false ∨ 0 < i ∧ bad = !(Op.bytesLess (rd_T72 l ((i - 1 : Nat) : Int)).f0.toList (rd_T72 l (i : Int)).f0.toList))))) := by
  unfold rm_odd at h
  obtain ⟨p, hp, h⟩ := Option.bind_eq_some_iff.1 h
  refine ⟨p, hp, ?_⟩
  cases p with
  | false =>
    rw [if_pos rfl] at h
    exact .inl ⟨rfl, (Option.some.inj h).symm⟩
  | true =>
    rw [if_neg (by simp)] at h
    refine .inr ⟨rfl, ?_⟩
    rw [rm_upTo, rm_upTo]
    split at h
    case isTrue h1 => exact .inl ⟨by rw [decide_eq_false h1], (Option.some.inj h).symm⟩
    case isFalse h1 =>
    refine .inr ⟨by rw [decide_eq_true (Classical.not_not.1 h1)], ?_⟩
    split at h
    case isTrue h2 => exact .inl ⟨by rw [decide_eq_false h2], (Option.some.inj h).symm⟩
    case isFalse h2 =>
    refine .inr ⟨by rw [decide_eq_true (Classical.not_not.1 h2)], ?_⟩
    split at h
    case isTrue h3 => exact .inr ⟨h3.1, by rw [h3.2]; exact (Option.some.inj h).symm⟩
    case isFalse h3 =>
      by_cases hi : i = 0
      · exact .inl ⟨hi, (Option.some.inj h).symm⟩
      · refine .inr ⟨by omega, ?_⟩
        cases hb : Op.bytesLess (rd_T72 l ((i - 1 : Nat) : Int)).f0.toList (rd_T72 l (i : Int)).f0.toList with
        | true => exact (Option.some.inj h).symm
        | false => exact absurd ⟨by omega, hb⟩ h3
theorem rm_quiet_C {P : Program} {id : Nat} {Q : Exit → Act → World → Prop} {a : Act} {w : World} {l : List Oper} (C : World → Prop) (hm : P.follows .mixedOrders = true) (hB : Region.lexB .any l.toArray = true) (hC : C w.drew)
    (h : wpQuiet P l.toArray C (fun a' => ∀ w', C w' → Q .normal a' w') l a) : (Code.region id l.toArray true).wp P Q a w :=
  wp_region_quiet (C := C) hm hB hC (by simpa using h)
theorem rm_enters {f : FuncId} {P : Program} {fn : Func} (hf : P.funcs[f]? = some fn) (hname : (fn.name == "runtime.NumGoroutine") = false) (hb : fn.body.isSome = true) (C : World → Prop) (o : Oper) (a : Act) (w : World) (v : Value) (args : Array Value) (hr : (execOp a.eval o).run P w = .ok (.enter f args) w)
    (h : Calls P f args w fun e w' => e = .returned v ∧ C w') : o.quietAt P a C w v := by
  unfold Oper.quietAt
  rw [hr]
  exact ⟨rfl, h⟩
abbrev rmB (t : Int) (v : Value) : Obj := .cells #[.int .i64 t, v] 28
abbrev rmF (a : ByteArray) (c t : Int) : Obj := .cells #[.string a, .int .i64 c, .int .i64 t] 72
set_option maxHeartbeats 8000000 in
set_option maxRecDepth 100000 in
theorem crucibleref12_DiskMay.calls (k : Nat) (a0_0 : Int) (A0_1 : Option Addr) (c0_1 : Nat) (l0_1 : List (S72)) (r : Bool) (w : World) (hr0_1 : Kd.C k72 w A0_1 l0_1.length l0_1) (hc0_1 : l0_1.length ≤ c0_1) (h : crucibleref12_DiskMay.f k a0_0 l0_1 = some r) :
    Calls Tryd.prog 37 #[.agg #[.int .i64 a0_0, .slice A0_1 l0_1.length c0_1]] w fun e w' => e = .returned (.bool r) ∧ Below w.heap.size w w' := by
  have hu := Tryd.underlying72
  have hu2 := Tryd.underlying28
  unfold crucibleref12_DiskMay.f at h
  split at h
  case isFalse => cases h
  rename_i hl
  obtain ⟨rb, hgo, hrb⟩ := Option.bind_eq_some_iff.1 h
  have HR := Aside0.mk hr0_1
  have HL := Aside0.mk hl
  have HG := Aside0.mk hgo
  have HRB := Aside0.mk hrb
  have b1 : Below w.heap.size w (w.alloc (rmB a0_0 (.slice A0_1 l0_1.length c0_1))) := below_alloc (Below.refl _ _) _
  have F0 := heap_alloc_new w (rmB a0_0 (.slice A0_1 l0_1.length c0_1))
  have B1 := Aside0.mk b1
  have X0 := Aside0.mk F0
  clear hr0_1 hc0_1 h hl hgo hrb b1 F0
  go_enter Tryd.func37, Tryd.ntmps37
  go_wp2
  go_loopg [3] l0_1.length (fun gg s3 wr => ∃ i : Nat, i ≤ l0_1.length ∧ l0_1.length - i ≤ gg ∧ s3 = .int .i64 i ∧ Aside0 (rm_go k a0_0 l0_1 (l0_1.length - i) = some rb) ∧ Aside0 (wr.heap[w.heap.size]? = some (rmB a0_0 (.slice A0_1 l0_1.length c0_1))) ∧ Aside0 (Below w.heap.size w wr))
  case atStart => exact ⟨0, Nat.zero_le _, by omega, rfl, HG, X0, B1⟩
  case round =>
    obtain ⟨i, hi, hgg, rfl, hE, hX, hB⟩ := hrel
    by_cases hlt : i < l0_1.length
    · have hltz : (i : Int) < (l0_1.length : Int) := by omega
      obtain ⟨ad, hA, x0, x1, x2⟩ := at_T72 HR.out (i : Int) (by omega) hltz
      subst hA
      replace x0 := (hB.out.cell (World.block_lt_of_cell? w _ x0)).trans x0
      replace x1 := (hB.out.cell (World.block_lt_of_cell? w _ x1)).trans x1
      replace x2 := (hB.out.cell (World.block_lt_of_cell? w _ x2)).trans x2
      simp only [Int.toNat_natCast] at x0 x1 x2
      have hs := hE.out
      obtain ⟨n', hn'⟩ : ∃ n', l0_1.length - i = n' + 1 := ⟨l0_1.length - i - 1, by omega⟩
      rw [hn', rm_go, ← hn', show l0_1.length - (l0_1.length - i) = i by omega] at hs
      obtain ⟨bad, hbad, hs⟩ := Option.bind_eq_some_iff.1 hs
      obtain ⟨p, hp, hcs⟩ := rm_cases hbad
      have z0 : wr.cell? ⟨w.heap.size, 1, none⟩ = some (.slice (some ad) l0_1.length c0_1) := by rw [blk_cell hX.out]; rfl
      go_upto_region 5 with fail
      clear z0
      generalize hx : rd_T72 l0_1 (i : Int) = x at x0 x1 x2 hp hcs hs ⊢
      have HS := Aside0.mk hs
      clear hs hbad hE
      have g : (wr.alloc (rmF x.f0 x.f1 x.f2)).heap[wr.heap.size]? = some (rmF x.f0 x.f1 x.f2) := heap_alloc_new wr _
      have gB : Below w.heap.size w (wr.alloc (rmF x.f0 x.f1 x.f2)) := hB.out.alloc hB.out.size _
      have gX : (wr.alloc (rmF x.f0 x.f1 x.f2)).heap[w.heap.size]? = some (rmB a0_0 (.slice (some ad) l0_1.length c0_1)) := (Below.heap_alloc wr (rmF x.f0 x.f1 x.f2) w.heap.size (blk_lt hX.out)).trans hX.out
      have hbw : w.heap.size ≤ wr.heap.size := hB.out.size
      clear x0 x1 x2 hX hB
      generalize wr.heap.size = bf at g hbw ⊢
      generalize wr.alloc (rmF x.f0 x.f1 x.f2) = W1 at g gB gX ⊢
      have hbl : bf < W1.heap.size := blk_lt g
      have hwl : w.heap.size < W1.heap.size := blk_lt gX
      have g0 : W1.cell? ⟨bf, 0, none⟩ = some (.string x.f0) := by rw [blk_cell g]; rfl
      have g1 : W1.cell? ⟨bf, 1, none⟩ = some (.int .i64 x.f1) := by rw [blk_cell g]; rfl
      have g2 : W1.cell? ⟨bf, 2, none⟩ = some (.int .i64 x.f2) := by rw [blk_cell g]; rfl
      have g3 : W1.cell? ⟨w.heap.size, 0, none⟩ = some (.int .i64 a0_0) := by rw [blk_cell gX]; rfl
      have g4 : W1.cell? ⟨w.heap.size, 1, none⟩ = some (.slice (some ad) l0_1.length c0_1) := by rw [blk_cell gX]; rfl
      have G := Aside0.mk g
      have GB := Aside0.mk gB
      have GX := Aside0.mk gX
      have HP := Aside0.mk hp
      have HX := Aside0.mk hx
      clear g gB gX hp hx
      go_cut [51] (fun v51 wc => v51 = .bool bad ∧ Aside0 (Below W1.heap.size W1 wc))
      case first =>
        rcases hcs with ⟨rfl, rfl⟩ | ⟨rfl, ⟨hc, rfl⟩ | ⟨hc, ⟨ht, rfl⟩ | ⟨ht, ⟨rfl, rfl⟩ | ⟨h4, hbd⟩⟩⟩⟩
        · skip
          have toS : ∀ W, Below W1.heap.size W1 W → (W.cell? ⟨bf, 0, none⟩ = some (.string x.f0) ∧ W.cell? ⟨bf, 1, none⟩ = some (.int .i64 x.f1) ∧ W.cell? ⟨bf, 2, none⟩ = some (.int .i64 x.f2) ∧ W.cell? ⟨w.heap.size, 0, none⟩ = some (.int .i64 a0_0) ∧ W.cell? ⟨w.heap.size, 1, none⟩ = some (.slice (some ad) l0_1.length c0_1) ∧ Below W1.heap.size W1 W) := fun W hB => ⟨(hB.cell (p := ⟨_, 0, none⟩) hbl).trans g0, (hB.cell (p := ⟨_, 1, none⟩) hbl).trans g1, (hB.cell (p := ⟨_, 2, none⟩) hbl).trans g2, (hB.cell (p := ⟨_, 0, none⟩) hwl).trans g3, (hB.cell (p := ⟨_, 1, none⟩) hwl).trans g4, hB⟩
          have cIs : ∀ W, (W.cell? ⟨bf, 0, none⟩ = some (.string x.f0) ∧ W.cell? ⟨bf, 1, none⟩ = some (.int .i64 x.f1) ∧ W.cell? ⟨bf, 2, none⟩ = some (.int .i64 x.f2) ∧ W.cell? ⟨w.heap.size, 0, none⟩ = some (.int .i64 a0_0) ∧ W.cell? ⟨w.heap.size, 1, none⟩ = some (.slice (some ad) l0_1.length c0_1) ∧ Below W1.heap.size W1 W) → Calls Tryd.prog 58 #[.string x.f0] W fun e w' => e = .returned (.bool false) ∧ (w'.cell? ⟨bf, 0, none⟩ = some (.string x.f0) ∧ w'.cell? ⟨bf, 1, none⟩ = some (.int .i64 x.f1) ∧ w'.cell? ⟨bf, 2, none⟩ = some (.int .i64 x.f2) ∧ w'.cell? ⟨w.heap.size, 0, none⟩ = some (.int .i64 a0_0) ∧ w'.cell? ⟨w.heap.size, 1, none⟩ = some (.slice (some ad) l0_1.length c0_1) ∧ Below W1.heap.size W1 w') := fun W hS => (crucibleref1_PathMay.calls k x.f0 false W HP.out).mono fun e w' ⟨he, hb⟩ => ⟨he, toS _ (below_then hS.2.2.2.2.2 hS.2.2.2.2.2.size hb)⟩
          have fin : ∀ W, (W.cell? ⟨bf, 0, none⟩ = some (.string x.f0) ∧ W.cell? ⟨bf, 1, none⟩ = some (.int .i64 x.f1) ∧ W.cell? ⟨bf, 2, none⟩ = some (.int .i64 x.f2) ∧ W.cell? ⟨w.heap.size, 0, none⟩ = some (.int .i64 a0_0) ∧ W.cell? ⟨w.heap.size, 1, none⟩ = some (.slice (some ad) l0_1.length c0_1) ∧ Below W1.heap.size W1 W) → Below W1.heap.size W1 W := fun W hS => hS.2.2.2.2.2
          have hd0 := toS W1.drew (below_drew1 (Below.refl _ _))
          clear g0 g1 g2 g3 g4 toS
          refine rm_quiet_C (fun w' => w'.cell? ⟨bf, 0, none⟩ = some (.string x.f0) ∧ w'.cell? ⟨bf, 1, none⟩ = some (.int .i64 x.f1) ∧ w'.cell? ⟨bf, 2, none⟩ = some (.int .i64 x.f2) ∧ w'.cell? ⟨w.heap.size, 0, none⟩ = some (.int .i64 a0_0) ∧ w'.cell? ⟨w.heap.size, 1, none⟩ = some (.slice (some ad) l0_1.length c0_1) ∧ Below W1.heap.size W1 w') (by kernel_rfl) (by kernel_rfl) hd0 ?_
          (go_big_quiet_want; apply Exists.intro; refine ⟨fun w' hS => ?_, ?_⟩; · obtain ⟨s0, s1, s2, s3, s4, sB⟩ := hS; (unfold Oper.quietAt; go_simp); first | done | rfl | exact ⟨rfl, rfl⟩)
          (try simp only [Act.put, List.setIfInBounds_toArray, List.set_cons_zero, List.set_cons_succ])
          go_big_quiet_on
          (go_big_quiet_want; refine ⟨.string x.f0, fun w' hS => ?_, ?_⟩; · obtain ⟨s0, s1, s2, s3, s4, sB⟩ := hS; (unfold Oper.quietAt; go_simp))
          (try simp only [Act.put, List.setIfInBounds_toArray, List.set_cons_zero, List.set_cons_succ])
          go_big_quiet_on
          (go_big_quiet_want; refine ⟨.bool false, fun w' hS => ?_, ?_⟩; · exact rm_enters Tryd.func58 (by kernel_rfl) rfl _ _ _ _ _ #[.string x.f0] (by go_simp) (cIs _ hS))
          (try simp only [Act.put, List.setIfInBounds_toArray, List.set_cons_zero, List.set_cons_succ])
          go_big_quiet_on
          (go_big_quiet_want; apply Exists.intro; refine ⟨fun w' hS => ?_, ?_⟩; · obtain ⟨s0, s1, s2, s3, s4, sB⟩ := hS; (unfold Oper.quietAt; go_simp); first | done | rfl | exact ⟨rfl, rfl⟩)
          (try simp only [Act.put, List.setIfInBounds_toArray, List.set_cons_zero, List.set_cons_succ])
          go_big_quiet_on
          (go_big_quiet_want; go_big_quiet_op; go_big_quiet_on)
          go_big_quiet_skip
          go_big_quiet_skip
          go_big_quiet_skip
          go_big_quiet_skip
          (go_big_quiet_want; apply Exists.intro; refine ⟨fun w' hS => ?_, ?_⟩; · obtain ⟨s0, s1, s2, s3, s4, sB⟩ := hS; (unfold Oper.quietAt; go_simp); first | done | rfl | exact ⟨rfl, rfl⟩)
          (try simp only [Act.put, List.setIfInBounds_toArray, List.set_cons_zero, List.set_cons_succ])
          go_big_quiet_on
          (go_big_quiet_want; go_big_quiet_op; go_big_quiet_on)
          go_big_quiet_skip
          go_big_quiet_skip
          go_big_quiet_skip
          go_big_quiet_skip
          go_big_quiet_skip
          go_big_quiet_skip
          (go_big_quiet_want; apply Exists.intro; refine ⟨fun w' hS => ?_, ?_⟩; · obtain ⟨s0, s1, s2, s3, s4, sB⟩ := hS; (unfold Oper.quietAt; go_simp); first | done | rfl | exact ⟨rfl, rfl⟩)
          (try simp only [Act.put, List.setIfInBounds_toArray, List.set_cons_zero, List.set_cons_succ])
          go_big_quiet_on
          (go_big_quiet_want; go_big_quiet_op; go_big_quiet_on)
          go_big_quiet_skip
          go_big_quiet_skip
          go_big_quiet_skip
          go_big_quiet_skip
          go_big_quiet_skip
          go_big_quiet_skip
          go_big_quiet_skip
          go_big_quiet_skip
          go_big_quiet_skip
          go_big_quiet_skip
          go_big_quiet_skip
          go_big_quiet_skip
          go_big_quiet_skip
          go_big_quiet_skip
          (go_big_quiet_want; apply Exists.intro; refine ⟨fun w' hS => ?_, ?_⟩; · obtain ⟨s0, s1, s2, s3, s4, sB⟩ := hS; (unfold Oper.quietAt; go_simp); first | done | rfl | exact ⟨rfl, rfl⟩)
          (try simp only [Act.put, List.setIfInBounds_toArray, List.set_cons_zero, List.set_cons_succ])
          go_big_quiet_on
          refine wpQuiet_nil ?_
          intro w9 hS9
          have FB := Aside0.mk (fin _ hS9)
          clear hS9 fin hd0 cIs
          try go_wp2
          go_meet
          case rel => exact ⟨rfl, FB⟩
        · have HC := Aside0.mk hc
          have toS : ∀ W, Below W1.heap.size W1 W → (W.cell? ⟨bf, 0, none⟩ = some (.string x.f0) ∧ W.cell? ⟨bf, 1, none⟩ = some (.int .i64 x.f1) ∧ W.cell? ⟨bf, 2, none⟩ = some (.int .i64 x.f2) ∧ W.cell? ⟨w.heap.size, 0, none⟩ = some (.int .i64 a0_0) ∧ W.cell? ⟨w.heap.size, 1, none⟩ = some (.slice (some ad) l0_1.length c0_1) ∧ Below W1.heap.size W1 W) := fun W hB => ⟨(hB.cell (p := ⟨_, 0, none⟩) hbl).trans g0, (hB.cell (p := ⟨_, 1, none⟩) hbl).trans g1, (hB.cell (p := ⟨_, 2, none⟩) hbl).trans g2, (hB.cell (p := ⟨_, 0, none⟩) hwl).trans g3, (hB.cell (p := ⟨_, 1, none⟩) hwl).trans g4, hB⟩
          have cIs : ∀ W, (W.cell? ⟨bf, 0, none⟩ = some (.string x.f0) ∧ W.cell? ⟨bf, 1, none⟩ = some (.int .i64 x.f1) ∧ W.cell? ⟨bf, 2, none⟩ = some (.int .i64 x.f2) ∧ W.cell? ⟨w.heap.size, 0, none⟩ = some (.int .i64 a0_0) ∧ W.cell? ⟨w.heap.size, 1, none⟩ = some (.slice (some ad) l0_1.length c0_1) ∧ Below W1.heap.size W1 W) → Calls Tryd.prog 58 #[.string x.f0] W fun e w' => e = .returned (.bool true) ∧ (w'.cell? ⟨bf, 0, none⟩ = some (.string x.f0) ∧ w'.cell? ⟨bf, 1, none⟩ = some (.int .i64 x.f1) ∧ w'.cell? ⟨bf, 2, none⟩ = some (.int .i64 x.f2) ∧ w'.cell? ⟨w.heap.size, 0, none⟩ = some (.int .i64 a0_0) ∧ w'.cell? ⟨w.heap.size, 1, none⟩ = some (.slice (some ad) l0_1.length c0_1) ∧ Below W1.heap.size W1 w') := fun W hS => (crucibleref1_PathMay.calls k x.f0 true W HP.out).mono fun e w' ⟨he, hb⟩ => ⟨he, toS _ (below_then hS.2.2.2.2.2 hS.2.2.2.2.2.size hb)⟩
          have cCo : ∀ W, (W.cell? ⟨bf, 0, none⟩ = some (.string x.f0) ∧ W.cell? ⟨bf, 1, none⟩ = some (.int .i64 x.f1) ∧ W.cell? ⟨bf, 2, none⟩ = some (.int .i64 x.f2) ∧ W.cell? ⟨w.heap.size, 0, none⟩ = some (.int .i64 a0_0) ∧ W.cell? ⟨w.heap.size, 1, none⟩ = some (.slice (some ad) l0_1.length c0_1) ∧ Below W1.heap.size W1 W) → Calls Tryd.prog 59 #[.int .i64 x.f1, .int .i64 0, .int .i64 2147483647] W fun e w' => e = .returned (.bool false) ∧ (w'.cell? ⟨bf, 0, none⟩ = some (.string x.f0) ∧ w'.cell? ⟨bf, 1, none⟩ = some (.int .i64 x.f1) ∧ w'.cell? ⟨bf, 2, none⟩ = some (.int .i64 x.f2) ∧ w'.cell? ⟨w.heap.size, 0, none⟩ = some (.int .i64 a0_0) ∧ w'.cell? ⟨w.heap.size, 1, none⟩ = some (.slice (some ad) l0_1.length c0_1) ∧ Below W1.heap.size W1 w') := fun W hS => (crucibleref12_upTo.calls x.f1 0 2147483647 false W HC.out).mono fun e w' ⟨he, hb⟩ => ⟨he, toS _ (below_then hS.2.2.2.2.2 hS.2.2.2.2.2.size hb.below)⟩
          have fin : ∀ W, (W.cell? ⟨bf, 0, none⟩ = some (.string x.f0) ∧ W.cell? ⟨bf, 1, none⟩ = some (.int .i64 x.f1) ∧ W.cell? ⟨bf, 2, none⟩ = some (.int .i64 x.f2) ∧ W.cell? ⟨w.heap.size, 0, none⟩ = some (.int .i64 a0_0) ∧ W.cell? ⟨w.heap.size, 1, none⟩ = some (.slice (some ad) l0_1.length c0_1) ∧ Below W1.heap.size W1 W) → Below W1.heap.size W1 W := fun W hS => hS.2.2.2.2.2
          have hd0 := toS W1.drew (below_drew1 (Below.refl _ _))
          clear g0 g1 g2 g3 g4 toS
          refine rm_quiet_C (fun w' => w'.cell? ⟨bf, 0, none⟩ = some (.string x.f0) ∧ w'.cell? ⟨bf, 1, none⟩ = some (.int .i64 x.f1) ∧ w'.cell? ⟨bf, 2, none⟩ = some (.int .i64 x.f2) ∧ w'.cell? ⟨w.heap.size, 0, none⟩ = some (.int .i64 a0_0) ∧ w'.cell? ⟨w.heap.size, 1, none⟩ = some (.slice (some ad) l0_1.length c0_1) ∧ Below W1.heap.size W1 w') (by kernel_rfl) (by kernel_rfl) hd0 ?_
          (go_big_quiet_want; apply Exists.intro; refine ⟨fun w' hS => ?_, ?_⟩; · obtain ⟨s0, s1, s2, s3, s4, sB⟩ := hS; (unfold Oper.quietAt; go_simp); first | done | rfl | exact ⟨rfl, rfl⟩)
          (try simp only [Act.put, List.setIfInBounds_toArray, List.set_cons_zero, List.set_cons_succ])
          go_big_quiet_on
          (go_big_quiet_want; refine ⟨.string x.f0, fun w' hS => ?_, ?_⟩; · obtain ⟨s0, s1, s2, s3, s4, sB⟩ := hS; (unfold Oper.quietAt; go_simp))
          (try simp only [Act.put, List.setIfInBounds_toArray, List.set_cons_zero, List.set_cons_succ])
          go_big_quiet_on
          (go_big_quiet_want; refine ⟨.bool true, fun w' hS => ?_, ?_⟩; · exact rm_enters Tryd.func58 (by kernel_rfl) rfl _ _ _ _ _ #[.string x.f0] (by go_simp) (cIs _ hS))
          (try simp only [Act.put, List.setIfInBounds_toArray, List.set_cons_zero, List.set_cons_succ])
          go_big_quiet_on
          (go_big_quiet_want; apply Exists.intro; refine ⟨fun w' hS => ?_, ?_⟩; · obtain ⟨s0, s1, s2, s3, s4, sB⟩ := hS; (unfold Oper.quietAt; go_simp); first | done | rfl | exact ⟨rfl, rfl⟩)
          (try simp only [Act.put, List.setIfInBounds_toArray, List.set_cons_zero, List.set_cons_succ])
          go_big_quiet_on
          (go_big_quiet_want; go_big_quiet_op; go_big_quiet_on)
          (go_big_quiet_want; apply Exists.intro; refine ⟨fun w' hS => ?_, ?_⟩; · obtain ⟨s0, s1, s2, s3, s4, sB⟩ := hS; (unfold Oper.quietAt; go_simp); first | done | rfl | exact ⟨rfl, rfl⟩)
          (try simp only [Act.put, List.setIfInBounds_toArray, List.set_cons_zero, List.set_cons_succ])
          go_big_quiet_on
          (go_big_quiet_want; refine ⟨.int .i64 x.f1, fun w' hS => ?_, ?_⟩; · obtain ⟨s0, s1, s2, s3, s4, sB⟩ := hS; (unfold Oper.quietAt; go_simp))
          (try simp only [Act.put, List.setIfInBounds_toArray, List.set_cons_zero, List.set_cons_succ])
          go_big_quiet_on
          (go_big_quiet_want; refine ⟨.bool false, fun w' hS => ?_, ?_⟩; · exact rm_enters Tryd.func59 (by kernel_rfl) rfl _ _ _ _ _ #[.int .i64 x.f1, .int .i64 0, .int .i64 2147483647] (by go_simp) (cCo _ hS))
          (try simp only [Act.put, List.setIfInBounds_toArray, List.set_cons_zero, List.set_cons_succ])
          go_big_quiet_on
          (go_big_quiet_want; apply Exists.intro; refine ⟨fun w' hS => ?_, ?_⟩; · obtain ⟨s0, s1, s2, s3, s4, sB⟩ := hS; (unfold Oper.quietAt; go_simp); first | done | rfl | exact ⟨rfl, rfl⟩)
          (try simp only [Act.put, List.setIfInBounds_toArray, List.set_cons_zero, List.set_cons_succ])
          go_big_quiet_on
          (go_big_quiet_want; apply Exists.intro; refine ⟨fun w' hS => ?_, ?_⟩; · obtain ⟨s0, s1, s2, s3, s4, sB⟩ := hS; (unfold Oper.quietAt; go_simp); first | done | rfl | exact ⟨rfl, rfl⟩)
          (try simp only [Act.put, List.setIfInBounds_toArray, List.set_cons_zero, List.set_cons_succ])
          go_big_quiet_on
          (go_big_quiet_want; go_big_quiet_op; go_big_quiet_on)
          go_big_quiet_skip
          go_big_quiet_skip
          go_big_quiet_skip
          go_big_quiet_skip
          go_big_quiet_skip
          go_big_quiet_skip
          (go_big_quiet_want; apply Exists.intro; refine ⟨fun w' hS => ?_, ?_⟩; · obtain ⟨s0, s1, s2, s3, s4, sB⟩ := hS; (unfold Oper.quietAt; go_simp); first | done | rfl | exact ⟨rfl, rfl⟩)
          (try simp only [Act.put, List.setIfInBounds_toArray, List.set_cons_zero, List.set_cons_succ])
          go_big_quiet_on
          (go_big_quiet_want; go_big_quiet_op; go_big_quiet_on)
          go_big_quiet_skip
          go_big_quiet_skip
          go_big_quiet_skip
          go_big_quiet_skip
          go_big_quiet_skip
          go_big_quiet_skip
          go_big_quiet_skip
          go_big_quiet_skip
          go_big_quiet_skip
          go_big_quiet_skip
          go_big_quiet_skip
          go_big_quiet_skip
          go_big_quiet_skip
          go_big_quiet_skip
          (go_big_quiet_want; apply Exists.intro; refine ⟨fun w' hS => ?_, ?_⟩; · obtain ⟨s0, s1, s2, s3, s4, sB⟩ := hS; (unfold Oper.quietAt; go_simp); first | done | rfl | exact ⟨rfl, rfl⟩)
          (try simp only [Act.put, List.setIfInBounds_toArray, List.set_cons_zero, List.set_cons_succ])
          go_big_quiet_on
          refine wpQuiet_nil ?_
          intro w9 hS9
          have FB := Aside0.mk (fin _ hS9)
          clear hS9 fin hd0 cIs
          try go_wp2
          go_meet
          case rel => exact ⟨rfl, FB⟩
        · have HC := Aside0.mk hc
          have HT := Aside0.mk ht
          clear hc ht
          have toS : ∀ W, Below W1.heap.size W1 W → (W.cell? ⟨bf, 0, none⟩ = some (.string x.f0) ∧ W.cell? ⟨bf, 1, none⟩ = some (.int .i64 x.f1) ∧ W.cell? ⟨bf, 2, none⟩ = some (.int .i64 x.f2) ∧ W.cell? ⟨w.heap.size, 0, none⟩ = some (.int .i64 a0_0) ∧ W.cell? ⟨w.heap.size, 1, none⟩ = some (.slice (some ad) l0_1.length c0_1) ∧ Below W1.heap.size W1 W) := fun W hB => ⟨(hB.cell (p := ⟨_, 0, none⟩) hbl).trans g0, (hB.cell (p := ⟨_, 1, none⟩) hbl).trans g1, (hB.cell (p := ⟨_, 2, none⟩) hbl).trans g2, (hB.cell (p := ⟨_, 0, none⟩) hwl).trans g3, (hB.cell (p := ⟨_, 1, none⟩) hwl).trans g4, hB⟩
          have cIs : ∀ W, (W.cell? ⟨bf, 0, none⟩ = some (.string x.f0) ∧ W.cell? ⟨bf, 1, none⟩ = some (.int .i64 x.f1) ∧ W.cell? ⟨bf, 2, none⟩ = some (.int .i64 x.f2) ∧ W.cell? ⟨w.heap.size, 0, none⟩ = some (.int .i64 a0_0) ∧ W.cell? ⟨w.heap.size, 1, none⟩ = some (.slice (some ad) l0_1.length c0_1) ∧ Below W1.heap.size W1 W) → Calls Tryd.prog 58 #[.string x.f0] W fun e w' => e = .returned (.bool true) ∧ (w'.cell? ⟨bf, 0, none⟩ = some (.string x.f0) ∧ w'.cell? ⟨bf, 1, none⟩ = some (.int .i64 x.f1) ∧ w'.cell? ⟨bf, 2, none⟩ = some (.int .i64 x.f2) ∧ w'.cell? ⟨w.heap.size, 0, none⟩ = some (.int .i64 a0_0) ∧ w'.cell? ⟨w.heap.size, 1, none⟩ = some (.slice (some ad) l0_1.length c0_1) ∧ Below W1.heap.size W1 w') := fun W hS => (crucibleref1_PathMay.calls k x.f0 true W HP.out).mono fun e w' ⟨he, hb⟩ => ⟨he, toS _ (below_then hS.2.2.2.2.2 hS.2.2.2.2.2.size hb)⟩
          have cCo : ∀ W, (W.cell? ⟨bf, 0, none⟩ = some (.string x.f0) ∧ W.cell? ⟨bf, 1, none⟩ = some (.int .i64 x.f1) ∧ W.cell? ⟨bf, 2, none⟩ = some (.int .i64 x.f2) ∧ W.cell? ⟨w.heap.size, 0, none⟩ = some (.int .i64 a0_0) ∧ W.cell? ⟨w.heap.size, 1, none⟩ = some (.slice (some ad) l0_1.length c0_1) ∧ Below W1.heap.size W1 W) → Calls Tryd.prog 59 #[.int .i64 x.f1, .int .i64 0, .int .i64 2147483647] W fun e w' => e = .returned (.bool true) ∧ (w'.cell? ⟨bf, 0, none⟩ = some (.string x.f0) ∧ w'.cell? ⟨bf, 1, none⟩ = some (.int .i64 x.f1) ∧ w'.cell? ⟨bf, 2, none⟩ = some (.int .i64 x.f2) ∧ w'.cell? ⟨w.heap.size, 0, none⟩ = some (.int .i64 a0_0) ∧ w'.cell? ⟨w.heap.size, 1, none⟩ = some (.slice (some ad) l0_1.length c0_1) ∧ Below W1.heap.size W1 w') := fun W hS => (crucibleref12_upTo.calls x.f1 0 2147483647 true W HC.out).mono fun e w' ⟨he, hb⟩ => ⟨he, toS _ (below_then hS.2.2.2.2.2 hS.2.2.2.2.2.size hb.below)⟩
          have cTi : ∀ W, (W.cell? ⟨bf, 0, none⟩ = some (.string x.f0) ∧ W.cell? ⟨bf, 1, none⟩ = some (.int .i64 x.f1) ∧ W.cell? ⟨bf, 2, none⟩ = some (.int .i64 x.f2) ∧ W.cell? ⟨w.heap.size, 0, none⟩ = some (.int .i64 a0_0) ∧ W.cell? ⟨w.heap.size, 1, none⟩ = some (.slice (some ad) l0_1.length c0_1) ∧ Below W1.heap.size W1 W) → Calls Tryd.prog 59 #[.int .i64 x.f2, .int .i64 1, .int .i64 a0_0] W fun e w' => e = .returned (.bool false) ∧ (w'.cell? ⟨bf, 0, none⟩ = some (.string x.f0) ∧ w'.cell? ⟨bf, 1, none⟩ = some (.int .i64 x.f1) ∧ w'.cell? ⟨bf, 2, none⟩ = some (.int .i64 x.f2) ∧ w'.cell? ⟨w.heap.size, 0, none⟩ = some (.int .i64 a0_0) ∧ w'.cell? ⟨w.heap.size, 1, none⟩ = some (.slice (some ad) l0_1.length c0_1) ∧ Below W1.heap.size W1 w') := fun W hS => (crucibleref12_upTo.calls x.f2 1 a0_0 false W HT.out).mono fun e w' ⟨he, hb⟩ => ⟨he, toS _ (below_then hS.2.2.2.2.2 hS.2.2.2.2.2.size hb.below)⟩
          have fin : ∀ W, (W.cell? ⟨bf, 0, none⟩ = some (.string x.f0) ∧ W.cell? ⟨bf, 1, none⟩ = some (.int .i64 x.f1) ∧ W.cell? ⟨bf, 2, none⟩ = some (.int .i64 x.f2) ∧ W.cell? ⟨w.heap.size, 0, none⟩ = some (.int .i64 a0_0) ∧ W.cell? ⟨w.heap.size, 1, none⟩ = some (.slice (some ad) l0_1.length c0_1) ∧ Below W1.heap.size W1 W) → Below W1.heap.size W1 W := fun W hS => hS.2.2.2.2.2
          have hd0 := toS W1.drew (below_drew1 (Below.refl _ _))
          clear g0 g1 g2 g3 g4 toS
          refine rm_quiet_C (fun w' => w'.cell? ⟨bf, 0, none⟩ = some (.string x.f0) ∧ w'.cell? ⟨bf, 1, none⟩ = some (.int .i64 x.f1) ∧ w'.cell? ⟨bf, 2, none⟩ = some (.int .i64 x.f2) ∧ w'.cell? ⟨w.heap.size, 0, none⟩ = some (.int .i64 a0_0) ∧ w'.cell? ⟨w.heap.size, 1, none⟩ = some (.slice (some ad) l0_1.length c0_1) ∧ Below W1.heap.size W1 w') (by kernel_rfl) (by kernel_rfl) hd0 ?_
          (go_big_quiet_want; apply Exists.intro; refine ⟨fun w' hS => ?_, ?_⟩; · obtain ⟨s0, s1, s2, s3, s4, sB⟩ := hS; (unfold Oper.quietAt; go_simp); first | done | rfl | exact ⟨rfl, rfl⟩)
          (try simp only [Act.put, List.setIfInBounds_toArray, List.set_cons_zero, List.set_cons_succ])
          go_big_quiet_on
          (go_big_quiet_want; refine ⟨.string x.f0, fun w' hS => ?_, ?_⟩; · obtain ⟨s0, s1, s2, s3, s4, sB⟩ := hS; (unfold Oper.quietAt; go_simp))
          (try simp only [Act.put, List.setIfInBounds_toArray, List.set_cons_zero, List.set_cons_succ])
          go_big_quiet_on
          (go_big_quiet_want; refine ⟨.bool true, fun w' hS => ?_, ?_⟩; · exact rm_enters Tryd.func58 (by kernel_rfl) rfl _ _ _ _ _ #[.string x.f0] (by go_simp) (cIs _ hS))
          (try simp only [Act.put, List.setIfInBounds_toArray, List.set_cons_zero, List.set_cons_succ])
          go_big_quiet_on
          (go_big_quiet_want; apply Exists.intro; refine ⟨fun w' hS => ?_, ?_⟩; · obtain ⟨s0, s1, s2, s3, s4, sB⟩ := hS; (unfold Oper.quietAt; go_simp); first | done | rfl | exact ⟨rfl, rfl⟩)
          (try simp only [Act.put, List.setIfInBounds_toArray, List.set_cons_zero, List.set_cons_succ])
          go_big_quiet_on
          (go_big_quiet_want; go_big_quiet_op; go_big_quiet_on)
          (go_big_quiet_want; apply Exists.intro; refine ⟨fun w' hS => ?_, ?_⟩; · obtain ⟨s0, s1, s2, s3, s4, sB⟩ := hS; (unfold Oper.quietAt; go_simp); first | done | rfl | exact ⟨rfl, rfl⟩)
          (try simp only [Act.put, List.setIfInBounds_toArray, List.set_cons_zero, List.set_cons_succ])
          go_big_quiet_on
          (go_big_quiet_want; refine ⟨.int .i64 x.f1, fun w' hS => ?_, ?_⟩; · obtain ⟨s0, s1, s2, s3, s4, sB⟩ := hS; (unfold Oper.quietAt; go_simp))
          (try simp only [Act.put, List.setIfInBounds_toArray, List.set_cons_zero, List.set_cons_succ])
          go_big_quiet_on
          (go_big_quiet_want; refine ⟨.bool true, fun w' hS => ?_, ?_⟩; · exact rm_enters Tryd.func59 (by kernel_rfl) rfl _ _ _ _ _ #[.int .i64 x.f1, .int .i64 0, .int .i64 2147483647] (by go_simp) (cCo _ hS))
          (try simp only [Act.put, List.setIfInBounds_toArray, List.set_cons_zero, List.set_cons_succ])
          go_big_quiet_on
          (go_big_quiet_want; apply Exists.intro; refine ⟨fun w' hS => ?_, ?_⟩; · obtain ⟨s0, s1, s2, s3, s4, sB⟩ := hS; (unfold Oper.quietAt; go_simp); first | done | rfl | exact ⟨rfl, rfl⟩)
          (try simp only [Act.put, List.setIfInBounds_toArray, List.set_cons_zero, List.set_cons_succ])
          go_big_quiet_on
          (go_big_quiet_want; apply Exists.intro; refine ⟨fun w' hS => ?_, ?_⟩; · obtain ⟨s0, s1, s2, s3, s4, sB⟩ := hS; (unfold Oper.quietAt; go_simp); first | done | rfl | exact ⟨rfl, rfl⟩)
          (try simp only [Act.put, List.setIfInBounds_toArray, List.set_cons_zero, List.set_cons_succ])
          go_big_quiet_on
          (go_big_quiet_want; go_big_quiet_op; go_big_quiet_on)
          (go_big_quiet_want; apply Exists.intro; refine ⟨fun w' hS => ?_, ?_⟩; · obtain ⟨s0, s1, s2, s3, s4, sB⟩ := hS; (unfold Oper.quietAt; go_simp); first | done | rfl | exact ⟨rfl, rfl⟩)
          (try simp only [Act.put, List.setIfInBounds_toArray, List.set_cons_zero, List.set_cons_succ])
          go_big_quiet_on
          (go_big_quiet_want; refine ⟨.int .i64 x.f2, fun w' hS => ?_, ?_⟩; · obtain ⟨s0, s1, s2, s3, s4, sB⟩ := hS; (unfold Oper.quietAt; go_simp))
          (try simp only [Act.put, List.setIfInBounds_toArray, List.set_cons_zero, List.set_cons_succ])
          go_big_quiet_on
          (go_big_quiet_want; apply Exists.intro; refine ⟨fun w' hS => ?_, ?_⟩; · obtain ⟨s0, s1, s2, s3, s4, sB⟩ := hS; (unfold Oper.quietAt; go_simp); first | done | rfl | exact ⟨rfl, rfl⟩)
          (try simp only [Act.put, List.setIfInBounds_toArray, List.set_cons_zero, List.set_cons_succ])
          go_big_quiet_on
          (go_big_quiet_want; refine ⟨.int .i64 a0_0, fun w' hS => ?_, ?_⟩; · obtain ⟨s0, s1, s2, s3, s4, sB⟩ := hS; (unfold Oper.quietAt; go_simp))
          (try simp only [Act.put, List.setIfInBounds_toArray, List.set_cons_zero, List.set_cons_succ])
          go_big_quiet_on
          (go_big_quiet_want; refine ⟨.bool false, fun w' hS => ?_, ?_⟩; · exact rm_enters Tryd.func59 (by kernel_rfl) rfl _ _ _ _ _ #[.int .i64 x.f2, .int .i64 1, .int .i64 a0_0] (by go_simp) (cTi _ hS))
          (try simp only [Act.put, List.setIfInBounds_toArray, List.set_cons_zero, List.set_cons_succ])
          go_big_quiet_on
          (go_big_quiet_want; apply Exists.intro; refine ⟨fun w' hS => ?_, ?_⟩; · obtain ⟨s0, s1, s2, s3, s4, sB⟩ := hS; (unfold Oper.quietAt; go_simp); first | done | rfl | exact ⟨rfl, rfl⟩)
          (try simp only [Act.put, List.setIfInBounds_toArray, List.set_cons_zero, List.set_cons_succ])
          go_big_quiet_on
          (go_big_quiet_want; apply Exists.intro; refine ⟨fun w' hS => ?_, ?_⟩; · obtain ⟨s0, s1, s2, s3, s4, sB⟩ := hS; (unfold Oper.quietAt; go_simp); first | done | rfl | exact ⟨rfl, rfl⟩)
          (try simp only [Act.put, List.setIfInBounds_toArray, List.set_cons_zero, List.set_cons_succ])
          go_big_quiet_on
          (go_big_quiet_want; go_big_quiet_op; go_big_quiet_on)
          go_big_quiet_skip
          go_big_quiet_skip
          go_big_quiet_skip
          go_big_quiet_skip
          go_big_quiet_skip
          go_big_quiet_skip
          go_big_quiet_skip
          go_big_quiet_skip
          go_big_quiet_skip
          go_big_quiet_skip
          go_big_quiet_skip
          go_big_quiet_skip
          go_big_quiet_skip
          go_big_quiet_skip
          (go_big_quiet_want; apply Exists.intro; refine ⟨fun w' hS => ?_, ?_⟩; · obtain ⟨s0, s1, s2, s3, s4, sB⟩ := hS; (unfold Oper.quietAt; go_simp); first | done | rfl | exact ⟨rfl, rfl⟩)
          (try simp only [Act.put, List.setIfInBounds_toArray, List.set_cons_zero, List.set_cons_succ])
          go_big_quiet_on
          refine wpQuiet_nil ?_
          intro w9 hS9
          have FB := Aside0.mk (fin _ hS9)
          clear hS9 fin hd0 cIs
          try go_wp2
          go_meet
          case rel => exact ⟨rfl, FB⟩
        · have HC := Aside0.mk hc
          have HT := Aside0.mk ht
          clear hc ht
          have toS : ∀ W, Below W1.heap.size W1 W → (W.cell? ⟨bf, 0, none⟩ = some (.string x.f0) ∧ W.cell? ⟨bf, 1, none⟩ = some (.int .i64 x.f1) ∧ W.cell? ⟨bf, 2, none⟩ = some (.int .i64 x.f2) ∧ W.cell? ⟨w.heap.size, 0, none⟩ = some (.int .i64 a0_0) ∧ W.cell? ⟨w.heap.size, 1, none⟩ = some (.slice (some ad) l0_1.length c0_1) ∧ Below W1.heap.size W1 W) := fun W hB => ⟨(hB.cell (p := ⟨_, 0, none⟩) hbl).trans g0, (hB.cell (p := ⟨_, 1, none⟩) hbl).trans g1, (hB.cell (p := ⟨_, 2, none⟩) hbl).trans g2, (hB.cell (p := ⟨_, 0, none⟩) hwl).trans g3, (hB.cell (p := ⟨_, 1, none⟩) hwl).trans g4, hB⟩
          have cIs : ∀ W, (W.cell? ⟨bf, 0, none⟩ = some (.string x.f0) ∧ W.cell? ⟨bf, 1, none⟩ = some (.int .i64 x.f1) ∧ W.cell? ⟨bf, 2, none⟩ = some (.int .i64 x.f2) ∧ W.cell? ⟨w.heap.size, 0, none⟩ = some (.int .i64 a0_0) ∧ W.cell? ⟨w.heap.size, 1, none⟩ = some (.slice (some ad) l0_1.length c0_1) ∧ Below W1.heap.size W1 W) → Calls Tryd.prog 58 #[.string x.f0] W fun e w' => e = .returned (.bool true) ∧ (w'.cell? ⟨bf, 0, none⟩ = some (.string x.f0) ∧ w'.cell? ⟨bf, 1, none⟩ = some (.int .i64 x.f1) ∧ w'.cell? ⟨bf, 2, none⟩ = some (.int .i64 x.f2) ∧ w'.cell? ⟨w.heap.size, 0, none⟩ = some (.int .i64 a0_0) ∧ w'.cell? ⟨w.heap.size, 1, none⟩ = some (.slice (some ad) l0_1.length c0_1) ∧ Below W1.heap.size W1 w') := fun W hS => (crucibleref1_PathMay.calls k x.f0 true W HP.out).mono fun e w' ⟨he, hb⟩ => ⟨he, toS _ (below_then hS.2.2.2.2.2 hS.2.2.2.2.2.size hb)⟩
          have cCo : ∀ W, (W.cell? ⟨bf, 0, none⟩ = some (.string x.f0) ∧ W.cell? ⟨bf, 1, none⟩ = some (.int .i64 x.f1) ∧ W.cell? ⟨bf, 2, none⟩ = some (.int .i64 x.f2) ∧ W.cell? ⟨w.heap.size, 0, none⟩ = some (.int .i64 a0_0) ∧ W.cell? ⟨w.heap.size, 1, none⟩ = some (.slice (some ad) l0_1.length c0_1) ∧ Below W1.heap.size W1 W) → Calls Tryd.prog 59 #[.int .i64 x.f1, .int .i64 0, .int .i64 2147483647] W fun e w' => e = .returned (.bool true) ∧ (w'.cell? ⟨bf, 0, none⟩ = some (.string x.f0) ∧ w'.cell? ⟨bf, 1, none⟩ = some (.int .i64 x.f1) ∧ w'.cell? ⟨bf, 2, none⟩ = some (.int .i64 x.f2) ∧ w'.cell? ⟨w.heap.size, 0, none⟩ = some (.int .i64 a0_0) ∧ w'.cell? ⟨w.heap.size, 1, none⟩ = some (.slice (some ad) l0_1.length c0_1) ∧ Below W1.heap.size W1 w') := fun W hS => (crucibleref12_upTo.calls x.f1 0 2147483647 true W HC.out).mono fun e w' ⟨he, hb⟩ => ⟨he, toS _ (below_then hS.2.2.2.2.2 hS.2.2.2.2.2.size hb.below)⟩
          have cTi : ∀ W, (W.cell? ⟨bf, 0, none⟩ = some (.string x.f0) ∧ W.cell? ⟨bf, 1, none⟩ = some (.int .i64 x.f1) ∧ W.cell? ⟨bf, 2, none⟩ = some (.int .i64 x.f2) ∧ W.cell? ⟨w.heap.size, 0, none⟩ = some (.int .i64 a0_0) ∧ W.cell? ⟨w.heap.size, 1, none⟩ = some (.slice (some ad) l0_1.length c0_1) ∧ Below W1.heap.size W1 W) → Calls Tryd.prog 59 #[.int .i64 x.f2, .int .i64 1, .int .i64 a0_0] W fun e w' => e = .returned (.bool true) ∧ (w'.cell? ⟨bf, 0, none⟩ = some (.string x.f0) ∧ w'.cell? ⟨bf, 1, none⟩ = some (.int .i64 x.f1) ∧ w'.cell? ⟨bf, 2, none⟩ = some (.int .i64 x.f2) ∧ w'.cell? ⟨w.heap.size, 0, none⟩ = some (.int .i64 a0_0) ∧ w'.cell? ⟨w.heap.size, 1, none⟩ = some (.slice (some ad) l0_1.length c0_1) ∧ Below W1.heap.size W1 w') := fun W hS => (crucibleref12_upTo.calls x.f2 1 a0_0 true W HT.out).mono fun e w' ⟨he, hb⟩ => ⟨he, toS _ (below_then hS.2.2.2.2.2 hS.2.2.2.2.2.size hb.below)⟩
          have fin : ∀ W, (W.cell? ⟨bf, 0, none⟩ = some (.string x.f0) ∧ W.cell? ⟨bf, 1, none⟩ = some (.int .i64 x.f1) ∧ W.cell? ⟨bf, 2, none⟩ = some (.int .i64 x.f2) ∧ W.cell? ⟨w.heap.size, 0, none⟩ = some (.int .i64 a0_0) ∧ W.cell? ⟨w.heap.size, 1, none⟩ = some (.slice (some ad) l0_1.length c0_1) ∧ Below W1.heap.size W1 W) → Below W1.heap.size W1 W := fun W hS => hS.2.2.2.2.2
          have hd0 := toS W1.drew (below_drew1 (Below.refl _ _))
          clear g0 g1 g2 g3 g4 toS
          refine rm_quiet_C (fun w' => w'.cell? ⟨bf, 0, none⟩ = some (.string x.f0) ∧ w'.cell? ⟨bf, 1, none⟩ = some (.int .i64 x.f1) ∧ w'.cell? ⟨bf, 2, none⟩ = some (.int .i64 x.f2) ∧ w'.cell? ⟨w.heap.size, 0, none⟩ = some (.int .i64 a0_0) ∧ w'.cell? ⟨w.heap.size, 1, none⟩ = some (.slice (some ad) l0_1.length c0_1) ∧ Below W1.heap.size W1 w') (by kernel_rfl) (by kernel_rfl) hd0 ?_
          (go_big_quiet_want; apply Exists.intro; refine ⟨fun w' hS => ?_, ?_⟩; · obtain ⟨s0, s1, s2, s3, s4, sB⟩ := hS; (unfold Oper.quietAt; go_simp); first | done | rfl | exact ⟨rfl, rfl⟩)
          (try simp only [Act.put, List.setIfInBounds_toArray, List.set_cons_zero, List.set_cons_succ])
          go_big_quiet_on
          (go_big_quiet_want; refine ⟨.string x.f0, fun w' hS => ?_, ?_⟩; · obtain ⟨s0, s1, s2, s3, s4, sB⟩ := hS; (unfold Oper.quietAt; go_simp))
          (try simp only [Act.put, List.setIfInBounds_toArray, List.set_cons_zero, List.set_cons_succ])
          go_big_quiet_on
          (go_big_quiet_want; refine ⟨.bool true, fun w' hS => ?_, ?_⟩; · exact rm_enters Tryd.func58 (by kernel_rfl) rfl _ _ _ _ _ #[.string x.f0] (by go_simp) (cIs _ hS))
          (try simp only [Act.put, List.setIfInBounds_toArray, List.set_cons_zero, List.set_cons_succ])
          go_big_quiet_on
          (go_big_quiet_want; apply Exists.intro; refine ⟨fun w' hS => ?_, ?_⟩; · obtain ⟨s0, s1, s2, s3, s4, sB⟩ := hS; (unfold Oper.quietAt; go_simp); first | done | rfl | exact ⟨rfl, rfl⟩)
          (try simp only [Act.put, List.setIfInBounds_toArray, List.set_cons_zero, List.set_cons_succ])
          go_big_quiet_on
          (go_big_quiet_want; go_big_quiet_op; go_big_quiet_on)
          (go_big_quiet_want; apply Exists.intro; refine ⟨fun w' hS => ?_, ?_⟩; · obtain ⟨s0, s1, s2, s3, s4, sB⟩ := hS; (unfold Oper.quietAt; go_simp); first | done | rfl | exact ⟨rfl, rfl⟩)
          (try simp only [Act.put, List.setIfInBounds_toArray, List.set_cons_zero, List.set_cons_succ])
          go_big_quiet_on
          (go_big_quiet_want; refine ⟨.int .i64 x.f1, fun w' hS => ?_, ?_⟩; · obtain ⟨s0, s1, s2, s3, s4, sB⟩ := hS; (unfold Oper.quietAt; go_simp))
          (try simp only [Act.put, List.setIfInBounds_toArray, List.set_cons_zero, List.set_cons_succ])
          go_big_quiet_on
          (go_big_quiet_want; refine ⟨.bool true, fun w' hS => ?_, ?_⟩; · exact rm_enters Tryd.func59 (by kernel_rfl) rfl _ _ _ _ _ #[.int .i64 x.f1, .int .i64 0, .int .i64 2147483647] (by go_simp) (cCo _ hS))
          (try simp only [Act.put, List.setIfInBounds_toArray, List.set_cons_zero, List.set_cons_succ])
          go_big_quiet_on
          (go_big_quiet_want; apply Exists.intro; refine ⟨fun w' hS => ?_, ?_⟩; · obtain ⟨s0, s1, s2, s3, s4, sB⟩ := hS; (unfold Oper.quietAt; go_simp); first | done | rfl | exact ⟨rfl, rfl⟩)
          (try simp only [Act.put, List.setIfInBounds_toArray, List.set_cons_zero, List.set_cons_succ])
          go_big_quiet_on
          (go_big_quiet_want; apply Exists.intro; refine ⟨fun w' hS => ?_, ?_⟩; · obtain ⟨s0, s1, s2, s3, s4, sB⟩ := hS; (unfold Oper.quietAt; go_simp); first | done | rfl | exact ⟨rfl, rfl⟩)
          (try simp only [Act.put, List.setIfInBounds_toArray, List.set_cons_zero, List.set_cons_succ])
          go_big_quiet_on
          (go_big_quiet_want; go_big_quiet_op; go_big_quiet_on)
          (go_big_quiet_want; apply Exists.intro; refine ⟨fun w' hS => ?_, ?_⟩; · obtain ⟨s0, s1, s2, s3, s4, sB⟩ := hS; (unfold Oper.quietAt; go_simp); first | done | rfl | exact ⟨rfl, rfl⟩)
          (try simp only [Act.put, List.setIfInBounds_toArray, List.set_cons_zero, List.set_cons_succ])
          go_big_quiet_on
          (go_big_quiet_want; refine ⟨.int .i64 x.f2, fun w' hS => ?_, ?_⟩; · obtain ⟨s0, s1, s2, s3, s4, sB⟩ := hS; (unfold Oper.quietAt; go_simp))
          (try simp only [Act.put, List.setIfInBounds_toArray, List.set_cons_zero, List.set_cons_succ])
          go_big_quiet_on
          (go_big_quiet_want; apply Exists.intro; refine ⟨fun w' hS => ?_, ?_⟩; · obtain ⟨s0, s1, s2, s3, s4, sB⟩ := hS; (unfold Oper.quietAt; go_simp); first | done | rfl | exact ⟨rfl, rfl⟩)
          (try simp only [Act.put, List.setIfInBounds_toArray, List.set_cons_zero, List.set_cons_succ])
          go_big_quiet_on
          (go_big_quiet_want; refine ⟨.int .i64 a0_0, fun w' hS => ?_, ?_⟩; · obtain ⟨s0, s1, s2, s3, s4, sB⟩ := hS; (unfold Oper.quietAt; go_simp))
          (try simp only [Act.put, List.setIfInBounds_toArray, List.set_cons_zero, List.set_cons_succ])
          go_big_quiet_on
          (go_big_quiet_want; refine ⟨.bool true, fun w' hS => ?_, ?_⟩; · exact rm_enters Tryd.func59 (by kernel_rfl) rfl _ _ _ _ _ #[.int .i64 x.f2, .int .i64 1, .int .i64 a0_0] (by go_simp) (cTi _ hS))
          (try simp only [Act.put, List.setIfInBounds_toArray, List.set_cons_zero, List.set_cons_succ])
          go_big_quiet_on
          (go_big_quiet_want; apply Exists.intro; refine ⟨fun w' hS => ?_, ?_⟩; · obtain ⟨s0, s1, s2, s3, s4, sB⟩ := hS; (unfold Oper.quietAt; go_simp); first | done | rfl | exact ⟨rfl, rfl⟩)
          (try simp only [Act.put, List.setIfInBounds_toArray, List.set_cons_zero, List.set_cons_succ])
          go_big_quiet_on
          (go_big_quiet_want; apply Exists.intro; refine ⟨fun w' hS => ?_, ?_⟩; · obtain ⟨s0, s1, s2, s3, s4, sB⟩ := hS; (unfold Oper.quietAt; go_simp); first | done | rfl | exact ⟨rfl, rfl⟩)
          (try simp only [Act.put, List.setIfInBounds_toArray, List.set_cons_zero, List.set_cons_succ])
          go_big_quiet_on
          (go_big_quiet_want; go_big_quiet_op; go_big_quiet_on)
          (go_big_quiet_want; go_big_quiet_op; go_big_quiet_on)
          (go_big_quiet_want; apply Exists.intro; refine ⟨fun w' hS => ?_, ?_⟩; · obtain ⟨s0, s1, s2, s3, s4, sB⟩ := hS; (unfold Oper.quietAt; go_simp); first | done | rfl | exact ⟨rfl, rfl⟩)
          (try simp only [Act.put, List.setIfInBounds_toArray, List.set_cons_zero, List.set_cons_succ])
          go_big_quiet_on
          (go_big_quiet_want; go_big_quiet_op; go_big_quiet_on)
          go_big_quiet_skip
          go_big_quiet_skip
          go_big_quiet_skip
          go_big_quiet_skip
          go_big_quiet_skip
          go_big_quiet_skip
          go_big_quiet_skip
          go_big_quiet_skip
          go_big_quiet_skip
          go_big_quiet_skip
          (go_big_quiet_want; apply Exists.intro; refine ⟨fun w' hS => ?_, ?_⟩; · obtain ⟨s0, s1, s2, s3, s4, sB⟩ := hS; (unfold Oper.quietAt; go_simp); first | done | rfl | exact ⟨rfl, rfl⟩)
          (try simp only [Act.put, List.setIfInBounds_toArray, List.set_cons_zero, List.set_cons_succ])
          go_big_quiet_on
          (go_big_quiet_want; apply Exists.intro; refine ⟨fun w' hS => ?_, ?_⟩; · obtain ⟨s0, s1, s2, s3, s4, sB⟩ := hS; (unfold Oper.quietAt; go_simp); first | done | rfl | exact ⟨rfl, rfl⟩)
          (try simp only [Act.put, List.setIfInBounds_toArray, List.set_cons_zero, List.set_cons_succ])
          go_big_quiet_on
          refine wpQuiet_nil ?_
          intro w9 hS9
          have FB := Aside0.mk (fin _ hS9)
          clear hS9 fin hd0 cIs
          try go_wp2
          go_meet
          case rel => exact ⟨rfl, FB⟩
        · have HC := Aside0.mk hc
          have HT := Aside0.mk ht
          clear hc ht
          obtain ⟨j, rfl⟩ : ∃ j, i = j + 1 := ⟨i - 1, by omega⟩
          obtain ⟨ad2, hA2, y0, y1, y2⟩ := at_T72 HR.out (j : Int) (by omega) (by omega)
          obtain rfl : ad = ad2 := by injection hA2
          simp only [Int.toNat_natCast] at y0
          rw [Nat.add_sub_cancel] at hbd
          generalize hy : rd_T72 l0_1 (j : Int) = y at y0 hbd
          have YP : Aside0 (W1.cell? (ad.add (j * 3)) = some (.string y.f0)) := ⟨(GB.out.cell (World.block_lt_of_cell? w _ y0)).trans y0⟩
          have hj1 : ((j + 1 : Nat) : Int) - 1 = (j : Int) := by omega
          have hj2 : IntKind.i64.wrap ((j : Int) + 1 - 1) = (j : Int) := by rw [IntKind.wrap_i64]; have := HL.out; omega
          have hj3 : (0 : Int) < (j : Int) + 1 := by omega
          have hj4 : (j : Int) < (l0_1.length : Int) := by omega
          have hj5 : IntKind.i64.wrap (j : Int) = (j : Int) := by rw [IntKind.wrap_i64]; have := HL.out; omega
          have hj6 : wrap64 (((j + 1 : Nat) : Int) - 1) = (j : Int) := by rw [hj1]; exact Spec.wrap_id (by omega) (by have := HL.out; omega)
          have d3 : decide ((0 : Int) < ((j + 1 : Nat) : Int)) = true := decide_eq_true (by omega)
          clear y0 y1 y2 hA2 hy
          have toS : ∀ W, Below W1.heap.size W1 W → (W.cell? ⟨bf, 0, none⟩ = some (.string x.f0) ∧ W.cell? ⟨bf, 1, none⟩ = some (.int .i64 x.f1) ∧ W.cell? ⟨bf, 2, none⟩ = some (.int .i64 x.f2) ∧ W.cell? ⟨w.heap.size, 0, none⟩ = some (.int .i64 a0_0) ∧ W.cell? ⟨w.heap.size, 1, none⟩ = some (.slice (some ad) l0_1.length c0_1) ∧ W.cell? (ad.add (j * 3)) = some (.string y.f0) ∧ Below W1.heap.size W1 W) := fun W hB => ⟨(hB.cell (p := ⟨_, 0, none⟩) hbl).trans g0, (hB.cell (p := ⟨_, 1, none⟩) hbl).trans g1, (hB.cell (p := ⟨_, 2, none⟩) hbl).trans g2, (hB.cell (p := ⟨_, 0, none⟩) hwl).trans g3, (hB.cell (p := ⟨_, 1, none⟩) hwl).trans g4, (hB.cell (World.block_lt_of_cell? W1 _ YP.out)).trans YP.out, hB⟩
          have cIs : ∀ W, (W.cell? ⟨bf, 0, none⟩ = some (.string x.f0) ∧ W.cell? ⟨bf, 1, none⟩ = some (.int .i64 x.f1) ∧ W.cell? ⟨bf, 2, none⟩ = some (.int .i64 x.f2) ∧ W.cell? ⟨w.heap.size, 0, none⟩ = some (.int .i64 a0_0) ∧ W.cell? ⟨w.heap.size, 1, none⟩ = some (.slice (some ad) l0_1.length c0_1) ∧ W.cell? (ad.add (j * 3)) = some (.string y.f0) ∧ Below W1.heap.size W1 W) → Calls Tryd.prog 58 #[.string x.f0] W fun e w' => e = .returned (.bool true) ∧ (w'.cell? ⟨bf, 0, none⟩ = some (.string x.f0) ∧ w'.cell? ⟨bf, 1, none⟩ = some (.int .i64 x.f1) ∧ w'.cell? ⟨bf, 2, none⟩ = some (.int .i64 x.f2) ∧ w'.cell? ⟨w.heap.size, 0, none⟩ = some (.int .i64 a0_0) ∧ w'.cell? ⟨w.heap.size, 1, none⟩ = some (.slice (some ad) l0_1.length c0_1) ∧ w'.cell? (ad.add (j * 3)) = some (.string y.f0) ∧ Below W1.heap.size W1 w') := fun W hS => (crucibleref1_PathMay.calls k x.f0 true W HP.out).mono fun e w' ⟨he, hb⟩ => ⟨he, toS _ (below_then hS.2.2.2.2.2.2 hS.2.2.2.2.2.2.size hb)⟩
          have cCo : ∀ W, (W.cell? ⟨bf, 0, none⟩ = some (.string x.f0) ∧ W.cell? ⟨bf, 1, none⟩ = some (.int .i64 x.f1) ∧ W.cell? ⟨bf, 2, none⟩ = some (.int .i64 x.f2) ∧ W.cell? ⟨w.heap.size, 0, none⟩ = some (.int .i64 a0_0) ∧ W.cell? ⟨w.heap.size, 1, none⟩ = some (.slice (some ad) l0_1.length c0_1) ∧ W.cell? (ad.add (j * 3)) = some (.string y.f0) ∧ Below W1.heap.size W1 W) → Calls Tryd.prog 59 #[.int .i64 x.f1, .int .i64 0, .int .i64 2147483647] W fun e w' => e = .returned (.bool true) ∧ (w'.cell? ⟨bf, 0, none⟩ = some (.string x.f0) ∧ w'.cell? ⟨bf, 1, none⟩ = some (.int .i64 x.f1) ∧ w'.cell? ⟨bf, 2, none⟩ = some (.int .i64 x.f2) ∧ w'.cell? ⟨w.heap.size, 0, none⟩ = some (.int .i64 a0_0) ∧ w'.cell? ⟨w.heap.size, 1, none⟩ = some (.slice (some ad) l0_1.length c0_1) ∧ w'.cell? (ad.add (j * 3)) = some (.string y.f0) ∧ Below W1.heap.size W1 w') := fun W hS => (crucibleref12_upTo.calls x.f1 0 2147483647 true W HC.out).mono fun e w' ⟨he, hb⟩ => ⟨he, toS _ (below_then hS.2.2.2.2.2.2 hS.2.2.2.2.2.2.size hb.below)⟩
          have cTi : ∀ W, (W.cell? ⟨bf, 0, none⟩ = some (.string x.f0) ∧ W.cell? ⟨bf, 1, none⟩ = some (.int .i64 x.f1) ∧ W.cell? ⟨bf, 2, none⟩ = some (.int .i64 x.f2) ∧ W.cell? ⟨w.heap.size, 0, none⟩ = some (.int .i64 a0_0) ∧ W.cell? ⟨w.heap.size, 1, none⟩ = some (.slice (some ad) l0_1.length c0_1) ∧ W.cell? (ad.add (j * 3)) = some (.string y.f0) ∧ Below W1.heap.size W1 W) → Calls Tryd.prog 59 #[.int .i64 x.f2, .int .i64 1, .int .i64 a0_0] W fun e w' => e = .returned (.bool true) ∧ (w'.cell? ⟨bf, 0, none⟩ = some (.string x.f0) ∧ w'.cell? ⟨bf, 1, none⟩ = some (.int .i64 x.f1) ∧ w'.cell? ⟨bf, 2, none⟩ = some (.int .i64 x.f2) ∧ w'.cell? ⟨w.heap.size, 0, none⟩ = some (.int .i64 a0_0) ∧ w'.cell? ⟨w.heap.size, 1, none⟩ = some (.slice (some ad) l0_1.length c0_1) ∧ w'.cell? (ad.add (j * 3)) = some (.string y.f0) ∧ Below W1.heap.size W1 w') := fun W hS => (crucibleref12_upTo.calls x.f2 1 a0_0 true W HT.out).mono fun e w' ⟨he, hb⟩ => ⟨he, toS _ (below_then hS.2.2.2.2.2.2 hS.2.2.2.2.2.2.size hb.below)⟩
          have fin : ∀ W, (W.cell? ⟨bf, 0, none⟩ = some (.string x.f0) ∧ W.cell? ⟨bf, 1, none⟩ = some (.int .i64 x.f1) ∧ W.cell? ⟨bf, 2, none⟩ = some (.int .i64 x.f2) ∧ W.cell? ⟨w.heap.size, 0, none⟩ = some (.int .i64 a0_0) ∧ W.cell? ⟨w.heap.size, 1, none⟩ = some (.slice (some ad) l0_1.length c0_1) ∧ W.cell? (ad.add (j * 3)) = some (.string y.f0) ∧ Below W1.heap.size W1 W) → Below W1.heap.size W1 W := fun W hS => hS.2.2.2.2.2.2
          have hd0 := toS W1.drew (below_drew1 (Below.refl _ _))
          clear g0 g1 g2 g3 g4 toS
          refine rm_quiet_C (fun w' => w'.cell? ⟨bf, 0, none⟩ = some (.string x.f0) ∧ w'.cell? ⟨bf, 1, none⟩ = some (.int .i64 x.f1) ∧ w'.cell? ⟨bf, 2, none⟩ = some (.int .i64 x.f2) ∧ w'.cell? ⟨w.heap.size, 0, none⟩ = some (.int .i64 a0_0) ∧ w'.cell? ⟨w.heap.size, 1, none⟩ = some (.slice (some ad) l0_1.length c0_1) ∧ w'.cell? (ad.add (j * 3)) = some (.string y.f0) ∧ Below W1.heap.size W1 w') (by kernel_rfl) (by kernel_rfl) hd0 ?_
          (go_big_quiet_want; apply Exists.intro; refine ⟨fun w' hS => ?_, ?_⟩; · obtain ⟨s0, s1, s2, s3, s4, sp, sB⟩ := hS; (unfold Oper.quietAt; go_simp); first | done | rfl | exact ⟨rfl, rfl⟩)
          (try simp only [Act.put, List.setIfInBounds_toArray, List.set_cons_zero, List.set_cons_succ])
          go_big_quiet_on
          (go_big_quiet_want; refine ⟨.string x.f0, fun w' hS => ?_, ?_⟩; · obtain ⟨s0, s1, s2, s3, s4, sp, sB⟩ := hS; (unfold Oper.quietAt; go_simp))
          (try simp only [Act.put, List.setIfInBounds_toArray, List.set_cons_zero, List.set_cons_succ])
          go_big_quiet_on
          (go_big_quiet_want; refine ⟨.bool true, fun w' hS => ?_, ?_⟩; · exact rm_enters Tryd.func58 (by kernel_rfl) rfl _ _ _ _ _ #[.string x.f0] (by go_simp) (cIs _ hS))
          (try simp only [Act.put, List.setIfInBounds_toArray, List.set_cons_zero, List.set_cons_succ])
          go_big_quiet_on
          (go_big_quiet_want; apply Exists.intro; refine ⟨fun w' hS => ?_, ?_⟩; · obtain ⟨s0, s1, s2, s3, s4, sp, sB⟩ := hS; (unfold Oper.quietAt; go_simp); first | done | rfl | exact ⟨rfl, rfl⟩)
          (try simp only [Act.put, List.setIfInBounds_toArray, List.set_cons_zero, List.set_cons_succ])
          go_big_quiet_on
          (go_big_quiet_want; go_big_quiet_op; go_big_quiet_on)
          (go_big_quiet_want; apply Exists.intro; refine ⟨fun w' hS => ?_, ?_⟩; · obtain ⟨s0, s1, s2, s3, s4, sp, sB⟩ := hS; (unfold Oper.quietAt; go_simp); first | done | rfl | exact ⟨rfl, rfl⟩)
          (try simp only [Act.put, List.setIfInBounds_toArray, List.set_cons_zero, List.set_cons_succ])
          go_big_quiet_on
          (go_big_quiet_want; refine ⟨.int .i64 x.f1, fun w' hS => ?_, ?_⟩; · obtain ⟨s0, s1, s2, s3, s4, sp, sB⟩ := hS; (unfold Oper.quietAt; go_simp))
          (try simp only [Act.put, List.setIfInBounds_toArray, List.set_cons_zero, List.set_cons_succ])
          go_big_quiet_on
          (go_big_quiet_want; refine ⟨.bool true, fun w' hS => ?_, ?_⟩; · exact rm_enters Tryd.func59 (by kernel_rfl) rfl _ _ _ _ _ #[.int .i64 x.f1, .int .i64 0, .int .i64 2147483647] (by go_simp) (cCo _ hS))
          (try simp only [Act.put, List.setIfInBounds_toArray, List.set_cons_zero, List.set_cons_succ])
          go_big_quiet_on
          (go_big_quiet_want; apply Exists.intro; refine ⟨fun w' hS => ?_, ?_⟩; · obtain ⟨s0, s1, s2, s3, s4, sp, sB⟩ := hS; (unfold Oper.quietAt; go_simp); first | done | rfl | exact ⟨rfl, rfl⟩)
          (try simp only [Act.put, List.setIfInBounds_toArray, List.set_cons_zero, List.set_cons_succ])
          go_big_quiet_on
          (go_big_quiet_want; apply Exists.intro; refine ⟨fun w' hS => ?_, ?_⟩; · obtain ⟨s0, s1, s2, s3, s4, sp, sB⟩ := hS; (unfold Oper.quietAt; go_simp); first | done | rfl | exact ⟨rfl, rfl⟩)
          (try simp only [Act.put, List.setIfInBounds_toArray, List.set_cons_zero, List.set_cons_succ])
          go_big_quiet_on
          (go_big_quiet_want; go_big_quiet_op; go_big_quiet_on)
          (go_big_quiet_want; apply Exists.intro; refine ⟨fun w' hS => ?_, ?_⟩; · obtain ⟨s0, s1, s2, s3, s4, sp, sB⟩ := hS; (unfold Oper.quietAt; go_simp); first | done | rfl | exact ⟨rfl, rfl⟩)
          (try simp only [Act.put, List.setIfInBounds_toArray, List.set_cons_zero, List.set_cons_succ])
          go_big_quiet_on
          (go_big_quiet_want; refine ⟨.int .i64 x.f2, fun w' hS => ?_, ?_⟩; · obtain ⟨s0, s1, s2, s3, s4, sp, sB⟩ := hS; (unfold Oper.quietAt; go_simp))
          (try simp only [Act.put, List.setIfInBounds_toArray, List.set_cons_zero, List.set_cons_succ])
          go_big_quiet_on
          (go_big_quiet_want; apply Exists.intro; refine ⟨fun w' hS => ?_, ?_⟩; · obtain ⟨s0, s1, s2, s3, s4, sp, sB⟩ := hS; (unfold Oper.quietAt; go_simp); first | done | rfl | exact ⟨rfl, rfl⟩)
          (try simp only [Act.put, List.setIfInBounds_toArray, List.set_cons_zero, List.set_cons_succ])
          go_big_quiet_on
          (go_big_quiet_want; refine ⟨.int .i64 a0_0, fun w' hS => ?_, ?_⟩; · obtain ⟨s0, s1, s2, s3, s4, sp, sB⟩ := hS; (unfold Oper.quietAt; go_simp))
          (try simp only [Act.put, List.setIfInBounds_toArray, List.set_cons_zero, List.set_cons_succ])
          go_big_quiet_on
          (go_big_quiet_want; refine ⟨.bool true, fun w' hS => ?_, ?_⟩; · exact rm_enters Tryd.func59 (by kernel_rfl) rfl _ _ _ _ _ #[.int .i64 x.f2, .int .i64 1, .int .i64 a0_0] (by go_simp) (cTi _ hS))
          (try simp only [Act.put, List.setIfInBounds_toArray, List.set_cons_zero, List.set_cons_succ])
          go_big_quiet_on
          (go_big_quiet_want; apply Exists.intro; refine ⟨fun w' hS => ?_, ?_⟩; · obtain ⟨s0, s1, s2, s3, s4, sp, sB⟩ := hS; (unfold Oper.quietAt; go_simp); first | done | rfl | exact ⟨rfl, rfl⟩)
          (try simp only [Act.put, List.setIfInBounds_toArray, List.set_cons_zero, List.set_cons_succ])
          go_big_quiet_on
          (go_big_quiet_want; apply Exists.intro; refine ⟨fun w' hS => ?_, ?_⟩; · obtain ⟨s0, s1, s2, s3, s4, sp, sB⟩ := hS; (unfold Oper.quietAt; go_simp); first | done | rfl | exact ⟨rfl, rfl⟩)
          (try simp only [Act.put, List.setIfInBounds_toArray, List.set_cons_zero, List.set_cons_succ])
          go_big_quiet_on
          (go_big_quiet_want; go_big_quiet_op; go_big_quiet_on)
          (go_big_quiet_want; go_big_quiet_op; go_big_quiet_on)
          (go_big_quiet_want; apply Exists.intro; refine ⟨fun w' hS => ?_, ?_⟩; · obtain ⟨s0, s1, s2, s3, s4, sp, sB⟩ := hS; (unfold Oper.quietAt; go_simp); first | done | rfl | exact ⟨rfl, rfl⟩)
          (try simp only [Act.put, List.setIfInBounds_toArray, List.set_cons_zero, List.set_cons_succ])
          go_big_quiet_on
          (go_big_quiet_want; go_big_quiet_op; go_big_quiet_on)
          (go_big_quiet_want; apply Exists.intro; refine ⟨fun w' hS => ?_, ?_⟩; · obtain ⟨s0, s1, s2, s3, s4, sp, sB⟩ := hS; (unfold Oper.quietAt; go_simp); first | done | rfl | exact ⟨rfl, rfl⟩)
          (try simp only [Act.put, List.setIfInBounds_toArray, List.set_cons_zero, List.set_cons_succ])
          go_big_quiet_on
          (go_big_quiet_want; refine ⟨.slice (some ad) l0_1.length c0_1, fun w' hS => ?_, ?_⟩; · obtain ⟨s0, s1, s2, s3, s4, sp, sB⟩ := hS; (unfold Oper.quietAt; go_simp))
          (try simp only [Act.put, List.setIfInBounds_toArray, List.set_cons_zero, List.set_cons_succ])
          go_big_quiet_on
          (go_big_quiet_want; go_big_quiet_op; go_big_quiet_on)
          (go_big_quiet_want; apply Exists.intro; refine ⟨fun w' hS => ?_, ?_⟩; · obtain ⟨s0, s1, s2, s3, s4, sp, sB⟩ := hS; (unfold Oper.quietAt; go_simp); first | done | rfl | exact ⟨rfl, rfl⟩)
          (try simp only [Act.put, List.setIfInBounds_toArray, List.set_cons_zero, List.set_cons_succ])
          go_big_quiet_on
          (go_big_quiet_want; apply Exists.intro; refine ⟨fun w' hS => ?_, ?_⟩; · obtain ⟨s0, s1, s2, s3, s4, sp, sB⟩ := hS; (unfold Oper.quietAt; go_simp); first | done | rfl | exact ⟨rfl, rfl⟩)
          (try simp only [Act.put, List.setIfInBounds_toArray, List.set_cons_zero, List.set_cons_succ])
          go_big_quiet_on
          (go_big_quiet_want; apply Exists.intro; refine ⟨fun w' hS => ?_, ?_⟩; · obtain ⟨s0, s1, s2, s3, s4, sp, sB⟩ := hS; (unfold Oper.quietAt; go_simp); first | done | rfl | exact ⟨rfl, rfl⟩)
          (try simp only [Act.put, List.setIfInBounds_toArray, List.set_cons_zero, List.set_cons_succ])
          go_big_quiet_on
          (go_big_quiet_want; refine ⟨.string y.f0, fun w' hS => ?_, ?_⟩; · obtain ⟨s0, s1, s2, s3, s4, sp, sB⟩ := hS; (unfold Oper.quietAt; go_simp))
          (try simp only [Act.put, List.setIfInBounds_toArray, List.set_cons_zero, List.set_cons_succ])
          go_big_quiet_on
          (go_big_quiet_want; apply Exists.intro; refine ⟨fun w' hS => ?_, ?_⟩; · obtain ⟨s0, s1, s2, s3, s4, sp, sB⟩ := hS; (unfold Oper.quietAt; go_simp); first | done | rfl | exact ⟨rfl, rfl⟩)
          (try simp only [Act.put, List.setIfInBounds_toArray, List.set_cons_zero, List.set_cons_succ])
          go_big_quiet_on
          (go_big_quiet_want; refine ⟨.string x.f0, fun w' hS => ?_, ?_⟩; · obtain ⟨s0, s1, s2, s3, s4, sp, sB⟩ := hS; (unfold Oper.quietAt; go_simp))
          (try simp only [Act.put, List.setIfInBounds_toArray, List.set_cons_zero, List.set_cons_succ])
          go_big_quiet_on
          (go_big_quiet_want; apply Exists.intro; refine ⟨fun w' hS => ?_, ?_⟩; · obtain ⟨s0, s1, s2, s3, s4, sp, sB⟩ := hS; (unfold Oper.quietAt; go_simp); first | done | rfl | exact ⟨rfl, rfl⟩)
          (try simp only [Act.put, List.setIfInBounds_toArray, List.set_cons_zero, List.set_cons_succ])
          go_big_quiet_on
          (go_big_quiet_want; apply Exists.intro; refine ⟨fun w' hS => ?_, ?_⟩; · obtain ⟨s0, s1, s2, s3, s4, sp, sB⟩ := hS; (unfold Oper.quietAt; go_simp); first | done | rfl | exact ⟨rfl, rfl⟩)
          (try simp only [Act.put, List.setIfInBounds_toArray, List.set_cons_zero, List.set_cons_succ])
          go_big_quiet_on
          (go_big_quiet_want; apply Exists.intro; refine ⟨fun w' hS => ?_, ?_⟩; · obtain ⟨s0, s1, s2, s3, s4, sp, sB⟩ := hS; (unfold Oper.quietAt; go_simp); first | done | rfl | exact ⟨rfl, rfl⟩)
          (try simp only [Act.put, List.setIfInBounds_toArray, List.set_cons_zero, List.set_cons_succ])
          go_big_quiet_on
          refine wpQuiet_nil ?_
          intro w9 hS9
          have FB := Aside0.mk (fin _ hS9)
          clear hS9 fin hd0 cIs
          try go_wp2
          go_meet
          case rel => exact ⟨by rw [hbd], FB⟩
      case rest =>
        clear hcs g0 g1 g2 g3 g4
        obtain ⟨rfl, FB⟩ := hcut
        have GC : Aside0 (wc.heap[bf]? = some (rmF x.f0 x.f1 x.f2)) := ⟨(FB.out.block _ hbl).trans G.out⟩
        have GXC : Aside0 (wc.heap[w.heap.size]? = some (rmB a0_0 (.slice (some ad) l0_1.length c0_1))) := ⟨(FB.out.block _ hwl).trans GX.out⟩
        have GBC : Aside0 (Below w.heap.size w wc) := ⟨below_then GB.out GB.out.size FB.out⟩
        clear G GX GB FB
        cases bad with
        | true =>
          have hrb : false = rb := Option.some.inj (by have := HS.out; rw [if_pos rfl] at this; exact this)
          subst hrb
          have hr : false = r := Option.some.inj (by have := HRB.out; rw [if_neg (by simp)] at this; exact this)
          subst hr
          go_wp2
          go_ret
          exact ⟨rfl, GBC.out⟩
        | false =>
          have hs := HS.out
          rw [if_neg (by simp)] at hs
          have HS2 := Aside0.mk hs
          clear hs HS
          go_wp2
          go_loopg [5] i (fun gg s5 wr => ∃ j : Nat, j ≤ i ∧ i - j ≤ gg ∧ s5 = .int .i64 j ∧ Aside0 (rm_in l0_1 i x.f2 (i - j) = rm_in l0_1 i x.f2 i) ∧ Aside0 (wr.heap[bf]? = some (rmF x.f0 x.f1 x.f2)) ∧ Aside0 (wr.heap[w.heap.size]? = some (rmB a0_0 (.slice (some ad) l0_1.length c0_1))) ∧ Aside0 (Below w.heap.size w wr))
          case atStart => exact ⟨0, Nat.zero_le _, by omega, rfl, ⟨rfl⟩, GC, GXC, GBC⟩
          case round =>
            clear GC GXC GBC
            obtain ⟨j, hj, hg2, rfl, hin, hF, hD, hW⟩ := hrel
            by_cases hjl : j < i
            · have hjz : (j : Int) < (i : Int) := by omega
              have hjn : (j : Int) < (l0_1.length : Int) := by omega
              obtain ⟨ad2, hA2, y0, y1, y2⟩ := at_T72 HR.out (j : Int) (by omega) hjn
              obtain rfl : ad = ad2 := by injection hA2
              obtain ⟨m, hm⟩ : ∃ m, i - j = m + 1 := ⟨i - j - 1, by omega⟩
              have hi2 := hin.out
              rw [hm, rm_in, ← hm, show i - (i - j) = j by omega] at hi2
              generalize rd_T72 l0_1 (j : Int) = y at y2 hi2
              replace y2 := (hW.out.cell (World.block_lt_of_cell? w _ y2)).trans y2
              simp only [Int.toNat_natCast] at y2
              have f2 : wr.cell? ⟨bf, 2, none⟩ = some (.int .i64 x.f2) := by rw [blk_cell hF.out]; rfl
              have e1 : wr.cell? ⟨w.heap.size, 1, none⟩ = some (.slice (some ad) l0_1.length c0_1) := by rw [blk_cell hD.out]; rfl
              clear y0 y1 hA2
              by_cases hq : y.f2 = x.f2
              · rw [if_pos hq] at hi2
                have HI := Aside0.mk hi2
                clear hi2
                have hrb : false = rb := Option.some.inj (by have := HS2.out; rw [← HI.out, if_pos rfl] at this; exact this)
                subst hrb
                have hr : false = r := Option.some.inj (by have := HRB.out; rw [if_neg (by simp)] at this; exact this)
                subst hr
                have hq2 : (y.f2 == x.f2) = true := by simpa using hq
                go_wp2
                go_quiet (fail)
                go_wp2
                go_ret
                exact ⟨rfl, pw_below_drewN hW.out _⟩
              · rw [if_neg hq] at hi2
                have HI := Aside0.mk hi2
                clear hi2
                have hq2 : (y.f2 == x.f2) = false := by simpa using hq
                go_wp2
                go_quiet (fail)
                go_wp2
                go_roundg (i - (j + 1))
                case measure => omega
                case rel => exact ⟨j + 1, by omega, by omega, by first | rfl | (congr 1; have := HL.out; unfold wrap64; omega), ⟨by rw [show i - (j + 1) = m by omega]; exact HI.out⟩, ⟨blk_drewN hF.out _⟩, ⟨blk_drewN hD.out _⟩, ⟨pw_below_drewN hW.out _⟩⟩
            · obtain rfl : j = i := by omega
              have hi2 := hin.out
              rw [Nat.sub_self, rm_in] at hi2
              have HI := Aside0.mk hi2
              clear hi2
              have hgo : rm_go k a0_0 l0_1 n' = some rb := by
                have := HS2.out
                rw [← HI.out, if_neg (by simp)] at this
                exact this
              have HGO := Aside0.mk hgo
              clear hgo HS2
              have hjz : ¬ (j : Int) < (j : Int) := by omega
              go_wp2
              go_roundg (l0_1.length - (j + 1))
              case measure => omega
              case rel => exact ⟨j + 1, by omega, by omega, by first | rfl | (congr 1; have := HL.out; unfold wrap64; omega), ⟨by rw [show l0_1.length - (j + 1) = n' by omega]; exact HGO.out⟩, hD, hW⟩
    · have he : i = l0_1.length := by omega
      subst he
      have hltz : ¬ (l0_1.length : Int) < (l0_1.length : Int) := by omega
      have hrb : true = rb := Option.some.inj (by have := hE.out; rwa [Nat.sub_self, rm_go] at this)
      subst hrb
      have hr : (decide (0 ≤ a0_0) && decide (a0_0 ≤ 1048576) && decide (l0_1.length ≤ 64)) = r := Option.some.inj (by have := HRB.out; rwa [if_pos rfl] at this)
      have z0 : wr.cell? ⟨w.heap.size, 0, none⟩ = some (.int .i64 a0_0) := by rw [blk_cell hX.out]; rfl
      have z1 : wr.cell? ⟨w.heap.size, 1, none⟩ = some (.slice A0_1 l0_1.length c0_1) := by rw [blk_cell hX.out]; rfl
      have cU := crucibleref12_upTo.calls a0_0 0 1048576 _ wr (rm_upTo a0_0 0 1048576)
      by_cases q0 : 0 ≤ a0_0 ∧ a0_0 ≤ 1048576
      · rw [decide_eq_true q0] at cU
        have hr2 : decide ((l0_1.length : Int) ≤ 64) = r := by
          rw [← hr, decide_eq_true q0.1, decide_eq_true q0.2]
          simp only [Bool.true_and, decide_eq_decide]
          omega
        have hq1 := q0.1
        have hq2 := q0.2
        clear hr q0
        go_wp2_with (go_at_call 59; refine cU.mono ?_; rintro e w9 ⟨rfl, hd9⟩; have z3 := (hd9.below.cell (p := ⟨w.heap.size, 1, none⟩) (blk_lt hX.out)).trans z1; have HD9 := Aside0.mk hd9; clear hd9 cU)
        go_ret
        exact ⟨by subst hr2; rfl, below_then hB.out hB.out.size HD9.out.below⟩
      · rw [decide_eq_false q0] at cU
        have hr2 : false = r := by
          rw [← hr]
          by_cases h1 : 0 ≤ a0_0
          · rw [decide_eq_true h1, decide_eq_false (fun h2 => q0 ⟨h1, h2⟩)]; rfl
          · rw [decide_eq_false h1]; rfl
        subst hr2
        clear hr
        go_wp2_with (go_at_call 59; refine cU.mono ?_; rintro e w9 ⟨rfl, hd9⟩; have HD9 := Aside0.mk hd9; clear hd9 cU)
        go_ret
        exact ⟨rfl, below_then hB.out hB.out.size HD9.out.below⟩

end Go.Proofs.YtilnamobmjngbaaDoor.P
