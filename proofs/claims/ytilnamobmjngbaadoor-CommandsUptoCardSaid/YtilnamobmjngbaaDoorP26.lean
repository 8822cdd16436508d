-- Made by a program of this work's own (wip/myprint.py) over the kit's print; leaves by hand.
import Derived.Test.YtilnamobmjngbaaDoorP0
import Derived.Test.YtilnamobmjngbaaDoorP24
import Derived.BigQuiet
namespace Go.Proofs.YtilnamobmjngbaaDoor.P
open Go.RowKit Go.Proofs.YtilnamobmjngbaaDoorW.PrintWords Go.Proofs.YtilnamobmjngbaaDoorW.PrintLast Go.Proofs.YtilnamobmjngbaaDoorW.PrintMore
attribute [local go_sem] max2_int min2_int max_two min_two max_three min_three max_four min_four   -- for this text's walks alone
set_option linter.unusedVariables false
set_option linter.unusedSimpArgs false

-- HANDBIG SameActions.lean
-- IMPORT Derived.BigQuiet
/-! ### cruciblelaw0_SameActions, by hand -/
def cruciblelaw0_SameActions.l0 : Nat → List (S33) → List (S33) → Int → Option (Bool)
  | 0, _, _, _ => none
  | k + 1, x0, x1, x5 => if x5 < (x0.length : Int) then (if 0 ≤ x5 then (if x5 < (x1.length : Int) then (if ((rd_T33 x0 x5).f0).toList = ((rd_T33 x1 x5).f0).toList then (if (((rd_T33 x0 x5).f2) != ((rd_T33 x1 x5).f2)) = true then (some false) else ((cruciblelaw0_SameTexts.f k ((rd_T33 x0 x5).f1) ((rd_T33 x1 x5).f1)).bind fun t278 => (if t278 = true then (cruciblelaw0_SameActions.l0 k x0 x1 (wrap64 (x5 + 1))) else (some false)))) else (some false)) else (none)) else (none)) else (some true)
def cruciblelaw0_SameActions.f (k : Nat) (l0 : List (S33)) (l1 : List (S33)) : Option (Bool) := if (l0.length : Int) = (l1.length : Int) then (cruciblelaw0_SameActions.l0 k l0 l1 0) else (some false)
set_option maxRecDepth 100000 in
theorem cruciblelaw0_SameActions.mono_l : ∀ k y0 y1 y2, LeO (cruciblelaw0_SameActions.l0 k y0 y1 y2) (cruciblelaw0_SameActions.l0 (k + 1) y0 y1 y2)
  | 0 => fun _ _ _ r h => by simp [cruciblelaw0_SameActions.l0] at h
  | k + 1 => fun _ _ _ => LeO.ite (LeO.ite (LeO.ite (LeO.ite (LeO.ite (LeO.refl _) (LeO.bind (cruciblelaw0_SameTexts.mono _ _ _) fun _ => LeO.ite (cruciblelaw0_SameActions.mono_l k _ _ _) (LeO.refl _))) (LeO.refl _)) (LeO.refl _)) (LeO.refl _)) (LeO.refl _)
theorem cruciblelaw0_SameActions.mono : ∀ a0 a1 k, LeO (cruciblelaw0_SameActions.f k a0 a1) (cruciblelaw0_SameActions.f (k + 1) a0 a1) := fun _ _ k => LeO.ite (cruciblelaw0_SameActions.mono_l k _ _ _) (LeO.refl _)
theorem sa_quiet {P : Program} {id : Nat} {Q : Exit → Act → World → Prop} {a : Act} {w : World} {l : List Oper} (C : World → Prop) (hm : P.follows .mixedOrders = true) (hB : Region.lexB .any l.toArray = true) (hC : C w.drew)
    (h : wpQuiet P l.toArray C (fun a' => ∀ w', C w' → Q .normal a' w') l a) : (Code.region id l.toArray true).wp P Q a w :=
  wp_region_quiet (C := C) hm hB hC (by simpa using h)
theorem sa_enters {f : FuncId} {P : Program} {fn : Func} (hf : P.funcs[f]? = some fn) (hname : (fn.name == "runtime.NumGoroutine") = false) (hb : fn.body.isSome = true) (C : World → Prop) (o : Oper) (a : Act) (w : World) (v : Value) (args : Array Value) (hr : (execOp a.eval o).run P w = .ok (.enter f args) w)
    (h : Calls P f args w fun e w' => e = .returned v ∧ C w') : o.quietAt P a C w v := by
  unfold Oper.quietAt
  rw [hr]
  exact ⟨rfl, h⟩
/-- what stands in the two rows at a place -/
abbrev saC (w : World) (p q : Addr) (x y : S33) (A B : Option Addr) (c d : Nat) (w' : World) : Prop :=
  w'.cell? p = some (.string x.f0) ∧ w'.cell? ⟨p.block, p.off + 1, none⟩ = some (.slice A x.f1.length c) ∧ w'.cell? ⟨p.block, p.off + 2, none⟩ = some (.bool x.f2) ∧
  w'.cell? q = some (.string y.f0) ∧ w'.cell? ⟨q.block, q.off + 1, none⟩ = some (.slice B y.f1.length d) ∧ w'.cell? ⟨q.block, q.off + 2, none⟩ = some (.bool y.f2) ∧ Below w.heap.size w w'
set_option maxHeartbeats 8000000 in
set_option maxRecDepth 100000 in
theorem cruciblelaw0_SameActions.calls (k : Nat) (A0 : Option Addr) (c0 : Nat) (l0 : List (S33)) (A1 : Option Addr) (c1 : Nat) (l1 : List (S33)) (r : Bool) (w : World) (hr0 : Kd.C k33 w A0 l0.length l0) (hc0 : l0.length ≤ c0) (hr1 : Kd.C k33 w A1 l1.length l1) (hc1 : l1.length ≤ c1) (h : cruciblelaw0_SameActions.f k l0 l1 = some r) :
    Calls Tryd.prog 29 #[.slice A0 l0.length c0, .slice A1 l1.length c1] w fun e w' => e = .returned (.bool r) ∧ Below w.heap.size w w' := by
  have HR0 := Aside0.mk hr0
  have HR1 := Aside0.mk hr1
  have HB := Aside0.mk (Below.refl w.heap.size w)
  have H : (if (l0.length : Int) = (l1.length : Int) then (cruciblelaw0_SameActions.l0 k l0 l1 0) else (some false)) = some r := h
  clear h hr0 hc0 hr1 hc1
  by_cases c3 : (l0.length : Int) = (l1.length : Int)
  · rw [if_pos c3] at H
    have c3b1 : ((l0.length : Int) != (l1.length : Int)) = false := bne_eq_false_iff_eq.mpr c3
    clear c3
    have H' := Aside0.mk H
    clear H
    go_enter Tryd.func29, Tryd.ntmps29
    go_wp2
    go_loopg [5] k (fun kq v5 w' => ∃ i : Int, v5 = .int .i64 i ∧ Aside0 (cruciblelaw0_SameActions.l0 kq l0 l1 i = some r) ∧ Aside0 (kq ≤ k) ∧ Aside0 (Below w.heap.size w w'))
    case atStart => exact ⟨0, rfl, H', ⟨Nat.le_refl _⟩, HB⟩
    case round =>
      clear H' c3b1 HB
      obtain ⟨i, rfl, HA, HK, HB⟩ := hrel
      cases gk with
      | zero => exact absurd HA.out (by simp [cruciblelaw0_SameActions.l0])
      | succ k1 =>
        have H := HA.out
        clear HA
        simp only [cruciblelaw0_SameActions.l0] at H
        by_cases c4 : i < (l0.length : Int)
        · rw [if_pos c4] at H
          by_cases c5 : 0 ≤ i
          · rw [if_pos c5] at H
            by_cases c6 : i < (l1.length : Int)
            · rw [if_pos c6] at H
              obtain ⟨p0, B0, d0, rfl, x0, x1, x2, xl, xC⟩ := at_T33 HR0.out i c5 c4
              obtain ⟨q0, B1, d1, rfl, y0, y1, y2, yl, yC⟩ := at_T33 HR1.out i c5 c6
              have hw := HB.out
              replace x0 := (hw.cell (World.block_lt_of_cell? w _ x0)).trans x0
              replace x1 := (hw.cell (World.block_lt_of_cell? w _ x1)).trans x1
              replace x2 := (hw.cell (World.block_lt_of_cell? w _ x2)).trans x2
              replace y0 := (hw.cell (World.block_lt_of_cell? w _ y0)).trans y0
              replace y1 := (hw.cell (World.block_lt_of_cell? w _ y1)).trans y1
              replace y2 := (hw.cell (World.block_lt_of_cell? w _ y2)).trans y2
              clear hw
              generalize hx : rd_T33 l0 i = x at x0 x1 x2 xl xC H
              generalize hy : rd_T33 l1 i = y at y0 y1 y2 yl yC H
              have HX := Aside0.mk hx
              have HY := Aside0.mk hy
              have XC := Aside0.mk (Kd.C_below xC HB.out)
              have YC := Aside0.mk (Kd.C_below yC HB.out)
              have XL := Aside0.mk xl
              have YL := Aside0.mk yl
              have HH := Aside0.mk H
              clear hx hy xC yC xl yl H
              go_upto_region 6 with fail
              have toS : ∀ W, Below wr.heap.size wr W → saC wr (p0.add (i.toNat * 3)) (q0.add (i.toNat * 3)) x y B0 B1 d0 d1 W := fun W hB => ⟨(hB.cell (World.block_lt_of_cell? wr _ x0)).trans x0, (hB.cell (World.block_lt_of_cell? wr _ x1)).trans x1, (hB.cell (World.block_lt_of_cell? wr _ x2)).trans x2, (hB.cell (World.block_lt_of_cell? wr _ y0)).trans y0, (hB.cell (World.block_lt_of_cell? wr _ y1)).trans y1, (hB.cell (World.block_lt_of_cell? wr _ y2)).trans y2, hB⟩
              have hd0 := toS wr.drew (below_drew1 (Below.refl _ _))
              clear x0 x1 x2 y0 y1 y2
              have H := HH.out
              clear HH
              by_cases c7 : x.f0.toList = y.f0.toList
              · rw [if_pos c7] at H
                have c7b : (x.f0.toList != y.f0.toList) = false := bne_eq_false_iff_eq.mpr c7
                have c7c : (x.f0.toList == y.f0.toList) = true := beq_iff_eq.mpr c7
                clear c7
                by_cases c8 : (x.f2 != y.f2) = true
                · rw [if_pos c8] at H
                  have c8b : (x.f2 == y.f2) = false := by simpa using c8
                  have c8c : ¬ x.f2 = y.f2 := by simpa using c8
                  clear toS
                  obtain rfl := Option.some.inj H
                  refine sa_quiet (saC wr (p0.add (i.toNat * 3)) (q0.add (i.toNat * 3)) x y B0 B1 d0 d1) (by kernel_rfl) (by kernel_rfl) hd0 ?_
                  repeat (first | (go_big_quiet_want; go_big_quiet_op; go_big_quiet_on) | ((go_big_quiet_want; apply Exists.intro; refine ⟨fun w' hS => ?_, ?_⟩; · obtain ⟨s0, s1, s2, s3, s4, s5, sB⟩ := hS; (unfold Oper.quietAt; go_simp); first | done | rfl | exact ⟨rfl, rfl⟩); (try simp only [Act.put, List.setIfInBounds_toArray, List.set_cons_zero, List.set_cons_succ]); go_big_quiet_on) | go_big_quiet_skip)
                  refine wpQuiet_nil ?_
                  intro w9 hS9
                  have F9 := Aside0.mk hS9.2.2.2.2.2.2
                  clear hS9 hd0
                  go_wp2
                  try go_ret
                  exact ⟨rfl, below_then HB.out HB.out.size F9.out⟩
                · rw [if_neg c8] at H
                  have c8a : (x.f2 != y.f2) = false := Bool.eq_false_iff.mpr c8
                  have c8b : (x.f2 == y.f2) = true := by simpa using c8a
                  have c8c : x.f2 = y.f2 := by simpa using c8a
                  clear c8 c8c
                  obtain ⟨t, ht, H⟩ := Option.bind_eq_some_iff.1 H
                  have cS : ∀ W, saC wr (p0.add (i.toNat * 3)) (q0.add (i.toNat * 3)) x y B0 B1 d0 d1 W → Calls Tryd.prog 24 #[.slice B0 x.f1.length d0, .slice B1 y.f1.length d1] W fun e w' => e = .returned (.bool t) ∧ saC wr (p0.add (i.toNat * 3)) (q0.add (i.toNat * 3)) x y B0 B1 d0 d1 w' := fun W hW =>
                    (cruciblelaw0_SameTexts.calls k1 B0 d0 x.f1 B1 d1 y.f1 t W (Kd.C_below XC.out hW.2.2.2.2.2.2) XL.out (Kd.C_below YC.out hW.2.2.2.2.2.2) YL.out ht).mono fun e w' hh => ⟨hh.1, toS w' (below_then hW.2.2.2.2.2.2 hW.2.2.2.2.2.2.size (hh.2.below))⟩
                  clear toS ht
                  have HH := Aside0.mk H
                  clear H
                  refine sa_quiet (saC wr (p0.add (i.toNat * 3)) (q0.add (i.toNat * 3)) x y B0 B1 d0 d1) (by kernel_rfl) (by kernel_rfl) hd0 ?_
                  repeat (first | (go_big_quiet_want; go_big_quiet_op; go_big_quiet_on) | ((go_big_quiet_want; apply Exists.intro; refine ⟨fun w' hS => ?_, ?_⟩; · obtain ⟨s0, s1, s2, s3, s4, s5, sB⟩ := hS; (unfold Oper.quietAt; go_simp); first | done | rfl | exact ⟨rfl, rfl⟩); (try simp only [Act.put, List.setIfInBounds_toArray, List.set_cons_zero, List.set_cons_succ]); go_big_quiet_on) | ((go_big_quiet_want; refine ⟨.bool t, fun w' hS => ?_, ?_⟩; · exact sa_enters Tryd.func24 (by kernel_rfl) rfl _ _ _ _ _ #[.slice B0 x.f1.length d0, .slice B1 y.f1.length d1] (by go_simp) (cS _ hS)); (try simp only [Act.put, List.setIfInBounds_toArray, List.set_cons_zero, List.set_cons_succ]); go_big_quiet_on) | go_big_quiet_skip)
                  refine wpQuiet_nil ?_
                  intro w9 hS9
                  have F9 := Aside0.mk hS9.2.2.2.2.2.2
                  clear hS9 hd0 cS
                  cases t with
                  | true =>
                    have H := HH.out
                    rw [if_pos rfl] at H
                    have HN := Aside0.mk H
                    clear H HH
                    go_wp2
                    go_roundg k1
                    case measure => omega
                    case rel => exact ⟨wrap64 (i + 1), rfl, HN, ⟨by have := HK.out; omega⟩, ⟨below_then HB.out HB.out.size F9.out⟩⟩
                  | false =>
                    have H := HH.out
                    rw [if_neg (by simp)] at H
                    obtain rfl := Option.some.inj H
                    clear HH
                    go_wp2
                    try go_ret
                    exact ⟨rfl, below_then HB.out HB.out.size F9.out⟩
              · rw [if_neg c7] at H
                have c7b : (x.f0.toList != y.f0.toList) = true := bne_iff_ne.mpr c7
                have c7c : (x.f0.toList == y.f0.toList) = false := beq_eq_false_iff_ne.mpr c7
                clear c7 toS
                obtain rfl := Option.some.inj H
                refine sa_quiet (saC wr (p0.add (i.toNat * 3)) (q0.add (i.toNat * 3)) x y B0 B1 d0 d1) (by kernel_rfl) (by kernel_rfl) hd0 ?_
                repeat (first | (go_big_quiet_want; go_big_quiet_op; go_big_quiet_on) | ((go_big_quiet_want; apply Exists.intro; refine ⟨fun w' hS => ?_, ?_⟩; · obtain ⟨s0, s1, s2, s3, s4, s5, sB⟩ := hS; (unfold Oper.quietAt; go_simp); first | done | rfl | exact ⟨rfl, rfl⟩); (try simp only [Act.put, List.setIfInBounds_toArray, List.set_cons_zero, List.set_cons_succ]); go_big_quiet_on) | go_big_quiet_skip)
                refine wpQuiet_nil ?_
                intro w9 hS9
                have F9 := Aside0.mk hS9.2.2.2.2.2.2
                clear hS9 hd0
                go_wp2
                try go_ret
                exact ⟨rfl, below_then HB.out HB.out.size F9.out⟩
            · rw [if_neg c6] at H; cases H
          · rw [if_neg c5] at H; cases H
        · rw [if_neg c4] at H
          obtain rfl := Option.some.inj H
          have c4b : decide (i < (l0.length : Int)) = false := decide_eq_false c4
          clear c4
          go_wp2
          try go_ret
          exact ⟨rfl, HB.out⟩
  · rw [if_neg c3] at H
    have c3b1 : ((l0.length : Int) != (l1.length : Int)) = true := bne_iff_ne.mpr c3
    clear c3
    obtain rfl := Option.some.inj H
    go_enter Tryd.func29, Tryd.ntmps29
    go_wp2
    try go_ret
    exact ⟨rfl, HB.out⟩

end Go.Proofs.YtilnamobmjngbaaDoor.P
