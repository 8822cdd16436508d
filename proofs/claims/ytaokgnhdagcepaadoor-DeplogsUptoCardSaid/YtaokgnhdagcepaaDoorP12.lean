-- Made by a program of this work's own (wip/myprint.py) over the kit's print; leaves by hand.
import Derived.Test.YtaokgnhdagcepaaDoorP0
import Derived.Test.YtaokgnhdagcepaaDoorP9
import Derived.Test.YtaokgnhdagcepaaDoorP11
import Derived.Test.YtaokgnhdagcepaaDoorMg1
namespace Go.Proofs.YtaokgnhdagcepaaDoor.P
open Go.RowKit Go.Proofs.YtaokgnhdagcepaaDoorW.PrintWords Go.Proofs.YtaokgnhdagcepaaDoorW.PrintLast Go.Proofs.YtaokgnhdagcepaaDoorW.PrintMore
attribute [local go_sem] max2_int min2_int max_two min_two max_three min_three max_four min_four   -- for this text's walks alone
set_option linter.unusedVariables false
set_option linter.unusedSimpArgs false

/-! ### crucibleref12_DepsText: function 6 -/
def crucibleref12_DepsText.l0 : Nat → List (S32) → ByteArray → Int → Option (ByteArray × Int)
 | 0, _, _, _ => none
 | k + 1, x0, x4, x5 => if x5 < (x0.length : Int) then (if 0 ≤ x5 then ((crucibleref12_PutFound.f k ((rd_T32 x0 x5).f0) ((rd_T32 x0 x5).f1) ((rd_T32 x0 x5).f2)).bind fun bt218 => (if x4.size + bt218.1.size ≤ 9223372036854775807 then (crucibleref12_DepsText.l0 k x0 (x4 ++ bt218.1) (wrap64 (x5 + 1))) else (none))) else (none)) else (some (x4, 0))
def crucibleref12_DepsText.f (k : Nat) (l0 : List (S32)) : Option (ByteArray × Int) := (crucibleref12_DepsMay.f k l0).bind fun t216 => (if t216 = true then (crucibleref12_DepsText.l0 k l0 (⟨#[]⟩ : ByteArray) 0) else (some ((⟨#[]⟩ : ByteArray), 1600)))
set_option maxRecDepth 100000 in
theorem crucibleref12_DepsText.mono_l : ∀ k, (∀ y0 y1 y2, LeO (crucibleref12_DepsText.l0 k y0 y1 y2) (crucibleref12_DepsText.l0 (k + 1) y0 y1 y2))
 | 0 => fun _ _ _ r h => by simp [crucibleref12_DepsText.l0] at h
 | k + 1 => by
  have ih0 := crucibleref12_DepsText.mono_l k
  ·
   intro y0 y1 y2
   unfold crucibleref12_DepsText.l0
   repeat' first
   | (with_reducible exact ih0 _ _ _)
   | (with_reducible exact crucibleref12_DepsMay.mono _ _)
   | (with_reducible exact crucibleref12_PutFound.mono _ _ _ _)
   | (with_reducible exact LeO.refl _)
   | (with_reducible exact LeO.none _)
   | (with_reducible refine LeO.ite ?_ ?_)
   | (with_reducible refine LeO.bind ?_ (fun _ => ?_))
   | exact ih0 _ _ _
   | exact crucibleref12_DepsMay.mono _ _
   | exact crucibleref12_PutFound.mono _ _ _ _
   | exact LeO.none _
   | refine LeO.ite ?_ ?_
   | refine LeO.bind ?_ (fun _ => ?_)
theorem crucibleref12_DepsText.mono : ∀ a0 k, LeO (crucibleref12_DepsText.f k a0) (crucibleref12_DepsText.f (k + 1) a0) := by
 intro a0 k
 have ih0 := crucibleref12_DepsText.mono_l k
 unfold crucibleref12_DepsText.f
 repeat' first
   | (with_reducible exact ih0 _ _ _)
   | (with_reducible exact crucibleref12_DepsMay.mono _ _)
   | (with_reducible exact crucibleref12_PutFound.mono _ _ _ _)
   | (with_reducible exact LeO.refl _)
   | (with_reducible exact LeO.none _)
   | (with_reducible refine LeO.ite ?_ ?_)
   | (with_reducible refine LeO.bind ?_ (fun _ => ?_))
   | exact ih0 _ _ _
   | exact crucibleref12_DepsMay.mono _ _
   | exact crucibleref12_PutFound.mono _ _ _ _
   | exact LeO.none _
   | refine LeO.ite ?_ ?_
   | refine LeO.bind ?_ (fun _ => ?_)
set_option maxHeartbeats 8000000 in
set_option maxRecDepth 100000 in
theorem crucibleref12_DepsText.calls (k : Nat) (A0 : Option Addr) (c0 : Nat) (l0 : List (S32)) (r1 : ByteArray) (r2 : Int) (w : World) (hr0 : Kd.C k32 w A0 l0.length l0) (hc0 : l0.length ≤ c0) (h : crucibleref12_DepsText.f k l0 = some (r1, r2)) :
  Calls Tryd.prog 6 #[.slice A0 l0.length c0] w fun e w' => e = .returned (.tuple #[.string r1, .int .i64 r2]) ∧ Below w.heap.size w w' := by
 have hu32 := Tryd.underlying32
 have HR0 := Aside0.mk hr0
 have HC0 := Aside0.mk hc0
 clear hr0 hc0
 have HB := Aside0.mk (Below.refl w.heap.size w)
 have H : ((crucibleref12_DepsMay.f k l0).bind fun t216 => (if t216 = true then (crucibleref12_DepsText.l0 k l0 (⟨#[]⟩ : ByteArray) 0) else (some ((⟨#[]⟩ : ByteArray), 1600)))) = some (r1, r2) := h
 clear h
 replace H := Option.bind_eq_some_iff.mp H
 obtain ⟨t216, A20, H⟩ := H
 replace H : (if t216 = true then (crucibleref12_DepsText.l0 k l0 (⟨#[]⟩ : ByteArray) 0) else (some ((⟨#[]⟩ : ByteArray), 1600))) = some (r1, r2) := H
 have A2 := Aside0.mk A20
 clear A20
 by_cases c3 : t216 = true
 ·
  subst c3
  have H1 : (crucibleref12_DepsText.l0 k l0 (⟨#[]⟩ : ByteArray) 0) = some (r1, r2) := by rw [if_pos rfl] at H; exact H
  clear H
  have H := H1
  clear H1
  have H' := Aside0.mk H
  clear H
  go_enter Tryd.func6, Tryd.ntmps6
  go_wp2_with (first | ((with_reducible refine gate_callee (f := 17) rfl ?_); refine goesL_ (some 9) rfl rfl Tryd.func17 (by kernel_rfl) rfl #[.slice A0 l0.length c0] rfl (by (try simp only [List.map_toArray, List.map_cons, List.map_nil]); first | done | rfl | (simp only [List.length_drop, List.length_take]; rfl)) ?_; (with_reducible refine (crucibleref12_DepsMay.calls k _ _ l0 true _ ?side1 ?side2 A2.out).mono ?_); (case side1 => repeat (first | exact HR0.out | (with_reducible refine Kd.C_alloc ?_ _) | (with_reducible refine Kd.C_drewN ?_ _) | (with_reducible refine Kd.C_drew ?_))); (case side2 => exact HC0.out); rintro e w4 ⟨rfl, hb⟩; refine ⟨_, rfl, ?_⟩; have n0_ := Aside0.mk (below_step (by repeat (first | (with_reducible first | exact HB.out | apply below_alloc | apply pw_below_drewN | apply below_drew1) | exact HB.out)) hb); clear HB; have HB := n0_; clear n0_; (try clear hb); (try clear hb2); (try clear hk); (try clear hi)))
  go_loopg [4, 5] k (fun kq v4 v5 w' => ∃ (x4_1 : ByteArray) (x5_1 : Int), v4 = .string x4_1 ∧ v5 = .int .i64 x5_1 ∧ Aside0 (crucibleref12_DepsText.l0 kq l0 x4_1 x5_1 = some (r1, r2)) ∧ Aside0 (kq ≤ k) ∧ Aside0 (Below w.heap.size w w'))
  case atStart => exact ⟨((⟨#[]⟩ : ByteArray)), (0), (by first | rfl | (simp; done) | (simp [*]; done)), (by first | rfl | (simp; done) | (simp [*]; done)), H', ⟨Nat.le_refl _⟩, ⟨by repeat (first | (with_reducible first | exact HB.out | apply below_alloc | apply pw_below_drewN | apply below_drew1) | exact HB.out)⟩⟩
  case round =>
   clear H'
   try clear c1
   try clear p2
   try clear c3
   obtain ⟨x4_1, x5_1, rfl, rfl, HA, HK1, HB⟩ := hrel
   cases gk with
   | zero => exact absurd HA.out (by simp [crucibleref12_DepsText.l0])
   | succ k1 =>
    have H := HA.out
    clear HA
    simp only [crucibleref12_DepsText.l0] at H
    by_cases c5 : x5_1 < (l0.length : Int)
    ·
     rw [if_pos c5] at H
     have c5b0 : decide (x5_1 < (l0.length : Int)) = true := decide_eq_true c5
     clear c5
     by_cases c6 : 0 ≤ x5_1
     ·
      rw [if_pos c6] at H
      have c6b0 : decide (0 ≤ x5_1) = true := decide_eq_true c6
      clear c6
      replace H := Option.bind_eq_some_iff.mp H
      obtain ⟨⟨t218, t219⟩, A70, H⟩ := H
      replace H : (if x4_1.size + t218.size ≤ 9223372036854775807 then (crucibleref12_DepsText.l0 k1 l0 (x4_1 ++ t218) (wrap64 (x5_1 + 1))) else (none)) = some (r1, r2) := H
      have A7 := Aside0.mk A70
      clear A70
      by_cases c8 : x4_1.size + t218.size ≤ 9223372036854775807
      ·
       rw [if_pos c8] at H
       have c8b0 := eq_true c8
       have c8b1 : decide (x4_1.size + t218.size ≤ 9223372036854775807) = true := decide_eq_true c8
       try have c8b2 : (9223372036854775807 < x4_1.size + t218.size) = False := eq_false (Nat.not_lt.2 c8)
       have H' := Aside0.mk H
       clear H
       have p217 : 0 ≤ (x5_1 : Int) := of_decide_eq_true (by first | (with_reducible assumption) | assumption)
       have q217 : x5_1 < (l0.length : Int) := of_decide_eq_true (by first | (with_reducible assumption) | assumption)
       obtain ⟨ad217, A217_2, c217_2, e217, hx217_0, hx217_1, hx217_2, hl217_2, hi217_2⟩ := at_T32 HR0.out x5_1 p217 q217
       cases e217
       replace hx217_0 := (HB.out.cell (World.block_lt_of_cell? w _ hx217_0)).trans hx217_0
       replace hx217_1 := (HB.out.cell (World.block_lt_of_cell? w _ hx217_1)).trans hx217_1
       replace hx217_2 := (HB.out.cell (World.block_lt_of_cell? w _ hx217_2)).trans hx217_2
       have HR217_2 := Aside0.mk hi217_2
       have HC217_2 := Aside0.mk hl217_2
       clear hi217_2 hl217_2
       replace p217 := eq_true p217
       replace q217 := eq_true q217
       go_wp2_with (first | ((with_reducible refine gate_callee (f := 24) rfl ?_); refine goesL_ (some 22) rfl rfl Tryd.func24 (by kernel_rfl) rfl #[.agg #[.string ((rd_T32 l0 x5_1).f0), .int .i64 ((rd_T32 l0 x5_1).f1), .slice A217_2 ((rd_T32 l0 x5_1).f2).length c217_2]] rfl (by (try simp only [List.map_toArray, List.map_cons, List.map_nil]); first | done | rfl | (simp only [List.length_drop, List.length_take]; rfl)) ?_; (with_reducible refine (crucibleref12_PutFound.calls k1 ((rd_T32 l0 x5_1).f0) ((rd_T32 l0 x5_1).f1) _ _ ((rd_T32 l0 x5_1).f2) t218 t219 _ ?side1 ?side2 A7.out).mono ?_); (case side1 => repeat (first | exact (Kd.C_below HR217_2.out HB.out) | (with_reducible refine Kd.C_alloc ?_ _) | (with_reducible refine Kd.C_drewN ?_ _) | (with_reducible refine Kd.C_drew ?_))); (case side2 => exact HC217_2.out); rintro e w9 ⟨rfl, hb⟩; refine ⟨_, rfl, ?_⟩; have n0_ := Aside0.mk (below_step (by repeat (first | (with_reducible first | exact HB.out | apply below_alloc | apply pw_below_drewN | apply below_drew1) | exact HB.out)) hb); clear HB; have HB := n0_; clear n0_; (try clear hb); (try clear hb2); (try clear hk); (try clear hi)))
       go_roundg k1
       case measure => have := HK1.out; omega
       case rel => exact ⟨(x4_1 ++ t218), (wrap64 (x5_1 + 1)), (by first | rfl | (simp; done) | (simp [*]; done)), (by first | rfl | (simp; done) | (simp [*]; done)), H', ⟨by have := HK1.out; omega⟩, ⟨by repeat (first | (with_reducible first | exact HB.out | apply below_alloc | apply pw_below_drewN | apply below_drew1) | exact HB.out)⟩⟩
      ·
       rw [if_neg c8] at H
       exact absurd H (by simp)
     ·
      rw [if_neg c6] at H
      exact absurd H (by simp)
    ·
     rw [if_neg c5] at H
     have c5b0 : decide (x5_1 < (l0.length : Int)) = false := decide_eq_false c5
     clear c5
     simp only [Option.some.injEq, Prod.mk.injEq] at H
     obtain ⟨rfl, rfl⟩ := H
     go_wp2
     go_ret2
     exact ⟨by first | rfl | (simp [errW_none, errW_some] <;> rfl) | (simp [*, errW_none, errW_some] <;> rfl), by repeat (first | (with_reducible first | exact HB.out | apply below_alloc | apply pw_below_drewN | apply below_drew1) | exact HB.out)⟩
 ·
  replace c3 := Bool.eq_false_iff.mpr c3
  subst c3
  have H1 : (some ((⟨#[]⟩ : ByteArray), 1600)) = some (r1, r2) := by rw [if_neg (show ¬ (false = true) by decide)] at H; exact H
  clear H
  have H := H1
  clear H1
  simp only [Option.some.injEq, Prod.mk.injEq] at H
  obtain ⟨rfl, rfl⟩ := H
  go_enter Tryd.func6, Tryd.ntmps6
  go_wp2_with (first | ((with_reducible refine gate_callee (f := 17) rfl ?_); refine goesL_ (some 9) rfl rfl Tryd.func17 (by kernel_rfl) rfl #[.slice A0 l0.length c0] rfl (by (try simp only [List.map_toArray, List.map_cons, List.map_nil]); first | done | rfl | (simp only [List.length_drop, List.length_take]; rfl)) ?_; (with_reducible refine (crucibleref12_DepsMay.calls k _ _ l0 false _ ?side1 ?side2 A2.out).mono ?_); (case side1 => repeat (first | exact HR0.out | (with_reducible refine Kd.C_alloc ?_ _) | (with_reducible refine Kd.C_drewN ?_ _) | (with_reducible refine Kd.C_drew ?_))); (case side2 => exact HC0.out); rintro e w10 ⟨rfl, hb⟩; refine ⟨_, rfl, ?_⟩; have n0_ := Aside0.mk (below_step (by repeat (first | (with_reducible first | exact HB.out | apply below_alloc | apply pw_below_drewN | apply below_drew1) | exact HB.out)) hb); clear HB; have HB := n0_; clear n0_; (try clear hb); (try clear hb2); (try clear hk); (try clear hi)))
  go_ret2
  exact ⟨by first | rfl | (simp [errW_none, errW_some] <;> rfl) | (simp [*, errW_none, errW_some] <;> rfl), by repeat (first | (with_reducible first | exact HB.out | apply below_alloc | apply pw_below_drewN | apply below_drew1) | exact HB.out)⟩

/-- A state of type 74 at block g of W; what its slices lead to came in by w0. -/
def IsS74 (w0 W : World) (g : Nat) (f0 : ByteArray) : Prop := W.heap[g]? = some (.cells #[.string f0] 74 (0, 0)) ∧ w0.heap.size ≤ g
theorem IsS74.grown {w0 W : World} {g : Nat} {f0 : ByteArray} {W1 : World} {row : Option Nat} (h : IsS74 w0 W g f0) (hw : W.grownBy W1 row) (hne : some g ≠ row) : IsS74 w0 W1 g f0 := by
 obtain ⟨hb, hg⟩ := h
 exact ⟨blk_grown hb hw hne, hg⟩
theorem IsS74.own_neN {w0 W : World} {g : Nat} {f0 : ByteArray} {α : Type} {d : Kd α} {e : Nat} {base : Nat} {ok : Nat → Prop} {v : Value} {xs : List α} (h : IsS74 w0 W g f0) (ho : Kd.N d e W base ok v xs) (ht : e ≠ 74) : some g ≠ v.ownBlock := by
 obtain ⟨hb, hg⟩ := h
 exact Kd.N_ne ho hb ht
theorem IsS74.fresh {w0 W : World} {g : Nat} {f0 : ByteArray} (h : IsS74 w0 W g f0) : ∀ k, W.heap.size ≤ k → k ≠ g := by
 obtain ⟨hb, hg⟩ := h
 exact Kd.freshB hb
theorem IsS74.kept {w0 W : World} {g : Nat} {f0 : ByteArray} {W1 : World} {S : Nat → Prop} (h : IsS74 w0 W g f0) (hk : Kept W W1 S) (hne : ¬ S g) : IsS74 w0 W1 g f0 := by
 obtain ⟨hb, hg⟩ := h
 exact ⟨blk_kept hb hk hne, hg⟩
theorem IsS74.below {w0 W : World} {g : Nat} {f0 : ByteArray} {W1 : World} (h : IsS74 w0 W g f0) (hw : Below W.heap.size W W1) : IsS74 w0 W1 g f0 := h.grown (grown_of_below hw none) (by simp)
theorem IsS74.alloc {w0 W : World} {g : Nat} {f0 : ByteArray} (h : IsS74 w0 W g f0) (o : Obj) : IsS74 w0 (W.alloc o) g f0 := h.below (below_alloc (Below.refl _ _) o)
theorem IsS74.drewN {w0 W : World} {g : Nat} {f0 : ByteArray} (h : IsS74 w0 W g f0) (m : Nat) : IsS74 w0 (W.drewN m) g f0 := h
theorem IsS74.drew {w0 W : World} {g : Nat} {f0 : ByteArray} (h : IsS74 w0 W g f0) : IsS74 w0 W.drew g f0 := h
theorem IsS74.at_ {w0 W : World} {g : Nat} {f0 : ByteArray} {w' : World} {m : Nat} (hq : W.drewN m = w') (h : IsS74 w0 W g f0) : IsS74 w0 w' g f0 := by subst hq; exact IsS74.drewN h m
theorem IsS74.apart {w0 W : World} {g : Nat} {f0 : ByteArray} {α : Type} {d : Kd α} {e : Nat} {base : Nat} {ok : Nat → Prop} {v : Value} {xs : List α} (h : IsS74 w0 W g f0) (ho : d.R e W base ok v xs) (ht : ∀ q, q ∈ e :: d.E → q ≠ 74) : d.R e W base (fun k => ok k ∧ k ≠ g) v xs := by
 obtain ⟨hb, hg⟩ := h
 exact Kd.R_types ho hb ht
theorem IsS74.own_ne {w0 W : World} {g : Nat} {f0 : ByteArray} {α : Type} {d : Kd α} {e : Nat} {base : Nat} {ok : Nat → Prop} {v : Value} {xs : List α} (h : IsS74 w0 W g f0) (ho : d.R e W base ok v xs) (ht : e ≠ 74) : some g ≠ v.ownBlock := by
 obtain ⟨hb, hg⟩ := h
 exact Kd.R_ne ho hb ht
theorem IsS74.apartQ {w0 W : World} {g : Nat} {f0 : ByteArray} {α : Type} {d : Kd α} {e : Nat} {base : Nat} {ok : Nat → Prop} {v : Value} {xs : List α} (h : IsS74 w0 W g f0) (ho : d.Q e W base ok v xs) (ht : ∀ q, q ∈ e :: d.E → q ≠ 74) : d.Q e W base (fun k => ok k ∧ k ≠ g) v xs := by
 obtain ⟨hb, hg⟩ := h
 exact Kd.Q_types ho hb ht
theorem IsS74.own_neQ {w0 W : World} {g : Nat} {f0 : ByteArray} {α : Type} {d : Kd α} {e : Nat} {base : Nat} {ok : Nat → Prop} {v : Value} {xs : List α} (h : IsS74 w0 W g f0) (ho : d.Q e W base ok v xs) (ht : e ≠ 74) : some g ≠ v.ownBlock := by
 obtain ⟨hb, hg⟩ := h
 exact Kd.Q_ne ho hb ht
theorem IsS74.apartS {w0 W : World} {g : Nat} {f0 : ByteArray} {α : Type} {d : Kd α} {e : Nat} {base : Nat} {ok : Nat → Prop} {v : Value} {xs : List α} (h : IsS74 w0 W g f0) (ho : d.S e W base ok v xs) (ht : ∀ q, q ∈ e :: d.E → q ≠ 74) : d.S e W base (fun k => ok k ∧ k ≠ g) v xs := by
 obtain ⟨hb, hg⟩ := h
 exact Kd.S_types ho hb ht
theorem IsS74.own_neS {w0 W : World} {g : Nat} {f0 : ByteArray} {α : Type} {d : Kd α} {e : Nat} {base : Nat} {ok : Nat → Prop} {v : Value} {xs : List α} (h : IsS74 w0 W g f0) (ho : d.S e W base ok v xs) (ht : e ≠ 74) : some g ≠ v.ownBlock := by
 obtain ⟨hb, hg⟩ := h
 exact Kd.S_ne ho hb ht
theorem IsS74.lt {w0 W : World} {g : Nat} {f0 : ByteArray} (h : IsS74 w0 W g f0) : g < W.heap.size := by
 obtain ⟨hb, hg⟩ := h
 exact blk_lt hb
theorem IsS74.ge {w0 W : World} {g : Nat} {f0 : ByteArray} (h : IsS74 w0 W g f0) : w0.heap.size ≤ g := by
 obtain ⟨hb, hg⟩ := h
 exact hg
theorem IsS74.ne_blk {w0 W : World} {g : Nat} {f0 : ByteArray} {a : Nat} {cs : Array Value} {t : TypeId} {fr : Nat × Nat} (h : IsS74 w0 W g f0) (hb2 : W.heap[a]? = some (.cells cs t fr)) (ht : t ≠ 74) : g ≠ a := by
 obtain ⟨hb, hg⟩ := h
 rintro rfl
 rw [hb] at hb2
 injection hb2 with hb2
 injection hb2 with _ ht2
 exact ht ht2.symm
theorem IsS74.far {w0 W : World} {g : Nat} {f0 : ByteArray} {p : Addr} (h : IsS74 w0 W g f0) (hne : g ≠ p.block) (u : Value) : IsS74 w0 (W.setCell p u) g f0 := by
 obtain ⟨hb, hg⟩ := h
 exact ⟨blk_far hb hne u, hg⟩
theorem cellS74_0 {W : World} {g : Nat} {f0 : ByteArray} (h : W.heap[g]? = some (.cells #[.string f0] 74 (0, 0))) : W.cell? ⟨g, 0, none⟩ = some (.string f0) := (blk_cell h 0).trans rfl
theorem IsS74.set_0 {w0 W : World} {g : Nat} {f0 : ByteArray} (h : IsS74 w0 W g f0) (x : ByteArray) : IsS74 w0 (W.setCell ⟨g, 0, none⟩ (.string x)) g x := by
 obtain ⟨hb, hg⟩ := h
 exact ⟨by simpa using blk_set hb 0 (.string x), hg⟩
theorem IsS74.new (w0 W : World) (f0 : ByteArray) (hB : Below w0.heap.size w0 W) : IsS74 w0 (W.alloc (.cells #[.string f0] 74)) W.heap.size f0 := ⟨by simpa using heap_alloc_new W _, hB.size⟩

/-! ### deprec_taker_take: function 41 -/
def deprec_taker_take.f (s0_0 : ByteArray) (a1 : Int) : Option (ByteArray × ByteArray) := if 0 ≤ (mn a1 (s0_0.size : Int)) then (if (mn a1 (s0_0.size : Int)) ≤ (s0_0.size : Int) then (if 0 ≤ ((s0_0.extract 0 ((mn a1 (s0_0.size : Int)) : Int).toNat).size : Int) then (if ((s0_0.extract 0 ((mn a1 (s0_0.size : Int)) : Int).toNat).size : Int) ≤ (s0_0.size : Int) then (some (s0_0.extract 0 ((mn a1 (s0_0.size : Int)) : Int).toNat, s0_0.extract (((s0_0.extract 0 ((mn a1 (s0_0.size : Int)) : Int).toNat).size : Int) : Int).toNat s0_0.size)) else (none)) else (none)) else (none)) else (none)
set_option maxHeartbeats 8000000 in
set_option maxRecDepth 100000 in
theorem deprec_taker_take.calls (g : Nat) (s0_0 : ByteArray) (a1 : Int) (r1 : ByteArray) (r2 : ByteArray) (w0 w : World) (hI : IsS74 w0 w g s0_0) (hB : Below w0.heap.size w0 w) (h : deprec_taker_take.f s0_0 a1 = some (r1, r2)) :
  Calls Tryd.prog 41 #[.pointer (some ⟨g, 0, none⟩), .int .i64 a1] w fun e w' => e = .returned (.string r1) ∧ IsS74 w0 w' g r2 ∧ Below w0.heap.size w0 w' ∧ KeepBut w w' g none := by
 have HI0 := Aside0.mk hI
 have HK := Aside0.mk (KeepBut.refl w g none)
 have HL := Aside0.mk hB.size
 clear hI
 have HW0 := Aside0.mk hB.size
 have HB := Aside0.mk hB
 clear hB
 have H : (if 0 ≤ (mn a1 (s0_0.size : Int)) then (if (mn a1 (s0_0.size : Int)) ≤ (s0_0.size : Int) then (if 0 ≤ ((s0_0.extract 0 ((mn a1 (s0_0.size : Int)) : Int).toNat).size : Int) then (if ((s0_0.extract 0 ((mn a1 (s0_0.size : Int)) : Int).toNat).size : Int) ≤ (s0_0.size : Int) then (some (s0_0.extract 0 ((mn a1 (s0_0.size : Int)) : Int).toNat, s0_0.extract (((s0_0.extract 0 ((mn a1 (s0_0.size : Int)) : Int).toNat).size : Int) : Int).toNat s0_0.size)) else (none)) else (none)) else (none)) else (none)) = some (r1, r2) := h
 clear h
 obtain ⟨ji3, hji3⟩ : ∃ j_ : Int, (mn a1 (s0_0.size : Int)) = j_ := ⟨_, rfl⟩
 replace H : (if 0 ≤ (ji3) then (if (ji3) ≤ (s0_0.size : Int) then (if 0 ≤ ((s0_0.extract 0 ((ji3) : Int).toNat).size : Int) then (if ((s0_0.extract 0 ((ji3) : Int).toNat).size : Int) ≤ (s0_0.size : Int) then (some (s0_0.extract 0 ((ji3) : Int).toNat, s0_0.extract (((s0_0.extract 0 ((ji3) : Int).toNat).size : Int) : Int).toNat s0_0.size)) else (none)) else (none)) else (none)) else (none)) = some (r1, r2) := by first | (rw [hji3] at H; exact H) | (simp only [hji3] at H ⊢; exact H)
 have hji3_ : (if (s0_0.size : Int) < a1 then (s0_0.size : Int) else a1) = ji3 := hji3
 by_cases c4 : 0 ≤ (ji3)
 ·
  rw [if_pos c4] at H
  have c4b0 := eq_true c4
  have c4b1 : decide (0 ≤ (ji3)) = true := decide_eq_true c4
  clear c4
  by_cases c5 : (ji3) ≤ (s0_0.size : Int)
  ·
   rw [if_pos c5] at H
   have c5b0 := eq_true c5
   have c5b1 : decide ((ji3) ≤ (s0_0.size : Int)) = true := decide_eq_true c5
   clear c5
   by_cases c6 : 0 ≤ ((s0_0.extract 0 ((ji3) : Int).toNat).size : Int)
   ·
    rw [if_pos c6] at H
    have c6b0 := eq_true c6
    have c6b1 : decide (0 ≤ ((s0_0.extract 0 ((ji3) : Int).toNat).size : Int)) = true := decide_eq_true c6
    clear c6
    by_cases c7 : ((s0_0.extract 0 ((ji3) : Int).toNat).size : Int) ≤ (s0_0.size : Int)
    ·
     rw [if_pos c7] at H
     have c7b0 := eq_true c7
     have c7b1 : decide (((s0_0.extract 0 ((ji3) : Int).toNat).size : Int) ≤ (s0_0.size : Int)) = true := decide_eq_true c7
     clear c7
     simp only [Option.some.injEq, Prod.mk.injEq] at H
     obtain ⟨rfl, rfl⟩ := H
     have hz_ : ((s0_0.extract 0 ((ji3) : Int).toNat).size : Int) = max ji3 0 := by
      have h1_ : 0 ≤ ji3 := of_eq_true (by assumption)
      have h2_ : ji3 ≤ (s0_0.size : Int) := of_eq_true (by assumption)
      rw [ByteArray.size_extract]; omega
     rw [hz_]
     obtain ⟨HGz8, hgz8⟩ := HI0.out
     have hcz8_0 := cellS74_0 HGz8
     have hfz8_0 := blk_frozen HGz8 0
     clear HGz8 hgz8
     go_enter Tryd.func41, Tryd.ntmps41
     go_wp2
     repeat (go_quiet (fail); try go_wp2)
     go_ret
     exact ⟨by first | rfl | (simp [errW_none, errW_some] <;> rfl) | (simp only [← hji3]; first | rfl | (simp [errW_none, errW_some] <;> rfl)) | (simp [*, errW_none, errW_some] <;> rfl), by repeat (first | (with_reducible first | exact HI0.out | apply IsS74.alloc | apply IsS74.drewN | apply IsS74.drew | apply IsS74.set_0) | exact HI0.out), by repeat (first | (with_reducible first | exact HB.out | apply below_alloc | apply pw_below_drewN | apply below_drew1 | refine below_set ?_ (IsS74.ge HI0.out)) | exact HB.out), by repeat (first | (with_reducible first | exact HK.out | apply KeepBut.set_ | apply keep_drewN | apply keep_drew | apply keep_alloc) | exact HK.out)⟩
    ·
     rw [if_neg c7] at H
     exact absurd H (by simp)
   ·
    rw [if_neg c6] at H
    exact absurd H (by simp)
  ·
   rw [if_neg c5] at H
   exact absurd H (by simp)
 ·
  rw [if_neg c4] at H
  exact absurd H (by simp)

-- HAND DeprecNumber.lean
-- IMPORT Derived.Test.YtaokgnhdagcepaaDoorBits
/-! ### deprec_taker_number, by hand -/
def deprec_taker_number.f (s0_0 : ByteArray) (a1 : Int) : Option (Int × ByteArray) :=
  if 0 ≤ a1 ∧ a1 ≤ 4 then some (((Spec.unlow (s0_0.data.toList.take a1.toNat) : Nat) : Int), Spec.str (s0_0.data.toList.drop a1.toNat)) else none
theorem taker_take_is (s : ByteArray) (n : Int) (h0 : 0 ≤ n) : deprec_taker_take.f s n = some (Spec.str (s.data.toList.take n.toNat), Spec.str (s.data.toList.drop n.toNat)) := by
  obtain ⟨m, rfl⟩ := Int.eq_ofNat_of_zero_le h0
  obtain ⟨j, hj, hm⟩ : ∃ j : Nat, j = min m s.size ∧ mn (m : Int) (s.size : Int) = (j : Int) := ⟨_, rfl, by unfold mn; omega⟩
  have hjs : j ≤ s.size := by omega
  have e1 : (s.extract 0 j).size = j := by rw [ByteArray.size_extract]; omega
  unfold deprec_taker_take.f
  rw [hm]
  simp only [Int.toNat_natCast, e1]
  rw [if_pos (by omega), if_pos (by omega), if_pos (by omega), if_pos (by omega)]
  have hl := Spec.size_data s
  congr 2
  · refine Spec.str_eq _ _ ?_
    rw [Spec.extract_data, List.drop_zero, hj]
    by_cases hc : m ≤ s.size
    · rw [Nat.min_eq_left hc]
    · rw [Nat.min_eq_right (by omega), List.take_of_length_le (by omega), List.take_of_length_le (by omega)]
  · refine Spec.str_eq _ _ ?_
    rw [Spec.extract_data, List.take_of_length_le (by omega), hj]
    by_cases hc : m ≤ s.size
    · rw [Nat.min_eq_left hc]
    · rw [Nat.min_eq_right (by omega), List.drop_eq_nil_of_le (by omega), List.drop_eq_nil_of_le (by omega)]
theorem number_conv (t : ByteArray) (h : t.size ≤ 4) (W : World) : ∃ ad c W2, (convert 9 48 (.string t)).run Tryd.prog W = .ok (.slice (some ad) t.size c) W2 ∧ (∀ j : Nat, j < t.size → W2.cell? (ad.add j) = some (.int .u8 (bt t j))) ∧ Below W.heap.size W W2 := by
  have hr := bytes_reads W 5 t (by omega)
  refine ⟨⟨W.heap.size, 0, none⟩, _, _, print_bytes (P := Tryd.prog) 9 48 5 Tryd.underlying9 Tryd.underlying48 Tryd.underlying5 t W, fun j hj => ?_, bytes_below (Below.refl _ _) (Nat.le_refl _) _ _⟩
  obtain ⟨ad, ha, hc⟩ := hr.2.2 (by omega)
  cases ha
  rw [hc j hj, ← rd_bytesOf]
  simp [rd]
theorem byte_shl (b : UInt8) (kk : Nat) (h : kk ≤ 3) : wrap64 (wrap64 (b.toNat : Int) * 2 ^ (8 * kk)) = ((b.toNat * 2 ^ (8 * kk) : Nat) : Int) := by
  have hb : b.toNat < 256 := b.toNat_lt
  have e1 : wrap64 (b.toNat : Int) = (b.toNat : Int) := Spec.wrap_id (by omega) (by omega)
  have hp : 2 ^ (8 * kk) ≤ 2 ^ 24 := Nat.pow_le_pow_right (by decide) (by omega)
  have hm : b.toNat * 2 ^ (8 * kk) ≤ 255 * 2 ^ 24 := Nat.mul_le_mul (by omega) hp
  rw [e1, show ((b.toNat : Int) * 2 ^ (8 * kk)) = ((b.toNat * 2 ^ (8 * kk) : Nat) : Int) by simp]
  have hq : ∀ q : Nat, q ≤ 255 * 2 ^ 24 → wrap64 (q : Int) = (q : Int) := fun q hq => Spec.wrap_id (by omega) (by omega)
  rw [hq _ hm]
theorem number_or (l : List UInt8) (b : UInt8) (kk : Nat) (hl : l.length = kk) (h : kk ≤ 3) : Go.bits .or .i64 ((Spec.unlow l : Nat) : Int) ((b.toNat * 2 ^ (8 * kk) : Nat) : Int) = ((Spec.unlow (l ++ [b]) : Nat) : Int) := by
  have hlt := Spec.unlow_lt l
  rw [hl, show (256 : Nat) = 2 ^ 8 by decide, ← Nat.pow_mul] at hlt
  rw [Spec.or_low _ _ (8 * kk) hlt b.toNat_lt (by omega), Spec.unlow_snoc, hl]
set_option maxHeartbeats 4000000 in
theorem deprec_taker_number.calls (g : Nat) (s0_0 : ByteArray) (a1 : Int) (r1 : Int) (r2 : ByteArray) (w0 w : World) (hI : IsS74 w0 w g s0_0) (hB : Below w0.heap.size w0 w) (h : deprec_taker_number.f s0_0 a1 = some (r1, r2)) :
    Calls Tryd.prog 40 #[.pointer (some ⟨g, 0, none⟩), .int .i64 a1] w fun e w' => e = .returned (.int .i64 r1) ∧ IsS74 w0 w' g r2 ∧ Below w0.heap.size w0 w' ∧ KeepBut w w' g none := by
  unfold deprec_taker_number.f at h
  split at h
  case isFalse => cases h
  rename_i hc
  obtain ⟨h0, h4⟩ := hc
  have ht := taker_take_is s0_0 a1 h0
  obtain ⟨rfl, rfl⟩ := Prod.mk.inj (Option.some.inj h)
  obtain ⟨l, hl⟩ : ∃ l, s0_0.data.toList.take a1.toNat = l := ⟨_, rfl⟩
  have hlen : l.length ≤ 4 := by rw [← hl, List.length_take]; omega
  obtain ⟨r, hr⟩ : ∃ r, Spec.str (s0_0.data.toList.drop a1.toNat) = r := ⟨_, rfl⟩
  obtain ⟨t, htt⟩ : ∃ t, Spec.str l = t := ⟨_, rfl⟩
  rw [hl, hr, htt] at ht
  rw [hl, hr]
  have hts : t.size = l.length := by rw [← htt, Spec.str_size]
  have htl : t.data.toList = l := by rw [← htt, Spec.str_data]
  have cT := deprec_taker_take.calls g s0_0 a1 t r w0 w hI hB ht
  have hread : ∀ kk, kk < t.size → ∃ b : UInt8, bt t (kk : Int) = b.toNat ∧ l.take (kk + 1) = l.take kk ++ [b] := fun kk hk => by
    have hk' : kk < l.length := by omega
    refine ⟨l[kk], ?_, by rw [List.take_succ_eq_append_getElem hk']⟩
    have e := Spec.bt_pre t (l.take kk) l[kk] (l.drop (kk + 1)) (by rw [htl, List.getElem_cons_drop, List.take_append_drop])
    rwa [List.length_take, Nat.min_eq_left (by omega)] at e
  have HR := Aside0.mk hread
  have HT4 := Aside0.mk (show t.size ≤ 4 by omega)
  have HLT : Aside0 (l.take t.size = l) := ⟨by rw [hts, List.take_length]⟩
  have HLEN : Aside0 (t.size = l.length) := ⟨hts⟩
  clear hread ht hl hr htt hts htl hlen h h0 h4 hI hB
  go_enter Tryd.func40, Tryd.ntmps40
  go_wp2_with (go_at_call 41; refine cT.mono ?_; rintro e w1 ⟨rfl, hi, hb, hk⟩; obtain ⟨ad, c, W2, hcv, hcell, hB2⟩ := number_conv t HT4.out w1; have HC := Aside0.mk hcell; have HB2 := Aside0.mk hB2; have HI := Aside0.mk hi; have HB := Aside0.mk hb; have HK := Aside0.mk hk; clear hcell hB2 hi hb hk)
  clear hcv
  go_loopg [5, 6, 7, 13] 5 (fun gg s5 _ _ s13 wr => ∃ kk : Nat, kk ≤ t.size ∧ t.size - kk < gg ∧ s13 = .int .i64 kk ∧ s5 = .int .i64 ((Spec.unlow (l.take kk) : Nat) : Int) ∧ wr = W2)
  case atStart => exact ⟨0, Nat.zero_le _, by have := HT4.out; omega, rfl, by simp [Spec.unlow], rfl⟩
  case round =>
    obtain ⟨kk, hkk, hg, rfl, rfl, rfl⟩ := hrel
    by_cases hlt : kk < t.size
    · have hltz : (kk : Int) < (t.size : Int) := by omega
      obtain ⟨b, hb, hsn⟩ := HR.out kk hlt
      have hcell := HC.out kk hlt
      rw [hb] at hcell
      clear hb
      have hk4 : kk ≤ 3 := by have := HT4.out; omega
      have hsh := byte_shl b kk hk4
      have hor := number_or (l.take kk) b kk (by rw [List.length_take]; have := HLEN.out; omega) hk4
      go_wp2
      go_roundg (gk - 1)
      case measure => omega
      case rel => exact ⟨kk + 1, by omega, by omega, by go_num, by rw [hsn, ← hor, show ((b.toNat * 2 ^ (8 * kk) : Nat) : Int) = (b.toNat : Int) * 2 ^ (8 * kk) by simp], rfl⟩
    · have heq : kk = t.size := by omega
      subst heq
      have hltz : ¬ (t.size : Int) < (t.size : Int) := by omega
      have hw := HLT.out
      rw [hw]
      go_wp2
      go_ret
      exact ⟨rfl, HI.out.below HB2.out, below_then HB.out HB.out.size HB2.out, HK.out.trans (KeepBut.of_below HB2.out g none) (.inl rfl)⟩

/-! ### deprec_Size: function 25 -/
def deprec_Size.f (a0 : ByteArray) : Option (Int) := (deprec_taker_number.f a0 2).bind fun bt221 => (some (wrap64 (2 + bt221.1)))
set_option maxHeartbeats 8000000 in
set_option maxRecDepth 100000 in
theorem deprec_Size.calls (a0 : ByteArray) (r : Int) (w : World) (h : deprec_Size.f a0 = some r) :
  Calls Tryd.prog 25 #[.string a0] w fun e w' => e = .returned (.int .i64 r) ∧ Below w.heap.size w w' := by
 have hu74 := Tryd.underlying74
 have HB := Aside0.mk (Below.refl w.heap.size w)
 have H : ((deprec_taker_number.f a0 2).bind fun bt221 => (some (wrap64 (2 + bt221.1)))) = some r := h
 clear h
 replace H := Option.bind_eq_some_iff.mp H
 obtain ⟨⟨t221, t222⟩, A20, H⟩ := H
 replace H : (some (wrap64 (2 + t221))) = some r := H
 have A2 := Aside0.mk A20
 clear A20
 obtain rfl := Option.some.inj H
 go_enter Tryd.func25, Tryd.ntmps25
 go_wp2_with (first | ((with_reducible refine gate_dst (N := 6) rfl ?_); refine box_event ?hg (N := 6) ?hd (cs := #[.string a0]) (t := 74) ?hr ?_; (case hd => rfl); (case hg => rfl); (case hr => first | (go_simp; done) | (go_simp; rfl)); intro gb220 hg w3 hbox hb; have n0_ := Aside0.mk (below_step (by repeat (first | (with_reducible first | exact HB.out | apply below_alloc | apply pw_below_drewN | apply below_drew1) | exact HB.out)) hb); have n1_ := Aside0.mk ((by rw [hg]; exact (below_size (by repeat (first | (with_reducible first | exact HB.out | apply below_alloc | apply pw_below_drewN | apply below_drew1) | exact HB.out))) : w.heap.size ≤ gb220)); have n2_ := Aside0.mk ((by rw [hg]; exact (below_size (by repeat (first | (with_reducible first | exact HB.out | apply below_alloc | apply pw_below_drewN | apply below_drew1) | exact HB.out))) : w.heap.size ≤ gb220)); have n3_ := Aside0.mk ((⟨hbox, (by rw [hg]; exact (below_size (by repeat (first | (with_reducible first | exact HB.out | apply below_alloc | apply pw_below_drewN | apply below_drew1) | exact HB.out))))⟩ : IsS74 w w3 gb220 a0)); clear HB; have HB := n0_; have GW220 := n1_; have GE220 := n2_; have HI220 := n3_; clear n0_ n1_ n2_ n3_; clear hb hbox hg) | ((with_reducible refine gate_callee (f := 40) rfl ?_); refine goesL_ (some 8) rfl rfl Tryd.func40 (by kernel_rfl) rfl #[.pointer (some ⟨gb220, 0, none⟩), .int .i64 2] rfl (by (try simp only [List.map_toArray, List.map_cons, List.map_nil]); first | done | rfl | (simp only [List.length_drop, List.length_take]; rfl)) ?_; (with_reducible refine (deprec_taker_number.calls gb220 a0 2 t221 t222 w _ ?side1 ?side2 A2.out).mono ?_); (case side1 => repeat (first | (with_reducible first | exact HI220.out | apply IsS74.alloc | apply IsS74.drewN | apply IsS74.drew | apply IsS74.set_0) | exact HI220.out)); (case side2 => repeat (first | (with_reducible first | exact HB.out | apply below_alloc | apply pw_below_drewN | apply below_drew1 | refine below_set ?_ (IsS74.ge HI220.out)) | exact HB.out)); rintro e w4 ⟨rfl, hi, hb, hk⟩; refine ⟨_, rfl, ?_⟩; have n0_ := Aside0.mk (hb); have n1_ := Aside0.mk (hi); clear HB; clear HI220; have HB := n0_; have HI220 := n1_; clear n0_ n1_; (try clear hb); (try clear hb2); (try clear hk); (try clear hi)))
 go_ret
 exact ⟨by first | rfl | (simp [errW_none, errW_some] <;> rfl) | (simp [*, errW_none, errW_some] <;> rfl), by repeat (first | (with_reducible first | exact HB.out | apply below_alloc | apply pw_below_drewN | apply below_drew1 | refine below_set ?_ (IsS74.ge HI220.out)) | exact HB.out)⟩

/-! ### deprec_taker_text: function 42 -/
def deprec_taker_text.f (s0_0 : ByteArray) : Option (ByteArray × ByteArray) := (deprec_taker_number.f s0_0 1).bind fun bt223 => ((deprec_taker_take.f bt223.2 bt223.1).bind fun bt225 => (some (bt225.1, bt225.2)))
set_option maxHeartbeats 8000000 in
set_option maxRecDepth 100000 in
theorem deprec_taker_text.calls (g : Nat) (s0_0 : ByteArray) (r1 : ByteArray) (r2 : ByteArray) (w0 w : World) (hI : IsS74 w0 w g s0_0) (hB : Below w0.heap.size w0 w) (h : deprec_taker_text.f s0_0 = some (r1, r2)) :
  Calls Tryd.prog 42 #[.pointer (some ⟨g, 0, none⟩)] w fun e w' => e = .returned (.string r1) ∧ IsS74 w0 w' g r2 ∧ Below w0.heap.size w0 w' ∧ KeepBut w w' g none := by
 have HI0 := Aside0.mk hI
 have HK := Aside0.mk (KeepBut.refl w g none)
 have HL := Aside0.mk hB.size
 clear hI
 have HW0 := Aside0.mk hB.size
 have HB := Aside0.mk hB
 clear hB
 have H : ((deprec_taker_number.f s0_0 1).bind fun bt223 => ((deprec_taker_take.f bt223.2 bt223.1).bind fun bt225 => (some (bt225.1, bt225.2)))) = some (r1, r2) := h
 clear h
 replace H := Option.bind_eq_some_iff.mp H
 obtain ⟨⟨t223, t224⟩, A20, H⟩ := H
 replace H : ((deprec_taker_take.f t224 t223).bind fun bt225 => (some (bt225.1, bt225.2))) = some (r1, r2) := H
 have A2 := Aside0.mk A20
 clear A20
 replace H := Option.bind_eq_some_iff.mp H
 obtain ⟨⟨t225, t226⟩, A30, H⟩ := H
 replace H : (some (t225, t226)) = some (r1, r2) := H
 have A3 := Aside0.mk A30
 clear A30
 simp only [Option.some.injEq, Prod.mk.injEq] at H
 obtain ⟨rfl, rfl⟩ := H
 go_enter Tryd.func42, Tryd.ntmps42
 go_wp2_with (first | ((with_reducible refine gate_callee (f := 40) rfl ?_); refine goesL_ (some 5) rfl rfl Tryd.func40 (by kernel_rfl) rfl #[.pointer (some ⟨g, 0, none⟩), .int .i64 1] rfl (by (try simp only [List.map_toArray, List.map_cons, List.map_nil]); first | done | rfl | (simp only [List.length_drop, List.length_take]; rfl)) ?_; (with_reducible refine (deprec_taker_number.calls g s0_0 1 t223 t224 w0 _ ?side1 ?side2 A2.out).mono ?_); (case side1 => repeat (first | (with_reducible first | exact HI0.out | apply IsS74.alloc | apply IsS74.drewN | apply IsS74.drew | apply IsS74.set_0) | exact HI0.out)); (case side2 => repeat (first | (with_reducible first | exact HB.out | apply below_alloc | apply pw_below_drewN | apply below_drew1 | refine below_set ?_ (IsS74.ge HI0.out)) | exact HB.out)); rintro e w4 ⟨rfl, hi, hb, hk⟩; refine ⟨_, rfl, ?_⟩; have n0_ := Aside0.mk (KeepBut.trans (by repeat (first | (with_reducible first | exact HK.out | apply KeepBut.set_ | apply keep_drewN | apply keep_drew | apply keep_alloc) | exact HK.out)) hk (.inl rfl)); have n1_ := Aside0.mk (hb); have n2_ := Aside0.mk (hi); clear HK; clear HB; clear HI0; have HK := n0_; have HB := n1_; have HI0 := n2_; clear n0_ n1_ n2_; (try clear hb); (try clear hb2); (try clear hk); (try clear hi)) | ((with_reducible refine gate_callee (f := 41) rfl ?_); refine goesL_ (some 6) rfl rfl Tryd.func41 (by kernel_rfl) rfl #[.pointer (some ⟨g, 0, none⟩), .int .i64 t223] rfl (by (try simp only [List.map_toArray, List.map_cons, List.map_nil]); first | done | rfl | (simp only [List.length_drop, List.length_take]; rfl)) ?_; (with_reducible refine (deprec_taker_take.calls g t224 t223 t225 t226 w0 _ ?side1 ?side2 A3.out).mono ?_); (case side1 => repeat (first | (with_reducible first | exact HI0.out | apply IsS74.alloc | apply IsS74.drewN | apply IsS74.drew | apply IsS74.set_0) | exact HI0.out)); (case side2 => repeat (first | (with_reducible first | exact HB.out | apply below_alloc | apply pw_below_drewN | apply below_drew1 | refine below_set ?_ (IsS74.ge HI0.out)) | exact HB.out)); rintro e w5 ⟨rfl, hi, hb, hk⟩; refine ⟨_, rfl, ?_⟩; have n0_ := Aside0.mk (KeepBut.trans (by repeat (first | (with_reducible first | exact HK.out | apply KeepBut.set_ | apply keep_drewN | apply keep_drew | apply keep_alloc) | exact HK.out)) hk (.inl rfl)); have n1_ := Aside0.mk (hb); have n2_ := Aside0.mk (hi); clear HK; clear HB; clear HI0; have HK := n0_; have HB := n1_; have HI0 := n2_; clear n0_ n1_ n2_; (try clear hb); (try clear hb2); (try clear hk); (try clear hi)))
 go_ret
 exact ⟨by first | rfl | (simp [errW_none, errW_some] <;> rfl) | (simp [*, errW_none, errW_some] <;> rfl), by repeat (first | (with_reducible first | exact HI0.out | apply IsS74.alloc | apply IsS74.drewN | apply IsS74.drew | apply IsS74.set_0) | exact HI0.out), by repeat (first | (with_reducible first | exact HB.out | apply below_alloc | apply pw_below_drewN | apply below_drew1 | refine below_set ?_ (IsS74.ge HI0.out)) | exact HB.out), by repeat (first | (with_reducible first | exact HK.out | apply KeepBut.set_ | apply keep_drewN | apply keep_drew | apply keep_alloc) | exact HK.out)⟩

end Go.Proofs.YtaokgnhdagcepaaDoor.P
