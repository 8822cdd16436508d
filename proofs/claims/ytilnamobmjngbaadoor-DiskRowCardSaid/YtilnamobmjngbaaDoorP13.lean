-- Made by a program of this work's own (wip/myprint.py) over the kit's print; leaves by hand.
import Derived.Test.YtilnamobmjngbaaDoorP0
import Derived.Lib.SliceRun
import Derived.Test.YtilnamobmjngbaaDoorPlain
namespace Go.Proofs.YtilnamobmjngbaaDoor.P
open Go.RowKit Go.Proofs.YtilnamobmjngbaaDoorW.PrintWords Go.Proofs.YtilnamobmjngbaaDoorW.PrintLast Go.Proofs.YtilnamobmjngbaaDoorW.PrintMore
attribute [local go_sem] max2_int min2_int max_two min_two max_three min_three max_four min_four   -- for this text's walks alone
set_option linter.unusedVariables false
set_option linter.unusedSimpArgs false

-- HAND DiskCopy.lean
-- IMPORT Derived.Test.YtilnamobmjngbaaDoorPlain
-- IMPORT Derived.Lib.SliceRun
/-! ### disk_Copy, by hand: slices.Clone of files -/
def disk_Copy.f (a0_0 : Int) (l0_1 : List (S72)) : Option (Int × (List (S72))) := if l0_1.length < 4398046511104 then some (a0_0, l0_1) else none
set_option maxHeartbeats 8000000 in
set_option maxRecDepth 100000 in
theorem dc_clone (A0 : Option Addr) (c0 : Nat) (l0 : List (S72)) (w : World) (hr0 : Kd.C k72 w A0 l0.length l0) (hc0 : l0.length ≤ c0) (hl : l0.length < 4398046511104) :
    Calls Tryd.prog 79 #[.slice A0 l0.length c0] w fun e w' => ∃ v0_ : Value, e = .returned (v0_) ∧ Kd.R k72 72 w' w.heap.size (fun _ => True) v0_ l0 ∧ Below w.heap.size w w' := by
  have hu := Tryd.underlying72
  cases A0 with
  | none =>
    have : l0 = [] := by
      cases l0 with
      | nil => rfl
      | cons x xs => obtain ⟨ad, h, _⟩ := at_T72 hr0 0 (by omega) (by simp); cases h
    subst this
    clear hr0 hl hc0
    have heq : ∀ W, (binOp .eql 26 (.slice none 0 c0) (.slice none 0 0)).run Tryd.prog W = .ok (.bool true) W := fun W => Lib.run_eql_slice_nil W _ _ none 0 c0 0 0 Tryd.underlying26
    go_enter Tryd.func79, Tryd.ntmps79
    go_wp2
    go_ret
    exact ⟨_, rfl, Kd.R_nil _ _ _ _ _, by repeat (first | exact Below.refl _ _ | apply below_alloc | apply pw_below_drewN | apply below_drew1)⟩
  | some ad =>
    have HR0 := Aside0.mk hr0
    have HC0 := Aside0.mk hc0
    have HB := Aside0.mk (Below.refl w.heap.size w)
    obtain ⟨y215, hy215⟩ : ∃ y_ : List (S72), y_ = (([] : List (S72))) := ⟨_, rfl⟩
    have LMc2 := Aside0.mk (show y215.length + l0.length < 4398046511104 by rw [hy215]; simpa using hl)
    obtain ⟨y218, hy218⟩ : ∃ y_ : List (S72), y_ = (y215 ++ l0) := ⟨_, rfl⟩
    have NY := Aside0.mk (show y218 = l0 by rw [hy218, hy215]; rfl)
    have Ny215 := Aside0.mk hy215
    have Ny218 := Aside0.mk hy218
    clear hr0 hc0 hl hy215 hy218
    have heq : ∀ W, (binOp .eql 26 (.slice (some ad) l0.length c0) (.slice none 0 0)).run Tryd.prog W = .ok (.bool false) W := fun W => Lib.run_eql_slice_nil W _ _ (some ad) l0.length c0 0 0 Tryd.underlying26
    go_enter Tryd.func79, Tryd.ntmps79
    go_wp2_with (first | ((with_reducible refine gate_dst (N := 5) rfl ?_); refine Kd.R_lit k72 _ 72 ?hg (N := 5) ?hd (xs := ([] : List (S72))) (inner := []) (ok := fun _ => True) (okp := fun _ => True) ?hr ?hp (fun _ hk => hk) trivial (Below.refl _ _) (Nat.le_refl _) (by simp) ?_; (case hd => rfl); (case hg => rfl); (case hr => first | (go_simp; done) | (go_simp; rfl)); (case hp => exact (Reps.none _ _)); intro v216 w3 ho4 hb hg_ hnew_; clear hg_ hnew_; (first | rw [← Ny215.out] at ho4 | (simp only [Int.reduceToNat] at ho4; rw [← Ny215.out] at ho4)); have n0_ := Aside0.mk (Kd.R_lower ho4 (below_size (by repeat (first | (with_reducible first | exact HB.out | apply below_alloc | apply pw_below_drewN | apply below_drew1) | exact HB.out)))); have n1_ := Aside0.mk (below_step (by repeat (first | (with_reducible first | exact HB.out | apply below_alloc | apply pw_below_drewN | apply below_drew1) | exact HB.out)) hb); clear HB; have HO217 := n0_; have HB := n1_; clear n0_ n1_; clear hb ho4) | ((with_reducible refine gate_builtin (b := .append) (xs := #[.tmp 5, .tmp 6]) rfl ?_); at_builtin; refine Kd.R_append_rows k72 (w0 := w) w.heap.size rfl (.tmp 5) (.tmp 6) 26 72 (.agg #[(.string ⟨#[]⟩), (.int .i64 0), (.int .i64 0)]) 32 rfl Tryd.underlying26 info72 rfl (by decide) (by omega) v216 y215 l0 _ _ _ (fun _ => True) (fun _ => False) rfl rfl ?aO ?aR (fun _ _ h => h) (fun _ h => h.elim) ?aF ?aB ?aS ?aL ?_; (case aR => repeat (first | exact (Kd.C_below HR0.out HB.out) | (with_reducible refine Kd.C_alloc ?_ _) | (with_reducible refine Kd.C_drewN ?_ _) | (with_reducible refine Kd.C_drew ?_))); (case aB => exact (by repeat (first | (with_reducible first | exact HB.out | apply below_alloc | apply pw_below_drewN | apply below_drew1) | exact HB.out))); (case aF => exact (fun _ _ => trivial)); (case aO => exact (by (with_reducible repeat (first | apply Kd.R_alloc | apply Kd.R_drewN | apply Kd.R_drew)); exact HO217.out)); (case aS => exact (below_size (by repeat (first | (with_reducible first | exact HB.out | apply below_alloc | apply pw_below_drewN | apply below_drew1) | exact HB.out)))); (case aL => have := LMc2.out; omega); intro v219 w5 ho hb hg hat; rw [← Ny218.out] at ho; have n0_ := Aside0.mk (hb); have n1_ := Aside0.mk (ho); clear HB; clear HO217; have HB := n0_; have HO220 := n1_; clear n0_ n1_; clear ho hb hg hat))
    go_ret
    refine ⟨_, rfl, ?_, by repeat (first | (with_reducible first | exact HB.out | apply below_alloc | apply pw_below_drewN | apply below_drew1) | exact HB.out)⟩
    rw [← NY.out]
    (with_reducible repeat (first | apply Kd.R_alloc | apply Kd.R_drewN | apply Kd.R_drew))
    exact HO220.out
abbrev dcO (t : Int) (v : Value) : Obj := .cells #[.int .i64 t, v] 28
theorem dc_cells {W : World} {b : Nat} {t : Int} {v : Value} (h : W.heap[b]? = some (dcO t v)) : W.cell? ⟨b, 0, none⟩ = some (.int .i64 t) ∧ W.cell? ⟨b, 1, none⟩ = some v :=
  ⟨by rw [blk_cell h]; rfl, by rw [blk_cell h]; rfl⟩
set_option maxHeartbeats 8000000 in
set_option maxRecDepth 100000 in
theorem disk_Copy.calls (a0_0 : Int) (A0_1 : Option Addr) (c0_1 : Nat) (l0_1 : List (S72)) (r1 : Int) (r2 : List (S72)) (w : World) (hr0_1 : Kd.C k72 w A0_1 l0_1.length l0_1) (hc0_1 : l0_1.length ≤ c0_1) (h : disk_Copy.f a0_0 l0_1 = some (r1, r2)) :
    Calls Tryd.prog 63 #[.agg #[.int .i64 a0_0, .slice A0_1 l0_1.length c0_1]] w fun e w' => ∃ v1_ : Value, e = .returned (.agg #[.int .i64 r1, v1_]) ∧ Kd.R k72 72 w' w.heap.size (fun _ => True) v1_ r2 ∧ Below w.heap.size w w' := by
  unfold disk_Copy.f at h
  split at h
  case isFalse => cases h
  rename_i hl
  obtain ⟨rfl, rfl⟩ : a0_0 = r1 ∧ l0_1 = r2 := by cases h; exact ⟨rfl, rfl⟩
  have b1 : Below w.heap.size w ((w.alloc (dcO a0_0 (.slice A0_1 l0_1.length c0_1))).alloc (dcO 0 (.slice none 0 0))) := below_alloc (below_alloc (Below.refl _ _) _) _
  have F0 := heap_alloc_new w (dcO a0_0 (.slice A0_1 l0_1.length c0_1))
  have F1 := heap_alloc_new (w.alloc (dcO a0_0 (.slice A0_1 l0_1.length c0_1))) (dcO 0 (.slice none 0 0))
  have F0 := (Below.heap_alloc (w.alloc (dcO a0_0 (.slice A0_1 l0_1.length c0_1))) (dcO 0 (.slice none 0 0)) w.heap.size (blk_lt F0)).trans F0
  simp only [World.size_alloc] at F1
  have c79 := dc_clone A0_1 c0_1 l0_1 _ (Kd.C_below hr0_1 b1) hc0_1 hl
  have F0 := Aside0.mk F0
  have F1 := Aside0.mk F1
  have B1 := Aside0.mk b1
  clear b1 hr0_1 hc0_1 h hl
  go_enter Tryd.func63, Tryd.ntmps63
  go_wp2_with fail
  refine c79.mono ?_
  rintro e w2 ⟨v, rfl, hR, B2⟩
  clear c79
  obtain ⟨A9, k9, rfl⟩ := Kd.R_slice hR
  obtain ⟨s0, s1⟩ := dc_cells ((B2.block _ (blk_lt F0.out)).trans F0.out)
  obtain ⟨s2, s3⟩ := dc_cells ((B2.block _ (blk_lt F1.out)).trans F1.out)
  have z0 := blk_frozen ((B2.block _ (blk_lt F0.out)).trans F0.out) 1
  have z2 := blk_frozen ((B2.block _ (blk_lt F1.out)).trans F1.out) 0
  have z3 := blk_frozen ((B2.block _ (blk_lt F1.out)).trans F1.out) 1
  have E2 := Aside0.mk (below_then B1.out B1.out.size B2)
  have X1 := Aside0.mk ((B2.block _ (blk_lt F1.out)).trans F1.out)
  have R2 := Aside0.mk (Kd.R_lower (Kd.R_mono (Kd.R_bound hR) (ok' := fun g => w.heap.size + 1 < g) (fun g hg => by
    have := hg.2.1
    simp only [World.size_alloc] at this
    omega)) B1.out.size)
  have hne : w.heap.size + 1 ≠ w.heap.size := by omega
  clear hR B2
  go_wp2
  refine bodyPost_ret (results_cell_row rfl _ _ (w.heap.size + 1) 28 #[.int .i64 a0_0, .slice A9 l0_1.length k9] (0, 0) _ rfl (by (with_reducible repeat (first | refine blk_drewN ?_ _ | refine blk_drew ?_ | refine blk_alloc ?_ _)); refine blk_put (cs := #[.int .i64 a0_0, .slice none 0 0]) ?_ 1 _ rfl; (with_reducible repeat (first | refine blk_drewN ?_ _ | refine blk_drew ?_ | refine blk_alloc ?_ _)); refine blk_put (cs := #[.int .i64 0, .slice none 0 0]) ?_ 0 _ rfl; (with_reducible repeat (first | refine blk_drewN ?_ _ | refine blk_drew ?_ | refine blk_alloc ?_ _)); refine blk_far ?_ hne _; (with_reducible repeat (first | refine blk_drewN ?_ _ | refine blk_drew ?_ | refine blk_alloc ?_ _)); exact X1.out) Tryd.underlying28 rfl (by kernel_rfl)) rfl ?_
  refine ⟨_, rfl, ?_, ?_⟩
  · exact Kd.R_mono (Kd.R_far (p := ⟨w.heap.size + 1, 1, none⟩) (Kd.R_far (p := ⟨w.heap.size + 1, 0, none⟩) (Kd.R_far (p := ⟨w.heap.size, 1, none⟩) R2.out (fun k hk => by show k ≠ w.heap.size; omega) _) (fun k hk => by show k ≠ w.heap.size + 1; omega) _) (fun k hk => by show k ≠ w.heap.size + 1; omega) _) (fun _ _ => trivial)
  · exact below_set (below_set (below_set E2.out (Nat.le_refl _)) (Nat.le_succ _)) (Nat.le_succ _)

-- NOT PRINTED: function 65 (api_File_65)

end Go.Proofs.YtilnamobmjngbaaDoor.P
