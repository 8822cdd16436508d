-- Made by a program of this work's own (wip/myprint.py) over the kit's print; leaves by hand.
import Derived.Test.YtilnamobmjngbaaDoorP0
import Derived.Test.YtilnamobmjngbaaDoorP11
import Derived.Test.YtilnamobmjngbaaDoorP12
import Derived.Test.YtilnamobmjngbaaDoorP13
import Derived.Test.YtilnamobmjngbaaDoorP14
import Derived.Test.YtilnamobmjngbaaDoorP16
import Derived.Test.YtilnamobmjngbaaDoorPlain
namespace Go.Proofs.YtilnamobmjngbaaDoor.P
open Go.RowKit Go.Proofs.YtilnamobmjngbaaDoorW.PrintWords Go.Proofs.YtilnamobmjngbaaDoorW.PrintLast Go.Proofs.YtilnamobmjngbaaDoorW.PrintMore
attribute [local go_sem] max2_int min2_int max_two min_two max_three min_three max_four min_four   -- for this text's walks alone
set_option linter.unusedVariables false
set_option linter.unusedSimpArgs false

-- HAND DiskRemove.lean
-- IMPORT Derived.Test.YtilnamobmjngbaaDoorPlain
/-! ### disk_Remove, by hand -/
def disk_Remove.f (k : Nat) (a0_0 : Int) (l0_1 : List (S72)) (a1 : ByteArray) : Option (Int × List (S72) × Int) :=
  if l0_1.length ≤ 1000000 then (disk_May.f k a0_0 l0_1).bind fun m => if m = true then ((path_Is.f k a1).bind fun p => if p = true then (if bsIs l0_1 a1 = true then some (a0_0, l0_1.eraseIdx (bsAt l0_1 a1), 0) else some (0, [], 1202)) else some (0, [], 1200)) else some (0, [], 1200) else none
theorem disk_Remove.mono : ∀ a0 l0 a1 k, LeO (disk_Remove.f k a0 l0 a1) (disk_Remove.f (k + 1) a0 l0 a1) := fun a0 l0 a1 k => LeO.ite (LeO.bind (disk_May.mono _ _ _) (fun _ => LeO.ite (LeO.bind (path_Is.mono _ _) (fun _ => LeO.refl _)) (LeO.refl _))) (LeO.refl _)
abbrev drD (t : Int) (v : Value) : Obj := .cells #[.int .i64 t, v] 28
theorem dr_put {W : World} {g : Nat} {t : Int} {v : Value} (h : W.heap[g]? = some (drD t v)) (t' : Int) (v' : Value) : ((W.setCell ⟨g, 0, none⟩ (.int .i64 t')).setCell ⟨g, 1, none⟩ v').heap[g]? = some (drD t' v') :=
  blk_put (cs := #[.int .i64 t', v]) (blk_put (cs := #[.int .i64 t, v]) h 0 _ rfl) 1 _ rfl
theorem dr_cells {W : World} {b : Nat} {t : Int} {v : Value} (h : W.heap[b]? = some (drD t v)) : W.cell? ⟨b, 0, none⟩ = some (.int .i64 t) ∧ W.cell? ⟨b, 1, none⟩ = some v :=
  ⟨by rw [blk_cell h]; rfl, by rw [blk_cell h]; rfl⟩
set_option maxHeartbeats 8000000 in
set_option maxRecDepth 100000 in
theorem disk_Remove.calls (k : Nat) (a0_0 : Int) (A0_1 : Option Addr) (c0_1 : Nat) (l0_1 : List (S72)) (a1 : ByteArray) (r1 : Int) (r2 : List (S72)) (r3 : Int) (w : World) (hr0_1 : Kd.C k72 w A0_1 l0_1.length l0_1) (hc0_1 : l0_1.length ≤ c0_1) (h : disk_Remove.f k a0_0 l0_1 a1 = some (r1, r2, r3)) :
    Calls Tryd.prog 39 #[.agg #[.int .i64 a0_0, .slice A0_1 l0_1.length c0_1], .string a1] w fun e w' => ∃ v1_ : Value, e = .returned (.tuple #[.agg #[.int .i64 r1, v1_], .int .i64 r3]) ∧ Kd.R k72 72 w' w.heap.size (fun _ => True) v1_ r2 ∧ Below w.heap.size w w' := by
  have hu := Tryd.underlying72
  have hu2 := Tryd.underlying28
  unfold disk_Remove.f at h
  split at h
  case isFalse => cases h
  rename_i hl
  obtain ⟨m, hm, h⟩ := Option.bind_eq_some_iff.1 h
  have b1 : Below w.heap.size w ((w.alloc (drD a0_0 (.slice A0_1 l0_1.length c0_1))).alloc (drD 0 (.slice none 0 0))) := below_alloc (below_alloc (Below.refl _ _) _) _
  have F0 := heap_alloc_new w (drD a0_0 (.slice A0_1 l0_1.length c0_1))
  have F1 := heap_alloc_new (w.alloc (drD a0_0 (.slice A0_1 l0_1.length c0_1))) (drD 0 (.slice none 0 0))
  have F0 := (Below.heap_alloc (w.alloc (drD a0_0 (.slice A0_1 l0_1.length c0_1))) (drD 0 (.slice none 0 0)) w.heap.size (blk_lt F0)).trans F0
  simp only [World.size_alloc] at F1
  have cM := disk_May.calls k a0_0 A0_1 c0_1 l0_1 m _ (Kd.C_below hr0_1 b1) hc0_1 hm
  have HR := Aside0.mk hr0_1
  have HC := Aside0.mk hc0_1
  have HL := Aside0.mk hl
  have G0 := Aside0.mk F0
  have G1 := Aside0.mk F1
  have B1 := Aside0.mk b1
  obtain ⟨f00, f01⟩ := dr_cells F0
  have hne : w.heap.size + 1 ≠ w.heap.size := by omega
  clear hr0_1 hc0_1 hl hm F0 F1 b1
  go_enter Tryd.func39, Tryd.ntmps39
  go_wp2_with fail
  refine cM.mono ?_
  rintro e w2 ⟨rfl, Bm⟩
  have X0 := (Bm.block _ (blk_lt G0.out)).trans G0.out
  have X1 := (Bm.block _ (blk_lt G1.out)).trans G1.out
  have E2 := Aside0.mk (below_then B1.out B1.out.size Bm)
  clear cM f00 f01 Bm G0 G1 B1
  cases m with
  | false =>
    rw [if_neg (by simp)] at h
    obtain ⟨rfl, rfl, rfl⟩ : (0 : Int) = r1 ∧ [] = r2 ∧ (1200 : Int) = r3 := by cases h; exact ⟨rfl, rfl, rfl⟩
    have X1 := Aside0.mk X1
    clear h X0
    obtain ⟨t0, t1⟩ := dr_cells X1.out
    have z0 := blk_frozen X1.out 0
    have z1 := blk_frozen X1.out 1
    go_wp2
    refine bodyPost_ret (results_ct rfl _ _ (w.heap.size + 1) 28 _ (0, 0) _ rfl (dr_put X1.out _ _) Tryd.underlying28 rfl (by kernel_rfl)) rfl ?_
    exact ⟨_, rfl, Kd.R_nil _ _ _ _ _, below_set (below_set E2.out (Nat.le_succ _)) (Nat.le_succ _)⟩
  | true =>
    rw [if_pos rfl] at h
    obtain ⟨p, hp, h⟩ := Option.bind_eq_some_iff.1 h
    have cI := path_Is.calls k a1 p w2 hp
    have X0 := Aside0.mk X0
    have X1 := Aside0.mk X1
    clear hp
    go_wp2_with fail
    refine cI.mono ?_
    rintro e w3 ⟨rfl, Bi⟩
    have Y0 : Aside0 (w3.heap[w.heap.size]? = some (drD a0_0 (.slice A0_1 l0_1.length c0_1))) := ⟨(Bi.block _ (blk_lt X0.out)).trans X0.out⟩
    have Y1 : Aside0 (w3.heap[w.heap.size + 1]? = some (drD 0 (.slice none 0 0))) := ⟨(Bi.block _ (blk_lt X1.out)).trans X1.out⟩
    have E3 := Aside0.mk (below_then E2.out E2.out.size Bi)
    clear cI Bi X0 X1 E2
    cases p with
    | false =>
      rw [if_neg (by simp)] at h
      obtain ⟨rfl, rfl, rfl⟩ : (0 : Int) = r1 ∧ [] = r2 ∧ (1200 : Int) = r3 := by cases h; exact ⟨rfl, rfl, rfl⟩
      clear h
      obtain ⟨t0, t1⟩ := dr_cells Y1.out
      have z0 := blk_frozen Y1.out 0
      have z1 := blk_frozen Y1.out 1
      go_wp2
      refine bodyPost_ret (results_ct rfl _ _ (w.heap.size + 1) 28 _ (0, 0) _ rfl (dr_put Y1.out _ _) Tryd.underlying28 rfl (by kernel_rfl)) rfl ?_
      exact ⟨_, rfl, Kd.R_nil _ _ _ _ _, below_set (below_set E3.out (Nat.le_succ _)) (Nat.le_succ _)⟩
    | true =>
      rw [if_pos rfl] at h
      have cP := dk_place w.heap.size a0_0 A0_1 c0_1 l0_1 a1 w3 Y0.out (Kd.C_below HR.out E3.out) HL.out
      go_wp2_with fail
      refine cP.mono ?_
      rintro e w4 ⟨rfl, Bp⟩
      have Z0 : Aside0 (w4.heap[w.heap.size]? = some (drD a0_0 (.slice A0_1 l0_1.length c0_1))) := ⟨(Bp.block _ (blk_lt Y0.out)).trans Y0.out⟩
      have Z1 : Aside0 (w4.heap[w.heap.size + 1]? = some (drD 0 (.slice none 0 0))) := ⟨(Bp.block _ (blk_lt Y1.out)).trans Y1.out⟩
      have E4 := Aside0.mk (below_then E3.out E3.out.size Bp)
      clear cP Bp Y0 Y1 E3
      cases hb : bsIs l0_1 a1 with
      | false =>
        rw [hb, if_neg (by simp)] at h
        obtain ⟨rfl, rfl, rfl⟩ : (0 : Int) = r1 ∧ [] = r2 ∧ (1202 : Int) = r3 := by cases h; exact ⟨rfl, rfl, rfl⟩
        clear h
        obtain ⟨t0, t1⟩ := dr_cells Z1.out
        have z0 := blk_frozen Z1.out 0
        have z1 := blk_frozen Z1.out 1
        go_wp2
        refine bodyPost_ret (results_ct rfl _ _ (w.heap.size + 1) 28 _ (0, 0) _ rfl (dr_put Z1.out _ _) Tryd.underlying28 rfl (by kernel_rfl)) rfl ?_
        exact ⟨_, rfl, Kd.R_nil _ _ _ _ _, below_set (below_set E4.out (Nat.le_succ _)) (Nat.le_succ _)⟩
      | true =>
        rw [hb, if_pos rfl] at h
        obtain ⟨rfl, rfl, rfl⟩ : a0_0 = r1 ∧ l0_1.eraseIdx (bsAt l0_1 a1) = r2 ∧ (0 : Int) = r3 := by cases h; exact ⟨rfl, rfl, rfl⟩
        have hi : bsAt l0_1 a1 < l0_1.length := by
          unfold bsIs at hb
          rw [Bool.and_eq_true] at hb
          exact of_decide_eq_true hb.1
        clear h hb
        obtain ⟨q0, q1⟩ := dr_cells Z0.out
        have cC := disk_Copy.calls a0_0 A0_1 c0_1 l0_1 a0_0 l0_1 w4 (Kd.C_below HR.out E4.out) HC.out (by unfold disk_Copy.f; rw [if_pos (by have := HL.out; omega)])
        go_wp2_with fail
        refine cC.mono ?_
        rintro e w5 ⟨v, rfl, hR, Bc⟩
        obtain ⟨A9, k9, rfl⟩ := Kd.R_slice hR
        have V1 : Aside0 ((w5.alloc (drD a0_0 (.slice A9 l0_1.length k9))).heap[w.heap.size + 1]? = some (drD 0 (.slice none 0 0))) := ⟨(Below.heap_alloc w5 _ _ (blk_lt ((Bc.block _ (blk_lt Z1.out)).trans Z1.out))).trans ((Bc.block _ (blk_lt Z1.out)).trans Z1.out)⟩
        have V2 : Aside0 ((w5.alloc (drD a0_0 (.slice A9 l0_1.length k9))).heap[w5.heap.size]? = some (drD a0_0 (.slice A9 l0_1.length k9))) := ⟨heap_alloc_new w5 _⟩
        have hb1 : w.heap.size + 1 < w4.heap.size := blk_lt Z1.out
        have hb4 : w4.heap.size ≤ w5.heap.size := Bc.size
        have E5 := below_then E4.out E4.out.size Bc
        have E6 := Aside0.mk (E5.alloc E5.size (drD a0_0 (.slice A9 l0_1.length k9)))
        have HO : Aside0 (Kd.R k72 72 (w5.alloc (drD a0_0 (.slice A9 l0_1.length k9))) w.heap.size (fun g => g ≠ w.heap.size + 1 ∧ g ≠ w5.heap.size) (.slice A9 l0_1.length k9) l0_1) := ⟨Kd.R_alloc (Kd.R_lower (Kd.R_mono (Kd.R_bound hR) (fun g hg => ⟨by omega, by omega⟩)) E4.out.size) _⟩
        clear hR cC q0 q1
        have cD := dd_delete (bsAt l0_1 a1) _ l0_1 _ w w.heap.size _ HO.out hi HL.out E6.out.size E6.out
        have hob : ∀ q, (Value.slice A9 l0_1.length k9).ownBlock = some q → q ≠ w.heap.size + 1 ∧ q ≠ w5.heap.size := fun q hq => HO.out.1 q hq
        have HOB := Aside0.mk hob
        have hw1 : IntKind.i64.wrap ((bsAt l0_1 a1 : Int) + 1) = (bsAt l0_1 a1 : Int) + 1 := by rw [IntKind.wrap_i64]; have := HL.out; omega
        have hne2 : w5.heap.size ≠ w.heap.size + 1 := by omega
        have BC := Aside0.mk Bc
        clear Bc HO hob E5
        go_wp2_with fail
        refine cD.mono ?_
        rintro e w7 ⟨v', rfl, hR7, B7, G7⟩
        obtain ⟨A8, k8, rfl⟩ := Kd.R_slice hR7
        have U1 : Aside0 (w7.heap[w.heap.size + 1]? = some (drD 0 (.slice none 0 0))) := ⟨(G7.block _ (blk_lt V1.out) (fun e => (HOB.out _ e.symm).1 rfl)).trans V1.out⟩
        have U2 : Aside0 (w7.heap[w5.heap.size]? = some (drD a0_0 (.slice A9 l0_1.length k9))) := ⟨(G7.block _ (blk_lt V2.out) (fun e => (HOB.out _ e.symm).2 rfl)).trans V2.out⟩
        obtain ⟨t0, t1⟩ := dr_cells U1.out
        obtain ⟨t2, t3⟩ := dr_cells U2.out
        have z0 := blk_frozen U1.out 0
        have z1 := blk_frozen U1.out 1
        have z2 := blk_frozen U2.out 0
        have z3 := blk_frozen U2.out 1
        have R7 := Aside0.mk hR7
        have E7 := Aside0.mk B7
        clear hR7 B7 G7 cD
        go_wp2
        refine bodyPost_ret (results_ct rfl _ _ (w.heap.size + 1) 28 _ (0, 0) _ rfl (dr_put (blk_far U1.out (Ne.symm hne2) _) _ _) Tryd.underlying28 rfl (by kernel_rfl)) rfl ?_
        refine ⟨_, rfl, ?_, ?_⟩
        · exact Kd.R_mono (Kd.R_far (p := ⟨w.heap.size + 1, 1, none⟩) (Kd.R_far (p := ⟨w.heap.size + 1, 0, none⟩) (Kd.R_far (p := ⟨w5.heap.size, 1, none⟩) R7.out (fun q hq => hq.2) _) (fun q hq => hq.1) _) (fun q hq => hq.1) _) (fun _ _ => trivial)
        · exact below_set (below_set (below_set E7.out (by have := E4.out.size; omega)) (Nat.le_succ _)) (Nat.le_succ _)

end Go.Proofs.YtilnamobmjngbaaDoor.P
