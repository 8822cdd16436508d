-- Made by a program of this work's own (wip/myprint.py) over the kit's print; leaves by hand.
import Derived.Test.YtilnamobmjngbaaDoorP0
import Derived.Test.YtilnamobmjngbaaDoorP11
import Derived.Test.YtilnamobmjngbaaDoorP12
import Derived.Test.YtilnamobmjngbaaDoorP13
import Derived.Test.YtilnamobmjngbaaDoorP14
import Derived.Test.YtilnamobmjngbaaDoorP15
import Derived.Test.YtilnamobmjngbaaDoorP16
import Derived.Test.YtilnamobmjngbaaDoorPlain
namespace Go.Proofs.YtilnamobmjngbaaDoor.P
open Go.RowKit Go.Proofs.YtilnamobmjngbaaDoorW.PrintWords Go.Proofs.YtilnamobmjngbaaDoorW.PrintLast Go.Proofs.YtilnamobmjngbaaDoorW.PrintMore
attribute [local go_sem] max2_int min2_int max_two min_two max_three min_three max_four min_four   -- for this text's walks alone
set_option linter.unusedVariables false
set_option linter.unusedSimpArgs false

-- HANDBIG DiskPut.lean
-- IMPORT Derived.Test.YtilnamobmjngbaaDoorPlain
/-! ### disk_Put, by hand (over DiskRemove's words) -/
def dpF (s : ByteArray) (x t : Int) : S72 := ⟨s, x, t⟩
def disk_Put.f (k : Nat) (a0_0 : Int) (l0_1 : List (S72)) (a1 : ByteArray) (a2 : Int) : Option (Int × List (S72) × Int) :=
  if l0_1.length ≤ 1000000 then (disk_May.f k a0_0 l0_1).bind fun m => if m = true then ((path_Is.f k a1).bind fun p => if p = true then (
    if 0 ≤ a2 ∧ a2 ≤ 2147483647 then (
      if a0_0 = 1048576 then some (0, [], 1201) else if bsIs l0_1 a1 = true then some (wrap64 (a0_0 + 1), l0_1.set (bsAt l0_1 a1) (dpF a1 a2 (wrap64 (a0_0 + 1))), 0) else if l0_1.length = 64 then some (0, [], 1201) else
        some (wrap64 (a0_0 + 1), l0_1.take (bsAt l0_1 a1) ++ dpF a1 a2 (wrap64 (a0_0 + 1)) :: l0_1.drop (bsAt l0_1 a1), 0))
    else some (0, [], 1200)) else some (0, [], 1200)) else some (0, [], 1200) else none
theorem disk_Put.mono : ∀ a0 l0 a1 a2 k, LeO (disk_Put.f k a0 l0 a1 a2) (disk_Put.f (k + 1) a0 l0 a1 a2) := fun a0 l0 a1 a2 k => LeO.ite (LeO.bind (disk_May.mono _ _ _) (fun _ => LeO.ite (LeO.bind (path_Is.mono _ _) (fun _ => LeO.refl _)) (LeO.refl _))) (LeO.refl _)
theorem rF_laid (L B : List Value) (n i : Nat) (hi : i < n) (hL : n * 3 ≤ L.length) (hB : B.length = 3) :
    (L.take (i * 3) ++ B ++ L.drop (i * 3 + B.length)).take (n * 3) = L.take (i * 3) ++ (B ++ (L.take (n * 3)).drop ((i + 1) * 3)) := by
  have h1 : (L.take (i * 3) ++ B).length = (i + 1) * 3 := by rw [List.length_append, List.length_take, hB]; omega
  rw [List.take_append, List.take_of_length_le (l := L.take (i * 3) ++ B) (by omega), h1, List.drop_take, hB, show i * 3 + 3 = (i + 1) * 3 by omega, List.append_assoc]
theorem rF_set {W : World} {base g n c : Nat} {ok : Nat → Prop} {xs : List (S72)} (h : Kd.R k72 72 W base ok (.slice (some ⟨g, 0, none⟩) n c) xs) (i : Nat) (hi : i < n) (x : S72) :
    Kd.R k72 72 (W.setCells g (i * 3) (cF x)) base ok (.slice (some ⟨g, 0, none⟩) n c) (xs.set i x) := by
  obtain ⟨cur, hg, hs, ht, hb, hnc, hcm, hn, hgo⟩ := rF_open h
  have hcl : (cF x).length = 3 := rfl
  obtain ⟨cur1, h1, h2, h3⟩ := setCells_row (g := g) (e := 72) (cF x) (i * 3) W cur hg (by omega)
  subst hn
  have hxl : (xs.set i x).length = xs.length := List.length_set
  rw [← hxl]
  refine rF_shut h1 (by omega) ?_ hb (by omega) hcm hgo
  have hl : cur.toList.length = c * 3 := by rw [Array.length_toList]; exact hs
  have hL : (xs.length) * 3 ≤ cur.toList.length := by omega
  rw [hxl, h3, List.set_eq_take_append_cons_drop, if_pos hi, rowF_app, show rowF (x :: xs.drop (i + 1)) = cF x ++ rowF (xs.drop (i + 1)) from rfl, ← rowF_take, ← rowF_drop, ← ht, List.take_take, Nat.min_eq_left (by omega)]
  exact rF_laid cur.toList (cF x) xs.length i hi hL rfl
set_option maxHeartbeats 8000000 in
set_option maxRecDepth 100000 in
theorem disk_Put.calls (k : Nat) (a0_0 : Int) (A0_1 : Option Addr) (c0_1 : Nat) (l0_1 : List (S72)) (a1 : ByteArray) (a2 : Int) (r1 : Int) (r2 : List (S72)) (r3 : Int) (w : World) (hr0_1 : Kd.C k72 w A0_1 l0_1.length l0_1) (hc0_1 : l0_1.length ≤ c0_1) (h : disk_Put.f k a0_0 l0_1 a1 a2 = some (r1, r2, r3)) :
    Calls Tryd.prog 38 #[.agg #[.int .i64 a0_0, .slice A0_1 l0_1.length c0_1], .string a1, .int .i64 a2] w fun e w' => ∃ v1_ : Value, e = .returned (.tuple #[.agg #[.int .i64 r1, v1_], .int .i64 r3]) ∧ Kd.R k72 72 w' w.heap.size (fun _ => True) v1_ r2 ∧ Below w.heap.size w w' := by
  have hu := Tryd.underlying72
  have hu2 := Tryd.underlying28
  unfold disk_Put.f at h
  split at h
  case isFalse => cases h
  rename_i hl
  obtain ⟨m, hm, h⟩ := Option.bind_eq_some_iff.1 h
  have b1 : Below w.heap.size w ((w.alloc (drD a0_0 (.slice A0_1 l0_1.length c0_1))).alloc (drD 0 (.slice none 0 0))) := below_alloc (below_alloc (Below.refl _ _) _) _
  have F0 := heap_alloc_new w (drD a0_0 (.slice A0_1 l0_1.length c0_1))
  have F1 := heap_alloc_new (w.alloc (drD a0_0 (.slice A0_1 l0_1.length c0_1))) (drD 0 (.slice none 0 0))
  have F0 := (Below.heap_alloc (w.alloc (drD a0_0 (.slice A0_1 l0_1.length c0_1))) (drD 0 (.slice none 0 0)) w.heap.size (blk_lt F0)).trans F0
  simp only [World.size_alloc] at F1
  have cM := disk_May.calls k a0_0 A0_1 c0_1 l0_1 m _ (Kd.C_below hr0_1 b1) hc0_1 hm
  have HR := Aside0.mk hr0_1
  have HC := Aside0.mk hc0_1
  have HL := Aside0.mk hl
  have G0 := Aside0.mk F0
  have G1 := Aside0.mk F1
  have B1 := Aside0.mk b1
  obtain ⟨f00, f01⟩ := dr_cells F0
  have hne : w.heap.size + 1 ≠ w.heap.size := by omega
  clear hr0_1 hc0_1 hl hm F0 F1 b1
  go_enter Tryd.func38, Tryd.ntmps38
  go_wp2_with fail
  refine cM.mono ?_
  rintro e w2 ⟨rfl, Bm⟩
  have X0 := (Bm.block _ (blk_lt G0.out)).trans G0.out
  have X1 := (Bm.block _ (blk_lt G1.out)).trans G1.out
  have E2 := Aside0.mk (below_then B1.out B1.out.size Bm)
  clear cM f00 f01 Bm G0 G1 B1
  cases m with
  | false =>
    rw [if_neg (by simp)] at h
    obtain ⟨rfl, rfl, rfl⟩ : (0 : Int) = r1 ∧ [] = r2 ∧ (1200 : Int) = r3 := by cases h; exact ⟨rfl, rfl, rfl⟩
    have X1 := Aside0.mk X1
    clear h X0
    obtain ⟨t0, t1⟩ := dr_cells X1.out
    have z0 := blk_frozen X1.out 0
    have z1 := blk_frozen X1.out 1
    go_wp2
    refine bodyPost_ret (results_ct rfl _ _ (w.heap.size + 1) 28 _ (0, 0) _ rfl (dr_put X1.out _ _) Tryd.underlying28 rfl (by kernel_rfl)) rfl ?_
    exact ⟨_, rfl, Kd.R_nil _ _ _ _ _, below_set (below_set E2.out (Nat.le_succ _)) (Nat.le_succ _)⟩
  | true =>
    rw [if_pos rfl] at h
    obtain ⟨p, hp, h⟩ := Option.bind_eq_some_iff.1 h
    have cI := path_Is.calls k a1 p w2 hp
    have X0 := Aside0.mk X0
    have X1 := Aside0.mk X1
    clear hp
    go_wp2_with fail
    refine cI.mono ?_
    rintro e w3 ⟨rfl, Bi⟩
    have Y0 : Aside0 (w3.heap[w.heap.size]? = some (drD a0_0 (.slice A0_1 l0_1.length c0_1))) := ⟨(Bi.block _ (blk_lt X0.out)).trans X0.out⟩
    have Y1 : Aside0 (w3.heap[w.heap.size + 1]? = some (drD 0 (.slice none 0 0))) := ⟨(Bi.block _ (blk_lt X1.out)).trans X1.out⟩
    have E3 := Aside0.mk (below_then E2.out E2.out.size Bi)
    clear cI Bi X0 X1 E2
    cases p with
    | false =>
      rw [if_neg (by simp)] at h
      obtain ⟨rfl, rfl, rfl⟩ : (0 : Int) = r1 ∧ [] = r2 ∧ (1200 : Int) = r3 := by cases h; exact ⟨rfl, rfl, rfl⟩
      clear h
      obtain ⟨t0, t1⟩ := dr_cells Y1.out
      have z0 := blk_frozen Y1.out 0
      have z1 := blk_frozen Y1.out 1
      go_wp2
      refine bodyPost_ret (results_ct rfl _ _ (w.heap.size + 1) 28 _ (0, 0) _ rfl (dr_put Y1.out _ _) Tryd.underlying28 rfl (by kernel_rfl)) rfl ?_
      exact ⟨_, rfl, Kd.R_nil _ _ _ _ _, below_set (below_set E3.out (Nat.le_succ _)) (Nat.le_succ _)⟩
    | true =>
      rw [if_pos rfl] at h
      have hcv : disk_content.f a2 = some (decide (0 ≤ a2 ∧ a2 ≤ 2147483647)) := by
        unfold disk_content.f
        by_cases h0 : 0 ≤ a2
        · rw [if_pos h0]; simp [h0]
        · rw [if_neg h0]; simp [h0]
      have cT := disk_content.calls a2 _ w3 hcv
      by_cases hct : 0 ≤ a2 ∧ a2 ≤ 2147483647
      · rw [decide_eq_true hct] at cT
        rw [if_pos hct] at h
        clear hcv hct
        go_wp2_with fail
        refine cT.mono ?_
        rintro e w3' ⟨rfl, hd⟩
        have Bt := hd.below
        have T0 : Aside0 (w3'.heap[w.heap.size]? = some (drD a0_0 (.slice A0_1 l0_1.length c0_1))) := ⟨(Bt.block _ (blk_lt Y0.out)).trans Y0.out⟩
        have T1 : Aside0 (w3'.heap[w.heap.size + 1]? = some (drD 0 (.slice none 0 0))) := ⟨(Bt.block _ (blk_lt Y1.out)).trans Y1.out⟩
        have ET := Aside0.mk (below_then E3.out E3.out.size Bt)
        clear Y0 Y1 E3 Bt hd cT
        have cP := dk_place w.heap.size a0_0 A0_1 c0_1 l0_1 a1 w3' T0.out (Kd.C_below HR.out ET.out) HL.out
        go_wp2_with fail
        refine cP.mono ?_
        rintro e w4 ⟨rfl, Bp⟩
        have Z0 : Aside0 (w4.heap[w.heap.size]? = some (drD a0_0 (.slice A0_1 l0_1.length c0_1))) := ⟨(Bp.block _ (blk_lt T0.out)).trans T0.out⟩
        have Z1 : Aside0 (w4.heap[w.heap.size + 1]? = some (drD 0 (.slice none 0 0))) := ⟨(Bp.block _ (blk_lt T1.out)).trans T1.out⟩
        have E4 := Aside0.mk (below_then ET.out ET.out.size Bp)
        clear cP Bp T0 T1 ET
        obtain ⟨q0, q1⟩ := dr_cells Z0.out
        by_cases hk : a0_0 = 1048576
        · rw [if_pos hk] at h
          have hk2 : (a0_0 == 1048576) = true := by simpa using hk
          clear hk
          obtain ⟨rfl, rfl, rfl⟩ : (0 : Int) = r1 ∧ [] = r2 ∧ (1201 : Int) = r3 := by cases h; exact ⟨rfl, rfl, rfl⟩
          clear h
          obtain ⟨t0, t1⟩ := dr_cells Z1.out
          have z0 := blk_frozen Z1.out 0
          have z1 := blk_frozen Z1.out 1
          go_wp2
          refine bodyPost_ret (results_ct rfl _ _ (w.heap.size + 1) 28 _ (0, 0) _ rfl (dr_put Z1.out _ _) Tryd.underlying28 rfl (by kernel_rfl)) rfl ?_
          exact ⟨_, rfl, Kd.R_nil _ _ _ _ _, below_set (below_set E4.out (Nat.le_succ _)) (Nat.le_succ _)⟩
        · rw [if_neg hk] at h
          have hk2 : (a0_0 == 1048576) = false := by simpa using hk
          clear hk
          have cC := disk_Copy.calls a0_0 A0_1 c0_1 l0_1 a0_0 l0_1 w4 (Kd.C_below HR.out E4.out) HC.out (by unfold disk_Copy.f; rw [if_pos (by have := HL.out; omega)])
          have hb1 : w.heap.size + 1 < w4.heap.size := blk_lt Z1.out
          obtain ⟨ck, hck⟩ : ∃ ck, ck = wrap64 (a0_0 + 1) := ⟨_, rfl⟩
          have hw1 : IntKind.i64.wrap (a0_0 + 1) = ck := (i64_w _).trans hck.symm
          have hw2 : wrap64 (a0_0 + 1) = ck := hck.symm
          rw [← hck] at h
          clear hck
          cases hb : bsIs l0_1 a1 with
          | true =>
            rw [hb, if_pos rfl] at h
            obtain ⟨rfl, rfl, rfl⟩ : ck = r1 ∧ l0_1.set (bsAt l0_1 a1) (dpF a1 a2 ck) = r2 ∧ (0 : Int) = r3 := by cases h; exact ⟨rfl, rfl, rfl⟩
            have hi : bsAt l0_1 a1 < l0_1.length := by
              unfold bsIs at hb
              rw [Bool.and_eq_true] at hb
              exact of_decide_eq_true hb.1
            clear h hb
            go_wp2_with fail
            refine cC.mono ?_
            rintro e w5 ⟨v, rfl, hR, Bc⟩
            obtain ⟨A9, k9, rfl⟩ := Kd.R_slice hR
            obtain ⟨W6, hW6⟩ : ∃ W6, W6 = (w5.alloc (drD ck (.slice A9 l0_1.length k9))).alloc (.cells #[.string a1, .int .i64 a2, .int .i64 ck] 72) := ⟨_, rfl⟩
            have B56 : Below w5.heap.size w5 W6 := by rw [hW6]; exact below_alloc (below_alloc (Below.refl _ _) _) _
            have hs6 : W6.heap.size = w5.heap.size + 2 := by rw [hW6]; simp
            have v1 : w5.heap[w.heap.size + 1]? = some (drD 0 (.slice none 0 0)) := (Bc.block _ (blk_lt Z1.out)).trans Z1.out
            have V1 : Aside0 (W6.heap[w.heap.size + 1]? = some (drD 0 (.slice none 0 0))) := ⟨(B56.block _ (blk_lt v1)).trans v1⟩
            have V2 : Aside0 (W6.heap[w5.heap.size]? = some (drD ck (.slice A9 l0_1.length k9))) := ⟨by rw [hW6]; exact (Below.heap_alloc (w5.alloc (drD ck (.slice A9 l0_1.length k9))) _ _ (blk_lt (heap_alloc_new w5 _))).trans (heap_alloc_new w5 _)⟩
            have V3 : Aside0 (W6.heap[w5.heap.size + 1]? = some (.cells #[.string a1, .int .i64 a2, .int .i64 ck] 72 (0, 0))) := ⟨by rw [hW6]; have := heap_alloc_new (w5.alloc (drD ck (.slice A9 l0_1.length k9))) (.cells #[.string a1, .int .i64 a2, .int .i64 ck] 72); rwa [World.size_alloc] at this⟩
            have hb4 : w4.heap.size ≤ w5.heap.size := Bc.size
            have E5 := below_then E4.out E4.out.size Bc
            have E6 := Aside0.mk (below_then E5 E5.size B56)
            have HO : Aside0 (Kd.R k72 72 W6 w.heap.size (fun g => g ≠ w.heap.size + 1 ∧ g ≠ w5.heap.size ∧ g ≠ w5.heap.size + 1) (.slice A9 l0_1.length k9) l0_1) := ⟨Kd.R_lower (Kd.R_below (Kd.R_mono (Kd.R_bound hR) (fun g hg => ⟨by omega, by omega, by omega⟩)) B56) E4.out.size⟩
            have HW6 := Aside0.mk hW6
            have BC := Aside0.mk Bc
            clear hR cC q0 q1 Bc E5 B56 v1 hW6
            obtain ⟨g, c9, hAg⟩ := rF_some HO.out (by omega)
            injection hAg with hA9 _ hc9
            subst hA9; subst hc9
            obtain ⟨cur, hg, hgs, _, _, hgc, _, _, hgo⟩ := rF_open HO.out
            obtain ⟨ad, hA, x0, x1, x2⟩ := at_T72 (Kd.R_reads' HO.out).2.2 (bsAt l0_1 a1 : Int) (by omega) (by omega)
            cases hA
            simp only [Int.toNat_natCast, Addr.add_lit, Nat.zero_add] at x0 x1 x2
            have y0 := blk_frozen hg (bsAt l0_1 a1 * 3)
            have y1 := blk_frozen hg (bsAt l0_1 a1 * 3 + 1)
            have y2 := blk_frozen hg (bsAt l0_1 a1 * 3 + 2)
            obtain ⟨t0, t1⟩ := dr_cells V1.out
            obtain ⟨t2, t3⟩ := dr_cells V2.out
            have z0 := blk_frozen V1.out 0
            have z1 := blk_frozen V1.out 1
            have z2 := blk_frozen V2.out 0
            have z3 := blk_frozen V2.out 1
            have s0 : W6.cell? ⟨w5.heap.size + 1, 0, none⟩ = some (.string a1) := by rw [blk_cell V3.out]; rfl
            have s1 : W6.cell? ⟨w5.heap.size + 1, 1, none⟩ = some (.int .i64 a2) := by rw [blk_cell V3.out]; rfl
            have s2 : W6.cell? ⟨w5.heap.size + 1, 2, none⟩ = some (.int .i64 ck) := by rw [blk_cell V3.out]; rfl
            have n1 : g ≠ w.heap.size + 1 := hgo.1
            have n2 : g ≠ w5.heap.size := hgo.2.1
            have n3 : w5.heap.size ≠ w.heap.size + 1 := by omega
            have hiz : (bsAt l0_1 a1 : Int) < (l0_1.length : Int) := by omega
            clear hg hgs hgc hgo
            go_upto_region 9 with fail
            rw [← HW6.out]
            have hset : Aside0 (Kd.R k72 72 (((W6.setCell ⟨g, bsAt l0_1 a1 * 3, none⟩ (.string a1)).setCell ⟨g, bsAt l0_1 a1 * 3 + 1, none⟩ (.int .i64 a2)).setCell ⟨g, bsAt l0_1 a1 * 3 + 2, none⟩ (.int .i64 ck)) w.heap.size (fun g => g ≠ w.heap.size + 1 ∧ g ≠ w5.heap.size ∧ g ≠ w5.heap.size + 1) (.slice (some ⟨g, 0, none⟩) l0_1.length k9) (l0_1.set (bsAt l0_1 a1) (dpF a1 a2 ck))) := ⟨rF_set HO.out (bsAt l0_1 a1) hi (dpF a1 a2 ck)⟩
            have hgb : w.heap.size ≤ g := Kd.R_base HO.out g (by simp [Value.ownBlock])
            go_wp2
            refine bodyPost_ret (results_ct rfl _ _ (w.heap.size + 1) 28 _ (0, 0) _ rfl (dr_put (blk_far (blk_far (blk_far V1.out (Ne.symm n1) _) (Ne.symm n1) _) (Ne.symm n1) _) _ _) Tryd.underlying28 rfl (by kernel_rfl)) rfl ?_
            refine ⟨_, rfl, ?_, ?_⟩
            · exact Kd.R_mono (Kd.R_far (p := ⟨w.heap.size + 1, 1, none⟩) (Kd.R_far (p := ⟨w.heap.size + 1, 0, none⟩) hset.out (fun q hq => hq.1) _) (fun q hq => hq.1) _) (fun _ _ => trivial)
            · exact below_set (below_set (below_set (below_set (below_set E6.out hgb) hgb) hgb) (Nat.le_succ _)) (Nat.le_succ _)
          | false =>
            rw [hb, if_neg (by simp)] at h
            have hat : bsAt l0_1 a1 ≤ l0_1.length := bsL_le l0_1 a1 l0_1.length 0 l0_1.length (Nat.zero_le _) (Nat.le_refl _)
            by_cases hn : l0_1.length = 64
            · rw [if_pos hn] at h
              have hn2 : ((l0_1.length : Int) == 64) = true := by simp; omega
              clear hn hb cC
              obtain ⟨rfl, rfl, rfl⟩ : (0 : Int) = r1 ∧ [] = r2 ∧ (1201 : Int) = r3 := by cases h; exact ⟨rfl, rfl, rfl⟩
              clear h
              obtain ⟨t0, t1⟩ := dr_cells Z1.out
              have z0 := blk_frozen Z1.out 0
              have z1 := blk_frozen Z1.out 1
              go_wp2
              refine bodyPost_ret (results_ct rfl _ _ (w.heap.size + 1) 28 _ (0, 0) _ rfl (dr_put Z1.out _ _) Tryd.underlying28 rfl (by kernel_rfl)) rfl ?_
              exact ⟨_, rfl, Kd.R_nil _ _ _ _ _, below_set (below_set E4.out (Nat.le_succ _)) (Nat.le_succ _)⟩
            · rw [if_neg hn] at h
              have hn2 : ((l0_1.length : Int) == 64) = false := by simp; omega
              clear hn hb
              obtain ⟨rfl, rfl, rfl⟩ : ck = r1 ∧ l0_1.take (bsAt l0_1 a1) ++ dpF a1 a2 ck :: l0_1.drop (bsAt l0_1 a1) = r2 ∧ (0 : Int) = r3 := by cases h; exact ⟨rfl, rfl, rfl⟩
              clear h
              go_wp2_with fail
              refine cC.mono ?_
              rintro e w5 ⟨v, rfl, hR, Bc⟩
              obtain ⟨A9, k9, rfl⟩ := Kd.R_slice hR
              obtain ⟨W6, hW6⟩ : ∃ W6, W6 = (w5.alloc (drD ck (.slice A9 l0_1.length k9))).alloc (.cells #[.string a1, .int .i64 a2, .int .i64 ck] 72) := ⟨_, rfl⟩
              have B56 : Below w5.heap.size w5 W6 := by rw [hW6]; exact below_alloc (below_alloc (Below.refl _ _) _) _
              have hs6 : W6.heap.size = w5.heap.size + 2 := by rw [hW6]; simp
              have v1 : w5.heap[w.heap.size + 1]? = some (drD 0 (.slice none 0 0)) := (Bc.block _ (blk_lt Z1.out)).trans Z1.out
              have V1 : Aside0 (W6.heap[w.heap.size + 1]? = some (drD 0 (.slice none 0 0))) := ⟨(B56.block _ (blk_lt v1)).trans v1⟩
              have V2 : Aside0 (W6.heap[w5.heap.size]? = some (drD ck (.slice A9 l0_1.length k9))) := ⟨by rw [hW6]; exact (Below.heap_alloc (w5.alloc (drD ck (.slice A9 l0_1.length k9))) _ _ (blk_lt (heap_alloc_new w5 _))).trans (heap_alloc_new w5 _)⟩
              have V3 : Aside0 (W6.heap[w5.heap.size + 1]? = some (.cells #[.string a1, .int .i64 a2, .int .i64 ck] 72 (0, 0))) := ⟨by rw [hW6]; have := heap_alloc_new (w5.alloc (drD ck (.slice A9 l0_1.length k9))) (.cells #[.string a1, .int .i64 a2, .int .i64 ck] 72); rwa [World.size_alloc] at this⟩
              have hb4 : w4.heap.size ≤ w5.heap.size := Bc.size
              have E5 := below_then E4.out E4.out.size Bc
              have E6 := Aside0.mk (below_then E5 E5.size B56)
              have HO : Aside0 (Kd.R k72 72 W6 w.heap.size (fun g => g ≠ w.heap.size + 1 ∧ g ≠ w5.heap.size ∧ g ≠ w5.heap.size + 1) (.slice A9 l0_1.length k9) l0_1) := ⟨Kd.R_lower (Kd.R_below (Kd.R_mono (Kd.R_bound hR) (fun g hg => ⟨by omega, by omega, by omega⟩)) B56) E4.out.size⟩
              have HW6 := Aside0.mk hW6
              have BC := Aside0.mk Bc
              clear hR cC q0 q1 Bc E5 B56 v1 hW6
              go_wp2_with fail
              rw [← HW6.out]
              have hown := (Kd.R_bound HO.out).1
              have c7 := di_insert (bsAt l0_1 a1) (dpF a1 a2 ck) (.slice A9 l0_1.length k9) l0_1 (w5.heap.size + 1 + 1) (W6.alloc (.cells #[.string a1, .int .i64 a2, .int .i64 ck] 72)) w w.heap.size _ (Kd.R_alloc HO.out _) hat HL.out (by have := heap_alloc_new W6 (.cells #[.string a1, .int .i64 a2, .int .i64 ck] 72); rwa [hs6] at this)
                (fun q hq => by have := (hown q hq).2.2.1; omega) (fun q hq => by rw [World.size_alloc] at hq; exact ⟨by omega, by omega, by omega⟩) (by rw [World.size_alloc]; have := E6.out.size; omega) (E6.out.alloc E6.out.size _)
              refine c7.mono ?_
              rintro e w7 ⟨v', rfl, hR7, B7, G7⟩
              obtain ⟨A8, k8, rfl⟩ := Kd.R_slice hR7
              generalize (l0_1.take (bsAt l0_1 a1) ++ dpF a1 a2 ck :: l0_1.drop (bsAt l0_1 a1)).length = n8 at hR7 ⊢
              have HOWN := Aside0.mk (fun q hq => (hown q hq).1 : ∀ q, (Value.slice A9 l0_1.length k9).ownBlock = some q → q ≠ w.heap.size + 1 ∧ q ≠ w5.heap.size ∧ q ≠ w5.heap.size + 1)
              have u1 := (Below.heap_alloc W6 (.cells #[.string a1, .int .i64 a2, .int .i64 ck] 72) (w.heap.size + 1) (blk_lt V1.out)).trans V1.out
              have u2 := (Below.heap_alloc W6 (.cells #[.string a1, .int .i64 a2, .int .i64 ck] 72) w5.heap.size (blk_lt V2.out)).trans V2.out
              have U1 : Aside0 (w7.heap[w.heap.size + 1]? = some (drD 0 (.slice none 0 0))) := ⟨(G7.block _ (blk_lt u1) (fun e => (HOWN.out _ e.symm).1 rfl)).trans u1⟩
              have U2 : Aside0 (w7.heap[w5.heap.size]? = some (drD ck (.slice A9 l0_1.length k9))) := ⟨(G7.block _ (blk_lt u2) (fun e => (HOWN.out _ e.symm).2.1 rfl)).trans u2⟩
              clear u1 u2 hown c7
              obtain ⟨t0, t1⟩ := dr_cells U1.out
              obtain ⟨t2, t3⟩ := dr_cells U2.out
              have z0 := blk_frozen U1.out 0
              have z1 := blk_frozen U1.out 1
              have z2 := blk_frozen U2.out 0
              have z3 := blk_frozen U2.out 1
              have R7 := Aside0.mk hR7
              have E7 := Aside0.mk B7
              have hne2 : w5.heap.size ≠ w.heap.size + 1 := by omega
              clear hR7 B7 G7
              go_wp2
              refine bodyPost_ret (results_ct rfl _ _ (w.heap.size + 1) 28 _ (0, 0) _ rfl (dr_put (blk_far U1.out (Ne.symm hne2) _) _ _) Tryd.underlying28 rfl (by kernel_rfl)) rfl ?_
              refine ⟨_, rfl, ?_, ?_⟩
              · exact Kd.R_mono (Kd.R_far (p := ⟨w.heap.size + 1, 1, none⟩) (Kd.R_far (p := ⟨w.heap.size + 1, 0, none⟩) (Kd.R_far (p := ⟨w5.heap.size, 1, none⟩) R7.out (fun q hq => hq.2.1) _) (fun q hq => hq.1) _) (fun q hq => hq.1) _) (fun _ _ => trivial)
              · exact below_set (below_set (below_set E7.out (by have := E4.out.size; omega)) (Nat.le_succ _)) (Nat.le_succ _)
      · rw [decide_eq_false hct] at cT
        rw [if_neg hct] at h
        clear hcv hct
        go_wp2_with fail
        refine cT.mono ?_
        rintro e w3' ⟨rfl, hd⟩
        have Bt := hd.below
        have T1 : Aside0 (w3'.heap[w.heap.size + 1]? = some (drD 0 (.slice none 0 0))) := ⟨(Bt.block _ (blk_lt Y1.out)).trans Y1.out⟩
        have ET := Aside0.mk (below_then E3.out E3.out.size Bt)
        clear Y0 Y1 E3 Bt hd cT
        obtain ⟨rfl, rfl, rfl⟩ : (0 : Int) = r1 ∧ [] = r2 ∧ (1200 : Int) = r3 := by cases h; exact ⟨rfl, rfl, rfl⟩
        clear h
        obtain ⟨t0, t1⟩ := dr_cells T1.out
        have z0 := blk_frozen T1.out 0
        have z1 := blk_frozen T1.out 1
        go_wp2
        refine bodyPost_ret (results_ct rfl _ _ (w.heap.size + 1) 28 _ (0, 0) _ rfl (dr_put T1.out _ _) Tryd.underlying28 rfl (by kernel_rfl)) rfl ?_
        exact ⟨_, rfl, Kd.R_nil _ _ _ _ _, below_set (below_set ET.out (Nat.le_succ _)) (Nat.le_succ _)⟩

end Go.Proofs.YtilnamobmjngbaaDoor.P
