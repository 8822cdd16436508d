-- Made by a program of this work's own (wip/myprint.py) over the kit's print; leaves by hand.
import Derived.Test.YtkplcmcmpdhigaaDoorP0
import Derived.Test.YtkplcmcmpdhigaaDoorP1
import Derived.Test.YtkplcmcmpdhigaaDoorP4
import Derived.Test.YtkplcmcmpdhigaaDoorP9
import Derived.Test.YtkplcmcmpdhigaaDoorP11
import Derived.Test.YtkplcmcmpdhigaaDoorP13
import Derived.Test.YtkplcmcmpdhigaaDoorP14
import Derived.Test.YtkplcmcmpdhigaaDoorP15
import Derived.Test.YtkplcmcmpdhigaaDoorPlain
namespace Go.Proofs.YtkplcmcmpdhigaaDoor.P
open Go.RowKit Go.Proofs.YtkplcmcmpdhigaaDoorW.PrintWords Go.Proofs.YtkplcmcmpdhigaaDoorW.PrintLast Go.Proofs.YtkplcmcmpdhigaaDoorW.PrintMore
attribute [local go_sem] max2_int min2_int max_two min_two max_three min_three max_four min_four   -- for this text's walks alone
set_option linter.unusedVariables false
set_option linter.unusedSimpArgs false

-- HANDBIG Deprecs.lean
-- IMPORT Derived.Test.YtkplcmcmpdhigaaDoorPlain
/-! ### cruciblelaw15_Deprecs, by hand -/
def cruciblelaw15_Deprecs.f (k : Nat) (o : ByteArray) (t : Int) (ins : List ByteArray) (s : ByteArray) : Option Bool :=
  (deprec_Put.f k o t ins).bind fun a => (deprec_Get.f k s).bind fun c => (deprec_Get.f k a.1).bind fun x => (deprec_Put.f k c.1 c.2.1 c.2.2.1).bind fun b => (cruciblelaw0_SpoilTexts.f k c.2.2.1).bind fun _ =>
  if (crucibleref12_PutFound.f k o t ins = some a ∧ crucibleref12_GetFound.f k s = some c ∧ 3 ≤ k ∧ ins.length < 8796093022208) ∧
    (cruciblelaw0_SameFound.f k c.1 c.2.1 c.2.2.1 c.1 c.2.1 c.2.2.1 = some true ∧ cruciblelaw0_SameFound.f k o t ins o t ins = some true ∧ cruciblelaw15_awake.f k = some true) ∧
    (a.2 = 0 → x = (o, t, ins, 0)) ∧ (c.2.2.2 = 0 → b = (s, 0)) then some true else none
theorem cruciblelaw15_Deprecs.mono : ∀ a0 a1 a2 a3 k, LeO (cruciblelaw15_Deprecs.f k a0 a1 a2 a3) (cruciblelaw15_Deprecs.f (k + 1) a0 a1 a2 a3) := by
  intro o t ins s k r h
  unfold cruciblelaw15_Deprecs.f at h ⊢
  obtain ⟨a, ha, h⟩ := Option.bind_eq_some_iff.1 h
  obtain ⟨c, hc, h⟩ := Option.bind_eq_some_iff.1 h
  obtain ⟨x, hx, h⟩ := Option.bind_eq_some_iff.1 h
  obtain ⟨b, hb, h⟩ := Option.bind_eq_some_iff.1 h
  obtain ⟨p, hp, h⟩ := Option.bind_eq_some_iff.1 h
  split at h
  case isFalse => cases h
  rename_i hq
  obtain ⟨⟨q1, q2, q3, q4⟩, ⟨q5, q6, q7⟩, q8⟩ := hq
  refine Option.bind_eq_some_iff.2 ⟨a, deprec_Put.mono _ _ _ k a ha, Option.bind_eq_some_iff.2 ⟨c, deprec_Get.mono _ k c hc, Option.bind_eq_some_iff.2 ⟨x, deprec_Get.mono _ k x hx, Option.bind_eq_some_iff.2 ⟨b, deprec_Put.mono _ _ _ k b hb, Option.bind_eq_some_iff.2 ⟨p, cruciblelaw0_SpoilTexts.mono _ k p hp, ?_⟩⟩⟩⟩⟩
  rw [if_pos ⟨⟨crucibleref12_PutFound.mono _ _ _ k a q1, crucibleref12_GetFound.mono _ k c q2, by omega, q4⟩, ⟨cruciblelaw0_SameFound.mono _ _ _ _ _ _ k true q5, cruciblelaw0_SameFound.mono _ _ _ _ _ _ k true q6, cruciblelaw15_awake.mono k true q7⟩, q8⟩]
  exact h
theorem dp_copy (k : Nat) (hk : 3 ≤ k) (o : ByteArray) (t : Int) (ins : List ByteArray) (h : ins.length < 8796093022208) : cruciblelaw0_CopyFounds.f k [⟨o, t, ins⟩] = some [⟨o, t, ins⟩] := by
  obtain ⟨n, rfl⟩ : ∃ n, k = n + 1 + 1 := ⟨k - 2, by omega⟩
  unfold cruciblelaw0_CopyFounds.f
  rw [cruciblelaw0_CopyFounds.l0, if_pos (by simp), if_pos (by omega)]
  simp only [Option.bind_some]
  rw [if_pos (show ([] : List ByteArray).length + ((rd_T41 [⟨o, t, ins⟩] 0).f2).length < 8796093022208 by show 0 + ins.length < _; omega), if_pos (by decide), cruciblelaw0_CopyFounds.l0, if_neg (by rw [show wrap64 (0 + 1) = 1 by unfold wrap64; omega]; simp)]
  rfl
abbrev dpF (o : ByteArray) (t : Int) (A : Option Addr) (n c : Nat) : Obj := .cells #[.string o, .int .i64 t, .slice A n c] 41
theorem dp_cells {W : World} {b : Nat} {o : ByteArray} {t : Int} {A : Option Addr} {n c : Nat} (h : W.heap[b]? = some (dpF o t A n c)) : W.cell? ⟨b, 0, none⟩ = some (.string o) ∧ W.cell? ⟨b, 1, none⟩ = some (.int .i64 t) ∧ W.cell? ⟨b, 2, none⟩ = some (.slice A n c) :=
  ⟨by rw [blk_cell h]; rfl, by rw [blk_cell h]; rfl, by rw [blk_cell h]; rfl⟩
theorem dp_lit (W : World) (b : Nat) (o : ByteArray) (t : Int) (A : Option Addr) (ins : List ByteArray) (c : Nat) (hb : W.heap[b]? = some (dpF o t A ins.length c)) (hc : ins.length ≤ c) (hC : Kd.C Kd.string W A ins.length ins) : Kd.C k41 W (some ⟨b, 0, none⟩) 1 [⟨o, t, ins⟩] := by
  refine ⟨rfl, by decide, fun _ => ⟨_, rfl, fun j x hx => ?_⟩⟩
  cases j with
  | succ j => simp at hx
  | zero =>
    obtain rfl : (⟨o, t, ins⟩ : S41) = x := by simpa using hx
    refine ⟨_, rfl, k41_mk W ⟨o, t, ins⟩ hc hC, fun i u hu => ?_⟩
    rw [add_plain, blk_cell hb]
    match i, hu with
    | 0, hu => exact hu
    | 1, hu => exact hu
    | 2, hu => exact hu
    | i + 3, hu => simp at hu
theorem dp_then {w W w' : World} (h : Below w.heap.size w W) (hB : Below W.heap.size W w') : Below w.heap.size w w' := below_then h h.size hB
theorem dp_keep {W W' : World} {b : Nat} {o : Obj} (h : W.heap[b]? = some o) (hB : Below W.heap.size W W') : W'.heap[b]? = some o := (hB.block _ (blk_lt h)).trans h
theorem dp_cell {W W' : World} {a : Addr} {v : Value} (h : W.cell? a = some v) (hB : Below W.heap.size W W') : W'.cell? a = some v := (hB.cell (World.block_lt_of_cell? W _ h)).trans h
set_option maxHeartbeats 8000000 in
set_option maxRecDepth 100000 in
theorem cruciblelaw15_Deprecs.calls (k : Nat) (o : ByteArray) (t : Int) (A : Option Addr) (c : Nat) (ins : List ByteArray) (s : ByteArray) (r : Bool) (w : World) (hr0 : Kd.C Kd.string w A ins.length ins) (hc0 : ins.length ≤ c) (h : cruciblelaw15_Deprecs.f k o t ins s = some r) :
    Calls Tryd.prog 7 #[.agg #[.string o, .int .i64 t, .slice A ins.length c], .string s] w fun e w' => e = .returned (.bool r) ∧ Below w.heap.size w w' := by
  unfold cruciblelaw15_Deprecs.f at h
  obtain ⟨⟨a1, a2⟩, ha, h⟩ := Option.bind_eq_some_iff.1 h
  obtain ⟨⟨c1, c2, c3, c4⟩, hc, h⟩ := Option.bind_eq_some_iff.1 h
  obtain ⟨⟨x1, x2, x3, x4⟩, hx, h⟩ := Option.bind_eq_some_iff.1 h
  obtain ⟨⟨b1, b2⟩, hb, h⟩ := Option.bind_eq_some_iff.1 h
  obtain ⟨sp, hsp, h⟩ := Option.bind_eq_some_iff.1 h
  split at h
  case isFalse => cases h
  rename_i hq
  obtain rfl : true = r := Option.some.inj h
  obtain ⟨⟨q1, q2, q3, q4⟩, ⟨q5, q6, q7⟩, q8, q9⟩ := hq
  have hcopy := dp_copy k q3 o t ins q4
  simp only [] at ha hc hx hb hsp q1 q2 q5 q6 q8 q9
  clear h q3 q4
  have HA := Aside0.mk ha
  have HG := Aside0.mk hc
  have HX := Aside0.mk hx
  have HB := Aside0.mk hb
  have HSP := Aside0.mk hsp
  have Q1 := Aside0.mk q1
  have Q2 := Aside0.mk q2
  have Q5 := Aside0.mk q5
  have Q6 := Aside0.mk q6
  have Q7 := Aside0.mk q7
  have Q8 := Aside0.mk q8
  have Q9 := Aside0.mk q9
  have HC0 := Aside0.mk hc0
  have HR0 := Aside0.mk hr0
  clear ha hc hx hb hsp q1 q2 q5 q6 q7 q8 q9
  have F0 := heap_alloc_new w (dpF o t A ins.length c)
  have F1 := heap_alloc_new (w.alloc (dpF o t A ins.length c)) (dpF o t A ins.length c)
  simp only [World.size_alloc] at F1
  have b1 : Below w.heap.size w ((w.alloc (dpF o t A ins.length c)).alloc (dpF o t A ins.length c)) := below_alloc (below_alloc (Below.refl _ _) _) _
  have c26 := cruciblelaw0_CopyFounds.calls k (some ⟨w.heap.size + 1, 0, none⟩) 1 [⟨o, t, ins⟩] _ _ (dp_lit _ _ o t A ins c F1 hc0 (Kd.C_below hr0 b1)) (Nat.le_refl 1) hcopy
  have F0 := Aside0.mk ((Below.heap_alloc (w.alloc (dpF o t A ins.length c)) (dpF o t A ins.length c) w.heap.size (blk_lt F0)).trans F0)
  have B1 := Aside0.mk b1
  clear F1 b1 hcopy hc0 hr0
  go_enter Tryd.func7, Tryd.ntmps7
  go_wp2_with fail
  refine c26.mono ?_
  rintro e w2 ⟨v2, rfl, hS2, B2⟩
  clear c26
  obtain ⟨A2, k2, rfl, hk2, hC2⟩ := Kd.S_reads hS2
  obtain ⟨ad, A3, k3, ead, y0, y1, y2, hl3, hC3⟩ := at_T41 hC2 0 (by decide) (show (0 : Int) < ((1 : Nat) : Int) by decide)
  cases ead
  have e0 : ad.add ((0 : Int).toNat * 3) = ad := by simp [Addr.add]
  rw [e0] at y0 y1 y2
  have e1 : rd_T41 [⟨o, t, ins⟩] 0 = ⟨o, t, ins⟩ := rfl
  rw [e1] at y0 y1 y2 hl3 hC3
  simp only [] at y0 y1 y2 hl3 hC3
  clear e0 e1 hS2 hC2
  have F2 := Aside0.mk (dp_keep F0.out B2)
  have B2 := Aside0.mk (dp_then B1.out B2)
  have Y2 := Aside0.mk (And.intro y0 (And.intro y1 y2))
  have C2 := Aside0.mk hC3
  have L2 := Aside0.mk hl3
  clear F0 B1 hC3 hl3
  have c27 := deprec_Put.calls k o t A3 k3 ins a1 a2 w2 C2.out L2.out HA.out
  go_wp2_with fail
  refine c27.mono ?_
  rintro e w3 ⟨rfl, B3⟩
  clear c27 y0 y1 y2
  have D3 := Aside0.mk B3
  have b3 := dp_then B2.out B3
  have c28 := crucibleref12_PutFound.calls k o t A c ins a1 a2 w3 (Kd.C_below HR0.out b3) HC0.out Q1.out
  obtain ⟨g0, g1, g2⟩ := dp_cells (dp_keep F2.out B3)
  clear B3 b3
  go_wp2_with fail
  refine c28.mono ?_
  rintro e w4 ⟨rfl, B4⟩
  clear c28 g0 g1 g2
  have D4 := Aside0.mk (below_then D3.out D3.out.size B4)
  clear B4 D3
  have c29 := deprec_Get.calls k s _ _ _ _ w4 HG.out
  go_wp2_with fail
  refine c29.mono ?_
  rintro e w5 ⟨v5, rfl, hR5, B5⟩
  clear c29
  obtain ⟨Ac, kc, rfl⟩ := Kd.R_slice hR5
  obtain ⟨_, hkc, hCc⟩ := Kd.R_reads' hR5
  have R5 := Aside0.mk hR5
  have CC := Aside0.mk hCc
  have KC := Aside0.mk hkc
  have B5 := Aside0.mk B5
  clear hR5 hCc hkc
  have c30 := crucibleref12_GetFound.calls k s _ _ _ _ (w5.alloc (dpF c1 c2 Ac c3.length kc)) Q2.out
  have H5 := Aside0.mk (heap_alloc_new w5 (dpF c1 c2 Ac c3.length kc))
  go_wp2_with fail
  refine c30.mono ?_
  rintro e w6 ⟨v6, rfl, hR6, B6⟩
  clear c30
  obtain ⟨Ad, kd, rfl⟩ := Kd.R_slice hR6
  obtain ⟨_, hkd, hCd⟩ := Kd.R_reads' hR6
  have CD := Aside0.mk hCd
  have KD := Aside0.mk hkd
  have E6 := Aside0.mk (below_then (below_alloc (Below.refl w5.heap.size w5) (dpF c1 c2 Ac c3.length kc)) (below_alloc (Below.refl w5.heap.size w5) _).size B6)
  have H6 := Aside0.mk (dp_keep H5.out B6)
  clear hR6 hCd hkd B6 H5
  have c31 := deprec_Get.calls k a1 _ _ _ _ (w6.alloc (dpF c1 c2 Ad c3.length kd)) HX.out
  have J6 := Aside0.mk (heap_alloc_new w6 (dpF c1 c2 Ad c3.length kd))
  go_wp2_with fail
  refine c31.mono ?_
  rintro e w7 ⟨v7, rfl, hR7, B7⟩
  clear c31
  obtain ⟨Ax, kx, rfl⟩ := Kd.R_slice hR7
  obtain ⟨_, hkx, hCx⟩ := Kd.R_reads' hR7
  have CX := Aside0.mk hCx
  have KX := Aside0.mk hkx
  have E7a := below_then (below_alloc (Below.refl w6.heap.size w6) (dpF c1 c2 Ad c3.length kd)) (below_alloc (Below.refl w6.heap.size w6) _).size B7
  have H7 := dp_keep H6.out E7a
  have J7 := dp_keep J6.out B7
  have CD7 := Kd.C_below CD.out E7a
  have E7 := below_then E6.out E6.out.size E7a
  clear hR7 hCx hkx B7 E7a H6 J6 E6 CD
  have X8 := heap_alloc_new w7 (dpF x1 x2 Ax x3.length kx)
  have al := below_alloc (Below.refl w7.heap.size w7) (dpF x1 x2 Ax x3.length kx)
  have H8 := dp_keep H7 al
  have J8 := dp_keep J7 al
  have CD8 := Kd.C_below CD7 al
  have CX8 := Kd.C_below CX.out al
  have E8 := below_then E7 E7.size al
  have c32 := deprec_Put.calls k c1 c2 Ac kc c3 b1 b2 _ (Kd.C_below CC.out E8) KC.out HB.out
  obtain ⟨g0, g1, g2⟩ := dp_cells H8
  have H8 := Aside0.mk H8
  have J8 := Aside0.mk J8
  have CD8 := Aside0.mk CD8
  have CX8 := Aside0.mk CX8
  have E8 := Aside0.mk E8
  have X8 := Aside0.mk X8
  clear al H7 J7 CD7 CX E7
  go_wp2_with fail
  refine c32.mono ?_
  rintro e w8 ⟨rfl, B8⟩
  clear c32 g0 g1 g2
  have H9 := dp_keep H8.out B8
  have J9 := dp_keep J8.out B8
  have X9 := dp_keep X8.out B8
  have CD9 := Kd.C_below CD8.out B8
  have CX9 := Kd.C_below CX8.out B8
  have E9 := below_then E8.out E8.out.size B8
  have E94 := below_then B5.out B5.out.size E9
  have E92 := below_then D4.out D4.out.size E94
  have F9 := dp_keep F2.out E92
  clear B8 H8 J8 X8 CD8 CX8 E8
  have toS : ∀ w', Below w8.heap.size w8 w' → (w'.cell? ⟨w.heap.size, 0, none⟩ = some (.string o) ∧ w'.cell? ⟨w.heap.size, 1, none⟩ = some (.int .i64 t) ∧ w'.cell? ⟨w.heap.size, 2, none⟩ = some (.slice A ins.length c) ∧ w'.cell? ⟨w5.heap.size, 0, none⟩ = some (.string c1) ∧ w'.cell? ⟨w5.heap.size, 1, none⟩ = some (.int .i64 c2) ∧ w'.cell? ⟨w5.heap.size, 2, none⟩ = some (.slice Ac c3.length kc) ∧ w'.cell? ⟨w6.heap.size, 0, none⟩ = some (.string c1) ∧ w'.cell? ⟨w6.heap.size, 1, none⟩ = some (.int .i64 c2) ∧ w'.cell? ⟨w6.heap.size, 2, none⟩ = some (.slice Ad c3.length kd) ∧ w'.cell? ⟨w7.heap.size, 0, none⟩ = some (.string x1) ∧ w'.cell? ⟨w7.heap.size, 1, none⟩ = some (.int .i64 x2) ∧ w'.cell? ⟨w7.heap.size, 2, none⟩ = some (.slice Ax x3.length kx)) := fun w' hB => by
    obtain ⟨s0, s1, s2⟩ := dp_cells (dp_keep F9 hB)
    obtain ⟨s3, s4, s5⟩ := dp_cells (dp_keep H9 hB)
    obtain ⟨s6, s7, s8⟩ := dp_cells (dp_keep J9 hB)
    obtain ⟨s9, s10, s11⟩ := dp_cells (dp_keep X9 hB)
    exact ⟨s0, s1, s2, s3, s4, s5, s6, s7, s8, s9, s10, s11⟩
  have cN : ∀ (n : Int) W, Below w8.heap.size w8 W → Calls Tryd.prog 22 #[.int .i64 n] W fun e w' => e = .returned (.int .i64 n) ∧ Below w8.heap.size w8 w' := fun n W hW => (cruciblelaw0_Num.calls n n W rfl).mono fun e w' ⟨he, hd⟩ => ⟨he, dp_then hW hd.below⟩
  have cSc : ∀ W, Below w8.heap.size w8 W → Calls Tryd.prog 31 #[.agg #[.string c1, .int .i64 c2, .slice Ac c3.length kc], .agg #[.string c1, .int .i64 c2, .slice Ad c3.length kd]] W fun e w' => e = .returned (.bool true) ∧ Below w8.heap.size w8 w' := fun W hW =>
    (cruciblelaw0_SameFound.calls k c1 c2 Ac kc c3 c1 c2 Ad kd c3 true W (Kd.C_below (Kd.C_below CC.out E9) hW) KC.out (Kd.C_below CD9 hW) KD.out Q5.out).mono fun e w' ⟨he, hd⟩ => ⟨he, dp_then hW hd⟩
  have cSx : (x1, x2, x3, x4) = (o, t, ins, 0) → ∀ W, Below w8.heap.size w8 W → Calls Tryd.prog 31 #[.agg #[.string o, .int .i64 t, .slice Ax ins.length kx], .agg #[.string o, .int .i64 t, .slice A ins.length c]] W fun e w' => e = .returned (.bool true) ∧ Below w8.heap.size w8 w' := fun hxx W hW => by
    cases hxx
    exact (cruciblelaw0_SameFound.calls k o t Ax kx ins o t A c ins true W (Kd.C_below CX9 hW) KX.out (Kd.C_below HR0.out (dp_then (dp_then B2.out E92) hW)) HC0.out Q6.out).mono fun e w' ⟨he, hd⟩ => ⟨he, dp_then hW hd⟩
  have cSp : ∀ W, Below w8.heap.size w8 W → Calls Tryd.prog 32 #[.slice Ac c3.length kc] W fun e w' => e = .returned (.tuple #[]) ∧ Below w4.heap.size w4 w' := fun W hW =>
    (cruciblelaw0_SpoilTexts.calls k (fun _ => True) (.slice Ac c3.length kc) c3 sp w4 W (below_then E94 E94.size hW) (Kd.R_below R5.out (below_then E9 E9.size hW)) HSP.out).mono fun e w' ⟨he, _, hd, _⟩ => ⟨he, hd⟩
  have toY : ∀ w', Below w4.heap.size w4 w' → (w'.cell? ad = some (.string o) ∧ w'.cell? ⟨ad.block, ad.off + 1, none⟩ = some (.int .i64 t) ∧ w'.cell? ⟨ad.block, ad.off + 2, none⟩ = some (.slice A3 ins.length k3) ∧ w'.cell? ⟨w.heap.size, 0, none⟩ = some (.string o) ∧ w'.cell? ⟨w.heap.size, 1, none⟩ = some (.int .i64 t) ∧ w'.cell? ⟨w.heap.size, 2, none⟩ = some (.slice A ins.length c) ∧ Below w4.heap.size w4 w') := fun w' hB => by
    have hD := below_then D4.out D4.out.size hB
    obtain ⟨s0, s1, s2⟩ := dp_cells (dp_keep F2.out hD)
    exact ⟨dp_cell Y2.out.1 hD, dp_cell Y2.out.2.1 hD, dp_cell Y2.out.2.2 hD, s0, s1, s2, hB⟩
  have cSy : ∀ W, (W.cell? ad = some (.string o) ∧ W.cell? ⟨ad.block, ad.off + 1, none⟩ = some (.int .i64 t) ∧ W.cell? ⟨ad.block, ad.off + 2, none⟩ = some (.slice A3 ins.length k3) ∧ W.cell? ⟨w.heap.size, 0, none⟩ = some (.string o) ∧ W.cell? ⟨w.heap.size, 1, none⟩ = some (.int .i64 t) ∧ W.cell? ⟨w.heap.size, 2, none⟩ = some (.slice A ins.length c) ∧ Below w4.heap.size w4 W) → Calls Tryd.prog 31 #[.agg #[.string o, .int .i64 t, .slice A3 ins.length k3], .agg #[.string o, .int .i64 t, .slice A ins.length c]] W fun e w' => e = .returned (.bool true) ∧ Below w4.heap.size w4 w' := fun W hW0 => by
    have hW := hW0.2.2.2.2.2.2
    have hD := below_then D4.out D4.out.size hW
    exact (cruciblelaw0_SameFound.calls k o t A3 k3 ins o t A c ins true W (Kd.C_below C2.out hD) L2.out (Kd.C_below HR0.out (dp_then B2.out hD)) HC0.out Q6.out).mono fun e w' ⟨he, hd⟩ => ⟨he, below_then hW hW.size hd⟩
  have cAw : ∀ W, (W.cell? ad = some (.string o) ∧ W.cell? ⟨ad.block, ad.off + 1, none⟩ = some (.int .i64 t) ∧ W.cell? ⟨ad.block, ad.off + 2, none⟩ = some (.slice A3 ins.length k3) ∧ W.cell? ⟨w.heap.size, 0, none⟩ = some (.string o) ∧ W.cell? ⟨w.heap.size, 1, none⟩ = some (.int .i64 t) ∧ W.cell? ⟨w.heap.size, 2, none⟩ = some (.slice A ins.length c) ∧ Below w4.heap.size w4 W) → Calls Tryd.prog 33 #[] W fun e w' => e = .returned (.bool true) ∧ Below w4.heap.size w4 w' := fun W hW0 => have hW := hW0.2.2.2.2.2.2
    (cruciblelaw15_awake.calls k true W Q7.out).mono fun e w' ⟨he, hd⟩ => ⟨he, below_then hW hW.size hd⟩
  have fin : ∀ W, (W.cell? ad = some (.string o) ∧ W.cell? ⟨ad.block, ad.off + 1, none⟩ = some (.int .i64 t) ∧ W.cell? ⟨ad.block, ad.off + 2, none⟩ = some (.slice A3 ins.length k3) ∧ W.cell? ⟨w.heap.size, 0, none⟩ = some (.string o) ∧ W.cell? ⟨w.heap.size, 1, none⟩ = some (.int .i64 t) ∧ W.cell? ⟨w.heap.size, 2, none⟩ = some (.slice A ins.length c) ∧ Below w4.heap.size w4 W) → Below w.heap.size w W := fun W hW => dp_then (dp_then B2.out D4.out) hW.2.2.2.2.2.2
  have hb8 := Below.refl w8.heap.size w8
  obtain ⟨s0, s1, s2, s3, s4, s5, s6, s7, s8, s9, s10, s11⟩ := toS w8 hb8
  clear HA HG HX HB HSP Q1 Q2 Q5 Q6 Q7 HC0 HR0 F2 B2 Y2 C2 L2 D4 R5 CC KC B5 KD KX H9 J9 X9 CD9 CX9 E9 E94 E92 F9
  by_cases ha2 : a2 = 0
  · have hx := Q8.out ha2
    have cSz := cSx hx
    clear cSx
    cases hx
    by_cases hc4 : c4 = 0
    · have hb := Q9.out hc4
      cases hb
      clear Q8 Q9
      go_wp2_with (first
        | (go_at_call 22; (with_reducible refine (cN _ _ ?_).mono ?_); assumption; rintro e w' ⟨rfl, hb⟩; obtain ⟨s0, s1, s2, s3, s4, s5, s6, s7, s8, s9, s10, s11⟩ := toS _ hb)
        | (go_at_call 31; (first | ((with_reducible refine (cSc _ ?_).mono ?_); assumption; rintro e w' ⟨rfl, hb⟩; obtain ⟨s0, s1, s2, s3, s4, s5, s6, s7, s8, s9, s10, s11⟩ := toS _ hb) | ((with_reducible refine (cSz _ ?_).mono ?_); assumption; rintro e w' ⟨rfl, hb⟩; obtain ⟨s0, s1, s2, s3, s4, s5, s6, s7, s8, s9, s10, s11⟩ := toS _ hb)))
        | (go_at_call 32; (with_reducible refine (cSp _ ?_).mono ?_); assumption; rintro e w' ⟨rfl, hbY⟩; obtain ⟨u0, u1, u2, u3, u4, u5, u6⟩ := toY _ hbY))
      clear cN cSc cSp toS
      go_region_held3 (fun w' => w'.cell? ad = some (.string o) ∧ w'.cell? ⟨ad.block, ad.off + 1, none⟩ = some (.int .i64 t) ∧ w'.cell? ⟨ad.block, ad.off + 2, none⟩ = some (.slice A3 ins.length k3) ∧ w'.cell? ⟨w.heap.size, 0, none⟩ = some (.string o) ∧ w'.cell? ⟨w.heap.size, 1, none⟩ = some (.int .i64 t) ∧ w'.cell? ⟨w.heap.size, 2, none⟩ = some (.slice A ins.length c) ∧ Below w4.heap.size w4 w')
        (first | assumption | (refine toY _ ?_; (repeat (first | assumption | (with_reducible refine below_drew ?_) | (with_reducible refine below_alloc ?_ _))); done) | go_keep)
        (first | (go_at_call 31; (with_reducible refine (cSy _ ?_).mono ?_); assumption; rintro e w' ⟨rfl, hb⟩) | (go_at_call 33; (with_reducible refine (cAw _ ?_).mono ?_); assumption; rintro e w' ⟨rfl, hb⟩))
      all_goals (try go_wp2)
      all_goals go_ret
      all_goals exact ⟨rfl, fin _ (by assumption)⟩
    · clear Q8 Q9
      go_wp2_with (first
        | (go_at_call 22; (with_reducible refine (cN _ _ ?_).mono ?_); assumption; rintro e w' ⟨rfl, hb⟩; obtain ⟨s0, s1, s2, s3, s4, s5, s6, s7, s8, s9, s10, s11⟩ := toS _ hb)
        | (go_at_call 31; (first | ((with_reducible refine (cSc _ ?_).mono ?_); assumption; rintro e w' ⟨rfl, hb⟩; obtain ⟨s0, s1, s2, s3, s4, s5, s6, s7, s8, s9, s10, s11⟩ := toS _ hb) | ((with_reducible refine (cSz _ ?_).mono ?_); assumption; rintro e w' ⟨rfl, hb⟩; obtain ⟨s0, s1, s2, s3, s4, s5, s6, s7, s8, s9, s10, s11⟩ := toS _ hb)))
        | (go_at_call 32; (with_reducible refine (cSp _ ?_).mono ?_); assumption; rintro e w' ⟨rfl, hbY⟩; obtain ⟨u0, u1, u2, u3, u4, u5, u6⟩ := toY _ hbY))
      clear cN cSc cSp toS
      go_region_held3 (fun w' => w'.cell? ad = some (.string o) ∧ w'.cell? ⟨ad.block, ad.off + 1, none⟩ = some (.int .i64 t) ∧ w'.cell? ⟨ad.block, ad.off + 2, none⟩ = some (.slice A3 ins.length k3) ∧ w'.cell? ⟨w.heap.size, 0, none⟩ = some (.string o) ∧ w'.cell? ⟨w.heap.size, 1, none⟩ = some (.int .i64 t) ∧ w'.cell? ⟨w.heap.size, 2, none⟩ = some (.slice A ins.length c) ∧ Below w4.heap.size w4 w')
        (first | assumption | (refine toY _ ?_; (repeat (first | assumption | (with_reducible refine below_drew ?_) | (with_reducible refine below_alloc ?_ _))); done) | go_keep)
        (first | (go_at_call 31; (with_reducible refine (cSy _ ?_).mono ?_); assumption; rintro e w' ⟨rfl, hb⟩) | (go_at_call 33; (with_reducible refine (cAw _ ?_).mono ?_); assumption; rintro e w' ⟨rfl, hb⟩))
      all_goals (try go_wp2)
      all_goals go_ret
      all_goals exact ⟨rfl, fin _ (by assumption)⟩
  · clear cSx
    by_cases hc4 : c4 = 0
    · have hb := Q9.out hc4
      cases hb
      clear Q8 Q9
      go_wp2_with (first
        | (go_at_call 22; (with_reducible refine (cN _ _ ?_).mono ?_); assumption; rintro e w' ⟨rfl, hb⟩; obtain ⟨s0, s1, s2, s3, s4, s5, s6, s7, s8, s9, s10, s11⟩ := toS _ hb)
        | (go_at_call 31; (first | ((with_reducible refine (cSc _ ?_).mono ?_); assumption; rintro e w' ⟨rfl, hb⟩; obtain ⟨s0, s1, s2, s3, s4, s5, s6, s7, s8, s9, s10, s11⟩ := toS _ hb)))
        | (go_at_call 32; (with_reducible refine (cSp _ ?_).mono ?_); assumption; rintro e w' ⟨rfl, hbY⟩; obtain ⟨u0, u1, u2, u3, u4, u5, u6⟩ := toY _ hbY))
      clear cN cSc cSp toS
      go_region_held3 (fun w' => w'.cell? ad = some (.string o) ∧ w'.cell? ⟨ad.block, ad.off + 1, none⟩ = some (.int .i64 t) ∧ w'.cell? ⟨ad.block, ad.off + 2, none⟩ = some (.slice A3 ins.length k3) ∧ w'.cell? ⟨w.heap.size, 0, none⟩ = some (.string o) ∧ w'.cell? ⟨w.heap.size, 1, none⟩ = some (.int .i64 t) ∧ w'.cell? ⟨w.heap.size, 2, none⟩ = some (.slice A ins.length c) ∧ Below w4.heap.size w4 w')
        (first | assumption | (refine toY _ ?_; (repeat (first | assumption | (with_reducible refine below_drew ?_) | (with_reducible refine below_alloc ?_ _))); done) | go_keep)
        (first | (go_at_call 31; (with_reducible refine (cSy _ ?_).mono ?_); assumption; rintro e w' ⟨rfl, hb⟩) | (go_at_call 33; (with_reducible refine (cAw _ ?_).mono ?_); assumption; rintro e w' ⟨rfl, hb⟩))
      all_goals (try go_wp2)
      all_goals go_ret
      all_goals exact ⟨rfl, fin _ (by assumption)⟩
    · clear Q8 Q9
      go_wp2_with (first
        | (go_at_call 22; (with_reducible refine (cN _ _ ?_).mono ?_); assumption; rintro e w' ⟨rfl, hb⟩; obtain ⟨s0, s1, s2, s3, s4, s5, s6, s7, s8, s9, s10, s11⟩ := toS _ hb)
        | (go_at_call 31; (first | ((with_reducible refine (cSc _ ?_).mono ?_); assumption; rintro e w' ⟨rfl, hb⟩; obtain ⟨s0, s1, s2, s3, s4, s5, s6, s7, s8, s9, s10, s11⟩ := toS _ hb)))
        | (go_at_call 32; (with_reducible refine (cSp _ ?_).mono ?_); assumption; rintro e w' ⟨rfl, hbY⟩; obtain ⟨u0, u1, u2, u3, u4, u5, u6⟩ := toY _ hbY))
      clear cN cSc cSp toS
      go_region_held3 (fun w' => w'.cell? ad = some (.string o) ∧ w'.cell? ⟨ad.block, ad.off + 1, none⟩ = some (.int .i64 t) ∧ w'.cell? ⟨ad.block, ad.off + 2, none⟩ = some (.slice A3 ins.length k3) ∧ w'.cell? ⟨w.heap.size, 0, none⟩ = some (.string o) ∧ w'.cell? ⟨w.heap.size, 1, none⟩ = some (.int .i64 t) ∧ w'.cell? ⟨w.heap.size, 2, none⟩ = some (.slice A ins.length c) ∧ Below w4.heap.size w4 w')
        (first | assumption | (refine toY _ ?_; (repeat (first | assumption | (with_reducible refine below_drew ?_) | (with_reducible refine below_alloc ?_ _))); done) | go_keep)
        (first | (go_at_call 31; (with_reducible refine (cSy _ ?_).mono ?_); assumption; rintro e w' ⟨rfl, hb⟩) | (go_at_call 33; (with_reducible refine (cAw _ ?_).mono ?_); assumption; rintro e w' ⟨rfl, hb⟩))
      all_goals (try go_wp2)
      all_goals go_ret
      all_goals exact ⟨rfl, fin _ (by assumption)⟩

end Go.Proofs.YtkplcmcmpdhigaaDoor.P
