-- Made by a program of this work's own (wip/myprint.py) over the kit's print; leaves by hand.
import Derived.Test.YtaokgnhdagcepaaDoorP0
import Derived.Test.YtaokgnhdagcepaaDoorP1
import Derived.Test.YtaokgnhdagcepaaDoorP3
import Derived.Test.YtaokgnhdagcepaaDoorP6
import Derived.Test.YtaokgnhdagcepaaDoorP9
import Derived.Test.YtaokgnhdagcepaaDoorP12
import Derived.Test.YtaokgnhdagcepaaDoorP14
import Derived.Test.YtaokgnhdagcepaaDoorP16
import Derived.Test.YtaokgnhdagcepaaDoorP17
import Derived.Test.YtaokgnhdagcepaaDoorP18
import Derived.Test.YtaokgnhdagcepaaDoorP19
import Derived.Test.YtaokgnhdagcepaaDoorP20
import Derived.Test.YtaokgnhdagcepaaDoorP23
import Derived.Test.YtaokgnhdagcepaaDoorP24
import Derived.Test.YtaokgnhdagcepaaDoorP25
import Derived.Test.YtaokgnhdagcepaaDoorMg1
namespace Go.Proofs.YtaokgnhdagcepaaDoor.P
open Go.RowKit Go.Proofs.YtaokgnhdagcepaaDoorW.PrintWords Go.Proofs.YtaokgnhdagcepaaDoorW.PrintLast Go.Proofs.YtaokgnhdagcepaaDoorW.PrintMore
attribute [local go_sem] max2_int min2_int max_two min_two max_three min_three max_four min_four   -- for this text's walks alone
set_option linter.unusedVariables false
set_option linter.unusedSimpArgs false

-- HANDBIG Deplogs.lean
-- IMPORT Derived.Test.YtaokgnhdagcepaaDoorPlain
/-! ### cruciblelaw16_Deplogs, by hand -/
open Classical in
noncomputable def cruciblelaw16_Deplogs.f (k : Nat) (l0 : List (S32)) (s o : ByteArray) : Option Bool :=
  (deplog_Text.f k l0).bind fun a => (deplog_Load.f k s).bind fun c => (deplog_Last.f k l0 o).bind fun d => (deplog_Compact.f k l0).bind fun p => (deplog_May.f k l0).bind fun m => (cruciblelaw0_SpoilFounds.f k c).bind fun _ => (cruciblelaw0_SpoilFounds.f k p.1).bind fun _ => (cruciblelaw0_SpoilTexts.f k d.2.2.1).bind fun _ =>
  if (cruciblelaw0_CopyFounds.f k l0 = some l0 ∧ crucibleref12_DepsText.f k l0 = some a ∧ crucibleref12_LoadDeps.f k s = some c ∧ crucibleref12_LastFound.f k l0 o = some d ∧ crucibleref12_CompactDeps.f k l0 = some p ∧ crucibleref12_DepsMay.f k l0 = some m) ∧
    (cruciblelaw0_SameFounds.f k c c = some true ∧ cruciblelaw0_SameFounds.f k p.1 p.1 = some true ∧ cruciblelaw0_SameFounds.f k l0 l0 = some true ∧ cruciblelaw0_SameFound.f k d.1 d.2.1 d.2.2.1 d.1 d.2.1 d.2.2.1 = some true) then some true else none
theorem cruciblelaw16_Deplogs.mono : ∀ a0 a1 a2 k, LeO (cruciblelaw16_Deplogs.f k a0 a1 a2) (cruciblelaw16_Deplogs.f (k + 1) a0 a1 a2) := by
  intro l0 s o k r h
  unfold cruciblelaw16_Deplogs.f at h ⊢
  obtain ⟨a, ha, h⟩ := Option.bind_eq_some_iff.1 h
  obtain ⟨c, hc, h⟩ := Option.bind_eq_some_iff.1 h
  obtain ⟨d, hd, h⟩ := Option.bind_eq_some_iff.1 h
  obtain ⟨p, hp, h⟩ := Option.bind_eq_some_iff.1 h
  obtain ⟨m, hm, h⟩ := Option.bind_eq_some_iff.1 h
  obtain ⟨sc, hsc, h⟩ := Option.bind_eq_some_iff.1 h
  obtain ⟨sp, hsp, h⟩ := Option.bind_eq_some_iff.1 h
  obtain ⟨st, hst, h⟩ := Option.bind_eq_some_iff.1 h
  split at h
  case isFalse => cases h
  rename_i hq
  obtain ⟨⟨q0, q1, q2, q3, q4, q5⟩, q6, q7, q8, q9⟩ := hq
  refine Option.bind_eq_some_iff.2 ⟨a, deplog_Text.mono _ k a ha, Option.bind_eq_some_iff.2 ⟨c, deplog_Load.mono _ k c hc, Option.bind_eq_some_iff.2 ⟨d, deplog_Last.mono _ _ k d hd, Option.bind_eq_some_iff.2 ⟨p, deplog_Compact.mono _ k p hp, Option.bind_eq_some_iff.2 ⟨m, deplog_May.mono _ k m hm, Option.bind_eq_some_iff.2 ⟨sc, cruciblelaw0_SpoilFounds.mono _ k sc hsc, Option.bind_eq_some_iff.2 ⟨sp, cruciblelaw0_SpoilFounds.mono _ k sp hsp, Option.bind_eq_some_iff.2 ⟨st, cruciblelaw0_SpoilTexts.mono _ k st hst, ?_⟩⟩⟩⟩⟩⟩⟩⟩
  rw [if_pos ⟨⟨cruciblelaw0_CopyFounds.mono _ k l0 q0, crucibleref12_DepsText.mono _ k a q1, crucibleref12_LoadDeps.mono _ k c q2, crucibleref12_LastFound.mono _ _ k d q3, crucibleref12_CompactDeps.mono _ k p q4, crucibleref12_DepsMay.mono _ k m q5⟩, cruciblelaw0_SameFounds.mono _ _ k true q6, cruciblelaw0_SameFounds.mono _ _ k true q7, cruciblelaw0_SameFounds.mono _ _ k true q8, cruciblelaw0_SameFound.mono _ _ _ _ _ _ k true q9⟩]
  exact h
theorem dg_then {w W w' : World} (h : Below w.heap.size w W) (hB : Below W.heap.size W w') : Below w.heap.size w w' := below_then h h.size hB
abbrev dgO (a : ByteArray) (t : Int) (v : Value) : Obj := .cells #[.string a, .int .i64 t, v] 32
theorem dg_cells {W : World} {b : Nat} {a : ByteArray} {t : Int} {v : Value} (h : W.heap[b]? = some (dgO a t v)) : W.cell? ⟨b, 0, none⟩ = some (.string a) ∧ W.cell? ⟨b, 1, none⟩ = some (.int .i64 t) ∧ W.cell? ⟨b, 2, none⟩ = some v :=
  ⟨by rw [blk_cell h]; rfl, by rw [blk_cell h]; rfl, by rw [blk_cell h]; rfl⟩
theorem dg_keep {W W' : World} {b : Nat} {o : Obj} (h : W.heap[b]? = some o) (hB : Below W.heap.size W W') : W'.heap[b]? = some o := (hB.block _ (blk_lt h)).trans h
set_option maxHeartbeats 8000000 in
set_option maxRecDepth 100000 in
theorem cruciblelaw16_Deplogs.calls (k : Nat) (A0 : Option Addr) (c0 : Nat) (l0 : List (S32)) (a1 a2 : ByteArray) (r : Bool) (w : World) (hr0 : Kd.C k32 w A0 l0.length l0) (hc0 : l0.length ≤ c0) (h : cruciblelaw16_Deplogs.f k l0 a1 a2 = some r) :
    Calls Tryd.prog 3 #[.slice A0 l0.length c0, .string a1, .string a2] w fun e w' => e = .returned (.bool r) ∧ Below w.heap.size w w' := by
  unfold cruciblelaw16_Deplogs.f at h
  obtain ⟨⟨t1, e1⟩, ha, h1⟩ := Option.bind_eq_some_iff.1 h
  clear h
  obtain ⟨c, hc, h2⟩ := Option.bind_eq_some_iff.1 h1
  clear h1
  obtain ⟨⟨d1, d2, d3, d4⟩, hd, h3⟩ := Option.bind_eq_some_iff.1 h2
  clear h2
  obtain ⟨⟨p, e2⟩, hp, h4⟩ := Option.bind_eq_some_iff.1 h3
  clear h3
  obtain ⟨m, hm, h5⟩ := Option.bind_eq_some_iff.1 h4
  clear h4
  obtain ⟨sc, hsc, h6⟩ := Option.bind_eq_some_iff.1 h5
  clear h5
  obtain ⟨sp, hsp, h7⟩ := Option.bind_eq_some_iff.1 h6
  clear h6
  obtain ⟨st, hst, h⟩ := Option.bind_eq_some_iff.1 h7
  clear h7
  split at h
  case isFalse => cases h
  rename_i hq
  obtain rfl : true = r := Option.some.inj h
  obtain ⟨⟨q0, q1, q2, q3, q4, q5⟩, q6, q7, q8, q9⟩ := hq
  simp only [] at ha hc hd hp hm hsc hsp hst q0 q1 q2 q3 q4 q5 q6 q7 q8 q9
  clear h
  have HA := Aside0.mk ha; have HL := Aside0.mk hc; have HD := Aside0.mk hd; have HP := Aside0.mk hp; have HM := Aside0.mk hm
  have HSC := Aside0.mk hsc; have HSP := Aside0.mk hsp; have HST := Aside0.mk hst
  have Q0 := Aside0.mk q0; have Q1 := Aside0.mk q1; have Q2 := Aside0.mk q2; have Q3 := Aside0.mk q3; have Q4 := Aside0.mk q4; have Q5 := Aside0.mk q5
  have Q6 := Aside0.mk q6; have Q7 := Aside0.mk q7; have Q8 := Aside0.mk q8; have Q9 := Aside0.mk q9
  have HC0 := Aside0.mk hc0; have HR0 := Aside0.mk hr0
  clear ha hc hd hp hm hsc hsp hst q0 q1 q2 q3 q4 q5 q6 q7 q8 q9 hc0 hr0
  go_enter Tryd.func3, Tryd.ntmps3
  go_wp2_with fail
  refine (cruciblelaw0_CopyFounds.calls k A0 c0 l0 l0 w HR0.out HC0.out Q0.out).mono ?_
  rintro e w1 ⟨vL, rfl, hSL, b1⟩
  obtain ⟨AL, cL, rfl, hKL, hCL⟩ := Kd.S_reads hSL
  have B1 := Aside0.mk b1
  have CS := Aside0.mk hCL
  have KS := Aside0.mk hKL
  clear hSL b1 hKL hCL
  go_wp2_with fail
  refine (deplog_Text.calls k AL cL l0 t1 e1 w1 CS.out KS.out HA.out).mono ?_
  rintro e w2 ⟨rfl, b2⟩
  have B2 := Aside0.mk b2
  clear b2
  go_wp2_with fail
  refine (crucibleref12_DepsText.calls k A0 c0 l0 t1 e1 w2 (Kd.C_below HR0.out (dg_then B1.out B2.out)) HC0.out Q1.out).mono ?_
  rintro e w3 ⟨rfl, b3⟩
  have B3 := Aside0.mk (dg_then B2.out b3)
  clear b3 B2
  go_wp2_with fail
  refine (deplog_Load.calls k a1 c w3 HL.out).mono ?_
  rintro e w4 ⟨vc, rfl, hRc, b4⟩
  have B4 := Aside0.mk (dg_then B3.out b4)
  obtain ⟨Ac, kc, rfl⟩ := Kd.S_slice hRc
  have RC := Aside0.mk hRc
  clear hRc b4
  go_wp2_with fail
  refine (deplog_Last.calls k AL cL l0 a2 d1 d2 d3 d4 w4 (Kd.C_below CS.out B4.out) KS.out HD.out).mono ?_
  rintro e w5 ⟨vx, rfl, hRx, b5⟩
  obtain ⟨Ax, kx, rfl⟩ := Kd.R_slice hRx
  have RX := Aside0.mk hRx
  have E5 := Aside0.mk b5
  have B5 := Aside0.mk (dg_then B4.out b5)
  clear b5 hRx
  have O0 := Aside0.mk (heap_alloc_new w5 (dgO d1 d2 (.slice Ax d3.length kx)))
  have al0 := Aside0.mk (below_alloc (Below.refl w5.heap.size w5) (dgO d1 d2 (.slice Ax d3.length kx)))
  have al0s := Aside0.mk (show w5.heap.size + 1 ≤ (w5.alloc (dgO d1 d2 (.slice Ax d3.length kx))).heap.size by simp)
  have c11 := crucibleref12_LastFound.calls k A0 c0 l0 a2 d1 d2 d3 d4 (w5.alloc (dgO d1 d2 (.slice Ax d3.length kx))) (Kd.C_below HR0.out (dg_then B1.out (dg_then B5.out al0.out))) HC0.out Q3.out
  go_wp2_with fail
  refine c11.mono ?_
  clear c11
  rintro e w6 ⟨vy, rfl, hRy, b6⟩
  obtain ⟨Ay, ky, rfl⟩ := Kd.R_slice hRy
  have RY := Aside0.mk (Kd.R_reads' hRy)
  have z6 := Aside0.mk (Nat.le_trans al0s.out b6.size)
  have O6 := Aside0.mk (dg_keep O0.out b6)
  have E6 := Aside0.mk (dg_then al0.out b6)
  have B6 := Aside0.mk (dg_then B5.out E6.out)
  clear b6 O0 al0 al0s hRy
  have O1 := Aside0.mk (heap_alloc_new w6 (dgO d1 d2 (.slice Ay d3.length ky)))
  have al1 := Aside0.mk (below_alloc (Below.refl w6.heap.size w6) (dgO d1 d2 (.slice Ay d3.length ky)))
  have al1s := Aside0.mk (show w6.heap.size + 1 ≤ (w6.alloc (dgO d1 d2 (.slice Ay d3.length ky))).heap.size by simp)
  have c12 := deplog_Compact.calls k AL cL l0 p e2 (w6.alloc (dgO d1 d2 (.slice Ay d3.length ky))) (Kd.C_below CS.out (dg_then B6.out al1.out)) KS.out HP.out
  go_wp2_with fail
  refine c12.mono ?_
  clear c12
  rintro e w7 ⟨vp, rfl, hRp, b7⟩
  obtain ⟨Ap, kp, rfl⟩ := Kd.S_slice hRp
  have RP := Aside0.mk (Kd.S_lower hRp al1s.out)
  have G7 := Aside0.mk (dg_then al1.out b7)
  have O7 := Aside0.mk (dg_keep O6.out G7.out)
  have P7 := Aside0.mk (dg_keep O1.out b7)
  have B7 := Aside0.mk (dg_then B6.out G7.out)
  clear b7 O1 al1 al1s hRp O6
  go_wp2_with fail
  refine (crucibleref12_CompactDeps.calls k A0 c0 l0 p e2 w7 (Kd.C_below HR0.out (dg_then B1.out B7.out)) HC0.out Q4.out).mono ?_
  rintro e w8 ⟨vq, rfl, hRq, b8⟩
  obtain ⟨Aq, kq, rfl⟩ := Kd.S_slice hRq
  have CQ := Aside0.mk (Kd.S_reads' hRq).2.2
  have KQ := Aside0.mk (Kd.S_reads' hRq).2.1
  have B8 := Aside0.mk (dg_then B7.out b8)
  have F8 := Aside0.mk b8
  have G8 := Aside0.mk (dg_then G7.out b8)
  have H8 := Aside0.mk (dg_then E6.out G8.out)
  have E8 := Aside0.mk (dg_then E5.out H8.out)
  have R8p := Aside0.mk (Kd.S_reads' (Kd.S_below RP.out b8))
  have R8c := Aside0.mk (Kd.S_reads' (Kd.S_below RC.out E8.out))
  have R8x := Aside0.mk (Kd.R_reads' (Kd.R_below RX.out H8.out))
  have R8y := Aside0.mk (Kd.C_below RY.out.2.2 G8.out)
  have O8 := Aside0.mk (dg_keep O7.out b8)
  have P8 := Aside0.mk (dg_keep P7.out b8)
  clear b8 hRq O7 P7
  have toS : ∀ w', Below w8.heap.size w8 w' → (w'.cell? ⟨w5.heap.size, 0, none⟩ = some (.string d1) ∧ w'.cell? ⟨w5.heap.size, 1, none⟩ = some (.int .i64 d2) ∧ w'.cell? ⟨w5.heap.size, 2, none⟩ = some (.slice Ax d3.length kx) ∧ w'.cell? ⟨w6.heap.size, 0, none⟩ = some (.string d1) ∧ w'.cell? ⟨w6.heap.size, 1, none⟩ = some (.int .i64 d2) ∧ w'.cell? ⟨w6.heap.size, 2, none⟩ = some (.slice Ay d3.length ky)) := fun w' hB => by
    obtain ⟨s0, s1, s2⟩ := dg_cells (dg_keep O8.out hB)
    obtain ⟨s3, s4, s5⟩ := dg_cells (dg_keep P8.out hB)
    exact ⟨s0, s1, s2, s3, s4, s5⟩
  have cN : ∀ (n : Int) W, Below w8.heap.size w8 W → Calls Tryd.prog 12 #[.int .i64 n] W fun e w' => e = .returned (.int .i64 n) ∧ Below w8.heap.size w8 w' := fun n W hW => (cruciblelaw0_Num.calls n n W rfl).mono fun e w' ⟨he, hd⟩ => ⟨he, dg_then hW hd.below⟩
  have cLL : ∀ W, Below w8.heap.size w8 W → Calls Tryd.prog 14 #[.string a1] W fun e w' => ∃ (A9 : Option Addr) (k9 : Nat), e = .returned (.slice A9 c.length k9) ∧ (Kd.C k32 w' A9 c.length c ∧ c.length ≤ k9) ∧ Below w8.heap.size w8 w' := fun W hW =>
    (crucibleref12_LoadDeps.calls k a1 c W Q2.out).mono fun e w' ⟨v, he, hR, hd⟩ => by
      obtain ⟨A9, k9, rfl⟩ := Kd.S_slice hR
      exact ⟨A9, k9, he, ⟨(Kd.S_reads' hR).2.2, (Kd.S_reads' hR).2.1⟩, dg_then hW hd⟩
  have cS1 : ∀ (A9 : Option Addr) (k9 : Nat) W, (Kd.C k32 W A9 c.length c ∧ c.length ≤ k9) → Below w8.heap.size w8 W → Calls Tryd.prog 13 #[.slice Ac c.length kc, .slice A9 c.length k9] W fun e w' => e = .returned (.bool true) ∧ Below w8.heap.size w8 w' := fun A9 k9 W h9 hW =>
    (cruciblelaw0_SameFounds.calls k Ac kc c A9 k9 c true W (Kd.C_below R8c.out.2.2 hW) R8c.out.2.1 h9.1 h9.2 Q6.out).mono fun e w' ⟨he, hd⟩ => ⟨he, dg_then hW hd⟩
  have cS2 : ∀ W, Below w8.heap.size w8 W → Calls Tryd.prog 13 #[.slice Ap p.length kp, .slice Aq p.length kq] W fun e w' => e = .returned (.bool true) ∧ Below w8.heap.size w8 w' := fun W hW =>
    (cruciblelaw0_SameFounds.calls k Ap kp p Aq kq p true W (Kd.C_below R8p.out.2.2 hW) R8p.out.2.1 (Kd.C_below CQ.out hW) KQ.out Q7.out).mono fun e w' ⟨he, hd⟩ => ⟨he, dg_then hW hd⟩
  have cF : ∀ W, Below w8.heap.size w8 W → Calls Tryd.prog 15 #[.agg #[.string d1, .int .i64 d2, .slice Ax d3.length kx], .agg #[.string d1, .int .i64 d2, .slice Ay d3.length ky]] W fun e w' => e = .returned (.bool true) ∧ Below w8.heap.size w8 w' := fun W hW =>
    (cruciblelaw0_SameFound.calls k d1 d2 Ax kx d3 d1 d2 Ay ky d3 true W (Kd.C_below R8x.out.2.2 hW) R8x.out.2.1 (Kd.C_below R8y.out hW) RY.out.2.1 Q9.out).mono fun e w' ⟨he, hd⟩ => ⟨he, dg_then hW hd⟩
  have cM : ∀ W, Below w8.heap.size w8 W → Calls Tryd.prog 16 #[.slice AL l0.length cL] W fun e w' => e = .returned (.bool m) ∧ Below w8.heap.size w8 w' := fun W hW =>
    (deplog_May.calls k AL cL l0 m W (Kd.C_below CS.out (dg_then B8.out hW)) KS.out HM.out).mono fun e w' ⟨he, hd⟩ => ⟨he, dg_then hW hd⟩
  have cLM : ∀ W, Below w8.heap.size w8 W → Calls Tryd.prog 17 #[.slice A0 l0.length c0] W fun e w' => e = .returned (.bool m) ∧ Below w8.heap.size w8 w' := fun W hW =>
    (crucibleref12_DepsMay.calls k A0 c0 l0 m W (Kd.C_below HR0.out (dg_then B1.out (dg_then B8.out hW))) HC0.out Q5.out).mono fun e w' ⟨he, hd⟩ => ⟨he, dg_then hW hd⟩
  have z45 := Aside0.mk E5.out.size
  have cSp : ∀ W, Below w8.heap.size w8 W → Calls Tryd.prog 18 #[.slice Ac c.length kc] W fun e w' => e = .returned (.tuple #[]) ∧ (Below w1.heap.size w1 w' ∧ Kd.S k32 32 w' w1.heap.size (fun g => w6.heap.size + 1 ≤ g) (.slice Ap p.length kp) p ∧ Kd.R Kd.string 9 w' w1.heap.size (fun g => g < w5.heap.size) (.slice Ax d3.length kx) d3 ∧ w'.heap[w5.heap.size]? = some (dgO d1 d2 (.slice Ax d3.length kx))) := fun W hW => by
    have h1 := Kd.S_below RC.out (dg_then E8.out hW)
    have h2 := Kd.S_mono (Kd.S_bound RC.out) (ok' := fun g => g < w4.heap.size) (fun g hg => hg.2.2.1)
    have h3 := Kd.S_lower (Kd.S_below h2 (dg_then E8.out hW)) B3.out.size
    have h4 := Kd.S_mono (Kd.S_bound (Kd.S_below RP.out (dg_then F8.out hW))) (ok' := fun g => w6.heap.size + 1 ≤ g) (fun g hg => hg.2.1)
    have h5 := Kd.R_mono (Kd.R_bound RX.out) (ok' := fun g => w4.heap.size ≤ g ∧ g < w5.heap.size) (fun g hg => ⟨hg.2.1, hg.2.2.1⟩)
    have h6 := Kd.R_below h5 (dg_then H8.out hW)
    have h7 := dg_keep O8.out hW
    have z1 := z6.out
    have z2 := z45.out
    have z3 := B6.out.size
    have z4 := B4.out.size
    refine (cruciblelaw0_SpoilFounds.calls k (fun g => g < w4.heap.size) (.slice Ac c.length kc) c sc w1 W (dg_then B8.out hW) h3 HSC.out).mono ?_
    rintro e w' ⟨he, hd, hk⟩
    refine ⟨he, hd, Kd.S_lower (Kd.S_kept h4 hk (fun g hg => by omega)) (by omega), Kd.R_lower (Kd.R_mono (Kd.R_kept h6 hk (fun g hg => by omega)) (fun g hg => hg.2)) (by omega), ?_⟩
    rw [hk.2 w5.heap.size (blk_lt h7) (by omega)]
    exact h7
  have cSq : ∀ W, (Below w1.heap.size w1 W ∧ Kd.S k32 32 W w1.heap.size (fun g => w6.heap.size + 1 ≤ g) (.slice Ap p.length kp) p ∧ Kd.R Kd.string 9 W w1.heap.size (fun g => g < w5.heap.size) (.slice Ax d3.length kx) d3 ∧ W.heap[w5.heap.size]? = some (dgO d1 d2 (.slice Ax d3.length kx))) → Calls Tryd.prog 18 #[.slice Ap p.length kp] W fun e w' => e = .returned (.tuple #[]) ∧ (Below w1.heap.size w1 w' ∧ Kd.R Kd.string 9 w' w1.heap.size (fun _ => True) (.slice Ax d3.length kx) d3 ∧ w'.heap[w5.heap.size]? = some (dgO d1 d2 (.slice Ax d3.length kx))) := fun W hW => by
    have z1 := z6.out
    refine (cruciblelaw0_SpoilFounds.calls k (fun g => w6.heap.size + 1 ≤ g) (.slice Ap p.length kp) p sp w1 W hW.1 hW.2.1 HSP.out).mono ?_
    rintro e w' ⟨he, hd, hk⟩
    refine ⟨he, hd, Kd.R_mono (Kd.R_kept hW.2.2.1 hk (fun g hg => by omega)) (fun _ _ => trivial), ?_⟩
    rw [hk.2 w5.heap.size (blk_lt hW.2.2.2) (by omega)]
    exact hW.2.2.2
  have cSt : ∀ W, (Below w1.heap.size w1 W ∧ Kd.R Kd.string 9 W w1.heap.size (fun _ => True) (.slice Ax d3.length kx) d3) → Calls Tryd.prog 19 #[.slice Ax d3.length kx] W fun e w' => e = .returned (.tuple #[]) ∧ Below w1.heap.size w1 w' := fun W hW =>
    (cruciblelaw0_SpoilTexts.calls k (fun _ => True) (.slice Ax d3.length kx) d3 st w1 W hW.1 hW.2 HST.out).mono fun e w' ⟨he, _, hd, _⟩ => ⟨he, hd⟩
  have cK : ∀ W, Below w1.heap.size w1 W → Calls Tryd.prog 13 #[.slice AL l0.length cL, .slice A0 l0.length c0] W fun e w' => e = .returned (.bool true) ∧ Below w1.heap.size w1 w' := fun W hW =>
    (cruciblelaw0_SameFounds.calls k AL cL l0 A0 c0 l0 true W (Kd.C_below CS.out hW) KS.out (Kd.C_below HR0.out (dg_then B1.out hW)) HC0.out Q8.out).mono fun e w' ⟨he, hd⟩ => ⟨he, dg_then hW hd⟩
  have cAw : ∀ W, Below w1.heap.size w1 W → Calls Tryd.prog 20 #[] W fun e w' => e = .returned (.bool true) ∧ Below w1.heap.size w1 w' := fun W hW =>
    (cruciblelaw16_awake.calls true W rfl).mono fun e w' ⟨he, hd⟩ => ⟨he, dg_then hW hd⟩
  have fin : ∀ W, Below w1.heap.size w1 W → Below w.heap.size w W := fun W hW => dg_then B1.out hW
  have hb8 := Below.refl w8.heap.size w8
  obtain ⟨s0, s1, s2, s3, s4, s5⟩ := toS w8 hb8
  clear HA HL HD HP HM HSC HSP HST Q0 Q1 Q2 Q3 Q4 Q5 Q6 Q7 Q8 Q9 HC0 HR0 B1 KS CS B3 B4 RC B5 E5 RX RY B6 RP G7 B7 CQ KQ B8 G8 E8 E6 H8 R8p R8c R8x R8y O8 P8 F8 z6 z45
  go_upto_region 11 with (first
    | (go_at_call 12; (with_reducible refine (cN _ _ ?_).mono ?_); assumption; rintro e w' ⟨rfl, hb⟩; obtain ⟨s0, s1, s2, s3, s4, s5⟩ := toS _ hb)
    | (go_at_call 14; (with_reducible refine (cLL _ ?_).mono ?_); assumption; rintro e w' ⟨A9, k9, rfl, h9, hb⟩; obtain ⟨s0, s1, s2, s3, s4, s5⟩ := toS _ hb)
    | (go_at_call 13; (first | ((with_reducible refine (cS1 _ _ _ ?_ ?_).mono ?_); assumption; assumption; rintro e w' ⟨rfl, hb⟩; obtain ⟨s0, s1, s2, s3, s4, s5⟩ := toS _ hb) | ((with_reducible refine (cS2 _ ?_).mono ?_); assumption; rintro e w' ⟨rfl, hb⟩; obtain ⟨s0, s1, s2, s3, s4, s5⟩ := toS _ hb)))
    | (go_at_call 15; (with_reducible refine (cF _ ?_).mono ?_); assumption; rintro e w' ⟨rfl, hb⟩; obtain ⟨s0, s1, s2, s3, s4, s5⟩ := toS _ hb)
    | (go_at_call 16; (with_reducible refine (cM _ ?_).mono ?_); assumption; rintro e w' ⟨rfl, hb⟩; obtain ⟨s0, s1, s2, s3, s4, s5⟩ := toS _ hb)
    | (go_at_call 17; (with_reducible refine (cLM _ ?_).mono ?_); assumption; rintro e w' ⟨rfl, hb⟩; obtain ⟨s0, s1, s2, s3, s4, s5⟩ := toS _ hb))
  have hc := cSp _ hb
  clear toS cN cLL cS1 cS2 cF cM cLM cSp s0 s1 s2 s3 s4 s5
  go_wp2_with fail
  refine hc.mono ?_
  clear hc
  rintro e W9 ⟨rfl, h9⟩
  have hc := cSq _ h9
  clear cSq h9
  go_wp2_with fail
  refine hc.mono ?_
  clear hc
  rintro e W10 ⟨rfl, h10, h10r, h10b⟩
  obtain ⟨s0, s1, s2⟩ := dg_cells h10b
  have hc := cSt _ ⟨h10, h10r⟩
  clear cSt h10 h10r h10b hb
  go_wp2_with fail
  refine hc.mono ?_
  clear hc s0 s1 s2
  rintro e W11 ⟨rfl, h11⟩
  go_wp2_with (first
    | (go_at_call 13; (with_reducible refine (cK _ ?_).mono ?_); assumption; rintro e w' ⟨rfl, hd⟩)
    | (go_at_call 20; (with_reducible refine (cAw _ ?_).mono ?_); assumption; rintro e w' ⟨rfl, hd⟩))
  go_ret
  exact ⟨rfl, fin _ (by assumption)⟩

end Go.Proofs.YtaokgnhdagcepaaDoor.P
