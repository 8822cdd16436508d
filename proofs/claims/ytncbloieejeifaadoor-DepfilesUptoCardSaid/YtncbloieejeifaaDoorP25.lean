-- Made by a program of this work's own (wip/myprint.py) over the kit's print; leaves by hand.
import Derived.Test.YtncbloieejeifaaDoorP0
import Derived.Test.YtncbloieejeifaaDoorWQPut
import Derived.Test.YtncbloieejeifaaDoorP7
import Derived.Test.YtncbloieejeifaaDoorP19
import Derived.Test.YtncbloieejeifaaDoorP21
import Derived.Test.YtncbloieejeifaaDoorP22
import Derived.Test.YtncbloieejeifaaDoorP23
import Derived.Test.YtncbloieejeifaaDoorP24
import Derived.Test.YtncbloieejeifaaDoorPlain
namespace Go.Proofs.YtncbloieejeifaaDoor.P
open Go.RowKit Go.Proofs.YtncbloieejeifaaDoorW.PrintWords Go.Proofs.YtncbloieejeifaaDoorW.PrintLast Go.Proofs.YtncbloieejeifaaDoorW.PrintMore
attribute [local go_sem] max2_int min2_int max_two min_two max_three min_three max_four min_four   -- for this text's walks alone
set_option linter.unusedVariables false
set_option linter.unusedSimpArgs false

-- HANDBIG Depfiles.lean
-- IMPORT Derived.Test.YtncbloieejeifaaDoorPlain
/-! ### cruciblelaw17_Depfiles, by hand: the row lent is known beyond its length; a tail of a row is written over -/
theorem infoT : (Tryd.prog.info? 9).map (fun i => (i.zero, i.size, i.bytes)) = some (some (.string ⟨#[]⟩), 1, 16) := by kernel_rfl
def dlL (l0 : List ByteArray) : List ByteArray := l0 ++ [⟨#[126, 114, 111, 111, 109]⟩, ⟨#[126, 98, 101, 104, 105, 110, 100]⟩]
theorem dlL_len (l0 : List ByteArray) : (dlL l0).length = l0.length + 2 := by simp [dlL]
theorem dlL_take (l0 : List ByteArray) : (dlL l0).take l0.length = l0 := by simp [dlL]
theorem dl_row (w : World) (xs : List ByteArray) (hl : xs.length ≤ 9223372036854775807) :
    Kd.R Kd.string 9 (w.alloc (.cells (xs.map Value.string).toArray 9)) w.heap.size (fun _ => True) (.slice (some ⟨w.heap.size, 0, none⟩) xs.length xs.length) xs :=
  Kd.R_of_own ⟨by simp [encs], .inr ⟨w.heap.size, xs.length, (xs.map Value.string).toArray, rfl, Nat.le_refl _, by simpa using heap_alloc_new w _, Nat.le_refl _, by simpa [maxLen] using hl, by simp, by rw [Nat.mul_one, List.take_of_length_le (by simp)]; rfl⟩⟩ (fun _ _ => trivial)
theorem dl_cut (A : Option Addr) (n c : Nat) (j : Int) (h0 : 0 ≤ j) (hc : j ≤ c) : ∀ W : World, (Instr.slice 22 (.slice A n c) none (some (.int .i64 j)) none).run Tryd.prog W = .ok (.slice A j.toNat c) W := by
  intro W
  obtain ⟨i, hi, _, _, _⟩ := info_parts infoT
  have hel : Tryd.prog.elem 22 = 9 := by simp [Program.elem, Tryd.underlying22]
  have hu : Tryd.prog.underlying 22 = some (.slice (Tryd.prog.elem 22)) := by rw [hel]; exact Tryd.underlying22
  have ha : (A.map fun x => x.add 0) = A := by cases A <;> simp [Addr.add]
  rw [run_slice_h W 22 A n c hu .i64 j h0 hc, hel]
  simp [sizeOf, typeInfo, hi, sliced, Result.andThen, ha]
set_option maxHeartbeats 8000000 in
set_option maxRecDepth 100000 in
theorem dl_lend (A0 : Option Addr) (c0 : Nat) (l0 : List ByteArray) (w : World) (hr0 : Kd.C Kd.string w A0 l0.length l0) (hc0 : l0.length ≤ c0) (hl : l0.length ≤ 2000000) :
    Calls Tryd.prog 26 #[.slice A0 l0.length c0] w fun e w' => ∃ (A : Option Addr) (c : Nat), e = .returned (.slice A l0.length c) ∧ Kd.R Kd.string 9 w' w.heap.size (fun _ => True) (.slice A (dlL l0).length c) (dlL l0) ∧ Below w.heap.size w w' := by
  have cC := cruciblelaw0_CopyTexts.calls A0 c0 l0 l0 w hr0 hc0 (by unfold cruciblelaw0_CopyTexts.f; simp only [Option.bind_some, List.length_nil, List.nil_append]; rw [if_pos (by omega)])
  clear hr0 hc0
  obtain ⟨n, hn⟩ : ∃ n, l0.length = n := ⟨_, rfl⟩
  rw [hn] at cC hl ⊢
  have HN := Aside0.mk hn
  clear hn
  go_enter Tryd.func26, Tryd.ntmps26
  go_wp2_with fail
  refine cC.mono ?_
  clear cC
  rintro e w1 ⟨v, rfl, hR, hB⟩
  obtain ⟨A1, k1, rfl⟩ := Kd.R_slice hR
  have hR2 := dl_row w1 [⟨#[126, 114, 111, 111, 109]⟩, ⟨#[126, 98, 101, 104, 105, 110, 100]⟩] (by decide)
  have HR := Aside0.mk hR
  have HR2 := Aside0.mk (Kd.R_reads' hR2).2.2
  have HB := Aside0.mk hB
  clear hR hR2 hB
  go_wp2_with (at_builtin; refine Kd.R_append_rows Kd.string (w0 := w) w.heap.size rfl (.tmp 5) (.tmp 6) 22 9 (.string ⟨#[]⟩) 16 rfl Tryd.underlying22 infoT rfl (by decide) (by decide) (.slice A1 l0.length k1) l0 [⟨#[126, 114, 111, 111, 109]⟩, ⟨#[126, 98, 101, 104, 105, 110, 100]⟩] _ _ _ (fun _ => True) (fun _ => False) rfl rfl (Kd.R_alloc HR.out _) HR2.out (fun _ _ h => h) (fun _ h => h.elim) (fun _ _ => trivial) (below_alloc HB.out _) (below_alloc HB.out _).size (by have := HN.out; simp; omega) (fun v1 w2 ho hb hg hat => ?_); obtain ⟨A2, k2, e2⟩ := Kd.R_slice ho; have h3 := (Kd.R_reads' (e2 ▸ ho)).2.1; rw [show (l0 ++ [(⟨#[126, 114, 111, 111, 109]⟩ : ByteArray), ⟨#[126, 98, 101, 104, 105, 110, 100]⟩]).length = n + 2 from (dlL_len l0).trans (by rw [HN.out])] at e2 h3; subst e2; have HO := Aside0.mk ho; have HB2 := Aside0.mk hb; have hcut := dl_cut A2 (n + 2) k2 (n : Int) (by omega) (by omega); rw [Int.toNat_natCast] at hcut; clear ho hb hg hat)
  go_ret
  refine ⟨_, _, rfl, ?_, HB2.out⟩
  rw [dlL_len, HN.out]
  exact HO.out
set_option maxHeartbeats 8000000 in
set_option maxRecDepth 100000 in
theorem dl_kept (k : Nat) (A0 : Option Addr) (c0 : Nat) (l0 : List ByteArray) (A1 : Option Addr) (c1 : Nat) (w : World) (hr0 : Kd.C Kd.string w A0 (dlL l0).length (dlL l0)) (hc0 : (dlL l0).length ≤ c0) (hr1 : Kd.C Kd.string w A1 l0.length l0) (hc1 : l0.length ≤ c1) (hl : l0.length ≤ 2000000) (h : cruciblelaw0_SameTexts.f k l0 l0 = some true) :
    Calls Tryd.prog 31 #[.slice A0 l0.length c0, .slice A1 l0.length c1] w fun e w' => e = .returned (.bool true) ∧ Below w.heap.size w w' := by
  have hS : Kd.C Kd.string w A0 l0.length l0 := by
    have := Kd.C_take (m := l0.length) hr0 (by rw [dlL_len]; omega)
    rwa [dlL_take] at this
  have hc2 : l0.length + 2 ≤ c0 := by rw [dlL_len] at hc0; exact hc0
  have cS := cruciblelaw0_SameTexts.calls k A0 c0 l0 A1 c1 l0 true w hS (by omega) hr1 hc1 h
  obtain ⟨ad, hA, hx⟩ := (Kd.reads_of_C (d := ByteArray.empty) hr0).at_ (l0.length : Int) (by omega) (by rw [dlL_len]; omega)
  obtain ⟨ad', hA', hy⟩ := (Kd.reads_of_C (d := ByteArray.empty) hr0).at_ ((l0.length + 1 : Nat) : Int) (by omega) (by rw [dlL_len]; omega)
  subst hA
  cases hA'
  have ex : rdOf ByteArray.empty (dlL l0) (l0.length : Int) = ⟨#[126, 114, 111, 111, 109]⟩ := by simp [rdOf, dlL]
  have ey : rdOf ByteArray.empty (dlL l0) ((l0.length + 1 : Nat) : Int) = ⟨#[126, 98, 101, 104, 105, 110, 100]⟩ := by simp [rdOf, dlL, List.getD_eq_getElem?_getD, List.getElem?_append_right]
  rw [ex, Int.toNat_natCast] at hx
  rw [ey, Int.toNat_natCast] at hy
  have hy : w.cell? ⟨ad.block, ad.off + (l0.length + 1), none⟩ = some (.string ⟨#[126, 98, 101, 104, 105, 110, 100]⟩) := by simpa [Addr.add] using hy
  have hcut := dl_cut (some ad) l0.length c0 ((l0.length : Int) + 2) (by omega) (by omega)
  rw [show ((l0.length : Int) + 2).toNat = l0.length + 2 by omega] at hcut
  generalize l0.length = n at *
  clear hr0 hc0 hr1 hc1 h hS ex ey hc2
  go_enter Tryd.func31, Tryd.ntmps31
  go_wp2_with fail
  refine cS.mono ?_
  clear cS
  rintro e w1 ⟨rfl, nd, rfl⟩
  go_wp2
  go_ret
  exact ⟨rfl, pw_below_drewN (Below.refl _ _) nd⟩
set_option maxHeartbeats 8000000 in
set_option maxRecDepth 100000 in
theorem df_spoil (P0 : Nat → Prop) (A : Option Addr) (n c : Nat) (xs : List ByteArray) (w0 w : World) (hB : Below w0.heap.size w0 w) (hQ : Kd.Q Kd.string 9 w w0.heap.size P0 (.slice A n c) xs) (hs : ∀ x ∈ xs, 1 + x.size ≤ 9223372036854775807) (hn : xs.length ≤ 2000000) :
    Calls Tryd.prog 19 #[.slice A n c] w fun e w' => e = .returned (.tuple #[]) ∧ Below w0.heap.size w0 w' := by
  obtain rfl : n = xs.length := (Kd.Q_reads' hQ).1
  obtain ⟨n, hnn⟩ : ∃ n, xs.length = n := ⟨_, rfl⟩
  rw [hnn] at hQ hn ⊢
  have HB := Aside0.mk hB
  have HQ := Aside0.mk hQ
  have HS := Aside0.mk hs
  have HN := Aside0.mk hnn
  clear hB hQ hs hnn
  go_enter Tryd.func19, Tryd.ntmps19
  go_wp2
  go_loopg [2] n (fun gg s2 wr => ∃ q : Nat, q ≤ n ∧ n - q ≤ gg ∧ s2 = .int .i64 (q : Int) ∧ Aside0 (∃ ys : List ByteArray, ys.length = n ∧ (∀ j, q ≤ j → ys.getD j ByteArray.empty = xs.getD j ByteArray.empty) ∧ Kd.Q Kd.string 9 wr w0.heap.size P0 (.slice A n c) ys) ∧ Aside0 (Below w0.heap.size w0 wr))
  case atStart => exact ⟨0, Nat.zero_le _, by omega, rfl, ⟨xs, HN.out, fun _ _ => rfl, HQ.out⟩, HB⟩
  case round =>
    clear HQ HB
    obtain ⟨q, hq, hgg, rfl, L, HB⟩ := hrel
    by_cases hlt : q < n
    · have hltz : (q : Int) < (n : Int) := by omega
      obtain ⟨ys, hyl, hyd, hQ⟩ := L.out
      have hQf := Kd.Q_form hQ (by omega)
      rw [hyl] at hQf
      obtain ⟨g, o, cap, hv, hgb, hgl, cells, hcl⟩ := hQf
      injection hv with e1 _ e3
      subst e1 e3
      obtain ⟨hc0, hf0⟩ := Kd.Q_cell ByteArray.empty hQ (q : Int) (by omega) hltz
      obtain ⟨x, hx⟩ : ∃ x, rdOf ByteArray.empty ys (q : Int) = x := ⟨_, rfl⟩
      have hxs : x ∈ xs := by
        rw [← hx]
        have := hyd q (Nat.le_refl q)
        simp only [rdOf, Int.toNat_natCast]
        rw [this]
        have hqx : q < xs.length := by rw [HN.out]; exact hlt
        rw [List.getD_eq_getElem?_getD, List.getElem?_eq_getElem hqx]
        exact List.getElem_mem hqx
      have hsx := HS.out x hxs
      rw [hx, Int.toNat_natCast] at hc0
      rw [Int.toNat_natCast] at hf0
      have hP := (Kd.Q_putg hQ (q : Int) (by omega) hltz ((⟨#[126]⟩ : ByteArray) ++ x)).1
      rw [Int.toNat_natCast] at hP
      have HP := Aside0.mk hP
      have HYL := Aside0.mk hyl
      have HYD := Aside0.mk hyd
      have HG := Aside0.mk hgb
      clear hP hyl hyd hgb hgl hcl hQ hx hxs L
      go_wp2
      go_roundg (n - (q + 1))
      case measure => omega
      case rel =>
        refine ⟨q + 1, by omega, Nat.le_refl _, by simp, ⟨ys.set q ((⟨#[126]⟩ : ByteArray) ++ x), by rw [List.length_set]; exact HYL.out, fun j hj => ?_, HP.out⟩, ⟨HB.out.setCell (p := ⟨g, o + q, none⟩) HG.out _⟩⟩
        rw [← HYD.out j (by omega), List.getD_eq_getElem?_getD, List.getD_eq_getElem?_getD, List.getElem?_set_ne (by omega)]
    · have heq : q = n := by omega
      subst heq
      go_wp2
      first | go_end0 | ((try simp only [Exit.inBlock, Exit.then]); refine bodyPost_ret (results_none rfl _ _ _) rfl ?_)
      exact ⟨rfl, HB.out⟩
open Classical in
noncomputable def cruciblelaw17_Depfiles.f (k : Nat) (out : ByteArray) (ins : List ByteArray) (s : ByteArray) : Option Bool :=
  (depfile_Put.f k out ins).bind fun a => (depfile_Get.f k s).bind fun c => (depfile_Get.f k a.1).bind fun x => (depfile_Put.f k c.1 c.2.1).bind fun b =>
  if (crucibleref12_PutDepfile.f k out ins = some a ∧ crucibleref12_GetDepfile.f k s = some c ∧ ins.length ≤ 2000000 ∧ c.2.1.length ≤ 2000000 ∧ ∀ y ∈ c.2.1, 1 + y.size ≤ 9223372036854775807) ∧
    (cruciblelaw0_SameTexts.f k c.2.1 c.2.1 = some true ∧ cruciblelaw0_SameTexts.f k ins ins = some true ∧ cruciblelaw17_awake.f k = some true) ∧
    (a.2 = 0 → x = (out, ins, 0)) ∧ (c.2.2 = 0 → b = (s, 0)) then some true else none
theorem cruciblelaw17_Depfiles.mono : ∀ a0 a1 a2 k, LeO (cruciblelaw17_Depfiles.f k a0 a1 a2) (cruciblelaw17_Depfiles.f (k + 1) a0 a1 a2) := by
  intro out ins s k r h
  unfold cruciblelaw17_Depfiles.f at h ⊢
  obtain ⟨a, ha, h⟩ := Option.bind_eq_some_iff.1 h
  obtain ⟨c, hc, h⟩ := Option.bind_eq_some_iff.1 h
  obtain ⟨x, hx, h⟩ := Option.bind_eq_some_iff.1 h
  obtain ⟨b, hb, h⟩ := Option.bind_eq_some_iff.1 h
  split at h
  case isFalse => cases h
  rename_i hq
  obtain ⟨⟨q1, q2, q3⟩, ⟨q5, q6, q7⟩, q8⟩ := hq
  refine Option.bind_eq_some_iff.2 ⟨a, depfile_Put.mono _ _ k a ha, Option.bind_eq_some_iff.2 ⟨c, depfile_Get.mono _ k c hc, Option.bind_eq_some_iff.2 ⟨x, depfile_Get.mono _ k x hx, Option.bind_eq_some_iff.2 ⟨b, depfile_Put.mono _ _ k b hb, ?_⟩⟩⟩⟩
  rw [if_pos ⟨⟨crucibleref12_PutDepfile.mono _ _ k a q1, crucibleref12_GetDepfile.mono _ k c q2, q3⟩, ⟨cruciblelaw0_SameTexts.mono _ _ k true q5, cruciblelaw0_SameTexts.mono _ _ k true q6, cruciblelaw17_awake.mono k true q7⟩, q8⟩]
  exact h
theorem df_then {w W w' : World} (h : Below w.heap.size w W) (hB : Below W.heap.size W w') : Below w.heap.size w w' := below_then h h.size hB
set_option maxHeartbeats 8000000 in
set_option maxRecDepth 100000 in
theorem cruciblelaw17_Depfiles.calls (k : Nat) (a0 : ByteArray) (A1 : Option Addr) (c1 : Nat) (l1 : List ByteArray) (a2 : ByteArray) (r : Bool) (w : World) (hr1 : Kd.C Kd.string w A1 l1.length l1) (hc1 : l1.length ≤ c1) (h : cruciblelaw17_Depfiles.f k a0 l1 a2 = some r) :
    Calls Tryd.prog 11 #[.string a0, .slice A1 l1.length c1, .string a2] w fun e w' => e = .returned (.bool r) ∧ Below w.heap.size w w' := by
  unfold cruciblelaw17_Depfiles.f at h
  obtain ⟨⟨t1, e1⟩, ha, h⟩ := Option.bind_eq_some_iff.1 h
  obtain ⟨⟨o, c, n⟩, hc, h⟩ := Option.bind_eq_some_iff.1 h
  obtain ⟨⟨q, x, m⟩, hx, h⟩ := Option.bind_eq_some_iff.1 h
  obtain ⟨⟨t2, e2⟩, hb, h⟩ := Option.bind_eq_some_iff.1 h
  split at h
  case isFalse => cases h
  rename_i hq
  obtain rfl : true = r := Option.some.inj h
  obtain ⟨⟨q1, q2, q3, q3a, q3b⟩, ⟨q4, q5, q6⟩, q7, q8⟩ := hq
  simp only [] at ha hc hx hb q1 q2 q3 q3a q3b q4 q5 q7 q8
  have HA := Aside0.mk ha; have HG := Aside0.mk hc; have HX := Aside0.mk hx; have HB := Aside0.mk hb
  have Q1 := Aside0.mk q1; have Q2 := Aside0.mk q2; have Q3 := Aside0.mk q3; have Q3a := Aside0.mk q3a; have Q3b := Aside0.mk q3b; have Q4 := Aside0.mk q4; have Q5 := Aside0.mk q5; have Q6 := Aside0.mk q6; have Q7 := Aside0.mk q7; have Q8 := Aside0.mk q8
  have HC1 := Aside0.mk hc1; have HR1 := Aside0.mk hr1
  clear ha hc hx hb q1 q2 q3 q3a q3b q4 q5 q6 q7 q8 hc1 hr1 h
  go_enter Tryd.func11, Tryd.ntmps11
  go_wp2_with fail
  refine (dl_lend A1 c1 l1 w HR1.out HC1.out Q3.out).mono ?_
  rintro e w1 ⟨AL, cL, rfl, hRL, b1⟩
  have B1 := Aside0.mk b1
  have CL := Aside0.mk (Kd.R_reads' hRL).2.2
  have KL := Aside0.mk (Kd.R_reads' hRL).2.1
  have KS := Aside0.mk (show l1.length ≤ cL by have := KL.out; rw [dlL_len] at this; omega)
  have CS := Aside0.mk (show Kd.C Kd.string w1 AL l1.length l1 by
    have := Kd.C_take (m := l1.length) CL.out (by rw [dlL_len]; omega)
    rwa [dlL_take] at this)
  clear hRL b1
  go_wp2_with fail
  refine (depfile_Put.calls k a0 AL cL l1 t1 e1 w1 CS.out KS.out HA.out).mono ?_
  rintro e w2 ⟨rfl, b2⟩
  have B2 := Aside0.mk b2
  clear b2
  go_wp2_with fail
  refine (crucibleref12_PutDepfile.calls k a0 A1 c1 l1 t1 e1 w2 (Kd.C_below HR1.out (df_then B1.out B2.out)) HC1.out Q1.out).mono ?_
  rintro e w3 ⟨rfl, b3⟩
  have B3 := Aside0.mk (df_then B2.out b3)
  clear b3 B2
  go_wp2_with fail
  refine (depfile_Get.calls k a2 o c n w3 HG.out).mono ?_
  rintro e w4 ⟨vc, rfl, hQc, b4⟩
  obtain ⟨Ac, kc, rfl, _⟩ := Kd.Q_slice hQc
  have D4 := Aside0.mk b4
  have B4 := Aside0.mk (df_then B3.out b4)
  have QC := Aside0.mk hQc
  clear hQc b4
  go_wp2_with fail
  refine (crucibleref12_GetDepfile.calls k a2 o c n w4 Q2.out).mono ?_
  rintro e w5 ⟨vd, rfl, hRd, b5⟩
  obtain ⟨Ad, kd, rfl⟩ := Kd.R_slice hRd
  have E5 := Aside0.mk b5
  have B5 := Aside0.mk (df_then B4.out b5)
  have RD := Aside0.mk (Kd.R_reads' hRd)
  clear hRd b5
  go_wp2_with fail
  refine (depfile_Get.calls k t1 q x m w5 HX.out).mono ?_
  rintro e w6 ⟨vx, rfl, hQx, b6⟩
  obtain ⟨Ax, kx, rfl, _⟩ := Kd.Q_slice hQx
  have E6 := Aside0.mk (df_then E5.out b6)
  have F6 := Aside0.mk b6
  have B6 := Aside0.mk (df_then B5.out b6)
  have QX := Aside0.mk (Kd.Q_reads' hQx)
  have QC6 := Aside0.mk (Kd.Q_reads' (Kd.Q_below QC.out E6.out))
  clear hQx b6 E5
  go_wp2_with fail
  refine (depfile_Put.calls k o Ac kc c t2 e2 w6 QC6.out.2.2 QC6.out.2.1 HB.out).mono ?_
  rintro e w7 ⟨rfl, b7⟩
  have E7 := Aside0.mk (df_then E6.out b7)
  have F7 := Aside0.mk (df_then F6.out b7)
  have G7 := Aside0.mk b7
  have B7 := Aside0.mk (df_then B6.out b7)
  clear b7 E6 F6
  have cN : ∀ (n : Int) W, Below w7.heap.size w7 W → Calls Tryd.prog 18 #[.int .i64 n] W fun e w' => e = .returned (.int .i64 n) ∧ Below w7.heap.size w7 w' := fun n W hW => (cruciblelaw0_Num.calls n n W rfl).mono fun e w' ⟨he, hd⟩ => ⟨he, df_then hW hd.below⟩
  have cSc : ∀ W, Below w7.heap.size w7 W → Calls Tryd.prog 17 #[.slice Ac c.length kc, .slice Ad c.length kd] W fun e w' => e = .returned (.bool true) ∧ Below w7.heap.size w7 w' := fun W hW =>
    (cruciblelaw0_SameTexts.calls k Ac kc c Ad kd c true W (Kd.C_below QC6.out.2.2 (df_then G7.out hW)) QC6.out.2.1 (Kd.C_below RD.out.2.2 (df_then F7.out hW)) RD.out.2.1 Q4.out).mono fun e w' ⟨he, hd⟩ => ⟨he, df_then hW hd.below⟩
  have cSx : x = l1 → ∀ W, Below w7.heap.size w7 W → Calls Tryd.prog 17 #[.slice Ax x.length kx, .slice A1 l1.length c1] W fun e w' => e = .returned (.bool true) ∧ Below w7.heap.size w7 w' := fun hxx W hW => by
    subst hxx
    exact (cruciblelaw0_SameTexts.calls k Ax kx x A1 c1 x true W (Kd.C_below QX.out.2.2 (df_then G7.out hW)) QX.out.2.1 (Kd.C_below HR1.out (df_then B1.out (df_then B7.out hW))) HC1.out Q5.out).mono fun e w' ⟨he, hd⟩ => ⟨he, df_then hW hd.below⟩
  have cSp : ∀ W, Below w7.heap.size w7 W → Calls Tryd.prog 19 #[.slice Ac c.length kc] W fun e w' => e = .returned (.tuple #[]) ∧ Below w1.heap.size w1 w' := fun W hW =>
    df_spoil (fun _ => True) Ac c.length kc c w1 W (df_then B7.out hW) (Kd.Q_lower (Kd.Q_below QC.out (df_then E7.out hW)) B3.out.size) Q3b.out Q3a.out
  have cK : ∀ W, Below w1.heap.size w1 W → Calls Tryd.prog 31 #[.slice AL l1.length cL, .slice A1 l1.length c1] W fun e w' => e = .returned (.bool true) ∧ Below w1.heap.size w1 w' := fun W hW =>
    (dl_kept k AL cL l1 A1 c1 W (Kd.C_below CL.out hW) KL.out (Kd.C_below HR1.out (df_then B1.out hW)) HC1.out Q3.out Q5.out).mono fun e w' ⟨he, hd⟩ => ⟨he, df_then hW hd⟩
  have cAw : ∀ W, Below w1.heap.size w1 W → Calls Tryd.prog 32 #[] W fun e w' => e = .returned (.bool true) ∧ Below w1.heap.size w1 w' := fun W hW =>
    (cruciblelaw17_awake.calls k true W Q6.out).mono fun e w' ⟨he, hd⟩ => ⟨he, df_then hW hd⟩
  have fin : ∀ W, Below w1.heap.size w1 W → Below w.heap.size w W := fun W hW => df_then B1.out hW
  have hb7 := Below.refl w7.heap.size w7
  clear HA HG HX HB Q1 Q2 Q3 Q3a Q3b Q4 Q5 Q6 HC1 HR1 B1 CL KL KS CS B3 D4 B4 QC B5 RD B6 QX QC6 E7 F7 G7 B7
  by_cases hz1 : e1 = 0
  · have hx2 := Q7.out hz1
    injection hx2 with f1 f2
    injection f2 with f2 f3
    have cSz := cSx f2
    subst f1 f2 f3 hz1
    clear cSx Q7
    by_cases hz2 : n = 0
    · have hb2 := Q8.out hz2
      injection hb2 with f1 f2
      subst f1 f2 hz2
      clear Q8
      go_wp2_with (first
        | (go_at_call 18; (with_reducible refine (cN _ _ ?_).mono ?_); assumption; rintro e w' ⟨rfl, hb⟩)
        | (go_at_call 17; (with_reducible first | refine (cSc _ ?_).mono ?_ | refine (cSz _ ?_).mono ?_); assumption; rintro e w' ⟨rfl, hb⟩)
        | (go_at_call 19; (with_reducible refine (cSp _ ?_).mono ?_); assumption; rintro e w' ⟨rfl, hd⟩)
        | (go_at_call 31; (with_reducible refine (cK _ ?_).mono ?_); assumption; rintro e w' ⟨rfl, hd⟩)
        | (go_at_call 32; (with_reducible refine (cAw _ ?_).mono ?_); assumption; rintro e w' ⟨rfl, hd⟩))
      all_goals go_ret
      all_goals exact ⟨rfl, fin _ (by assumption)⟩
    · clear Q8
      have hz2b : (n == 0) = false := by rw [beq_eq_false_iff_ne]; exact hz2
      go_wp2_with (first
        | (go_at_call 18; (with_reducible refine (cN _ _ ?_).mono ?_); assumption; rintro e w' ⟨rfl, hb⟩)
        | (go_at_call 17; (with_reducible first | refine (cSc _ ?_).mono ?_ | refine (cSz _ ?_).mono ?_); assumption; rintro e w' ⟨rfl, hb⟩)
        | (go_at_call 19; (with_reducible refine (cSp _ ?_).mono ?_); assumption; rintro e w' ⟨rfl, hd⟩)
        | (go_at_call 31; (with_reducible refine (cK _ ?_).mono ?_); assumption; rintro e w' ⟨rfl, hd⟩)
        | (go_at_call 32; (with_reducible refine (cAw _ ?_).mono ?_); assumption; rintro e w' ⟨rfl, hd⟩))
      all_goals go_ret
      all_goals exact ⟨rfl, fin _ (by assumption)⟩
  · clear cSx Q7
    have hz1b : (e1 == 0) = false := by rw [beq_eq_false_iff_ne]; exact hz1
    by_cases hz2 : n = 0
    · have hb2 := Q8.out hz2
      injection hb2 with f1 f2
      subst f1 f2 hz2
      clear Q8
      go_wp2_with (first
        | (go_at_call 18; (with_reducible refine (cN _ _ ?_).mono ?_); assumption; rintro e w' ⟨rfl, hb⟩)
        | (go_at_call 17; (with_reducible first | refine (cSc _ ?_).mono ?_); assumption; rintro e w' ⟨rfl, hb⟩)
        | (go_at_call 19; (with_reducible refine (cSp _ ?_).mono ?_); assumption; rintro e w' ⟨rfl, hd⟩)
        | (go_at_call 31; (with_reducible refine (cK _ ?_).mono ?_); assumption; rintro e w' ⟨rfl, hd⟩)
        | (go_at_call 32; (with_reducible refine (cAw _ ?_).mono ?_); assumption; rintro e w' ⟨rfl, hd⟩))
      all_goals go_ret
      all_goals exact ⟨rfl, fin _ (by assumption)⟩
    · clear Q8
      have hz2b : (n == 0) = false := by rw [beq_eq_false_iff_ne]; exact hz2
      go_wp2_with (first
        | (go_at_call 18; (with_reducible refine (cN _ _ ?_).mono ?_); assumption; rintro e w' ⟨rfl, hb⟩)
        | (go_at_call 17; (with_reducible first | refine (cSc _ ?_).mono ?_); assumption; rintro e w' ⟨rfl, hb⟩)
        | (go_at_call 19; (with_reducible refine (cSp _ ?_).mono ?_); assumption; rintro e w' ⟨rfl, hd⟩)
        | (go_at_call 31; (with_reducible refine (cK _ ?_).mono ?_); assumption; rintro e w' ⟨rfl, hd⟩)
        | (go_at_call 32; (with_reducible refine (cAw _ ?_).mono ?_); assumption; rintro e w' ⟨rfl, hd⟩))
      all_goals go_ret
      all_goals exact ⟨rfl, fin _ (by assumption)⟩

end Go.Proofs.YtncbloieejeifaaDoor.P
