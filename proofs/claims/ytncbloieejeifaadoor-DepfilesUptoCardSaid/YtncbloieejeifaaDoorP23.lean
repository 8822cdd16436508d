-- Made by a program of this work's own (wip/myprint.py) over the kit's print; leaves by hand.
import Derived.Test.YtncbloieejeifaaDoorP0
import Derived.Test.YtncbloieejeifaaDoorPlus
import Derived.Test.YtncbloieejeifaaDoorP21
import Derived.BigRegion
import Derived.Test.YtncbloieejeifaaDoorPlain
namespace Go.Proofs.YtncbloieejeifaaDoor.P
open Go.Proofs.YtncbloieejeifaaDoor.Plus
open Go.RowKit Go.Proofs.YtncbloieejeifaaDoorW.PrintWords Go.Proofs.YtncbloieejeifaaDoorW.PrintLast Go.Proofs.YtncbloieejeifaaDoorW.PrintMore
attribute [local go_sem] max2_int min2_int max_two min_two max_three min_three max_four min_four   -- for this text's walks alone
set_option linter.unusedVariables false
set_option linter.unusedSimpArgs false

-- HANDBIG GetDepfile.lean
-- IMPORT Derived.Test.YtncbloieejeifaaDoorPlain
-- IMPORT Derived.BigRegion
/-! ### crucibleref12_GetDepfile, by hand -/
theorem infoG : (Tryd.prog.info? 9).map (fun i => (i.zero, i.size, i.bytes)) = some (some (.string ⟨#[]⟩), 1, 16) := by kernel_rfl
def gdK (l : List UInt8) : Nat := (l.takeWhile fun b => !(b == 58)).length
def gdBad (l : List UInt8) : Bool := decide (gdK l = l.length) || !decide (l.getD (l.length - 1) 0 = 10) || decide (l.length - 1 < gdK l + 1)
def gdT (l : List UInt8) : List UInt8 := (l.take (l.length - 1)).drop (gdK l + 1)
def gdS (acc : List ByteArray) (b : UInt8) : List ByteArray := if b = 32 then acc ++ [⟨#[]⟩] else if acc = [] then [] else acc.set (acc.length - 1) (acc.getD (acc.length - 1) ⟨#[]⟩ ++ Spec.str [b])
def gdW (t : List UInt8) : List ByteArray := t.foldl gdS []
def crucibleref12_GetDepfile.f (k : Nat) (a0 : ByteArray) : Option (ByteArray × List ByteArray × Int) :=
  if a0.size ≤ 2000000 then
    if gdBad a0.data.toList = true then some (⟨#[]⟩, [], 1700)
    else (crucibleref12_PutDepfile.f k (Spec.str (a0.data.toList.take (gdK a0.data.toList))) (gdW (gdT a0.data.toList))).bind fun p => some (if p.2 = 0 ∧ p.1.toList = a0.toList then (Spec.str (a0.data.toList.take (gdK a0.data.toList)), gdW (gdT a0.data.toList), 0) else (⟨#[]⟩, [], 1700))
  else none
theorem crucibleref12_GetDepfile.mono : ∀ a0 k, LeO (crucibleref12_GetDepfile.f k a0) (crucibleref12_GetDepfile.f (k + 1) a0) := by
  intro a0 k
  unfold crucibleref12_GetDepfile.f
  exact LeO.ite (LeO.ite (LeO.refl _) (LeO.bind (crucibleref12_PutDepfile.mono _ _ _) (fun _ => LeO.refl _))) (LeO.none _)
theorem gdK_le (l : List UInt8) : gdK l ≤ l.length := by unfold gdK; exact (List.takeWhile_prefix _).length_le
theorem gdK_lt (l : List UInt8) (j : Nat) (h : j < gdK l) (hl : j < l.length) : (l[j] == 58) = false := by
  unfold gdK at h
  have h1 := List.all_takeWhile (p := fun b : UInt8 => !(b == 58)) (l := l)
  rw [List.all_eq_true] at h1
  have h2 := List.getElem_mem h
  have h3 := h1 _ h2
  have h4 : (l.takeWhile fun b => !(b == 58))[j] = l[j] := (List.takeWhile_prefix _).getElem h
  rw [h4] at h3
  simpa using h3
theorem gdK_at (l : List UInt8) (h : gdK l < l.length) : l[gdK l] = 58 := by
  unfold gdK at h ⊢
  induction l with
  | nil => cases h
  | cons a l ih =>
    by_cases ha : a = 58
    · subst ha; simp [List.takeWhile_cons]
    · have e : ((a :: l).takeWhile fun b => !(b == 58)).length = (l.takeWhile fun b => !(b == 58)).length + 1 := by simp [List.takeWhile_cons, ha]
      have h2 : (l.takeWhile fun b => !(b == 58)).length < l.length := by rw [e, List.length_cons] at h; omega
      have h3 := ih h2
      simp only [e, List.getElem_cons_succ]
      exact h3
theorem gd_get (a : ByteArray) (j : Nat) (h : j < a.size) : a[j] = a.data.toList[j]'(by rw [Array.length_toList]; exact h) := by simp [ByteArray.getElem_eq_getElem_data]
theorem gd_len (a : ByteArray) : a.data.toList.length = a.size := by rw [Array.length_toList]; rfl
theorem gdW_snoc (t : List UInt8) (b : UInt8) : gdW (t ++ [b]) = gdS (gdW t) b := by unfold gdW; rw [List.foldl_append]; rfl
theorem gdW_take (t : List UInt8) (j : Nat) (h : j < t.length) : gdW (t.take (j + 1)) = gdS (gdW (t.take j)) t[j] := by
  rw [List.take_succ_eq_append_getElem h, gdW_snoc]
theorem gdS_sz (acc : List ByteArray) (b : UInt8) (m : Nat) (h : (∀ x ∈ acc, x.size ≤ m) ∧ acc.length ≤ m) : (∀ x ∈ gdS acc b, x.size ≤ m + 1) ∧ (gdS acc b).length ≤ m + 1 := by
  unfold gdS
  split
  · refine ⟨fun x hx => ?_, by simp; omega⟩
    rcases List.mem_append.1 hx with hx | hx
    · have := h.1 x hx; omega
    · rw [List.mem_singleton.1 hx]; exact Nat.zero_le _
  · split
    · exact ⟨fun x hx => (by cases hx), Nat.zero_le _⟩
    · rename_i hb hne
      refine ⟨fun x hx => ?_, by rw [List.length_set]; omega⟩
      rcases List.mem_or_eq_of_mem_set hx with hx | rfl
      · have := h.1 x hx; omega
      · have hl : acc.length - 1 < acc.length := by have := List.length_pos_iff.2 hne; omega
        have h2 := h.1 _ (List.getElem_mem hl)
        rw [ByteArray.size_append, List.getD_eq_getElem?_getD, List.getElem?_eq_getElem hl]
        have h3 : (Spec.str [b]).size = 1 := rfl
        simp only [Option.getD_some]
        omega
theorem gdW_sz : ∀ (t pre : List UInt8) (acc : List ByteArray), ((∀ x ∈ acc, x.size ≤ pre.length) ∧ acc.length ≤ pre.length) → (∀ x ∈ t.foldl gdS acc, x.size ≤ pre.length + t.length) ∧ (t.foldl gdS acc).length ≤ pre.length + t.length
  | [], pre, acc, h => h
  | b :: t, pre, acc, h => by
    have h1 := gdW_sz t (pre ++ [b]) (gdS acc b) (by rw [List.length_append, List.length_singleton]; exact gdS_sz acc b _ h)
    rw [List.length_append, List.length_singleton] at h1
    rw [List.foldl_cons, List.length_cons]
    exact ⟨fun x hx => by have := h1.1 x hx; omega, by have := h1.2; omega⟩
theorem gdW_small (t : List UInt8) : (∀ x ∈ gdW t, x.size ≤ t.length) ∧ (gdW t).length ≤ t.length := by
  have := gdW_sz t [] [] ⟨fun x hx => (by cases hx), Nat.le_refl _⟩
  simpa [gdW] using this
set_option maxHeartbeats 8000000 in
set_option maxRecDepth 100000 in
theorem crucibleref12_GetDepfile.calls (k : Nat) (a0 : ByteArray) (r1 : ByteArray) (r2 : List ByteArray) (r3 : Int) (w : World) (h : crucibleref12_GetDepfile.f k a0 = some (r1, r2, r3)) :
    Calls Tryd.prog 30 #[.string a0] w fun e w' => ∃ v1_ : Value, e = .returned (.tuple #[.string r1, v1_, .int .i64 r3]) ∧ Kd.R Kd.string 9 w' w.heap.size (fun _ => True) v1_ r2 ∧ Below w.heap.size w w' := by
  unfold crucibleref12_GetDepfile.f at h
  split at h
  case isFalse => cases h
  rename_i hs
  obtain ⟨l, hl⟩ : ∃ l, a0.data.toList = l := ⟨_, rfl⟩
  obtain ⟨K, hK⟩ : ∃ K, gdK l = K := ⟨_, rfl⟩
  have hKl := gdK_le l
  have hll := gd_len a0
  rw [hl] at h hll
  rw [hK] at h hKl
  obtain ⟨z, hz⟩ : ∃ z, a0.size = z := ⟨_, rfl⟩
  rw [hz] at hs hll
  have H := Aside0.mk h; have HL := Aside0.mk hl; have HK := Aside0.mk hK; have HLL := Aside0.mk hll; have HZ := Aside0.mk hz
  have hKz : K ≤ z := by rw [← hll]; exact hKl
  clear h hl hK hll hKl hz
  go_enter Tryd.func30, Tryd.ntmps30
  go_wp2
  go_loopg [5] z (fun gg s5 wr => ∃ j : Nat, j ≤ K ∧ z - j ≤ gg ∧ s5 = .int .i64 (j : Int) ∧ w = wr)
  case atStart => exact ⟨0, Nat.zero_le _, by omega, rfl, rfl⟩
  case round =>
    obtain ⟨j, hj, hgg, rfl, rfl⟩ := hrel
    by_cases hlt : j < K
    · have hjz : j < z := by omega
      have hjl : j < l.length := by rw [HLL.out]; exact hjz
      have hb := gdK_lt l j (by rw [HK.out]; exact hlt) hjl
      have hx : ∀ h : j < a0.size, ((a0[j]'h).toNat : Int) = ((l[j]).toNat : Int) := fun h => by rw [gd_get a0 j h]; simp only [HL.out]
      obtain ⟨b, hbb⟩ : ∃ b : UInt8, l[j] = b := ⟨_, rfl⟩
      rw [hbb] at hb hx
      have hne : (((b.toNat : Nat) : Int) == 58) = false := by
        rw [beq_eq_false_iff_ne] at hb ⊢
        intro e
        have e2 : b.toNat = 58 := by omega
        exact hb (UInt8.toNat_inj.1 e2)
      have hne2 : (((b.toNat : Nat) : Int) != 58) = true := by rw [bne, hne]; rfl
      have hjs : j < a0.size := by rw [HZ.out]; exact hjz
      have hjs2 : (j : Int) < (a0.size : Int) := by omega
      have hs2 : a0.size ≤ 2000000 := by rw [HZ.out]; exact hs
      clear hb
      go_wp2
      go_roundg (z - (j + 1))
      case measure => omega
      case rel => exact ⟨j + 1, by omega, Nat.le_refl _, by simp, rfl⟩
    · have hjK : j = K := by omega
      subst hjK
      have hs2 : a0.size ≤ 2000000 := by rw [HZ.out]; exact hs
      have hfail : ∀ W, Below w.heap.size w W → gdBad l = true → (∃ v1_ : Value, Ending.returned (.tuple #[.string ⟨#[]⟩, .slice none 0 0, .int .i64 1700]) = .returned (.tuple #[.string r1, v1_, .int .i64 r3]) ∧ Kd.R Kd.string 9 W w.heap.size (fun _ => True) v1_ r2 ∧ Below w.heap.size w W) := fun W hW hb => by
        have h := H.out
        rw [if_pos hb] at h
        injection h with h
        injection h with h1 h2
        injection h2 with h2 h3
        subst h1 h2 h3
        exact ⟨_, rfl, Kd.R_nil _ _ _ _ _, hW⟩
      by_cases hjz : j = z
      · have hbad : gdBad l = true := by unfold gdBad; rw [HK.out, HLL.out]; simp [hjz]
        have HF := Aside0.mk (hfail w (Below.refl _ _) hbad)
        have hjs : ¬ (j : Int) < (a0.size : Int) := by rw [HZ.out]; omega
        have hjs2 : ((j : Int) == (a0.size : Int)) = true := by rw [HZ.out, beq_iff_eq]; omega
        clear hfail hbad hjz
        go_wp2
        go_ret3
        exact HF.out
      · have hjl : j < l.length := by rw [HLL.out]; omega
        have h58 := gdK_at l (by rw [HK.out]; exact hjl)
        simp only [HK.out] at h58
        have hx : ∀ h : j < a0.size, ((a0[j]'h).toNat : Int) = 58 := fun h => by
          rw [gd_get a0 j h]
          simp only [HL.out, h58]
          rfl
        have hjs : (j : Int) < (a0.size : Int) := by rw [HZ.out]; omega
        have hjs3 : ((j : Int) == (a0.size : Int)) = false := by rw [beq_eq_false_iff_ne]; omega
        have hzp : 1 ≤ a0.size := by omega
        clear h58
        obtain ⟨c, hc⟩ : ∃ c, l.getD (l.length - 1) 0 = c := ⟨_, rfl⟩
        have hy : ∀ h : a0.size - 1 < a0.size, ((a0[a0.size - 1]'h).toNat : Int) = (c.toNat : Int) := fun h => by
          rw [gd_get a0 _ h, ← hc, List.getD_eq_getElem?_getD, List.getElem?_eq_getElem (by rw [HLL.out]; omega)]
          simp only [HL.out, HLL.out, HZ.out, Option.getD_some]
        have HC := Aside0.mk hc
        clear hc
        by_cases h10 : ¬ c = 10
        · have hbad : gdBad l = true := by unfold gdBad; rw [HC.out]; simp [h10]
          have HF := Aside0.mk (hfail w (Below.refl _ _) hbad)
          have hc1 : (((c.toNat : Nat) : Int) == 10) = false := by
            rw [beq_eq_false_iff_ne]
            intro e
            have e2 : c.toNat = 10 := by omega
            exact h10 (UInt8.toNat_inj.1 e2)
          have hc2 : (((c.toNat : Nat) : Int) != 10) = true := by rw [bne, hc1]; rfl
          clear hfail hbad h10
          go_wp2
          go_ret3
          exact HF.out
        · have h10 : c = 10 := by simpa using h10
          replace hy : ∀ h : a0.size - 1 < a0.size, ((a0[a0.size - 1]'h).toNat : Int) = 10 := fun h => by rw [hy h, h10]; rfl
          by_cases hcut : z - 1 < j + 1
          · have hbad : gdBad l = true := by unfold gdBad; rw [HK.out, HLL.out]; simp [hcut]
            have HF := Aside0.mk (hfail w (Below.refl _ _) hbad)
            have hc3 : (a0.size : Int) - 1 < (j : Int) + 1 := by have := HZ.out; omega
            clear hfail hbad h10
            go_wp2
            go_ret3
            exact HF.out
          · have hbad : ¬ gdBad l = true := by
              unfold gdBad
              rw [HC.out, HK.out, HLL.out, h10]
              simp
              omega
            have hc3 : ¬ (a0.size : Int) - 1 < (j : Int) + 1 := by have := HZ.out; omega
            have h := H.out
            rw [if_neg hbad] at h
            have HH := Aside0.mk h
            clear hfail hbad h10 h H
            obtain ⟨T, hT⟩ : ∃ T, a0.extract (j + 1) (z - 1) = T := ⟨_, rfl⟩
            have hTl : T.data.toList = gdT l := by rw [← hT, Spec.extract_data, HL.out, gdT, HK.out, HLL.out]
            have hsl : ∀ W : World, (Instr.slice 9 (.string a0) (some (.int .i64 ((j : Int) + 1))) (some (.int .i64 ((a0.size : Int) - 1))) none).run Tryd.prog W = .ok (.string T) W := fun W => by
              have h1 := HZ.out
              have := run_slice_string (P := Tryd.prog) W 9 a0 .i64 .i64 ((j : Int) + 1) ((a0.size : Int) - 1) Tryd.underlying9 (by omega) (by omega) (by omega)
              rw [show ((j : Int) + 1).toNat = j + 1 by omega, show ((a0.size : Int) - 1).toNat = z - 1 by omega, hT] at this
              exact this
            obtain ⟨tl, htl⟩ : ∃ tl, gdT l = tl := ⟨_, rfl⟩
            have hTz : T.size ≤ z := by rw [← gd_len T, hTl, gdT, List.length_drop, List.length_take, HLL.out]; omega
            rw [htl] at HH hTl
            have hTs := gd_len T
            rw [hTl] at hTs
            have HTL := Aside0.mk hTl
            have HTS := Aside0.mk hTs
            clear hT hTl htl hTs
            go_upto_region 8 with fail
            clear hsl
            obtain ⟨y, hy2⟩ : ∃ y, T.size = y := ⟨_, rfl⟩
            have HY := Aside0.mk hy2
            rw [hy2] at HTS hTz
            clear hy2
            go_wp2
            go_loopg [6, 8] y (fun gg s6 s8 wr => ∃ q : Nat, q ≤ y ∧ y - q ≤ gg ∧ s8 = .int .i64 (q : Int) ∧ Aside0 (Kd.R Kd.string 9 wr w.heap.size (fun _ => True) s6 (gdW (tl.take q))) ∧ Aside0 (Below w.heap.size w wr))
            case atStart => exact ⟨0, Nat.zero_le _, by omega, rfl, ⟨Kd.R_nil _ _ _ _ _⟩, ⟨Below.refl _ _⟩⟩
            case round =>
              obtain ⟨q, hq, hgq, rfl, HR, HB⟩ := hrel
              have hTz2 : T.size ≤ 2000000 := by rw [HY.out]; omega
              by_cases hqy : q < y
              · have hqz : (q : Int) < (T.size : Int) := by rw [HY.out]; omega
                have hql : q < tl.length := by rw [HTS.out]; exact hqy
                have hx : ∀ h : q < T.size, ((T[q]'h).toNat : Int) = ((tl[q]).toNat : Int) := fun h => by rw [gd_get T q h]; simp only [HTL.out]
                obtain ⟨b, hb⟩ : ∃ b, tl[q] = b := ⟨_, rfl⟩
                rw [hb] at hx
                have hstep := gdW_take tl q hql
                rw [hb] at hstep
                have hsm := gdW_small (tl.take q)
                have htk : (tl.take q).length ≤ 2000000 := by rw [List.length_take]; omega
                obtain ⟨acc, hacc⟩ : ∃ acc, gdW (tl.take q) = acc := ⟨_, rfl⟩
                rw [hacc] at hstep hsm HR
                have HST := Aside0.mk hstep
                have HSM := Aside0.mk hsm
                obtain ⟨A, c2, e6⟩ := Kd.R_slice HR.out
                subst e6
                have hal : acc.length ≤ 2000000 := by have := HSM.out.2; omega
                have HBB := Aside0.mk hb
                clear hstep hsm hacc hb
                by_cases h32 : b = 32
                · have hb1 : (((b.toNat : Nat) : Int) == 32) = true := by rw [h32]; rfl
                  have H32 := Aside0.mk h32
                  clear h32
                  go_wp2_with (at_builtin; refine Kd.R_append Kd.string (w0 := w) w.heap.size rfl (.tmp 60) (.tmp 61) 22 9 (.string ⟨#[]⟩) 16 rfl Tryd.underlying22 infoG rfl (by decide) (by decide) (.slice A acc.length c2) acc (⟨#[]⟩ : ByteArray) [.string ⟨#[]⟩] (fun _ => True) (fun _ => False) rfl rfl rfl (fun _ hk => hk.elim) (fun _ _ => trivial) HR.out HB.out HB.out.size (by omega) (fun v1 w1 ho hb hg hat => ?_); have HO := Aside0.mk ho; have HB1 := Aside0.mk hb; clear ho hb hg hat)
                  go_roundg (y - (q + 1))
                  case measure => omega
                  case rel => exact ⟨q + 1, by omega, Nat.le_refl _, by simp, ⟨by rw [HST.out, gdS, if_pos H32.out]; first | exact HO.out | exact own_len HO.out⟩, HB1⟩
                · have hb1 : (((b.toNat : Nat) : Int) == 32) = false := by
                    rw [beq_eq_false_iff_ne]
                    intro e
                    have e2 : b.toNat = 32 := by omega
                    exact h32 (UInt8.toNat_inj.1 e2)
                  have H32 := Aside0.mk h32
                  clear h32
                  by_cases hac : acc = []
                  · subst hac
                    simp only [List.length_nil] at HR ⊢
                    go_wp2
                    go_roundg (y - (q + 1))
                    case measure => omega
                    case rel => exact ⟨q + 1, by omega, Nat.le_refl _, by simp, ⟨by rw [HST.out, gdS, if_neg H32.out, if_pos rfl]; exact HR.out⟩, HB⟩
                  · have hap : 0 < acc.length := List.length_pos_iff.2 hac
                    have HAC := Aside0.mk hac
                    clear hac
                    obtain ⟨g, cap, hv, hgb, hglt, cells0, hcl0⟩ := Kd.R_form HR.out hap
                    injection hv with e1 _ e3
                    subst e1 e3
                    obtain ⟨hc0, hf0⟩ := Kd.R_celln (⟨#[]⟩ : ByteArray) HR.out ((acc.length - 1 : Nat) : Int) (by omega) (by omega)
                    have hP := (Kd.R_putg HR.out ((acc.length - 1 : Nat) : Int) (acc.getD (acc.length - 1) ⟨#[]⟩ ++ Spec.str [b])).1
                    rw [Int.toNat_natCast] at hc0 hf0 hP
                    have hrd : rdOf (⟨#[]⟩ : ByteArray) acc ((acc.length - 1 : Nat) : Int) = acc.getD (acc.length - 1) ⟨#[]⟩ := by simp [rdOf]
                    rw [hrd] at hc0
                    have hlast : (acc.getD (acc.length - 1) (⟨#[]⟩ : ByteArray)).size ≤ 2000000 := by
                      have hl1 : acc.length - 1 < acc.length := by omega
                      rw [List.getD_eq_getElem?_getD, List.getElem?_eq_getElem hl1]
                      have := HSM.out.1 _ (List.getElem_mem hl1)
                      simp only [Option.getD_some]
                      omega
                    obtain ⟨la, hla⟩ : ∃ la, acc.getD (acc.length - 1) (⟨#[]⟩ : ByteArray) = la := ⟨_, rfl⟩
                    have hset : gdS acc b = acc.set (acc.length - 1) (la ++ Spec.str [b]) := by rw [gdS, if_neg H32.out, if_neg HAC.out, hla]
                    rw [hla] at hc0 hP hlast
                    obtain ⟨n, hn⟩ : ∃ n, acc.length = n := ⟨_, rfl⟩
                    rw [hn] at hc0 hf0 hP hset hap hal HR
                    have hwr : IntKind.i64.wrap ((n : Int) - 1) = (n : Int) - 1 := IntWalk.i64_in _ (by omega)
                    have hwq : IntKind.i64.wrap ((q : Int) + 1) = (q : Int) + 1 := IntWalk.i64_in _ (by omega)
                    have hsl : ∀ W : World, (Instr.slice 9 (.string T) (some (.int .i64 (q : Int))) (some (.int .i64 ((q : Int) + 1))) none).run Tryd.prog W = .ok (.string (Spec.str [b])) W := fun W => by
                      have h1 := HY.out
                      have := run_slice_string (P := Tryd.prog) W 9 T .i64 .i64 (q : Int) ((q : Int) + 1) Tryd.underlying9 (by omega) (by omega) (by omega)
                      rw [show ((q : Int) + 1).toNat = q + 1 by omega, Int.toNat_natCast] at this
                      rw [this, Spec.str_eq (T.extract q (q + 1)) [b] (by rw [Spec.extract_data, HTL.out, List.take_succ_eq_append_getElem hql, HBB.out, List.drop_left' (by rw [List.length_take]; omega)])]
                    have hn1 : ((n : Int) - 1).toNat = n - 1 := by omega
                    have hn2 : 0 ≤ (n : Int) - 1 := by omega
                    have hn3 : (n : Int) - 1 < (n : Int) := by omega
                    have HN := Aside0.mk hn
                    have HP := Aside0.mk hP
                    have HSET := Aside0.mk hset
                    have HG := Aside0.mk hgb
                    rw [hn]
                    clear hn hP hset hrd hla hgb hcl0 hglt
                    obtain ⟨u, hu⟩ : ∃ u, Spec.str [b] = u := ⟨_, rfl⟩
                    have hus : u.size ≤ 1 := by rw [← hu]; exact Nat.le_refl _
                    rw [hu] at hsl HP HSET
                    have hsum : la.size + u.size ≤ 9223372036854775807 := by omega
                    have hsum2 := eq_true hsum
                    have hsum3 : (9223372036854775807 < la.size + u.size) = False := eq_false (Nat.not_lt.2 hsum)
                    have hn4 := eq_true (show 1 ≤ (n : Int) by omega)
                    clear hu
                    go_upto_region 14 with fail
                    go_region
                    all_goals go_wp2
                    all_goals go_roundg (y - (q + 1))
                    case measure => omega
                    case rel => exact ⟨q + 1, by omega, Nat.le_refl _, by simp, ⟨by rw [HST.out, HSET.out]; exact Kd.R_drew HP.out⟩, ⟨below_drew (HB.out.setCell (p := ⟨g, n - 1, none⟩) HG.out _)⟩⟩
              · have hqy2 : q = y := by omega
                subst hqy2
                have hqz : ¬ (q : Int) < (T.size : Int) := by rw [HY.out]; omega
                have htk : tl.take q = tl := List.take_of_length_le (by rw [HTS.out]; exact Nat.le_refl _)
                rw [htk] at HR
                obtain ⟨⟨p1, p2⟩, hp, hr⟩ := Option.bind_eq_some_iff.1 HH.out
                have hr := Option.some.inj hr
                obtain ⟨ins, hins⟩ : ∃ ins, gdW tl = ins := ⟨_, rfl⟩
                rw [hins] at hp hr HR
                obtain ⟨O, hO⟩ : ∃ O, Spec.str (l.take j) = O := ⟨_, rfl⟩
                rw [hO] at hp hr
                obtain ⟨A, c2, e6⟩ := Kd.R_slice HR.out
                subst e6
                have hso : ∀ W : World, (Instr.slice 9 (.string a0) none (some (.int .i64 (j : Int))) none).run Tryd.prog W = .ok (.string O) W := fun W => by
                  have := run_slice_string_to_if (P := Tryd.prog) W 9 a0 .i64 (j : Int) Tryd.underlying9
                  rw [if_pos ⟨by omega, by omega⟩, Int.toNat_natCast, Spec.str_eq (a0.extract 0 j) (l.take j) (by rw [Spec.extract_data, HL.out, List.drop_zero]), hO] at this
                  exact this
                have cp := crucibleref12_PutDepfile.calls k O A c2 ins p1 p2 wr (Kd.R_reads' HR.out).2.2 (Kd.R_reads' HR.out).2.1 hp
                have HRR := Aside0.mk hr
                clear htk hins hO hp hr hx hy
                go_wp2_with fail
                refine cp.mono ?_
                clear cp
                rintro e w9 ⟨rfl, b9⟩
                have HB9 := Aside0.mk (below_then HB.out HB.out.size b9)
                have HR9 := Aside0.mk (Kd.R_below HR.out b9)
                clear b9
                have fin : ∀ (b1 b2 : Bool), (p2 != 0) = b1 → (p1.toList != a0.toList) = b2 → (r1, r2, r3) = (if (b1 || b2) = true then ((⟨#[]⟩ : ByteArray), [], 1700) else (O, ins, 0)) := by
                  rintro b1 b2 rfl rfl
                  rw [← HRR.out]
                  by_cases e2 : p2 = 0 <;> by_cases e1 : p1.toList = a0.toList <;> simp [e1, e2]
                obtain ⟨b1, hb1⟩ : ∃ b1, (p2 != 0) = b1 := ⟨_, rfl⟩
                obtain ⟨b2, hb2⟩ : ∃ b2, (p1.toList != a0.toList) = b2 := ⟨_, rfl⟩
                have hf := fin b1 b2 hb1 hb2
                have hb3 : (p1.toList == a0.toList) = !b2 := by rw [← hb2]; simp [bne]
                have hb4 : (p2 == 0) = !b1 := by rw [← hb1]; simp [bne]
                clear fin
                cases b1 <;> cases b2
                all_goals
                  simp only [Bool.not_true, Bool.not_false] at hb3 hb4
                  simp only [Bool.or_self, Bool.or_true, Bool.true_or, Bool.or_false, Bool.false_or, Bool.false_eq_true, if_true, if_false, Prod.mk.injEq] at hf
                  obtain ⟨rfl, rfl, rfl⟩ := hf
                  go_wp2
                  go_ret3
                  first
                    | exact ⟨_, rfl, Kd.R_nil _ _ _ _ _, HB9.out⟩
                    | exact ⟨_, rfl, HR9.out, HB9.out⟩

end Go.Proofs.YtncbloieejeifaaDoor.P
