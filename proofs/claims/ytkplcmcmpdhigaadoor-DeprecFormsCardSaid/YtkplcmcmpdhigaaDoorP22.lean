-- Made by a program of this work's own (wip/myprint.py) over the kit's print; leaves by hand.
import Derived.Test.YtkplcmcmpdhigaaDoorP0
import Derived.Test.YtkplcmcmpdhigaaDoorP21
import Derived.Test.YtkplcmcmpdhigaaDoorBits
namespace Go.Proofs.YtkplcmcmpdhigaaDoor.P
open Go.RowKit Go.Proofs.YtkplcmcmpdhigaaDoorW.PrintWords Go.Proofs.YtkplcmcmpdhigaaDoorW.PrintLast Go.Proofs.YtkplcmcmpdhigaaDoorW.PrintMore
attribute [local go_sem] max2_int min2_int max_two min_two max_three min_three max_four min_four   -- for this text's walks alone
set_option linter.unusedVariables false
set_option linter.unusedSimpArgs false

-- HAND DeprecNumber.lean
-- IMPORT Derived.Test.YtkplcmcmpdhigaaDoorBits
/-! ### deprec_taker_number, by hand -/
def deprec_taker_number.f (s0_0 : ByteArray) (a1 : Int) : Option (Int × ByteArray) :=
  if 0 ≤ a1 ∧ a1 ≤ 4 then some (((Spec.unlow (s0_0.data.toList.take a1.toNat) : Nat) : Int), Spec.str (s0_0.data.toList.drop a1.toNat)) else none
theorem taker_take_is (s : ByteArray) (n : Int) (h0 : 0 ≤ n) : deprec_taker_take.f s n = some (Spec.str (s.data.toList.take n.toNat), Spec.str (s.data.toList.drop n.toNat)) := by
  obtain ⟨m, rfl⟩ := Int.eq_ofNat_of_zero_le h0
  obtain ⟨j, hj, hm⟩ : ∃ j : Nat, j = min m s.size ∧ mn (m : Int) (s.size : Int) = (j : Int) := ⟨_, rfl, by unfold mn; omega⟩
  have hjs : j ≤ s.size := by omega
  have e1 : (s.extract 0 j).size = j := by rw [ByteArray.size_extract]; omega
  unfold deprec_taker_take.f
  rw [hm]
  simp only [Int.toNat_natCast, e1]
  rw [if_pos (by omega), if_pos (by omega), if_pos (by omega), if_pos (by omega)]
  have hl := Spec.size_data s
  congr 2
  · refine Spec.str_eq _ _ ?_
    rw [Spec.extract_data, List.drop_zero, hj]
    by_cases hc : m ≤ s.size
    · rw [Nat.min_eq_left hc]
    · rw [Nat.min_eq_right (by omega), List.take_of_length_le (by omega), List.take_of_length_le (by omega)]
  · refine Spec.str_eq _ _ ?_
    rw [Spec.extract_data, List.take_of_length_le (by omega), hj]
    by_cases hc : m ≤ s.size
    · rw [Nat.min_eq_left hc]
    · rw [Nat.min_eq_right (by omega), List.drop_eq_nil_of_le (by omega), List.drop_eq_nil_of_le (by omega)]
theorem number_conv (t : ByteArray) (h : t.size ≤ 4) (W : World) : ∃ ad c W2, (convert 9 35 (.string t)).run Tryd.prog W = .ok (.slice (some ad) t.size c) W2 ∧ (∀ j : Nat, j < t.size → W2.cell? (ad.add j) = some (.int .u8 (bt t j))) ∧ Below W.heap.size W W2 := by
  have hr := bytes_reads W 5 t (by omega)
  refine ⟨⟨W.heap.size, 0, none⟩, _, _, print_bytes (P := Tryd.prog) 9 35 5 Tryd.underlying9 Tryd.underlying35 Tryd.underlying5 t W, fun j hj => ?_, bytes_below (Below.refl _ _) (Nat.le_refl _) _ _⟩
  obtain ⟨ad, ha, hc⟩ := hr.2.2 (by omega)
  cases ha
  rw [hc j hj, ← rd_bytesOf]
  simp [rd]
theorem byte_shl (b : UInt8) (kk : Nat) (h : kk ≤ 3) : wrap64 (wrap64 (b.toNat : Int) * 2 ^ (8 * kk)) = ((b.toNat * 2 ^ (8 * kk) : Nat) : Int) := by
  have hb : b.toNat < 256 := b.toNat_lt
  have e1 : wrap64 (b.toNat : Int) = (b.toNat : Int) := Spec.wrap_id (by omega) (by omega)
  have hp : 2 ^ (8 * kk) ≤ 2 ^ 24 := Nat.pow_le_pow_right (by decide) (by omega)
  have hm : b.toNat * 2 ^ (8 * kk) ≤ 255 * 2 ^ 24 := Nat.mul_le_mul (by omega) hp
  rw [e1, show ((b.toNat : Int) * 2 ^ (8 * kk)) = ((b.toNat * 2 ^ (8 * kk) : Nat) : Int) by simp]
  have hq : ∀ q : Nat, q ≤ 255 * 2 ^ 24 → wrap64 (q : Int) = (q : Int) := fun q hq => Spec.wrap_id (by omega) (by omega)
  rw [hq _ hm]
theorem number_or (l : List UInt8) (b : UInt8) (kk : Nat) (hl : l.length = kk) (h : kk ≤ 3) : Go.bits .or .i64 ((Spec.unlow l : Nat) : Int) ((b.toNat * 2 ^ (8 * kk) : Nat) : Int) = ((Spec.unlow (l ++ [b]) : Nat) : Int) := by
  have hlt := Spec.unlow_lt l
  rw [hl, show (256 : Nat) = 2 ^ 8 by decide, ← Nat.pow_mul] at hlt
  rw [Spec.or_low _ _ (8 * kk) hlt b.toNat_lt (by omega), Spec.unlow_snoc, hl]
set_option maxHeartbeats 4000000 in
theorem deprec_taker_number.calls (g : Nat) (s0_0 : ByteArray) (a1 : Int) (r1 : Int) (r2 : ByteArray) (w0 w : World) (hI : IsS82 w0 w g s0_0) (hB : Below w0.heap.size w0 w) (h : deprec_taker_number.f s0_0 a1 = some (r1, r2)) :
    Calls Tryd.prog 58 #[.pointer (some ⟨g, 0, none⟩), .int .i64 a1] w fun e w' => e = .returned (.int .i64 r1) ∧ IsS82 w0 w' g r2 ∧ Below w0.heap.size w0 w' ∧ KeepBut w w' g none := by
  unfold deprec_taker_number.f at h
  split at h
  case isFalse => cases h
  rename_i hc
  obtain ⟨h0, h4⟩ := hc
  have ht := taker_take_is s0_0 a1 h0
  obtain ⟨rfl, rfl⟩ := Prod.mk.inj (Option.some.inj h)
  obtain ⟨l, hl⟩ : ∃ l, s0_0.data.toList.take a1.toNat = l := ⟨_, rfl⟩
  have hlen : l.length ≤ 4 := by rw [← hl, List.length_take]; omega
  obtain ⟨r, hr⟩ : ∃ r, Spec.str (s0_0.data.toList.drop a1.toNat) = r := ⟨_, rfl⟩
  obtain ⟨t, htt⟩ : ∃ t, Spec.str l = t := ⟨_, rfl⟩
  rw [hl, hr, htt] at ht
  rw [hl, hr]
  have hts : t.size = l.length := by rw [← htt, Spec.str_size]
  have htl : t.data.toList = l := by rw [← htt, Spec.str_data]
  have cT := deprec_taker_take.calls g s0_0 a1 t r w0 w hI hB ht
  have hread : ∀ kk, kk < t.size → ∃ b : UInt8, bt t (kk : Int) = b.toNat ∧ l.take (kk + 1) = l.take kk ++ [b] := fun kk hk => by
    have hk' : kk < l.length := by omega
    refine ⟨l[kk], ?_, by rw [List.take_succ_eq_append_getElem hk']⟩
    have e := Spec.bt_pre t (l.take kk) l[kk] (l.drop (kk + 1)) (by rw [htl, List.getElem_cons_drop, List.take_append_drop])
    rwa [List.length_take, Nat.min_eq_left (by omega)] at e
  have HR := Aside0.mk hread
  have HT4 := Aside0.mk (show t.size ≤ 4 by omega)
  have HLT : Aside0 (l.take t.size = l) := ⟨by rw [hts, List.take_length]⟩
  have HLEN : Aside0 (t.size = l.length) := ⟨hts⟩
  clear hread ht hl hr htt hts htl hlen h h0 h4 hI hB
  go_enter Tryd.func58, Tryd.ntmps58
  go_wp2_with (go_at_call 56; refine cT.mono ?_; rintro e w1 ⟨rfl, hi, hb, hk⟩; obtain ⟨ad, c, W2, hcv, hcell, hB2⟩ := number_conv t HT4.out w1; have HC := Aside0.mk hcell; have HB2 := Aside0.mk hB2; have HI := Aside0.mk hi; have HB := Aside0.mk hb; have HK := Aside0.mk hk; clear hcell hB2 hi hb hk)
  clear hcv
  go_loopg [5, 6, 7, 13] 5 (fun gg s5 _ _ s13 wr => ∃ kk : Nat, kk ≤ t.size ∧ t.size - kk < gg ∧ s13 = .int .i64 kk ∧ s5 = .int .i64 ((Spec.unlow (l.take kk) : Nat) : Int) ∧ wr = W2)
  case atStart => exact ⟨0, Nat.zero_le _, by have := HT4.out; omega, rfl, by simp [Spec.unlow], rfl⟩
  case round =>
    obtain ⟨kk, hkk, hg, rfl, rfl, rfl⟩ := hrel
    by_cases hlt : kk < t.size
    · have hltz : (kk : Int) < (t.size : Int) := by omega
      obtain ⟨b, hb, hsn⟩ := HR.out kk hlt
      have hcell := HC.out kk hlt
      rw [hb] at hcell
      clear hb
      have hk4 : kk ≤ 3 := by have := HT4.out; omega
      have hsh := byte_shl b kk hk4
      have hor := number_or (l.take kk) b kk (by rw [List.length_take]; have := HLEN.out; omega) hk4
      go_wp2
      go_roundg (gk - 1)
      case measure => omega
      case rel => exact ⟨kk + 1, by omega, by omega, by go_num, by rw [hsn, ← hor, show ((b.toNat * 2 ^ (8 * kk) : Nat) : Int) = (b.toNat : Int) * 2 ^ (8 * kk) by simp], rfl⟩
    · have heq : kk = t.size := by omega
      subst heq
      have hltz : ¬ (t.size : Int) < (t.size : Int) := by omega
      have hw := HLT.out
      rw [hw]
      go_wp2
      go_ret
      exact ⟨rfl, HI.out.below HB2.out, below_then HB.out HB.out.size HB2.out, HK.out.trans (KeepBut.of_below HB2.out g none) (.inl rfl)⟩

/-! ### deprec_taker_text: function 57 -/
def deprec_taker_text.f (s0_0 : ByteArray) : Option (ByteArray × ByteArray) := (deprec_taker_number.f s0_0 1).bind fun bt214 => ((deprec_taker_take.f bt214.2 bt214.1).bind fun bt216 => (some (bt216.1, bt216.2)))
set_option maxHeartbeats 8000000 in
set_option maxRecDepth 100000 in
theorem deprec_taker_text.calls (g : Nat) (s0_0 : ByteArray) (r1 : ByteArray) (r2 : ByteArray) (w0 w : World) (hI : IsS82 w0 w g s0_0) (hB : Below w0.heap.size w0 w) (h : deprec_taker_text.f s0_0 = some (r1, r2)) :
    Calls Tryd.prog 57 #[.pointer (some ⟨g, 0, none⟩)] w fun e w' => e = .returned (.string r1) ∧ IsS82 w0 w' g r2 ∧ Below w0.heap.size w0 w' ∧ KeepBut w w' g none := by
  have HI0 := Aside0.mk hI
  have HK := Aside0.mk (KeepBut.refl w g none)
  have HL := Aside0.mk hB.size
  clear hI
  have HW0 := Aside0.mk hB.size
  have HB := Aside0.mk hB
  clear hB
  have H : ((deprec_taker_number.f s0_0 1).bind fun bt214 => ((deprec_taker_take.f bt214.2 bt214.1).bind fun bt216 => (some (bt216.1, bt216.2)))) = some (r1, r2) := h
  clear h
  replace H := Option.bind_eq_some_iff.mp H
  obtain ⟨⟨t214, t215⟩, A20, H⟩ := H
  replace H : ((deprec_taker_take.f t215 t214).bind fun bt216 => (some (bt216.1, bt216.2))) = some (r1, r2) := H
  have A2 := Aside0.mk A20
  clear A20
  replace H := Option.bind_eq_some_iff.mp H
  obtain ⟨⟨t216, t217⟩, A30, H⟩ := H
  replace H : (some (t216, t217)) = some (r1, r2) := H
  have A3 := Aside0.mk A30
  clear A30
  simp only [Option.some.injEq, Prod.mk.injEq] at H
  obtain ⟨rfl, rfl⟩ := H
  go_enter Tryd.func57, Tryd.ntmps57
  go_wp2_with (first | ((with_reducible refine gate_callee (f := 58) rfl ?_); refine goesL_ (some 5) rfl rfl Tryd.func58 (by kernel_rfl) rfl #[.pointer (some ⟨g, 0, none⟩), .int .i64 1] rfl (by (try simp only [List.map_toArray, List.map_cons, List.map_nil]); first | done | rfl | (simp only [List.length_drop, List.length_take]; rfl)) ?_; (with_reducible refine (deprec_taker_number.calls g s0_0 1 t214 t215 w0 _ ?side1 ?side2 A2.out).mono ?_); (case side1 => repeat (first | (with_reducible first | exact HI0.out | apply IsS82.alloc | apply IsS82.drewN | apply IsS82.drew | apply IsS82.set_0) | exact HI0.out)); (case side2 => repeat (first | (with_reducible first | exact HB.out | apply below_alloc | apply pw_below_drewN | apply below_drew1 | refine below_set ?_ (IsS82.ge HI0.out)) | exact HB.out)); rintro e w4 ⟨rfl, hi, hb, hk⟩; refine ⟨_, rfl, ?_⟩; have n0_ := Aside0.mk (KeepBut.trans (by repeat (first | (with_reducible first | exact HK.out | apply KeepBut.set_ | apply keep_drewN | apply keep_drew | apply keep_alloc) | exact HK.out)) hk (.inl rfl)); have n1_ := Aside0.mk (hb); have n2_ := Aside0.mk (hi); clear HK; clear HB; clear HI0; have HK := n0_; have HB := n1_; have HI0 := n2_; clear n0_ n1_ n2_; (try clear hb); (try clear hb2); (try clear hk); (try clear hi)) | ((with_reducible refine gate_callee (f := 56) rfl ?_); refine goesL_ (some 6) rfl rfl Tryd.func56 (by kernel_rfl) rfl #[.pointer (some ⟨g, 0, none⟩), .int .i64 t214] rfl (by (try simp only [List.map_toArray, List.map_cons, List.map_nil]); first | done | rfl | (simp only [List.length_drop, List.length_take]; rfl)) ?_; (with_reducible refine (deprec_taker_take.calls g t215 t214 t216 t217 w0 _ ?side1 ?side2 A3.out).mono ?_); (case side1 => repeat (first | (with_reducible first | exact HI0.out | apply IsS82.alloc | apply IsS82.drewN | apply IsS82.drew | apply IsS82.set_0) | exact HI0.out)); (case side2 => repeat (first | (with_reducible first | exact HB.out | apply below_alloc | apply pw_below_drewN | apply below_drew1 | refine below_set ?_ (IsS82.ge HI0.out)) | exact HB.out)); rintro e w5 ⟨rfl, hi, hb, hk⟩; refine ⟨_, rfl, ?_⟩; have n0_ := Aside0.mk (KeepBut.trans (by repeat (first | (with_reducible first | exact HK.out | apply KeepBut.set_ | apply keep_drewN | apply keep_drew | apply keep_alloc) | exact HK.out)) hk (.inl rfl)); have n1_ := Aside0.mk (hb); have n2_ := Aside0.mk (hi); clear HK; clear HB; clear HI0; have HK := n0_; have HB := n1_; have HI0 := n2_; clear n0_ n1_ n2_; (try clear hb); (try clear hb2); (try clear hk); (try clear hi)))
  go_ret
  exact ⟨by first | rfl | (simp [errW_none, errW_some] <;> rfl) | (simp [*, errW_none, errW_some] <;> rfl), by repeat (first | (with_reducible first | exact HI0.out | apply IsS82.alloc | apply IsS82.drewN | apply IsS82.drew | apply IsS82.set_0) | exact HI0.out), by repeat (first | (with_reducible first | exact HB.out | apply below_alloc | apply pw_below_drewN | apply below_drew1 | refine below_set ?_ (IsS82.ge HI0.out)) | exact HB.out), by repeat (first | (with_reducible first | exact HK.out | apply KeepBut.set_ | apply keep_drewN | apply keep_drew | apply keep_alloc) | exact HK.out)⟩

end Go.Proofs.YtkplcmcmpdhigaaDoor.P
