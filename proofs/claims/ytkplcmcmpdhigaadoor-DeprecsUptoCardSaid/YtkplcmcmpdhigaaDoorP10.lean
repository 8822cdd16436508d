-- Made by a program of this work's own (wip/myprint.py) over the kit's print; leaves by hand.
import Derived.Test.YtkplcmcmpdhigaaDoorP0
import Derived.Test.YtkplcmcmpdhigaaDoorBits
namespace Go.Proofs.YtkplcmcmpdhigaaDoor.P
open Go.RowKit Go.Proofs.YtkplcmcmpdhigaaDoorW.PrintWords Go.Proofs.YtkplcmcmpdhigaaDoorW.PrintLast Go.Proofs.YtkplcmcmpdhigaaDoorW.PrintMore
attribute [local go_sem] max2_int min2_int max_two min_two max_three min_three max_four min_four   -- for this text's walks alone
set_option linter.unusedVariables false
set_option linter.unusedSimpArgs false

/-- A state of type 82 at block g of W; what its slices lead to came in by w0. -/
def IsS82 (w0 W : World) (g : Nat) (f0 : ByteArray) : Prop := W.heap[g]? = some (.cells #[.string f0] 82 (0, 0)) ∧ w0.heap.size ≤ g
theorem IsS82.grown {w0 W : World} {g : Nat} {f0 : ByteArray} {W1 : World} {row : Option Nat} (h : IsS82 w0 W g f0) (hw : W.grownBy W1 row) (hne : some g ≠ row) : IsS82 w0 W1 g f0 := by
  obtain ⟨hb, hg⟩ := h
  exact ⟨blk_grown hb hw hne, hg⟩
theorem IsS82.own_neN {w0 W : World} {g : Nat} {f0 : ByteArray} {α : Type} {d : Kd α} {e : Nat} {base : Nat} {ok : Nat → Prop} {v : Value} {xs : List α} (h : IsS82 w0 W g f0) (ho : Kd.N d e W base ok v xs) (ht : e ≠ 82) : some g ≠ v.ownBlock := by
  obtain ⟨hb, hg⟩ := h
  exact Kd.N_ne ho hb ht
theorem IsS82.fresh {w0 W : World} {g : Nat} {f0 : ByteArray} (h : IsS82 w0 W g f0) : ∀ k, W.heap.size ≤ k → k ≠ g := by
  obtain ⟨hb, hg⟩ := h
  exact Kd.freshB hb
theorem IsS82.kept {w0 W : World} {g : Nat} {f0 : ByteArray} {W1 : World} {S : Nat → Prop} (h : IsS82 w0 W g f0) (hk : Kept W W1 S) (hne : ¬ S g) : IsS82 w0 W1 g f0 := by
  obtain ⟨hb, hg⟩ := h
  exact ⟨blk_kept hb hk hne, hg⟩
theorem IsS82.below {w0 W : World} {g : Nat} {f0 : ByteArray} {W1 : World} (h : IsS82 w0 W g f0) (hw : Below W.heap.size W W1) : IsS82 w0 W1 g f0 := h.grown (grown_of_below hw none) (by simp)
theorem IsS82.alloc {w0 W : World} {g : Nat} {f0 : ByteArray} (h : IsS82 w0 W g f0) (o : Obj) : IsS82 w0 (W.alloc o) g f0 := h.below (below_alloc (Below.refl _ _) o)
theorem IsS82.drewN {w0 W : World} {g : Nat} {f0 : ByteArray} (h : IsS82 w0 W g f0) (m : Nat) : IsS82 w0 (W.drewN m) g f0 := h
theorem IsS82.drew {w0 W : World} {g : Nat} {f0 : ByteArray} (h : IsS82 w0 W g f0) : IsS82 w0 W.drew g f0 := h
theorem IsS82.at_ {w0 W : World} {g : Nat} {f0 : ByteArray} {w' : World} {m : Nat} (hq : W.drewN m = w') (h : IsS82 w0 W g f0) : IsS82 w0 w' g f0 := by subst hq; exact IsS82.drewN h m
theorem IsS82.apart {w0 W : World} {g : Nat} {f0 : ByteArray} {α : Type} {d : Kd α} {e : Nat} {base : Nat} {ok : Nat → Prop} {v : Value} {xs : List α} (h : IsS82 w0 W g f0) (ho : d.R e W base ok v xs) (ht : ∀ q, q ∈ e :: d.E → q ≠ 82) : d.R e W base (fun k => ok k ∧ k ≠ g) v xs := by
  obtain ⟨hb, hg⟩ := h
  exact Kd.R_types ho hb ht
theorem IsS82.own_ne {w0 W : World} {g : Nat} {f0 : ByteArray} {α : Type} {d : Kd α} {e : Nat} {base : Nat} {ok : Nat → Prop} {v : Value} {xs : List α} (h : IsS82 w0 W g f0) (ho : d.R e W base ok v xs) (ht : e ≠ 82) : some g ≠ v.ownBlock := by
  obtain ⟨hb, hg⟩ := h
  exact Kd.R_ne ho hb ht
theorem IsS82.apartQ {w0 W : World} {g : Nat} {f0 : ByteArray} {α : Type} {d : Kd α} {e : Nat} {base : Nat} {ok : Nat → Prop} {v : Value} {xs : List α} (h : IsS82 w0 W g f0) (ho : d.Q e W base ok v xs) (ht : ∀ q, q ∈ e :: d.E → q ≠ 82) : d.Q e W base (fun k => ok k ∧ k ≠ g) v xs := by
  obtain ⟨hb, hg⟩ := h
  exact Kd.Q_types ho hb ht
theorem IsS82.own_neQ {w0 W : World} {g : Nat} {f0 : ByteArray} {α : Type} {d : Kd α} {e : Nat} {base : Nat} {ok : Nat → Prop} {v : Value} {xs : List α} (h : IsS82 w0 W g f0) (ho : d.Q e W base ok v xs) (ht : e ≠ 82) : some g ≠ v.ownBlock := by
  obtain ⟨hb, hg⟩ := h
  exact Kd.Q_ne ho hb ht
theorem IsS82.apartS {w0 W : World} {g : Nat} {f0 : ByteArray} {α : Type} {d : Kd α} {e : Nat} {base : Nat} {ok : Nat → Prop} {v : Value} {xs : List α} (h : IsS82 w0 W g f0) (ho : d.S e W base ok v xs) (ht : ∀ q, q ∈ e :: d.E → q ≠ 82) : d.S e W base (fun k => ok k ∧ k ≠ g) v xs := by
  obtain ⟨hb, hg⟩ := h
  exact Kd.S_types ho hb ht
theorem IsS82.own_neS {w0 W : World} {g : Nat} {f0 : ByteArray} {α : Type} {d : Kd α} {e : Nat} {base : Nat} {ok : Nat → Prop} {v : Value} {xs : List α} (h : IsS82 w0 W g f0) (ho : d.S e W base ok v xs) (ht : e ≠ 82) : some g ≠ v.ownBlock := by
  obtain ⟨hb, hg⟩ := h
  exact Kd.S_ne ho hb ht
theorem IsS82.lt {w0 W : World} {g : Nat} {f0 : ByteArray} (h : IsS82 w0 W g f0) : g < W.heap.size := by
  obtain ⟨hb, hg⟩ := h
  exact blk_lt hb
theorem IsS82.ge {w0 W : World} {g : Nat} {f0 : ByteArray} (h : IsS82 w0 W g f0) : w0.heap.size ≤ g := by
  obtain ⟨hb, hg⟩ := h
  exact hg
theorem IsS82.ne_blk {w0 W : World} {g : Nat} {f0 : ByteArray} {a : Nat} {cs : Array Value} {t : TypeId} {fr : Nat × Nat} (h : IsS82 w0 W g f0) (hb2 : W.heap[a]? = some (.cells cs t fr)) (ht : t ≠ 82) : g ≠ a := by
  obtain ⟨hb, hg⟩ := h
  rintro rfl
  rw [hb] at hb2
  injection hb2 with hb2
  injection hb2 with _ ht2
  exact ht ht2.symm
theorem IsS82.far {w0 W : World} {g : Nat} {f0 : ByteArray} {p : Addr} (h : IsS82 w0 W g f0) (hne : g ≠ p.block) (u : Value) : IsS82 w0 (W.setCell p u) g f0 := by
  obtain ⟨hb, hg⟩ := h
  exact ⟨blk_far hb hne u, hg⟩
theorem cellS82_0 {W : World} {g : Nat} {f0 : ByteArray} (h : W.heap[g]? = some (.cells #[.string f0] 82 (0, 0))) : W.cell? ⟨g, 0, none⟩ = some (.string f0) := (blk_cell h 0).trans rfl
theorem IsS82.set_0 {w0 W : World} {g : Nat} {f0 : ByteArray} (h : IsS82 w0 W g f0) (x : ByteArray) : IsS82 w0 (W.setCell ⟨g, 0, none⟩ (.string x)) g x := by
  obtain ⟨hb, hg⟩ := h
  exact ⟨by simpa using blk_set hb 0 (.string x), hg⟩
theorem IsS82.new (w0 W : World) (f0 : ByteArray) (hB : Below w0.heap.size w0 W) : IsS82 w0 (W.alloc (.cells #[.string f0] 82)) W.heap.size f0 := ⟨by simpa using heap_alloc_new W _, hB.size⟩

/-! ### deprec_taker_take: function 56 -/
def deprec_taker_take.f (s0_0 : ByteArray) (a1 : Int) : Option (ByteArray × ByteArray) := if 0 ≤ (mn a1 (s0_0.size : Int)) then (if (mn a1 (s0_0.size : Int)) ≤ (s0_0.size : Int) then (if 0 ≤ ((s0_0.extract 0 ((mn a1 (s0_0.size : Int)) : Int).toNat).size : Int) then (if ((s0_0.extract 0 ((mn a1 (s0_0.size : Int)) : Int).toNat).size : Int) ≤ (s0_0.size : Int) then (some (s0_0.extract 0 ((mn a1 (s0_0.size : Int)) : Int).toNat, s0_0.extract (((s0_0.extract 0 ((mn a1 (s0_0.size : Int)) : Int).toNat).size : Int) : Int).toNat s0_0.size)) else (none)) else (none)) else (none)) else (none)
set_option maxHeartbeats 8000000 in
set_option maxRecDepth 100000 in
theorem deprec_taker_take.calls (g : Nat) (s0_0 : ByteArray) (a1 : Int) (r1 : ByteArray) (r2 : ByteArray) (w0 w : World) (hI : IsS82 w0 w g s0_0) (hB : Below w0.heap.size w0 w) (h : deprec_taker_take.f s0_0 a1 = some (r1, r2)) :
    Calls Tryd.prog 56 #[.pointer (some ⟨g, 0, none⟩), .int .i64 a1] w fun e w' => e = .returned (.string r1) ∧ IsS82 w0 w' g r2 ∧ Below w0.heap.size w0 w' ∧ KeepBut w w' g none := by
  have HI0 := Aside0.mk hI
  have HK := Aside0.mk (KeepBut.refl w g none)
  have HL := Aside0.mk hB.size
  clear hI
  have HW0 := Aside0.mk hB.size
  have HB := Aside0.mk hB
  clear hB
  have H : (if 0 ≤ (mn a1 (s0_0.size : Int)) then (if (mn a1 (s0_0.size : Int)) ≤ (s0_0.size : Int) then (if 0 ≤ ((s0_0.extract 0 ((mn a1 (s0_0.size : Int)) : Int).toNat).size : Int) then (if ((s0_0.extract 0 ((mn a1 (s0_0.size : Int)) : Int).toNat).size : Int) ≤ (s0_0.size : Int) then (some (s0_0.extract 0 ((mn a1 (s0_0.size : Int)) : Int).toNat, s0_0.extract (((s0_0.extract 0 ((mn a1 (s0_0.size : Int)) : Int).toNat).size : Int) : Int).toNat s0_0.size)) else (none)) else (none)) else (none)) else (none)) = some (r1, r2) := h
  clear h
  obtain ⟨ji3, hji3⟩ : ∃ j_ : Int, (mn a1 (s0_0.size : Int)) = j_ := ⟨_, rfl⟩
  replace H : (if 0 ≤ (ji3) then (if (ji3) ≤ (s0_0.size : Int) then (if 0 ≤ ((s0_0.extract 0 ((ji3) : Int).toNat).size : Int) then (if ((s0_0.extract 0 ((ji3) : Int).toNat).size : Int) ≤ (s0_0.size : Int) then (some (s0_0.extract 0 ((ji3) : Int).toNat, s0_0.extract (((s0_0.extract 0 ((ji3) : Int).toNat).size : Int) : Int).toNat s0_0.size)) else (none)) else (none)) else (none)) else (none)) = some (r1, r2) := by first | (rw [hji3] at H; exact H) | (simp only [hji3] at H ⊢; exact H)
  have hji3_ : (if (s0_0.size : Int) < a1 then (s0_0.size : Int) else a1) = ji3 := hji3
  by_cases c4 : 0 ≤ (ji3)
  · rw [if_pos c4] at H
    have c4b0 := eq_true c4
    have c4b1 : decide (0 ≤ (ji3)) = true := decide_eq_true c4
    clear c4
    by_cases c5 : (ji3) ≤ (s0_0.size : Int)
    · rw [if_pos c5] at H
      have c5b0 := eq_true c5
      have c5b1 : decide ((ji3) ≤ (s0_0.size : Int)) = true := decide_eq_true c5
      clear c5
      by_cases c6 : 0 ≤ ((s0_0.extract 0 ((ji3) : Int).toNat).size : Int)
      · rw [if_pos c6] at H
        have c6b0 := eq_true c6
        have c6b1 : decide (0 ≤ ((s0_0.extract 0 ((ji3) : Int).toNat).size : Int)) = true := decide_eq_true c6
        clear c6
        by_cases c7 : ((s0_0.extract 0 ((ji3) : Int).toNat).size : Int) ≤ (s0_0.size : Int)
        · rw [if_pos c7] at H
          have c7b0 := eq_true c7
          have c7b1 : decide (((s0_0.extract 0 ((ji3) : Int).toNat).size : Int) ≤ (s0_0.size : Int)) = true := decide_eq_true c7
          clear c7
          simp only [Option.some.injEq, Prod.mk.injEq] at H
          obtain ⟨rfl, rfl⟩ := H
          have hz_ : ((s0_0.extract 0 ((ji3) : Int).toNat).size : Int) = max ji3 0 := by
            have h1_ : 0 ≤ ji3 := of_eq_true (by assumption)
            have h2_ : ji3 ≤ (s0_0.size : Int) := of_eq_true (by assumption)
            rw [ByteArray.size_extract]; omega
          rw [hz_]
          obtain ⟨HGz8, hgz8⟩ := HI0.out
          have hcz8_0 := cellS82_0 HGz8
          have hfz8_0 := blk_frozen HGz8 0
          clear HGz8 hgz8
          go_enter Tryd.func56, Tryd.ntmps56
          go_wp2
          repeat (go_quiet (fail); try go_wp2)
          go_ret
          exact ⟨by first | rfl | (simp [errW_none, errW_some] <;> rfl) | (simp only [← hji3]; first | rfl | (simp [errW_none, errW_some] <;> rfl)) | (simp [*, errW_none, errW_some] <;> rfl), by repeat (first | (with_reducible first | exact HI0.out | apply IsS82.alloc | apply IsS82.drewN | apply IsS82.drew | apply IsS82.set_0) | exact HI0.out), by repeat (first | (with_reducible first | exact HB.out | apply below_alloc | apply pw_below_drewN | apply below_drew1 | refine below_set ?_ (IsS82.ge HI0.out)) | exact HB.out), by repeat (first | (with_reducible first | exact HK.out | apply KeepBut.set_ | apply keep_drewN | apply keep_drew | apply keep_alloc) | exact HK.out)⟩
        · rw [if_neg c7] at H
          exact absurd H (by simp)
      · rw [if_neg c6] at H
        exact absurd H (by simp)
    · rw [if_neg c5] at H
      exact absurd H (by simp)
  · rw [if_neg c4] at H
    exact absurd H (by simp)

-- HAND DeprecNumber.lean
-- IMPORT Derived.Test.YtkplcmcmpdhigaaDoorBits
/-! ### deprec_taker_number, by hand -/
def deprec_taker_number.f (s0_0 : ByteArray) (a1 : Int) : Option (Int × ByteArray) :=
  if 0 ≤ a1 ∧ a1 ≤ 4 then some (((Spec.unlow (s0_0.data.toList.take a1.toNat) : Nat) : Int), Spec.str (s0_0.data.toList.drop a1.toNat)) else none
theorem taker_take_is (s : ByteArray) (n : Int) (h0 : 0 ≤ n) : deprec_taker_take.f s n = some (Spec.str (s.data.toList.take n.toNat), Spec.str (s.data.toList.drop n.toNat)) := by
  obtain ⟨m, rfl⟩ := Int.eq_ofNat_of_zero_le h0
  obtain ⟨j, hj, hm⟩ : ∃ j : Nat, j = min m s.size ∧ mn (m : Int) (s.size : Int) = (j : Int) := ⟨_, rfl, by unfold mn; omega⟩
  have hjs : j ≤ s.size := by omega
  have e1 : (s.extract 0 j).size = j := by rw [ByteArray.size_extract]; omega
  unfold deprec_taker_take.f
  rw [hm]
  simp only [Int.toNat_natCast, e1]
  rw [if_pos (by omega), if_pos (by omega), if_pos (by omega), if_pos (by omega)]
  have hl := Spec.size_data s
  congr 2
  · refine Spec.str_eq _ _ ?_
    rw [Spec.extract_data, List.drop_zero, hj]
    by_cases hc : m ≤ s.size
    · rw [Nat.min_eq_left hc]
    · rw [Nat.min_eq_right (by omega), List.take_of_length_le (by omega), List.take_of_length_le (by omega)]
  · refine Spec.str_eq _ _ ?_
    rw [Spec.extract_data, List.take_of_length_le (by omega), hj]
    by_cases hc : m ≤ s.size
    · rw [Nat.min_eq_left hc]
    · rw [Nat.min_eq_right (by omega), List.drop_eq_nil_of_le (by omega), List.drop_eq_nil_of_le (by omega)]
theorem number_conv (t : ByteArray) (h : t.size ≤ 4) (W : World) : ∃ ad c W2, (convert 9 35 (.string t)).run Tryd.prog W = .ok (.slice (some ad) t.size c) W2 ∧ (∀ j : Nat, j < t.size → W2.cell? (ad.add j) = some (.int .u8 (bt t j))) ∧ Below W.heap.size W W2 := by
  have hr := bytes_reads W 5 t (by omega)
  refine ⟨⟨W.heap.size, 0, none⟩, _, _, print_bytes (P := Tryd.prog) 9 35 5 Tryd.underlying9 Tryd.underlying35 Tryd.underlying5 t W, fun j hj => ?_, bytes_below (Below.refl _ _) (Nat.le_refl _) _ _⟩
  obtain ⟨ad, ha, hc⟩ := hr.2.2 (by omega)
  cases ha
  rw [hc j hj, ← rd_bytesOf]
  simp [rd]
theorem byte_shl (b : UInt8) (kk : Nat) (h : kk ≤ 3) : wrap64 (wrap64 (b.toNat : Int) * 2 ^ (8 * kk)) = ((b.toNat * 2 ^ (8 * kk) : Nat) : Int) := by
  have hb : b.toNat < 256 := b.toNat_lt
  have e1 : wrap64 (b.toNat : Int) = (b.toNat : Int) := Spec.wrap_id (by omega) (by omega)
  have hp : 2 ^ (8 * kk) ≤ 2 ^ 24 := Nat.pow_le_pow_right (by decide) (by omega)
  have hm : b.toNat * 2 ^ (8 * kk) ≤ 255 * 2 ^ 24 := Nat.mul_le_mul (by omega) hp
  rw [e1, show ((b.toNat : Int) * 2 ^ (8 * kk)) = ((b.toNat * 2 ^ (8 * kk) : Nat) : Int) by simp]
  have hq : ∀ q : Nat, q ≤ 255 * 2 ^ 24 → wrap64 (q : Int) = (q : Int) := fun q hq => Spec.wrap_id (by omega) (by omega)
  rw [hq _ hm]
theorem number_or (l : List UInt8) (b : UInt8) (kk : Nat) (hl : l.length = kk) (h : kk ≤ 3) : Go.bits .or .i64 ((Spec.unlow l : Nat) : Int) ((b.toNat * 2 ^ (8 * kk) : Nat) : Int) = ((Spec.unlow (l ++ [b]) : Nat) : Int) := by
  have hlt := Spec.unlow_lt l
  rw [hl, show (256 : Nat) = 2 ^ 8 by decide, ← Nat.pow_mul] at hlt
  rw [Spec.or_low _ _ (8 * kk) hlt b.toNat_lt (by omega), Spec.unlow_snoc, hl]
set_option maxHeartbeats 4000000 in
theorem deprec_taker_number.calls (g : Nat) (s0_0 : ByteArray) (a1 : Int) (r1 : Int) (r2 : ByteArray) (w0 w : World) (hI : IsS82 w0 w g s0_0) (hB : Below w0.heap.size w0 w) (h : deprec_taker_number.f s0_0 a1 = some (r1, r2)) :
    Calls Tryd.prog 58 #[.pointer (some ⟨g, 0, none⟩), .int .i64 a1] w fun e w' => e = .returned (.int .i64 r1) ∧ IsS82 w0 w' g r2 ∧ Below w0.heap.size w0 w' ∧ KeepBut w w' g none := by
  unfold deprec_taker_number.f at h
  split at h
  case isFalse => cases h
  rename_i hc
  obtain ⟨h0, h4⟩ := hc
  have ht := taker_take_is s0_0 a1 h0
  obtain ⟨rfl, rfl⟩ := Prod.mk.inj (Option.some.inj h)
  obtain ⟨l, hl⟩ : ∃ l, s0_0.data.toList.take a1.toNat = l := ⟨_, rfl⟩
  have hlen : l.length ≤ 4 := by rw [← hl, List.length_take]; omega
  obtain ⟨r, hr⟩ : ∃ r, Spec.str (s0_0.data.toList.drop a1.toNat) = r := ⟨_, rfl⟩
  obtain ⟨t, htt⟩ : ∃ t, Spec.str l = t := ⟨_, rfl⟩
  rw [hl, hr, htt] at ht
  rw [hl, hr]
  have hts : t.size = l.length := by rw [← htt, Spec.str_size]
  have htl : t.data.toList = l := by rw [← htt, Spec.str_data]
  have cT := deprec_taker_take.calls g s0_0 a1 t r w0 w hI hB ht
  have hread : ∀ kk, kk < t.size → ∃ b : UInt8, bt t (kk : Int) = b.toNat ∧ l.take (kk + 1) = l.take kk ++ [b] := fun kk hk => by
    have hk' : kk < l.length := by omega
    refine ⟨l[kk], ?_, by rw [List.take_succ_eq_append_getElem hk']⟩
    have e := Spec.bt_pre t (l.take kk) l[kk] (l.drop (kk + 1)) (by rw [htl, List.getElem_cons_drop, List.take_append_drop])
    rwa [List.length_take, Nat.min_eq_left (by omega)] at e
  have HR := Aside0.mk hread
  have HT4 := Aside0.mk (show t.size ≤ 4 by omega)
  have HLT : Aside0 (l.take t.size = l) := ⟨by rw [hts, List.take_length]⟩
  have HLEN : Aside0 (t.size = l.length) := ⟨hts⟩
  clear hread ht hl hr htt hts htl hlen h h0 h4 hI hB
  go_enter Tryd.func58, Tryd.ntmps58
  go_wp2_with (go_at_call 56; refine cT.mono ?_; rintro e w1 ⟨rfl, hi, hb, hk⟩; obtain ⟨ad, c, W2, hcv, hcell, hB2⟩ := number_conv t HT4.out w1; have HC := Aside0.mk hcell; have HB2 := Aside0.mk hB2; have HI := Aside0.mk hi; have HB := Aside0.mk hb; have HK := Aside0.mk hk; clear hcell hB2 hi hb hk)
  clear hcv
  go_loopg [5, 6, 7, 13] 5 (fun gg s5 _ _ s13 wr => ∃ kk : Nat, kk ≤ t.size ∧ t.size - kk < gg ∧ s13 = .int .i64 kk ∧ s5 = .int .i64 ((Spec.unlow (l.take kk) : Nat) : Int) ∧ wr = W2)
  case atStart => exact ⟨0, Nat.zero_le _, by have := HT4.out; omega, rfl, by simp [Spec.unlow], rfl⟩
  case round =>
    obtain ⟨kk, hkk, hg, rfl, rfl, rfl⟩ := hrel
    by_cases hlt : kk < t.size
    · have hltz : (kk : Int) < (t.size : Int) := by omega
      obtain ⟨b, hb, hsn⟩ := HR.out kk hlt
      have hcell := HC.out kk hlt
      rw [hb] at hcell
      clear hb
      have hk4 : kk ≤ 3 := by have := HT4.out; omega
      have hsh := byte_shl b kk hk4
      have hor := number_or (l.take kk) b kk (by rw [List.length_take]; have := HLEN.out; omega) hk4
      go_wp2
      go_roundg (gk - 1)
      case measure => omega
      case rel => exact ⟨kk + 1, by omega, by omega, by go_num, by rw [hsn, ← hor, show ((b.toNat * 2 ^ (8 * kk) : Nat) : Int) = (b.toNat : Int) * 2 ^ (8 * kk) by simp], rfl⟩
    · have heq : kk = t.size := by omega
      subst heq
      have hltz : ¬ (t.size : Int) < (t.size : Int) := by omega
      have hw := HLT.out
      rw [hw]
      go_wp2
      go_ret
      exact ⟨rfl, HI.out.below HB2.out, below_then HB.out HB.out.size HB2.out, HK.out.trans (KeepBut.of_below HB2.out g none) (.inl rfl)⟩

/-! ### deprec_taker_text: function 57 -/
def deprec_taker_text.f (s0_0 : ByteArray) : Option (ByteArray × ByteArray) := (deprec_taker_number.f s0_0 1).bind fun bt214 => ((deprec_taker_take.f bt214.2 bt214.1).bind fun bt216 => (some (bt216.1, bt216.2)))
set_option maxHeartbeats 8000000 in
set_option maxRecDepth 100000 in
theorem deprec_taker_text.calls (g : Nat) (s0_0 : ByteArray) (r1 : ByteArray) (r2 : ByteArray) (w0 w : World) (hI : IsS82 w0 w g s0_0) (hB : Below w0.heap.size w0 w) (h : deprec_taker_text.f s0_0 = some (r1, r2)) :
    Calls Tryd.prog 57 #[.pointer (some ⟨g, 0, none⟩)] w fun e w' => e = .returned (.string r1) ∧ IsS82 w0 w' g r2 ∧ Below w0.heap.size w0 w' ∧ KeepBut w w' g none := by
  have HI0 := Aside0.mk hI
  have HK := Aside0.mk (KeepBut.refl w g none)
  have HL := Aside0.mk hB.size
  clear hI
  have HW0 := Aside0.mk hB.size
  have HB := Aside0.mk hB
  clear hB
  have H : ((deprec_taker_number.f s0_0 1).bind fun bt214 => ((deprec_taker_take.f bt214.2 bt214.1).bind fun bt216 => (some (bt216.1, bt216.2)))) = some (r1, r2) := h
  clear h
  replace H := Option.bind_eq_some_iff.mp H
  obtain ⟨⟨t214, t215⟩, A20, H⟩ := H
  replace H : ((deprec_taker_take.f t215 t214).bind fun bt216 => (some (bt216.1, bt216.2))) = some (r1, r2) := H
  have A2 := Aside0.mk A20
  clear A20
  replace H := Option.bind_eq_some_iff.mp H
  obtain ⟨⟨t216, t217⟩, A30, H⟩ := H
  replace H : (some (t216, t217)) = some (r1, r2) := H
  have A3 := Aside0.mk A30
  clear A30
  simp only [Option.some.injEq, Prod.mk.injEq] at H
  obtain ⟨rfl, rfl⟩ := H
  go_enter Tryd.func57, Tryd.ntmps57
  go_wp2_with (first | ((with_reducible refine gate_callee (f := 58) rfl ?_); refine goesL_ (some 5) rfl rfl Tryd.func58 (by kernel_rfl) rfl #[.pointer (some ⟨g, 0, none⟩), .int .i64 1] rfl (by (try simp only [List.map_toArray, List.map_cons, List.map_nil]); first | done | rfl | (simp only [List.length_drop, List.length_take]; rfl)) ?_; (with_reducible refine (deprec_taker_number.calls g s0_0 1 t214 t215 w0 _ ?side1 ?side2 A2.out).mono ?_); (case side1 => repeat (first | (with_reducible first | exact HI0.out | apply IsS82.alloc | apply IsS82.drewN | apply IsS82.drew | apply IsS82.set_0) | exact HI0.out)); (case side2 => repeat (first | (with_reducible first | exact HB.out | apply below_alloc | apply pw_below_drewN | apply below_drew1 | refine below_set ?_ (IsS82.ge HI0.out)) | exact HB.out)); rintro e w4 ⟨rfl, hi, hb, hk⟩; refine ⟨_, rfl, ?_⟩; have n0_ := Aside0.mk (KeepBut.trans (by repeat (first | (with_reducible first | exact HK.out | apply KeepBut.set_ | apply keep_drewN | apply keep_drew | apply keep_alloc) | exact HK.out)) hk (.inl rfl)); have n1_ := Aside0.mk (hb); have n2_ := Aside0.mk (hi); clear HK; clear HB; clear HI0; have HK := n0_; have HB := n1_; have HI0 := n2_; clear n0_ n1_ n2_; (try clear hb); (try clear hb2); (try clear hk); (try clear hi)) | ((with_reducible refine gate_callee (f := 56) rfl ?_); refine goesL_ (some 6) rfl rfl Tryd.func56 (by kernel_rfl) rfl #[.pointer (some ⟨g, 0, none⟩), .int .i64 t214] rfl (by (try simp only [List.map_toArray, List.map_cons, List.map_nil]); first | done | rfl | (simp only [List.length_drop, List.length_take]; rfl)) ?_; (with_reducible refine (deprec_taker_take.calls g t215 t214 t216 t217 w0 _ ?side1 ?side2 A3.out).mono ?_); (case side1 => repeat (first | (with_reducible first | exact HI0.out | apply IsS82.alloc | apply IsS82.drewN | apply IsS82.drew | apply IsS82.set_0) | exact HI0.out)); (case side2 => repeat (first | (with_reducible first | exact HB.out | apply below_alloc | apply pw_below_drewN | apply below_drew1 | refine below_set ?_ (IsS82.ge HI0.out)) | exact HB.out)); rintro e w5 ⟨rfl, hi, hb, hk⟩; refine ⟨_, rfl, ?_⟩; have n0_ := Aside0.mk (KeepBut.trans (by repeat (first | (with_reducible first | exact HK.out | apply KeepBut.set_ | apply keep_drewN | apply keep_drew | apply keep_alloc) | exact HK.out)) hk (.inl rfl)); have n1_ := Aside0.mk (hb); have n2_ := Aside0.mk (hi); clear HK; clear HB; clear HI0; have HK := n0_; have HB := n1_; have HI0 := n2_; clear n0_ n1_ n2_; (try clear hb); (try clear hb2); (try clear hk); (try clear hi)))
  go_ret
  exact ⟨by first | rfl | (simp [errW_none, errW_some] <;> rfl) | (simp [*, errW_none, errW_some] <;> rfl), by repeat (first | (with_reducible first | exact HI0.out | apply IsS82.alloc | apply IsS82.drewN | apply IsS82.drew | apply IsS82.set_0) | exact HI0.out), by repeat (first | (with_reducible first | exact HB.out | apply below_alloc | apply pw_below_drewN | apply below_drew1 | refine below_set ?_ (IsS82.ge HI0.out)) | exact HB.out), by repeat (first | (with_reducible first | exact HK.out | apply KeepBut.set_ | apply keep_drewN | apply keep_drew | apply keep_alloc) | exact HK.out)⟩

end Go.Proofs.YtkplcmcmpdhigaaDoor.P
