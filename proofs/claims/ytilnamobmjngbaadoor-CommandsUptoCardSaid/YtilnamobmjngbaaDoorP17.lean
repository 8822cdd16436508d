-- Made by a program of this work's own (wip/myprint.py) over the kit's print; leaves by hand.
import Derived.Test.YtilnamobmjngbaaDoorP0
import Derived.Test.YtilnamobmjngbaaDoorWRepsOne
import Derived.Test.YtilnamobmjngbaaDoorMg1
namespace Go.Proofs.YtilnamobmjngbaaDoor.P
open Go.RowKit Go.Proofs.YtilnamobmjngbaaDoorW.PrintWords Go.Proofs.YtilnamobmjngbaaDoorW.PrintLast Go.Proofs.YtilnamobmjngbaaDoorW.PrintMore
attribute [local go_sem] max2_int min2_int max_two min_two max_three min_three max_four min_four   -- for this text's walks alone
set_option linter.unusedVariables false
set_option linter.unusedSimpArgs false

-- HANDBIG DiskPlace.lean
-- IMPORT Derived.Test.YtilnamobmjngbaaDoorPlain
/-! ### slices.BinarySearchFunc of files by name, by hand -/
theorem dk_gtr (t : TypeId) (a b : ByteArray) : binOp .gtr t (.string a) (.string b) = pure (.bool !(Op.bytesLess a.toList b.toList || a.toList == b.toList)) := by simp [binOp, Op.stringOp]
attribute [local go_sem] dk_gtr
def cmpS (a b : ByteArray) : Int := if Op.bytesLess a.toList b.toList = true then -1 else if (a.toList == b.toList) = true then 0 else 1
theorem dk_nan (a : ByteArray) (w : World) : Calls Tryd.prog 91 #[.string a] w fun e w' => e = .returned (.bool false) ∧ Drawn0 w w' := by
  go_enter Tryd.func91, Tryd.ntmps91
  go_wp2
  go_ret
  exact ⟨by first | rfl | simp, by repeat (first | exact Drawn0.refl _ | apply Drawn0.step)⟩
theorem dk_cmp (a b : ByteArray) (w : World) : Calls Tryd.prog 78 #[.string a, .string b] w fun e w' => e = .returned (.int .i64 (cmpS a b)) ∧ Drawn0 w w' := by
  unfold cmpS
  by_cases h : Op.bytesLess a.toList b.toList = true
  · rw [if_pos h]
    go_enter Tryd.func78, Tryd.ntmps78
    go_wp2_with (go_at_call 91; refine (dk_nan _ _).mono ?_; rintro e w' ⟨rfl, ⟨nd, rfl⟩⟩)
    go_ret
    exact ⟨rfl, by repeat (first | exact Drawn0.refl _ | apply Drawn0.step)⟩
  · rw [if_neg h]
    replace h := Bool.eq_false_iff.mpr h
    by_cases h2 : (a.toList == b.toList) = true
    · rw [if_pos h2]
      go_enter Tryd.func78, Tryd.ntmps78
      go_wp2_with (go_at_call 91; refine (dk_nan _ _).mono ?_; rintro e w' ⟨rfl, ⟨nd, rfl⟩⟩)
      go_ret
      exact ⟨rfl, by repeat (first | exact Drawn0.refl _ | apply Drawn0.step)⟩
    · rw [if_neg h2]
      replace h2 := Bool.eq_false_iff.mpr h2
      go_enter Tryd.func78, Tryd.ntmps78
      go_wp2_with (go_at_call 91; refine (dk_nan _ _).mono ?_; rintro e w' ⟨rfl, ⟨nd, rfl⟩⟩)
      go_ret
      exact ⟨rfl, by repeat (first | exact Drawn0.refl _ | apply Drawn0.step)⟩
theorem dk_by (o : ByteArray) (c t : Int) (s : ByteArray) (w : World) : Calls Tryd.prog 77 #[.agg #[.string o, .int .i64 c, .int .i64 t], .string s] w fun e w' => e = .returned (.int .i64 (cmpS o s)) ∧ Below w.heap.size w w' := by
  have f0 := heap_alloc_new w (.cells #[.string o, .int .i64 c, .int .i64 t] 72)
  have b1 : Below w.heap.size w (w.alloc (.cells #[.string o, .int .i64 c, .int .i64 t] 72)) := below_alloc (Below.refl _ _) _
  have c78 := dk_cmp o s (w.alloc (.cells #[.string o, .int .i64 c, .int .i64 t] 72))
  have B1 := Aside0.mk b1
  clear b1 f0
  go_enter Tryd.func77, Tryd.ntmps77
  go_wp2_with fail
  refine c78.mono ?_
  rintro e w' ⟨rfl, hd⟩
  have B2 := Aside0.mk (below_then B1.out B1.out.size hd.below)
  clear c78 hd
  go_wp2
  go_ret
  exact ⟨rfl, B2.out⟩
/-- the search: where it stands between i and j -/
def bsL (l : List (S72)) (s : ByteArray) : Nat → Nat → Nat → Nat
  | 0, i, _ => i
  | n + 1, i, j => if i < j then (if cmpS (rd_T72 l (((i + j) / 2 : Nat) : Int)).f0 s < 0 then bsL l s n ((i + j) / 2 + 1) j else bsL l s n i ((i + j) / 2)) else i
def bsAt (l : List (S72)) (s : ByteArray) : Nat := bsL l s l.length 0 l.length
def bsIs (l : List (S72)) (s : ByteArray) : Bool := decide (bsAt l s < l.length) && decide (cmpS (rd_T72 l ((bsAt l s : Nat) : Int)).f0 s = 0)
theorem bsL_le (l : List (S72)) (s : ByteArray) : ∀ n i j, i ≤ j → j ≤ l.length → bsL l s n i j ≤ l.length
  | 0, i, j, h, h2 => by rw [bsL]; omega
  | n + 1, i, j, h, h2 => by
    rw [bsL]
    split
    · split
      · exact bsL_le l s n _ _ (by omega) h2
      · exact bsL_le l s n _ _ (by omega) (by omega)
    · omega
/-- on a list that is below s first and not below it behind, the search stands where the first one is that isn't -/
theorem bsL_spec (l : List (S72)) (s : ByteArray) (hm : ∀ a b : Nat, a ≤ b → b < l.length → cmpS (rd_T72 l (b : Int)).f0 s < 0 → cmpS (rd_T72 l (a : Int)).f0 s < 0) : ∀ n i j, i ≤ j → j ≤ l.length → j - i ≤ n →
    (∀ k : Nat, k < i → cmpS (rd_T72 l (k : Int)).f0 s < 0) → (∀ k : Nat, j ≤ k → k < l.length → ¬ cmpS (rd_T72 l (k : Int)).f0 s < 0) →
    (∀ k : Nat, k < bsL l s n i j → cmpS (rd_T72 l (k : Int)).f0 s < 0) ∧ (∀ k : Nat, bsL l s n i j ≤ k → k < l.length → ¬ cmpS (rd_T72 l (k : Int)).f0 s < 0)
  | 0, i, j, h1, h2, h3, h4, h5 => by
    obtain rfl : i = j := by omega
    rw [bsL]
    exact ⟨h4, h5⟩
  | n + 1, i, j, h1, h2, h3, h4, h5 => by
    rw [bsL]
    by_cases hij : i < j
    · rw [if_pos hij]
      obtain ⟨q, hq⟩ : ∃ q : Nat, q = (i + j) / 2 := ⟨_, rfl⟩
      rw [← hq]
      by_cases hc : cmpS (rd_T72 l (q : Int)).f0 s < 0
      · rw [if_pos hc]
        exact bsL_spec l s hm n (q + 1) j (by omega) h2 (by omega) (fun k hk => hm k q (by omega) (by omega) hc) h5
      · rw [if_neg hc]
        exact bsL_spec l s hm n i q (by omega) (by omega) (by omega) h4 (fun k hk hkl hk2 => hc (hm q k hk hkl hk2))
    · rw [if_neg hij]
      obtain rfl : i = j := by omega
      exact ⟨h4, h5⟩
theorem bsAt_spec (l : List (S72)) (s : ByteArray) (hm : ∀ a b : Nat, a ≤ b → b < l.length → cmpS (rd_T72 l (b : Int)).f0 s < 0 → cmpS (rd_T72 l (a : Int)).f0 s < 0) :
    bsAt l s ≤ l.length ∧ (∀ k : Nat, k < bsAt l s → cmpS (rd_T72 l (k : Int)).f0 s < 0) ∧ (∀ k : Nat, bsAt l s ≤ k → k < l.length → ¬ cmpS (rd_T72 l (k : Int)).f0 s < 0) :=
  ⟨bsL_le l s _ _ _ (Nat.zero_le _) (Nat.le_refl _), bsL_spec l s hm l.length 0 l.length (Nat.zero_le _) (Nat.le_refl _) (by omega) (fun k hk => absurd hk (Nat.not_lt_zero k)) (fun k h1 h2 => absurd h2 (by omega))⟩
/-! the order of names -/
theorem less_is : ∀ (x y : List UInt8), Op.bytesLess x y = decide (x < y)
  | [], [] => rfl
  | [], _ :: _ => by simp [Op.bytesLess]
  | _ :: _, [] => by simp [Op.bytesLess]
  | a :: x, b :: y => by
    have ih := less_is x y
    simp only [Op.bytesLess, ih, List.cons_lt_cons_iff]
    by_cases h : a < b
    · simp [h]
    · by_cases h2 : a = b
      · subst h2; simp
      · simp [h, h2]
theorem cmpS_lt (a b : ByteArray) : cmpS a b < 0 ↔ a.toList < b.toList := by
  unfold cmpS
  rw [less_is]
  by_cases h : a.toList < b.toList
  · simp [h]
  · rw [decide_eq_false h]
    simp only [Bool.false_eq_true, if_false, h, iff_false]
    split <;> omega
theorem cmpS_eq (a b : ByteArray) : cmpS a b = 0 ↔ a.toList = b.toList := by
  unfold cmpS
  rw [less_is]
  by_cases h : a.toList < b.toList
  · have : a.toList ≠ b.toList := fun e => by rw [e] at h; exact List.lt_irrefl _ h
    simp [h, this]
  · rw [decide_eq_false h]
    by_cases h2 : a.toList = b.toList
    · simp [h2]
    · simp [h2]
/-- rising by name -/
def riseF (l : List (S72)) : Prop := ∀ a b : Nat, a < b → b < l.length → (rd_T72 l (a : Int)).f0.toList < (rd_T72 l (b : Int)).f0.toList
theorem rise_mono {l : List (S72)} (h : riseF l) (s : ByteArray) : ∀ a b : Nat, a ≤ b → b < l.length → cmpS (rd_T72 l (b : Int)).f0 s < 0 → cmpS (rd_T72 l (a : Int)).f0 s < 0 := fun a b hab hb hc => by
  by_cases e : a = b
  · subst e; exact hc
  · rw [cmpS_lt] at hc ⊢
    exact List.lt_trans (h a b (by omega) hb) hc
theorem bs_there {l : List (S72)} (h : riseF l) {s : ByteArray} {k : Nat} (hk : k < l.length) (e : (rd_T72 l (k : Int)).f0.toList = s.toList) : bsAt l s = k ∧ bsIs l s = true := by
  obtain ⟨h1, h2, h3⟩ := bsAt_spec l s (rise_mono h s)
  have h0 : cmpS (rd_T72 l (k : Int)).f0 s = 0 := (cmpS_eq _ _).2 e
  have g1 : ¬ k < bsAt l s := fun hc => by have := h2 k hc; omega
  have g2 : ¬ bsAt l s < k := fun hc => by
    have := h3 (bsAt l s) (Nat.le_refl _) (by omega)
    rw [cmpS_lt] at this
    have h4 := h (bsAt l s) k hc hk
    rw [e] at h4
    exact this h4
  have g : bsAt l s = k := by omega
  refine ⟨g, ?_⟩
  unfold bsIs
  rw [g, decide_eq_true hk, Bool.true_and]
  exact decide_eq_true h0
theorem bs_not {l : List (S72)} {s : ByteArray} (h : ∀ k : Nat, k < l.length → (rd_T72 l (k : Int)).f0.toList ≠ s.toList) : bsIs l s = false := by
  unfold bsIs
  by_cases hk : bsAt l s < l.length
  · rw [decide_eq_true hk, Bool.true_and]
    exact decide_eq_false (fun hc => h _ hk ((cmpS_eq _ _).1 hc))
  · rw [decide_eq_false hk, Bool.false_and]
theorem bs_half (i j : Nat) (h : i + j ≤ 1000000000) : wrap64 (IntKind.u64.wrap (wrap64 ((i : Int) + (j : Int))) / 2) = (((i + j) / 2 : Nat) : Int) := by
  rw [Spec.wrap_id (n := (i : Int) + (j : Int)) (by omega) (by omega), Spec.u64_wrap, Spec.wrap_id (by omega) (by omega)]
  omega
set_option maxHeartbeats 4000000 in
theorem dk_search (A : Option Addr) (c : Nat) (l : List (S72)) (s : ByteArray) (w : World) (hr : Kd.C k72 w A l.length l) (hl : l.length ≤ 1000000) :
    Calls Tryd.prog 76 #[.slice A l.length c, .string s, .func (.func 77) #[] #[]] w fun e w' => e = .returned (.tuple #[.int .i64 (bsAt l s), .bool (bsIs l s)]) ∧ Below w.heap.size w w' := by
  have HR := Aside0.mk hr
  have HL := Aside0.mk hl
  clear hr hl
  have eg : ∀ args w, (callFunc 77 args).run Tryd.prog w = .ok (.enter 77 args) w := enters_of Tryd.func77 (by kernel_rfl) rfl
  go_enter Tryd.func76, Tryd.ntmps76
  go_wp2
  go_loopg [9, 10, 11] l.length (fun gg s9 s10 _ wr => ∃ i j : Nat, i ≤ j ∧ j ≤ l.length ∧ j - i ≤ gg ∧ s9 = .int .i64 i ∧ s10 = .int .i64 j ∧ Aside0 (bsL l s gg i j = bsAt l s) ∧ Aside0 (Below w.heap.size w wr))
  case atStart => exact ⟨0, l.length, Nat.zero_le _, Nat.le_refl _, by omega, rfl, rfl, ⟨rfl⟩, ⟨Below.refl _ _⟩⟩
  case round =>
    obtain ⟨i, j, h1, h2, h3, rfl, rfl, E, B⟩ := hrel
    by_cases hij : i < j
    · have hz : (i : Int) < (j : Int) := by omega
      have hhalf := bs_half i j (by have := HL.out; omega)
      obtain ⟨q, hq⟩ : ∃ q : Nat, q = (i + j) / 2 := ⟨_, rfl⟩
      have hql : q < l.length := by omega
      have hqz : (q : Int) < (l.length : Int) := by omega
      rw [← hq] at hhalf
      obtain ⟨ad, hA, x0, x1, x2⟩ := at_T72 HR.out (q : Int) (by omega) hqz
      subst hA
      replace x0 := (B.out.cell (World.block_lt_of_cell? w _ x0)).trans x0
      replace x1 := (B.out.cell (World.block_lt_of_cell? w _ x1)).trans x1
      replace x2 := (B.out.cell (World.block_lt_of_cell? w _ x2)).trans x2
      simp only [Int.toNat_natCast] at x0 x1 x2
      have hcall := dk_by (rd_T72 l (q : Int)).f0 (rd_T72 l (q : Int)).f1 (rd_T72 l (q : Int)).f2 s wr
      have hw1 : wrap64 ((q : Int) + 1) = ((q + 1 : Nat) : Int) := Spec.wrap_nat (by have := HL.out; omega)
      cases gk with
      | zero => exact absurd h3 (by omega)
      | succ g =>
        have hE := E.out
        rw [bsL, if_pos hij, ← hq] at hE
        have HQ := Aside0.mk hq
        clear hq
        by_cases hc : cmpS (rd_T72 l (q : Int)).f0 s < 0
        · rw [if_pos hc] at hE
          have E2 := Aside0.mk hE
          clear hE E
          generalize rd_T72 l (q : Int) = x at x0 x1 x2 hcall hc
          go_wp2_with (go_at_fn 77; refine hcall.mono ?_; rintro e w' ⟨rfl, hB⟩)
          go_roundg g
          case measure => omega
          case rel => exact ⟨q + 1, j, by have := HQ.out; omega, h2, by have := HQ.out; omega, by rw [hw1], rfl, E2, ⟨below_then B.out B.out.size hB⟩⟩
        · rw [if_neg hc] at hE
          have E2 := Aside0.mk hE
          clear hE E
          generalize rd_T72 l (q : Int) = x at x0 x1 x2 hcall hc
          go_wp2_with (go_at_fn 77; refine hcall.mono ?_; rintro e w' ⟨rfl, hB⟩)
          go_roundg g
          case measure => omega
          case rel => exact ⟨i, q, by have := HQ.out; omega, by have := HQ.out; omega, by have := HQ.out; omega, rfl, rfl, E2, ⟨below_then B.out B.out.size hB⟩⟩
    · obtain rfl : i = j := by omega
      have hE : i = bsAt l s := by
        have := E.out
        cases gk with
        | zero => rw [bsL] at this; exact this
        | succ g => rw [bsL, if_neg hij] at this; exact this
      have HE := Aside0.mk hE
      clear hE E
      by_cases hin : i < l.length
      · have hqz : (i : Int) < (l.length : Int) := by omega
        obtain ⟨ad, hA, x0, x1, x2⟩ := at_T72 HR.out (i : Int) (by omega) hqz
        subst hA
        replace x0 := (B.out.cell (World.block_lt_of_cell? w _ x0)).trans x0
        replace x1 := (B.out.cell (World.block_lt_of_cell? w _ x1)).trans x1
        replace x2 := (B.out.cell (World.block_lt_of_cell? w _ x2)).trans x2
        simp only [Int.toNat_natCast] at x0 x1 x2
        have hcall := dk_by (rd_T72 l (i : Int)).f0 (rd_T72 l (i : Int)).f1 (rd_T72 l (i : Int)).f2 s wr
        have hI : bsIs l s = decide (cmpS (rd_T72 l (i : Int)).f0 s = 0) := by unfold bsIs; rw [← HE.out, decide_eq_true hin, Bool.true_and]
        generalize rd_T72 l (i : Int) = x at x0 x1 x2 hcall hI
        have HI := Aside0.mk hI
        clear hI
        go_wp2_with (go_at_fn 77; refine hcall.mono ?_; rintro e w' ⟨rfl, hB⟩)
        go_ret2
        exact ⟨by rw [HI.out, ← HE.out]; first | rfl | simp, below_then B.out B.out.size hB⟩
      · have hI : bsIs l s = false := by unfold bsIs; rw [← HE.out, decide_eq_false hin, Bool.false_and]
        have HI := Aside0.mk hI
        clear hI
        have hqz : ¬ (i : Int) < (l.length : Int) := by omega
        have hij2 : ¬ (i : Int) < (i : Int) := by omega
        go_wp2
        go_ret2
        exact ⟨by rw [HI.out, ← HE.out]; first | rfl | simp, B.out⟩
theorem dk_place (g : Nat) (clk : Int) (A : Option Addr) (c : Nat) (l : List (S72)) (s : ByteArray) (w : World) (hb : w.heap[g]? = some (.cells #[.int .i64 clk, .slice A l.length c] 28 (0, 0))) (hr : Kd.C k72 w A l.length l) (hl : l.length ≤ 1000000) :
    Calls Tryd.prog 62 #[.pointer (some ⟨g, 0, none⟩), .string s] w fun e w' => e = .returned (.tuple #[.int .i64 (bsAt l s), .bool (bsIs l s)]) ∧ Below w.heap.size w w' := by
  have c76 := dk_search A c l s w hr hl
  have x1 : w.cell? ⟨g, 1, none⟩ = some (.slice A l.length c) := by rw [blk_cell hb]; rfl
  clear hb hr hl
  go_enter Tryd.func62, Tryd.ntmps62
  go_wp2_with fail
  refine c76.mono ?_
  rintro e w' ⟨rfl, B⟩
  clear c76 x1
  go_wp2
  go_ret2
  exact ⟨rfl, B⟩

end Go.Proofs.YtilnamobmjngbaaDoor.P
