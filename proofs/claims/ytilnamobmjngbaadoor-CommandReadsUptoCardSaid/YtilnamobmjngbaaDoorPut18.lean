/- Disks in plain lists: what the reference's put leaves. -/
import Derived.Test.YtilnamobmjngbaaDoorMg2
import Derived.Test.YtilnamobmjngbaaDoorP34
import Derived.Test.YtilnamobmjngbaaDoorP23
namespace Go.Proofs.YtilnamobmjngbaaDoor.Spec
open Go.RowKit Go.Proofs.YtilnamobmjngbaaDoorW.PrintWords Go.Proofs.YtilnamobmjngbaaDoor.P

set_option linter.unusedSimpArgs false
set_option linter.unusedVariables false
theorem insF_set (f : P.S72) : ∀ (l : List (P.S72)), (l.Pairwise fun a b => a.f0.toList < b.f0.toList) → ∀ i (h : i < l.length), l[i].f0.toList = f.f0.toList → insF f l = l.set i f
  | [], _, i, h, _ => by simp at h
  | y :: ys, hp, 0, h, e => by
    have e : y.f0.toList = f.f0.toList := e
    rw [insF, P.less_is, e, decide_eq_false (List.lt_irrefl _), if_neg (by simp), if_pos rfl]
    rfl
  | y :: ys, hp, i + 1, h, e => by
    have hp2 := List.pairwise_cons.1 hp
    have e : (ys[i]'(by simpa using h)).f0.toList = f.f0.toList := e
    have hlt : y.f0.toList < f.f0.toList := by rw [← e]; exact hp2.1 _ (List.getElem_mem _)
    rw [insF, P.less_is, decide_eq_true hlt, if_pos rfl, insF_set f ys hp2.2 i (by simpa using h) e]
    rfl
theorem insF_ins (f : P.S72) : ∀ (l : List (P.S72)) (at_ : Nat), at_ ≤ l.length → (∀ y ∈ l, y.f0.toList ≠ f.f0.toList) → (∀ i (h : i < l.length), i < at_ → l[i].f0.toList < f.f0.toList) → (∀ i (h : i < l.length), at_ ≤ i → ¬ l[i].f0.toList < f.f0.toList) →
    insF f l = l.take at_ ++ f :: l.drop at_
  | [], at_, h, _, _, _ => by
    have : at_ = 0 := by simpa using h
    subst this
    rfl
  | y :: ys, 0, h, hn, h1, h2 => by
    have g : ¬ y.f0.toList < f.f0.toList := h2 0 (by simp) (Nat.le_refl _)
    rw [insF, P.less_is, decide_eq_false g, if_neg (by simp), if_neg (hn y List.mem_cons_self)]
    rfl
  | y :: ys, at_ + 1, h, hn, h1, h2 => by
    have g := h1 0 (by simp) (by omega)
    rw [insF, P.less_is, decide_eq_true (show y.f0.toList < f.f0.toList from g), if_pos rfl,
      insF_ins f ys at_ (by simpa using h) (fun z hz => hn z (List.mem_cons_of_mem _ hz)) (fun i hi hlt => h1 (i + 1) (by simpa using hi) (by omega)) (fun i hi hle => h2 (i + 1) (by simpa using hi) (by omega))]
    rfl
theorem bs_places {l : List (P.S72)} (hr : riseF l) (s : ByteArray) : bsAt l s ≤ l.length ∧ (∀ i (h : i < l.length), i < bsAt l s → l[i].f0.toList < s.toList) ∧ (∀ i (h : i < l.length), bsAt l s ≤ i → ¬ l[i].f0.toList < s.toList) := by
  obtain ⟨h1, h2, h3⟩ := bsAt_spec l s (rise_mono hr s)
  refine ⟨h1, fun i hi hlt => ?_, fun i hi hle => ?_⟩
  · have := h2 i hlt
    rw [cmpS_lt, rdF_lt l i hi] at this
    exact this
  · have := h3 i hle hi
    rw [cmpS_lt, rdF_lt l i hi] at this
    exact this
theorem lookF_ins (f : P.S72) (o : ByteArray) : ∀ l : List (P.S72), (l.Pairwise fun a b => a.f0.toList < b.f0.toList) → lookF o (insF f l) = if f.f0.toList = o.toList then some f else lookF o l
  | [], _ => by rw [insF, lookF, lookF]; rfl
  | y :: ys, hp => by
    have hp2 := List.pairwise_cons.1 hp
    rw [insF]
    by_cases h1 : Op.bytesLess y.f0.toList f.f0.toList = true
    · rw [if_pos h1, lookF, lookF_ins f o ys hp2.2]
      by_cases h2 : y.f0.toList = o.toList
      · rw [if_pos h2]
        have : ¬ f.f0.toList = o.toList := fun e => by
          rw [P.less_is, h2, e, decide_eq_false (List.lt_irrefl _)] at h1
          exact absurd h1 (by decide)
        rw [if_neg this, lookF, if_pos h2]
      · rw [if_neg h2]
        by_cases h3 : f.f0.toList = o.toList
        · rw [if_pos h3, if_pos h3]
        · rw [if_neg h3, if_neg h3, lookF, if_neg h2]
    · rw [if_neg h1]
      by_cases h2 : y.f0.toList = f.f0.toList
      · rw [if_pos h2, lookF, lookF]
        by_cases h3 : f.f0.toList = o.toList
        · rw [if_pos h3, if_pos h3]
        · rw [if_neg h3, if_neg h3, if_neg (by rw [h2]; exact h3)]
      · rw [if_neg h2, lookF]
theorem insF_mem {f y : P.S72} : ∀ {l : List (P.S72)}, y ∈ insF f l → y = f ∨ y ∈ l
  | [], h => .inl (by simpa [insF] using h)
  | z :: zs, h => by
    rw [insF] at h
    split at h
    · rcases List.mem_cons.1 h with h | h
      · exact .inr (by simp [h])
      · rcases insF_mem h with h | h
        · exact .inl h
        · exact .inr (by simp [h])
    · split at h
      · rcases List.mem_cons.1 h with h | h
        · exact .inl h
        · exact .inr (by simp [h])
      · rcases List.mem_cons.1 h with h | h
        · exact .inl h
        · exact .inr h
theorem insF_times {f : P.S72} : ∀ {l : List (P.S72)}, (l.Pairwise fun a b => a.f2 ≠ b.f2) → (∀ y ∈ l, y.f2 < f.f2) → (insF f l).Pairwise fun a b => a.f2 ≠ b.f2
  | [], _, _ => List.pairwise_singleton _ _
  | z :: zs, hp, h => by
    have hp2 := List.pairwise_cons.1 hp
    have hz := h z (by simp)
    have hzs : ∀ y ∈ zs, y.f2 < f.f2 := fun y hy => h y (by simp [hy])
    rw [insF]
    split
    · refine List.pairwise_cons.2 ⟨fun y hy => ?_, insF_times hp2.2 hzs⟩
      rcases insF_mem hy with rfl | hy
      · omega
      · exact hp2.1 y hy
    · split
      · exact List.pairwise_cons.2 ⟨fun y hy => by have := hzs y hy; omega, hp2.2⟩
      · refine List.pairwise_cons.2 ⟨fun y hy => ?_, hp⟩
        have := h y hy
        omega
theorem insF_rise {f : P.S72} : ∀ {l : List (P.S72)}, (l.Pairwise fun a b => a.f0.toList < b.f0.toList) → (insF f l).Pairwise fun a b => a.f0.toList < b.f0.toList
  | [], _ => List.pairwise_singleton _ _
  | z :: zs, hp => by
    have hp2 := List.pairwise_cons.1 hp
    rw [insF]
    split
    · rename_i h
      rw [P.less_is, decide_eq_true_eq] at h
      refine List.pairwise_cons.2 ⟨fun y hy => ?_, insF_rise hp2.2⟩
      rcases insF_mem hy with rfl | hy
      · exact h
      · exact hp2.1 y hy
    · rename_i h
      rw [P.less_is, decide_eq_true_eq] at h
      split
      · rename_i h2
        exact List.pairwise_cons.2 ⟨fun y hy => by rw [← h2]; exact hp2.1 y hy, hp2.2⟩
      · rename_i h2
        have hlt : f.f0.toList < z.f0.toList := by
          rcases List.le_iff_lt_or_eq.1 (List.not_lt.1 h) with g | g
          · exact g
          · exact absurd g.symm h2
        refine List.pairwise_cons.2 ⟨fun y hy => ?_, hp⟩
        rcases List.mem_cons.1 hy with rfl | hy
        · exact hlt
        · exact List.lt_trans hlt (hp2.1 y hy)
theorem ok_put {clk : Int} {l : List (P.S72)} (h : DiskOk clk l) {s : ByteArray} {x : Int} (hp : isP s.data.toList = true) (hx : 0 ≤ x ∧ x ≤ 2147483647) (h1 : clk < 1048576) (h2 : (insF ⟨s, x, clk + 1⟩ l).length ≤ 64) : DiskOk (clk + 1) (insF ⟨s, x, clk + 1⟩ l) := by
  have hat : ∀ y ∈ l, 1 ≤ y.f2 ∧ y.f2 ≤ clk := fun y hy => by
    have := h.ok y hy
    simp only [fileOk, Bool.and_eq_true, decide_eq_true_eq] at this
    exact this.2.2
  have h0 := h.low
  refine ⟨by omega, by omega, h2, fun y hy => ?_, insF_times h.times (fun y hy => ?_), insF_rise h.rise⟩
  · rcases insF_mem hy with rfl | hy
    · simp only [fileOk, Bool.and_eq_true, decide_eq_true_eq]
      exact ⟨hp, hx, by omega, Int.le_refl _⟩
    · have g := h.ok y hy
      simp only [fileOk, Bool.and_eq_true, decide_eq_true_eq] at g ⊢
      exact ⟨g.1, g.2.1, g.2.2.1, by omega⟩
  · have := hat y hy
    show y.f2 < clk + 1
    omega
theorem upTo31_is (x : Int) : crucibleref12_upTo.f x 0 2147483647 = some (decide (0 ≤ x ∧ x ≤ 2147483647)) := by
  unfold crucibleref12_upTo.f
  by_cases h : 0 ≤ x
  · rw [if_pos h]; simp [h]
  · rw [if_neg h]; simp [h]
theorem delF_self {s : ByteArray} {l : List (P.S72)} (h : ∀ y ∈ l, y.f0.toList ≠ s.toList) : delF s l = l :=
  List.filter_eq_self.2 fun y hy => decide_eq_true (h y hy)
def finF (c : Int) (out : List (P.S72)) : Int × List (P.S72) × Int := if c > 1048576 then (0, [], 1201) else if (out.length : Int) > 64 then (0, [], 1201) else (c, out, 0)
theorem ev_finF {c : Int} {out : List (P.S72)} : Ev (fun _ => if c > 1048576 then some ((0, [], 1201) : Int × List (P.S72) × Int) else if (out.length : Int) > 64 then some (0, [], 1201) else some (c, out, 0)) (finF c out) := by
  refine ev_const ?_
  unfold finF
  by_cases h1 : c > 1048576
  · rw [if_pos h1, if_pos h1]
  · rw [if_neg h1, if_neg h1]
    by_cases h2 : (out.length : Int) > 64
    · rw [if_pos h2, if_pos h2]
    · rw [if_neg h2, if_neg h2]
theorem ev_pf_in (clk c : Int) (l : List (P.S72)) (s : ByteArray) (x : Int) (hl : l.length ≤ 1000000) : ∀ rest pre out : List (P.S72), l = pre ++ rest → out.length ≤ pre.length + 1 →
    Ev (fun k => crucibleref12_PutFile.l0 k s true (pre.length : Int) clk l s x c c out) (finF c (out ++ delF s rest)) := by
  intro rest
  induction rest with
  | nil =>
    intro pre out h ho
    refine Ev.step (fun k => by rw [crucibleref12_PutFile.l0]) (ev_neg (by rw [h]; simp) (ev_pos rfl ?_))
    exact ev_eq ev_finF (by rw [delF, List.filter_nil, List.append_nil])
  | cons y rest ih =>
    intro pre out h ho
    have hlen : l.length = pre.length + (rest.length + 1) := by rw [h]; simp
    have hr : rd_T72 l (pre.length : Int) = y := by rw [rdF_lt l _ (by omega)]; simp [h]
    have hw : wrap64 ((pre.length : Int) + 1) = ((pre ++ [y]).length : Int) := wrap_len pre y (by omega)
    have hp1 : (pre ++ [y]).length = pre.length + 1 := by simp
    refine Ev.step (fun k => by rw [crucibleref12_PutFile.l0]) (ev_pos (by omega) (ev_pos rfl ?_))
    refine Ev.step (fun k => by rw [crucibleref12_PutFile.j2]) (ev_neg (by simp) (ev_pos (by omega) (ev_pos (by omega) ?_)))
    simp only [hr, hw]
    by_cases e : y.f0.toList = s.toList
    · refine ev_pos e ?_
      refine ev_eq (ih (pre ++ [y]) out (by simp [h]) (by omega)) ?_
      rw [delF, delF, List.filter_cons_of_neg (by simp [e])]
    · refine ev_neg e (ev_pos (by omega) ?_)
      refine ev_eq (ih (pre ++ [y]) (out ++ [y]) (by simp [h]) (by simp; omega)) ?_
      rw [delF, delF, List.filter_cons_of_pos (by simp [e]), List.append_assoc, List.singleton_append]
theorem ev_pf_out (clk c : Int) (l : List (P.S72)) (s : ByteArray) (x : Int) (hl : l.length ≤ 1000000) : ∀ rest pre out : List (P.S72), l = pre ++ rest → out.length ≤ pre.length → (rest.Pairwise fun a b => a.f0.toList < b.f0.toList) →
    Ev (fun k => crucibleref12_PutFile.l0 k s false (pre.length : Int) clk l s x c c out) (finF c (out ++ insF ⟨s, x, c⟩ rest)) := by
  intro rest
  induction rest with
  | nil =>
    intro pre out h ho _
    have hlen : l.length = pre.length := by rw [h]; simp
    refine Ev.step (fun k => by rw [crucibleref12_PutFile.l0]) (ev_neg (by rw [h]; simp) (ev_neg (by simp) (ev_pos (by omega) (ev_bindc rfl ?_))))
    exact ev_finF
  | cons y rest ih =>
    intro pre out h ho hp
    have hp2 := List.pairwise_cons.1 hp
    have hlen : l.length = pre.length + (rest.length + 1) := by rw [h]; simp
    have hr : rd_T72 l (pre.length : Int) = y := by rw [rdF_lt l _ (by omega)]; simp [h]
    have hw : wrap64 ((pre.length : Int) + 1) = ((pre ++ [y]).length : Int) := wrap_len pre y (by omega)
    have hp1 : (pre ++ [y]).length = pre.length + 1 := by simp
    have ho1 : (out ++ [(⟨s, x, c⟩ : P.S72)]).length = out.length + 1 := by simp
    refine Ev.step (fun k => by rw [crucibleref12_PutFile.l0]) (ev_pos (by omega) (ev_neg (by simp) (ev_pos (by omega) ?_)))
    simp only [hr]
    cases hb : Op.bytesLess y.f0.toList s.toList with
    | true =>
      have hne : y.f0.toList ≠ s.toList := fun e => by
        rw [P.less_is, e, decide_eq_false (List.lt_irrefl _)] at hb
        exact absurd hb (by decide)
      refine Ev.step (fun k => by rw [crucibleref12_PutFile.j2]) (ev_neg (by simp) (ev_pos (by omega) (ev_pos (by omega) ?_)))
      simp only [hr, hw]
      refine ev_neg hne (ev_pos (by omega) ?_)
      refine ev_eq (ih (pre ++ [y]) (out ++ [y]) (by simp [h]) (by simp; omega) hp2.2) ?_
      rw [insF, if_pos (show Op.bytesLess y.f0.toList (⟨s, x, c⟩ : P.S72).f0.toList = true from hb), List.append_assoc, List.singleton_append]
    | false =>
      have hrest : ∀ z ∈ rest, z.f0.toList ≠ s.toList := fun z hz e => by
        have h1 := hp2.1 z hz
        rw [e] at h1
        rw [P.less_is, decide_eq_true h1] at hb
        exact absurd hb (by decide)
      refine Ev.step (fun k => by rw [crucibleref12_PutFile.j2]) ?_
      refine ev_pos rfl (ev_pos (by omega) (ev_bindc rfl (ev_pos (by omega) (ev_pos (by omega) ?_))))
      simp only [hr, hw]
      by_cases e : y.f0.toList = s.toList
      · refine ev_pos e ?_
        refine ev_eq (ev_pf_in clk c l s x hl rest (pre ++ [y]) _ (by simp [h]) (by omega)) ?_
        rw [delF_self hrest, insF, if_neg (show ¬ Op.bytesLess y.f0.toList (⟨s, x, c⟩ : P.S72).f0.toList = true by rw [hb]; simp), if_pos e, List.append_assoc, List.singleton_append]
      · refine ev_neg e (ev_pos (by omega) ?_)
        refine ev_eq (ev_pf_in clk c l s x hl rest (pre ++ [y]) (out ++ [⟨s, x, c⟩] ++ [y]) (by simp [h]) (by rw [List.length_append, ho1, hp1, List.length_singleton]; omega)) ?_
        rw [delF_self hrest, insF, if_neg (show ¬ Op.bytesLess y.f0.toList (⟨s, x, c⟩ : P.S72).f0.toList = true by rw [hb]; simp), if_neg e]
        simp
theorem ev_PutFile (clk : Int) (l : List (P.S72)) (s : ByteArray) (x : Int) (hl : l.length ≤ 1000000) (hs : ∀ x ∈ l, x.f0.size ≤ 4611686018427387904) (hz : s.size ≤ 4611686018427387904) : Ev (fun k => crucibleref12_PutFile.f k clk l s x) (putD clk l s x) := by
  have bad : Ev (fun k => crucibleref12_PutFile.j0 k s x true clk l) (0, [], 1200) := Ev.step (fun k => by rw [crucibleref12_PutFile.j0]) (ev_pos rfl (Ev.now _))
  refine Ev.congr (fun k => by rw [crucibleref12_PutFile.f]) (ev_bind (ev_DiskMay clk l hl hs) ?_)
  unfold putD
  cases hm : mayD clk l with
  | false => exact ev_neg (by simp) (ev_eq bad (by simp))
  | true =>
    refine ev_pos rfl (ev_bind (ev_PathMay s hz) ?_)
    cases hp : isP s.data.toList with
    | false => exact ev_neg (by simp) (ev_eq bad (by simp))
    | true =>
      refine ev_pos rfl (ev_bindc (upTo31_is x) ?_)
      cases hx : decide (0 ≤ x ∧ x ≤ 2147483647) with
      | false => exact ev_eq bad (by simp)
      | true =>
        have ho := mayD_ok hm
        have hw : wrap64 (clk + 1) = clk + 1 := wrap_id (by have := ho.low; omega) (by have := ho.high; omega)
        refine Ev.step (fun k => by rw [crucibleref12_PutFile.j0]) (ev_neg (by simp) ?_)
        rw [hw]
        refine ev_eq (ev_pf_out clk (clk + 1) l s x hl l [] [] rfl (by simp) ho.rise) ?_
        simp only [Bool.and_self, if_true, List.nil_append]
        unfold finF
        have := ho.high
        by_cases h1 : clk = 1048576
        · rw [if_pos (show clk + 1 > 1048576 by omega), if_pos (.inl h1)]
        · rw [if_neg (show ¬ clk + 1 > 1048576 by omega)]
          by_cases h2 : 64 < (insF ⟨s, x, clk + 1⟩ l).length
          · rw [if_pos (show ((insF ⟨s, x, clk + 1⟩ l).length : Int) > 64 by omega), if_pos (.inr h2)]
          · rw [if_neg (show ¬ ((insF ⟨s, x, clk + 1⟩ l).length : Int) > 64 by omega), if_neg (by rintro (h | h); exact h1 h; exact h2 h)]
end Go.Proofs.YtilnamobmjngbaaDoor.Spec
