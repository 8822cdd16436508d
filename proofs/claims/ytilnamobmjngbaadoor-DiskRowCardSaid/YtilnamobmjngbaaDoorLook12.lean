/- Chapter 12 in plain lists: what a put and a remove leave; small words of the laws. -/
import Derived.Test.YtilnamobmjngbaaDoorDisk2
namespace Go.Proofs.YtilnamobmjngbaaDoor.Spec
open Go.RowKit Go.Proofs.YtilnamobmjngbaaDoorW.PrintWords Go.Proofs.YtilnamobmjngbaaDoor.P

theorem evt_and {p q : Nat → Prop} (hp : ∃ K, ∀ k, K ≤ k → p k) (hq : ∃ K, ∀ k, K ≤ k → q k) : ∃ K, ∀ k, K ≤ k → p k ∧ q k := by
  obtain ⟨K1, h1⟩ := hp
  obtain ⟨K2, h2⟩ := hq
  exact ⟨max K1 K2, fun k hk => ⟨h1 k (by omega), h2 k (by omega)⟩⟩
theorem evt_c {p : Prop} (h : p) : ∃ K : Nat, ∀ k, K ≤ k → p := ⟨0, fun _ _ => h⟩
theorem evt_if {α : Type} {g f : Nat → Option α} {r : α} {p : Nat → Prop} {inst : ∀ k, Decidable (p k)} (hp : ∃ K, ∀ k, K ≤ k → p k) (e : Ev g r) : Ev (fun k => if p k then g k else f k) r := by
  obtain ⟨K, hK⟩ := hp
  obtain ⟨K2, hK2⟩ := e
  exact ⟨max K K2, fun k hk => (if_pos (hK k (by omega))).trans (hK2 k (by omega))⟩
theorem evt_is {α : Type} {g : Nat → Option α} {r : α} (e : Ev g r) : ∃ K, ∀ k, K ≤ k → g k = some r := e
theorem sum_mem {α : Type} (g : α → Nat) (h : ∀ x, 2 ≤ g x) : ∀ l : List α, 2 * l.length ≤ (l.map g).sum ∧ ∀ x ∈ l, g x ≤ (l.map g).sum
  | [] => ⟨Nat.le_refl _, fun x hx => by cases hx⟩
  | y :: ys => by
    have ih := sum_mem g h ys
    have := h y
    rw [List.map_cons, List.sum_cons, List.length_cons]
    refine ⟨by omega, fun x hx => ?_⟩
    rcases List.mem_cons.1 hx with rfl | hx
    · omega
    · have := ih.2 x hx; omega
theorem clk_wf {n : Int} (h : (Lit.int .i64 n).wf = true) : n ≤ 9223372036854775807 := by
  simp only [Lit.wf, Bool.and_eq_true, decide_eq_true_eq] at h
  exact h.2
set_option linter.unusedVariables false
set_option linter.unusedSimpArgs false
theorem lookF_ins (f : P.S72) (o : ByteArray) : ∀ l : List (P.S72), (l.Pairwise fun a b => a.f0.toList < b.f0.toList) → lookF o (insF f l) = if f.f0.toList = o.toList then some f else lookF o l
  | [], _ => by rw [insF, lookF, lookF]; rfl
  | y :: ys, hp => by
    have hp2 := List.pairwise_cons.1 hp
    rw [insF]
    by_cases h1 : Op.bytesLess y.f0.toList f.f0.toList = true
    · rw [if_pos h1, lookF, lookF_ins f o ys hp2.2]
      by_cases h2 : y.f0.toList = o.toList
      · rw [if_pos h2]
        have : ¬ f.f0.toList = o.toList := fun e => by
          rw [P.less_is, h2, e, decide_eq_false (List.lt_irrefl _)] at h1
          exact absurd h1 (by decide)
        rw [if_neg this, lookF, if_pos h2]
      · rw [if_neg h2]
        by_cases h3 : f.f0.toList = o.toList
        · rw [if_pos h3, if_pos h3]
        · rw [if_neg h3, if_neg h3, lookF, if_neg h2]
    · rw [if_neg h1]
      by_cases h2 : y.f0.toList = f.f0.toList
      · rw [if_pos h2, lookF, lookF]
        by_cases h3 : f.f0.toList = o.toList
        · rw [if_pos h3, if_pos h3]
        · rw [if_neg h3, if_neg h3, if_neg (by rw [h2]; exact h3)]
      · rw [if_neg h2, lookF]
theorem lookF_del (s o : ByteArray) : ∀ l : List (P.S72), lookF o (delF s l) = if o.toList = s.toList then none else lookF o l
  | [] => by simp [delF, lookF]
  | y :: ys => by
    have ih := lookF_del s o ys
    unfold delF at ih ⊢
    by_cases h1 : y.f0.toList = s.toList
    · rw [List.filter_cons_of_neg (by simp [h1]), ih]
      by_cases h2 : o.toList = s.toList
      · rw [if_pos h2, if_pos h2]
      · rw [if_neg h2, if_neg h2, lookF, if_neg (by rw [h1]; exact fun e => h2 e.symm)]
    · rw [List.filter_cons_of_pos (by simp [h1]), lookF, ih]
      by_cases h2 : o.toList = s.toList
      · rw [if_pos h2, if_pos h2, if_neg (by rw [h2]; exact h1)]
      · rw [if_neg h2, if_neg h2, lookF]
theorem insF_mem {f y : P.S72} : ∀ {l : List (P.S72)}, y ∈ insF f l → y = f ∨ y ∈ l
  | [], h => .inl (by simpa [insF] using h)
  | z :: zs, h => by
    rw [insF] at h
    split at h
    · rcases List.mem_cons.1 h with h | h
      · exact .inr (by simp [h])
      · rcases insF_mem h with h | h
        · exact .inl h
        · exact .inr (by simp [h])
    · split at h
      · rcases List.mem_cons.1 h with h | h
        · exact .inl h
        · exact .inr (by simp [h])
      · rcases List.mem_cons.1 h with h | h
        · exact .inl h
        · exact .inr h
theorem insF_times {f : P.S72} : ∀ {l : List (P.S72)}, (l.Pairwise fun a b => a.f2 ≠ b.f2) → (∀ y ∈ l, y.f2 < f.f2) → (insF f l).Pairwise fun a b => a.f2 ≠ b.f2
  | [], _, _ => List.pairwise_singleton _ _
  | z :: zs, hp, h => by
    have hp2 := List.pairwise_cons.1 hp
    have hz := h z (by simp)
    have hzs : ∀ y ∈ zs, y.f2 < f.f2 := fun y hy => h y (by simp [hy])
    rw [insF]
    split
    · refine List.pairwise_cons.2 ⟨fun y hy => ?_, insF_times hp2.2 hzs⟩
      rcases insF_mem hy with rfl | hy
      · omega
      · exact hp2.1 y hy
    · split
      · exact List.pairwise_cons.2 ⟨fun y hy => by have := hzs y hy; omega, hp2.2⟩
      · refine List.pairwise_cons.2 ⟨fun y hy => ?_, hp⟩
        have := h y hy
        omega
theorem insF_rise {f : P.S72} : ∀ {l : List (P.S72)}, (l.Pairwise fun a b => a.f0.toList < b.f0.toList) → (insF f l).Pairwise fun a b => a.f0.toList < b.f0.toList
  | [], _ => List.pairwise_singleton _ _
  | z :: zs, hp => by
    have hp2 := List.pairwise_cons.1 hp
    rw [insF]
    split
    · rename_i h
      rw [P.less_is, decide_eq_true_eq] at h
      refine List.pairwise_cons.2 ⟨fun y hy => ?_, insF_rise hp2.2⟩
      rcases insF_mem hy with rfl | hy
      · exact h
      · exact hp2.1 y hy
    · rename_i h
      rw [P.less_is, decide_eq_true_eq] at h
      split
      · rename_i h2
        exact List.pairwise_cons.2 ⟨fun y hy => by rw [← h2]; exact hp2.1 y hy, hp2.2⟩
      · rename_i h2
        have hlt : f.f0.toList < z.f0.toList := by
          rcases List.le_iff_lt_or_eq.1 (List.not_lt.1 h) with g | g
          · exact g
          · exact absurd g.symm h2
        refine List.pairwise_cons.2 ⟨fun y hy => ?_, hp⟩
        rcases List.mem_cons.1 hy with rfl | hy
        · exact hlt
        · exact List.lt_trans hlt (hp2.1 y hy)
theorem ok_put {clk : Int} {l : List (P.S72)} (h : DiskOk clk l) {s : ByteArray} {x : Int} (hp : isP s.data.toList = true) (hx : 0 ≤ x ∧ x ≤ 2147483647) (h1 : clk < 1048576) (h2 : (insF ⟨s, x, clk + 1⟩ l).length ≤ 64) : DiskOk (clk + 1) (insF ⟨s, x, clk + 1⟩ l) := by
  have hat : ∀ y ∈ l, 1 ≤ y.f2 ∧ y.f2 ≤ clk := fun y hy => by
    have := h.ok y hy
    simp only [fileOk, Bool.and_eq_true, decide_eq_true_eq] at this
    exact this.2.2
  have h0 := h.low
  refine ⟨by omega, by omega, h2, fun y hy => ?_, insF_times h.times (fun y hy => ?_), insF_rise h.rise⟩
  · rcases insF_mem hy with rfl | hy
    · simp only [fileOk, Bool.and_eq_true, decide_eq_true_eq]
      exact ⟨hp, hx, by omega, Int.le_refl _⟩
    · have g := h.ok y hy
      simp only [fileOk, Bool.and_eq_true, decide_eq_true_eq] at g ⊢
      exact ⟨g.1, g.2.1, g.2.2.1, by omega⟩
  · have := hat y hy
    show y.f2 < clk + 1
    omega
theorem ok_del {clk : Int} {l : List (P.S72)} (h : DiskOk clk l) (s : ByteArray) : DiskOk clk (delF s l) := by
  have hs : (delF s l).Sublist l := List.filter_sublist
  exact ⟨h.low, h.high, Nat.le_trans (List.length_filter_le _ _) h.many, fun x hx => h.ok x (hs.subset hx), h.times.sublist hs, h.rise.sublist hs⟩

end Go.Proofs.YtilnamobmjngbaaDoor.Spec
