/- The law DiskForms without the program. -/
import Derived.Test.YtilnamobmjngbaaDoorLook12
import Derived.Test.YtilnamobmjngbaaDoorP24
namespace Go.Proofs.YtilnamobmjngbaaDoor.Spec
open Go.RowKit Go.Proofs.YtilnamobmjngbaaDoorW.PrintWords Go.Proofs.YtilnamobmjngbaaDoor.P

set_option linter.unusedSimpArgs false
theorem dfA : (⟨#[97]⟩ : ByteArray).toList = [97] := by rw [toList_data]
theorem dfB : (⟨#[98]⟩ : ByteArray).toList = [98] := by rw [toList_data]
theorem dfC : (⟨#[99]⟩ : ByteArray).toList = [99] := by rw [toList_data]
theorem dfX : (⟨#[120]⟩ : ByteArray).toList = [120] := by rw [toList_data]
theorem isP_df : isP [97] = true ∧ isP [98] = true ∧ isP [120] = true ∧ isP [46, 47, 97] = false ∧ isP [47, 97] = false := by decide +kernel
abbrev dfa (n : ByteArray) (x t : Int) : P.S72 := ⟨n, x, t⟩
abbrev dfL : List (P.S72) := [dfa ⟨#[97]⟩ 3 4, dfa ⟨#[98]⟩ 0 2]
theorem df_may (c : Int) (h0 : 5 ≤ c) (h1 : c ≤ 1048576) : mayD c dfL = true := by
  refine ok_mayD ⟨by omega, h1, by simp, fun x hx => ?_, ?_, ?_⟩
  · simp only [List.mem_cons, List.not_mem_nil, or_false] at hx
    rcases hx with rfl | rfl
    · simp only [fileOk, Bool.and_eq_true, decide_eq_true_eq]
      exact ⟨isP_df.1, ⟨by omega, by omega⟩, by omega, by omega⟩
    · simp only [fileOk, Bool.and_eq_true, decide_eq_true_eq]
      exact ⟨isP_df.2.1, ⟨by omega, by omega⟩, by omega, by omega⟩
  · simp
  · simp only [List.pairwise_cons, List.mem_cons, List.not_mem_nil, or_false, forall_eq, List.Pairwise.nil, and_true, false_implies, implies_true]
    rw [dfA, dfB]
    decide
theorem df_no {c : Int} {l : List (P.S72)} (h : DiskOk c l → False) : mayD c l = false := by
  cases hm : mayD c l with
  | false => rfl
  | true => exact (h (mayD_ok hm)).elim
theorem df_name (n : ByteArray) (h : ¬ n.toList < [98]) : mayD 5 [dfa n 3 4, dfa ⟨#[98]⟩ 0 2] = false := df_no fun ho => by
  have := (List.pairwise_cons.1 ho.rise).1 (dfa ⟨#[98]⟩ 0 2) (by simp)
  simp only [dfB] at this
  exact h this
theorem df_path (n : ByteArray) (h : isP n.data.toList = false) : mayD 5 [dfa n 3 4, dfa ⟨#[98]⟩ 0 2] = false := df_no fun ho => by
  have := ho.ok (dfa n 3 4) (by simp)
  simp only [fileOk, Bool.and_eq_true, h] at this
  exact absurd this.1 (by decide)
theorem df_val (x t : Int) (h : ¬ ((0 ≤ x ∧ x ≤ 2147483647) ∧ 1 ≤ t ∧ t ≤ 5)) : mayD 5 [dfa ⟨#[97]⟩ x t, dfa ⟨#[98]⟩ 0 2] = false := df_no fun ho => by
  have := ho.ok (dfa ⟨#[97]⟩ x t) (by simp)
  simp only [fileOk, Bool.and_eq_true, decide_eq_true_eq] at this
  exact h this.2
theorem df_time (x : Int) : mayD 5 [dfa ⟨#[97]⟩ x 2, dfa ⟨#[98]⟩ 0 2] = false := df_no fun ho => by
  have := (List.pairwise_cons.1 ho.times).1 (dfa ⟨#[98]⟩ 0 2) (by simp)
  exact this rfl
theorem df_twice : mayD 5 [dfa ⟨#[97]⟩ 3 4, dfa ⟨#[97]⟩ 0 2] = false := df_no fun ho => by
  have := (List.pairwise_cons.1 ho.rise).1 (dfa ⟨#[97]⟩ 0 2) (by simp)
  exact List.lt_irrefl _ this
theorem df_clock (c : Int) (l : List (P.S72)) (h : ¬ (0 ≤ c ∧ c ≤ 1048576)) : mayD c l = false := df_no fun ho => h ⟨ho.low, ho.high⟩
theorem ev_df_j0 (a0 d : Int) (hd0 : 1 ≤ d) (hd1 : d ≤ 1024) (tb : Int) (lb : List (P.S72)) (hm : mayD tb lb = false) (hl : lb.length ≤ 1000000) (ht : tb ≤ 9223372036854775807) :
    Ev (fun k => cruciblelaw12_DiskForms.j0 k a0 d 5 dfL tb lb) true := by
  have e1 := ev_Put12 tb lb ⟨#[120]⟩ 1 hl ht
  rw [show putD tb lb ⟨#[120]⟩ 1 = (0, [], 1200) by unfold putD; rw [hm]; rfl] at e1
  have e2 := ev_Remove12 tb lb ⟨#[98]⟩ hl ht
  rw [show removeD tb lb ⟨#[98]⟩ = (0, [], 1200) by unfold removeD; rw [hm]; rfl] at e2
  have e3 := ev_Find12 tb lb ⟨#[98]⟩ hl ht
  rw [show findD tb lb ⟨#[98]⟩ = (⟨#[]⟩, 0, 0, false) by unfold findD; rw [hm]; rfl] at e3
  have hw1 : wrap64 (-d) = -d := wrap_id (by omega) (by omega)
  have hw2 : wrap64 (2147483647 + d) = 2147483647 + d := wrap_id (by omega) (by omega)
  have hi : Go.bits .and .i64 a0 1 = a0 % 2 := bits_low 1 (by omega) a0
  obtain ⟨v, hv, hvn⟩ : ∃ v, rd [-d, 2147483647 + d] (a0 % 2) = v ∧ ¬ (0 ≤ v ∧ v ≤ 2147483647) := by
    rcases (show a0 % 2 = 0 ∨ a0 % 2 = 1 by omega) with h | h
    · exact ⟨-d, by rw [h]; rfl, by omega⟩
    · exact ⟨2147483647 + d, by rw [h]; rfl, by omega⟩
  have e4 := ev_Put12 5 dfL ⟨#[120]⟩ v (by simp) (by omega)
  rw [show putD 5 dfL ⟨#[120]⟩ v = (0, [], 1200) by unfold putD; rw [decide_eq_false hvn]; simp] at e4
  have e5 := ev_Remove12 5 dfL ⟨#[47, 97]⟩ (by simp) (by omega)
  rw [show removeD 5 dfL ⟨#[47, 97]⟩ = (0, [], 1200) by unfold removeD; rw [show isP (⟨#[47, 97]⟩ : ByteArray).data.toList = false from isP_df.2.2.2.2]; simp] at e5
  have e6 := ev_Remove12 5 dfL ⟨#[120]⟩ (by simp) (by omega)
  have hx : lookF ⟨#[120]⟩ dfL = none := by
    simp only [dfL, lookF, dfA, dfB, dfX]
    rfl
  rw [show removeD 5 dfL ⟨#[120]⟩ = (0, [], 1202) by unfold removeD; rw [df_may 5 (by omega) (by omega), show isP (⟨#[120]⟩ : ByteArray).data.toList = true from isP_df.2.2.1, hx]; rfl] at e6
  have e7 := ev_Put12 1048576 dfL ⟨#[97]⟩ 1 (by simp) (by omega)
  rw [show putD 1048576 dfL ⟨#[97]⟩ 1 = (0, [], 1201) by unfold putD; rw [df_may 1048576 (by omega) (by omega), show isP (⟨#[97]⟩ : ByteArray).data.toList = true from isP_df.1]; rw [if_pos (by decide), if_pos (.inl rfl)]] at e7
  have e8 := ev_May12 1048576 dfL (by simp) (by omega)
  rw [df_may 1048576 (by omega) (by omega)] at e8
  have e9 := ev_May12 tb lb hl ht
  rw [hm] at e9
  refine Ev.step (fun k => by rw [cruciblelaw12_DiskForms.j0, hw1, hw2, hi]) ?_
  refine ev_bind e1 ?_
  refine ev_bind e2 ?_
  refine ev_bind e3 ?_
  refine ev_bindc (x := [-d, 2147483647 + d]) rfl ?_
  refine ev_pos (by omega) ?_
  refine ev_pos (show a0 % 2 < (([-d, 2147483647 + d] : List Int).length : Int) by simp; omega) ?_
  simp only [hv]
  refine ev_bind e4 ?_
  refine ev_bind e5 ?_
  refine ev_bind e6 ?_
  refine ev_bind e7 ?_
  refine ev_bind e8 ?_
  refine ev_pos rfl ?_
  refine ev_bind e9 ?_
  refine ev_neg (by simp) ?_
  refine ev_bindc (x := 1200) rfl ?_
  refine ev_pos rfl ?_
  refine ev_bindc (x := 1200) rfl ?_
  refine ev_pos rfl ?_
  refine ev_neg (by simp) ?_
  refine ev_bindc (x := 1200) rfl ?_
  refine ev_pos rfl ?_
  refine ev_bindc (x := 1200) rfl ?_
  refine ev_pos rfl ?_
  refine ev_bindc (x := 1202) rfl ?_
  refine ev_pos rfl ?_
  refine ev_bindc (x := 1201) rfl ?_
  exact Ev.now _
theorem diskForms_true (a0 a1 : Int) {p q : Prop} (_ : p) (_ : q) : ∃ k, cruciblelaw12_DiskForms.f k a0 a1 = some true := by
  have hb : Go.bits .and .i64 a1 1023 = a1 % 1024 := bits_low 10 (by omega) a1
  obtain ⟨d, hd, hd0, hd1⟩ : ∃ d, wrap64 (1 + a1 % 1024) = d ∧ 1 ≤ d ∧ d ≤ 1024 := ⟨1 + a1 % 1024, wrap_id (by omega) (by omega), by omega, by omega⟩
  have w0 : wrap64 (-d) = -d := wrap_id (by omega) (by omega)
  have w1 : wrap64 (1048576 + d) = 1048576 + d := wrap_id (by omega) (by omega)
  have w5 : wrap64 (2147483647 + d) = 2147483647 + d := wrap_id (by omega) (by omega)
  have w6 : wrap64 (1 - d) = 1 - d := wrap_id (by omega) (by omega)
  have w7 : wrap64 (5 + d) = 5 + d := wrap_id (by omega) (by omega)
  have J := ev_df_j0 a0 d hd0 hd1
  refine Ev.rounds ?_
  unfold cruciblelaw12_DiskForms.f
  rw [hb, hd, w0, w1, w5, w6, w7]
  refine ev_bindc (x := true) rfl ?_
  refine ev_pos rfl ?_
  refine ev_bindc (x := dfL) rfl ?_
  refine ev_bindc (x := []) rfl ?_
  refine ev_pos (by simp) ?_
  refine ev_bindc (x := dfL) rfl ?_
  generalize Int.tmod (IntKind.u64.wrap a0) 10 = m
  by_cases h0 : m = 0
  · exact ev_pos h0 (J _ _ (df_clock _ _ (by omega)) (by simp) (by omega))
  refine ev_neg h0 ?_
  by_cases h1 : m = 1
  · exact ev_pos h1 (J _ _ (df_clock _ _ (by omega)) (by simp) (by omega))
  refine ev_neg h1 ?_
  by_cases h2 : m = 2
  · exact ev_pos h2 (ev_pos (by simp) (J _ _ (df_name ⟨#[99]⟩ (by rw [dfC]; decide)) (by simp) (by omega)))
  refine ev_neg h2 ?_
  by_cases h3 : m = 3
  · exact ev_pos h3 (ev_pos (by simp) (J _ _ (df_path ⟨#[46, 47, 97]⟩ isP_df.2.2.2.1) (by simp) (by omega)))
  refine ev_neg h3 ?_
  by_cases h4 : m = 4
  · exact ev_pos h4 (ev_pos (by simp) (J _ _ (df_val (-d) 4 (by omega)) (by simp) (by omega)))
  refine ev_neg h4 ?_
  by_cases h5 : m = 5
  · exact ev_pos h5 (ev_pos (by simp) (J _ _ (df_val (2147483647 + d) 4 (by omega)) (by simp) (by omega)))
  refine ev_neg h5 ?_
  by_cases h6 : m = 6
  · exact ev_pos h6 (ev_pos (by simp) (J _ _ (df_val 3 (1 - d) (by omega)) (by simp) (by omega)))
  refine ev_neg h6 ?_
  by_cases h7 : m = 7
  · exact ev_pos h7 (ev_pos (by simp) (J _ _ (df_val 3 (5 + d) (by omega)) (by simp) (by omega)))
  refine ev_neg h7 ?_
  by_cases h8 : m = 8
  · exact ev_pos h8 (ev_pos (by simp) (J _ _ (df_time 3) (by simp) (by omega)))
  refine ev_neg h8 ?_
  exact ev_pos (by simp) (J _ _ df_twice (by simp) (by omega))
end Go.Proofs.YtilnamobmjngbaaDoor.Spec
