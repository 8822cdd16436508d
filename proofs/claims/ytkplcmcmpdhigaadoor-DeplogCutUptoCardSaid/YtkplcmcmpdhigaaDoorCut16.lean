/- Chapter 16: the law DeplogCut without the program. -/
import Derived.Test.YtkplcmcmpdhigaaDoorDeplog
import Derived.Test.YtkplcmcmpdhigaaDoorP16
namespace Go.Proofs.YtkplcmcmpdhigaaDoor.Spec
open Go.RowKit Go.Proofs.YtkplcmcmpdhigaaDoorW.PrintWords Go.Proofs.YtkplcmcmpdhigaaDoorW.PrintMore Go.Proofs.YtkplcmcmpdhigaaDoor.P

/-- how many are whole within so many bytes -/
def cnt : List (P.S41) → Nat → Nat
  | [], _ => 0
  | f :: fs, K => if (txF f).length ≤ K then 1 + cnt fs (K - (txF f).length) else 0
theorem cnt_le : ∀ (fs : List (P.S41)) (K : Nat), cnt fs K ≤ fs.length
  | [], _ => Nat.le_refl _
  | f :: fs, K => by
    rw [cnt, List.length_cons]
    split
    · have := cnt_le fs (K - (txF f).length); omega
    · omega
theorem cnt_iff : ∀ (fs : List (P.S41)) (K i : Nat), i ≤ fs.length → ((fsText (fs.take i)).length ≤ K ↔ i ≤ cnt fs K)
  | fs, K, 0, _ => by simp [fsText]
  | [], K, i + 1, h => by simp at h
  | f :: fs, K, i + 1, h => by
    have ih := cnt_iff fs (K - (txF f).length) i (by simpa using h)
    rw [List.take_succ_cons, fsText_cons, List.length_append, cnt]
    split
    · omega
    · omega
theorem load_take : ∀ (fs : List (P.S41)) (n K : Nat), (∀ f ∈ fs, mayF f = true) → fs.length ≤ n → loadD n ((fsText fs).take K) = fs.take (cnt fs K)
  | [], n, K, _, _ => by rw [fsText_nil, List.take_nil, load_nil]; rfl
  | f :: fs, 0, K, _, h => by simp at h
  | f :: fs, n + 1, K, hm, h => by
    have hf := hm f (by simp)
    rw [fsText_cons, cnt]
    by_cases hK : (txF f).length ≤ K
    · rw [if_pos hK, List.take_append, List.take_of_length_le hK, load_cons hf, load_take fs n _ (fun g hg => hm g (by simp [hg])) (by simpa using h), Nat.add_comm 1, List.take_succ_cons]
    · rw [if_neg hK, List.take_append_of_le_length (by omega)]
      exact load_cut hf _ _ ((txF f).drop K) (List.take_append_drop _ _) (by
        intro e
        have := congrArg List.length e
        rw [List.length_drop, List.length_nil] at this
        omega)
theorem may_take {fs : List (P.S41)} (h : mayFs fs = true) (i : Nat) : mayFs (fs.take i) = true := by
  obtain ⟨h1, h2⟩ := mayFs_all h
  exact mayFs_of (by rw [List.length_take]; omega) (fun f hf => h2 f (List.mem_of_mem_take hf))
theorem may_ins2 {fs : List (P.S41)} (h : mayFs fs = true) : ∀ x ∈ fs, x.f2.length ≤ 4611686018427387904 := fun x hx => by
  have := (mayD_small ((mayFs_all h).2 x hx)).2.2.2.1
  omega
theorem ev_Cut_loop (fs : List (P.S41)) (hm : mayFs fs = true) (K : Nat) (hK : K ≤ (fsText fs).length) : ∀ (d i : Nat), i + d = fs.length + 1 → 1 ≤ i →
    Ev (fun k => cruciblelaw16_DeplogCut.l0 k fs (str (fsText fs)) (K : Int) ((min (i - 1) (cnt fs K) : Nat) : Int) (i : Int)) true
  | 0, i, h, h1 => by
    obtain ⟨g1, g2⟩ := mayFs_all hm
    have hc := cnt_le fs K
    have hmin : min (i - 1) (cnt fs K) = cnt fs K := by omega
    have hz : (str (fsText fs)).size = (fsText fs).length := str_size _
    rw [hmin]
    refine Ev.step (fun k => by rw [cruciblelaw16_DeplogCut.l0]) (ev_neg (by omega) ?_)
    simp only [Int.toNat_natCast, str_take]
    refine ev_pos (by omega) (ev_pos (show (K : Int) ≤ ((str (fsText fs)).size : Int) by omega) (ev_bind (ev_Load _) ?_))
    rw [str_data, load_take fs 256 K g2 g1]
    refine ev_pos (by omega) (ev_pos (by omega) (ev_bind (ev_SameFounds _ _ (by rw [List.length_take]; omega) (may_ins2 (may_take hm _))) (ev_pos (by simp) (ev_bind (ev_Load _) ?_))))
    rw [str_data, load_all fs 256 g2 g1]
    exact ev_bind (ev_SameFounds _ _ (by omega) (may_ins2 hm)) (ev_const (by simp))
  | d + 1, i, h, h1 => by
    obtain ⟨g1, g2⟩ := mayFs_all hm
    have hw : wrap64 ((i : Int) + 1) = ((i + 1 : Nat) : Int) := wrap_nat (by omega)
    have hit := cnt_iff fs K i (by omega)
    have ih := ev_Cut_loop fs hm K hK d (i + 1) (by omega) (by omega)
    rw [Nat.add_sub_cancel] at ih
    refine Ev.step (fun k => by rw [cruciblelaw16_DeplogCut.l0]) (ev_pos (by omega) (ev_pos (by omega) ?_))
    rw [Int.toNat_natCast, hw]
    refine ev_bind (ev_Text16 _ (may_ins2 (may_take hm i))) ?_
    rw [textF, if_pos (may_take hm i)]
    have hz : (str (fsText (fs.take i))).size = (fsText (fs.take i)).length := str_size _
    refine ev_bindc rfl (ev_pos rfl ?_)
    by_cases hc : i ≤ cnt fs K
    · refine ev_pos (show ((str (fsText (fs.take i))).size : Int) ≤ (K : Int) by omega) ?_
      rw [show min i (cnt fs K) = i by omega] at ih
      exact ih
    · refine ev_neg (show ¬ ((str (fsText (fs.take i))).size : Int) ≤ (K : Int) by omega) ?_
      rw [show min i (cnt fs K) = min (i - 1) (cnt fs K) by omega] at ih
      exact ih
theorem DeplogCut (fs : List (P.S41)) (n : Int)
    (hb : (fs.map fun x : P.S41 => (x.f0.size + 1) + 1 + ((x.f2.map fun s => s.size + 1).sum + 1)).sum + 1 + 1 ≤ 1048576)
    (_ : ∀ x ∈ fs, x.f0.size ≤ maxLen ∧ (Lit.int .i64 x.f1).wf = true ∧ ∀ s ∈ x.f2, s.size ≤ maxLen) (_ : (Lit.int .i64 n).wf = true) : ∃ k, cruciblelaw16_DeplogCut.f k fs n = some true := by
  have hi : ∀ x ∈ fs, x.f2.length ≤ 4611686018427387904 := fun x hx => by
    have h1 := fd_mem hx
    have h2 := fd_ins x
    omega
  refine Ev.rounds (Ev.congr (fun k => by rw [cruciblelaw16_DeplogCut.f]) (ev_bindc (show cruciblelaw16_awake.f = some true from rfl) (ev_pos rfl (ev_bind (ev_Text16 fs hi) ?_))))
  unfold textF
  cases hm : mayFs fs with
  | false =>
    rw [if_neg (by simp)]
    exact ev_bindc rfl (ev_neg (by decide) (ev_const (by simp only [str_toList]; rfl)))
  | true =>
    rw [if_pos rfl]
    obtain ⟨g1, g2⟩ := mayFs_all hm
    have hl := fsText_len fs g2
    have hz : (str (fsText fs)).size = (fsText fs).length := str_size _
    have hw : IntKind.u64.wrap (wrap64 (((str (fsText fs)).size : Int) + 1)) = (((fsText fs).length + 1 : Nat) : Int) := by
      rw [hz, wrap_id (by omega) (by omega), u64_wrap]; omega
    obtain ⟨i, hi1, hi2⟩ := umod n ((fsText fs).length + 1) (by omega) (by omega)
    refine ev_bindc rfl (ev_pos rfl ?_)
    simp only [hw, hi2]
    refine ev_neg (by omega) ?_
    have := ev_Cut_loop fs hm i (by omega) fs.length 1 (by omega) (Nat.le_refl _)
    rw [show min (1 - 1) (cnt fs i) = 0 by omega] at this
    exact this
end Go.Proofs.YtkplcmcmpdhigaaDoor.Spec
