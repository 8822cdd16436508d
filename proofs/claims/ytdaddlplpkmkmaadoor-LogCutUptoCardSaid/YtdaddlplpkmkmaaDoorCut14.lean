/- Chapter 14: the law LogCut without the program. -/
import Derived.Test.YtdaddlplpkmkmaaDoorMg2
import Derived.Test.YtdaddlplpkmkmaaDoorP22
namespace Go.Proofs.YtdaddlplpkmkmaaDoor.Spec
open Go.RowKit Go.Proofs.YtdaddlplpkmkmaaDoorW.PrintWords Go.Proofs.YtdaddlplpkmkmaaDoorW.PrintMore Go.Proofs.YtdaddlplpkmkmaaDoor.P

/-- how many are whole within so many bytes -/
def cnt : List (P.S23) → Nat → Nat
  | [], _ => 0
  | f :: fs, K => if (txF f).length ≤ K then 1 + cnt fs (K - (txF f).length) else 0
theorem cnt_le : ∀ (fs : List (P.S23)) (K : Nat), cnt fs K ≤ fs.length
  | [], _ => Nat.le_refl _
  | f :: fs, K => by
    rw [cnt, List.length_cons]
    split
    · have := cnt_le fs (K - (txF f).length); omega
    · omega
theorem cnt_iff : ∀ (fs : List (P.S23)) (K i : Nat), i ≤ fs.length → ((fsText (fs.take i)).length ≤ K ↔ i ≤ cnt fs K)
  | fs, K, 0, _ => by simp [fsText]
  | [], K, i + 1, h => by simp at h
  | f :: fs, K, i + 1, h => by
    have ih := cnt_iff fs (K - (txF f).length) i (by simpa using h)
    rw [List.take_succ_cons, fsText_cons, List.length_append, cnt]
    split
    · omega
    · omega
theorem load_take : ∀ (fs : List (P.S23)) (n K : Nat), (∀ f ∈ fs, mayF f = true) → fs.length ≤ n → loadD n ((fsText fs).take K) = fs.take (cnt fs K)
  | [], n, K, _, _ => by rw [fsText_nil, List.take_nil, load_nil]; rfl
  | f :: fs, 0, K, _, h => by simp at h
  | f :: fs, n + 1, K, hm, h => by
    have hf := hm f (by simp)
    rw [fsText_cons, cnt]
    by_cases hK : (txF f).length ≤ K
    · rw [if_pos hK, List.take_append, List.take_of_length_le hK, load_cons hf, load_take fs n _ (fun g hg => hm g (by simp [hg])) (by simpa using h), Nat.add_comm 1, List.take_succ_cons]
    · rw [if_neg hK, List.take_append_of_le_length (by omega)]
      exact load_cut hf _ _ ((txF f).drop K) (List.take_append_drop _ _) (by
        intro e
        have := congrArg List.length e
        rw [List.length_drop, List.length_nil] at this
        omega)
theorem cnt_ten : ∀ (fs : List (P.S23)) (K : Nat), (∀ f ∈ fs, mayF f = true) → ((fsText fs).take K).count 10 = cnt fs K
  | [], K, _ => by simp [fsText, cnt]
  | f :: fs, K, hm => by
    obtain ⟨b, hb, hn⟩ := txF_body (hm f (by simp))
    have ih := cnt_ten fs (K - (txF f).length) (fun g hg => hm g (by simp [hg]))
    have h0 : b.count 10 = 0 := List.count_eq_zero.2 hn
    rw [fsText_cons, cnt]
    by_cases hK : (txF f).length ≤ K
    · have h1 : (txF f).count 10 = 1 := by rw [hb, List.count_append, h0]; rfl
      rw [if_pos hK, List.take_append, List.take_of_length_le hK, List.count_append, ih, h1]
    · have hl : (txF f).length = b.length + 1 := by rw [hb]; simp
      have e : (txF f).take K = b.take K := by rw [hb, List.take_append_of_le_length (by omega)]
      rw [if_neg hK, List.take_append_of_le_length (by omega), e]
      exact List.count_eq_zero.2 (fun h => hn (List.mem_of_mem_take h))
theorem ev_Cut_loop (fs : List (P.S23)) (hm : mayFs fs = true) (K : Nat) (hK : K ≤ (fsText fs).length) : ∀ (d i : Nat), i + d = K →
    Ev (fun k => cruciblelaw14_LogCut.l0 k fs (str (fsText fs)) (K : Int) ((((fsText fs).take i).count 10 : Nat) : Int) (i : Int)) true
  | 0, i, h => by
    obtain rfl : i = K := by omega
    obtain ⟨g1, g2⟩ := mayFs_all hm
    have hl := fsText_len fs g2
    have hc := cnt_le fs i
    have hz : (str (fsText fs)).size = (fsText fs).length := str_size _
    rw [cnt_ten fs i g2]
    refine Ev.step (fun k => by rw [cruciblelaw14_LogCut.l0]) (ev_neg (by omega) (ev_pos (by omega) ?_))
    simp only [Int.toNat_natCast, str_take]
    refine ev_pos (by omega) (ev_pos (show (i : Int) ≤ ((str (fsText fs)).size : Int) by omega) (ev_bind (ev_Load _ ?_) ?_))
    · rw [str_size, List.length_take]; omega
    rw [str_data, load_take fs 256 i g2 g1]
    refine ev_pos (by omega) (ev_bind (ev_SameRecords _ _ (by rw [List.length_take]; omega)) (ev_pos (by simp) (ev_bind (ev_Load _ ?_) ?_)))
    · rw [str_size]; omega
    rw [str_data, load_all fs 256 g2 g1]
    exact ev_bind (ev_SameRecords _ _ (by omega)) (ev_const (by simp))
  | d + 1, i, h => by
    obtain ⟨g1, g2⟩ := mayFs_all hm
    have hl := fsText_len fs g2
    have hz : (str (fsText fs)).size = (fsText fs).length := str_size _
    have hi : i < (fsText fs).length := by omega
    have ht : ((fsText fs).take i).length = i := by rw [List.length_take]; omega
    have hb : bt (str (fsText fs)) (i : Int) = ((fsText fs)[i].toNat : Int) := by
      have := bt_pre (str (fsText fs)) ((fsText fs).take i) (fsText fs)[i] ((fsText fs).drop (i + 1)) (by rw [str_data, ← List.drop_eq_getElem_cons hi, List.take_append_drop])
      rwa [ht] at this
    have hw : wrap64 ((i : Int) + 1) = ((i + 1 : Nat) : Int) := wrap_nat (by omega)
    have ih := ev_Cut_loop fs hm K hK d (i + 1) (by omega)
    rw [List.take_succ_eq_append_getElem hi, List.count_append, List.count_singleton] at ih
    have hcl : ((fsText fs).take i).count 10 ≤ i := by have := List.count_le_length (a := (10 : UInt8)) (l := (fsText fs).take i); omega
    generalize ((fsText fs).take i).count 10 = c at ih hcl ⊢
    refine Ev.step (fun k => by rw [cruciblelaw14_LogCut.l0]) (ev_pos (by omega) (ev_pos (by omega) (ev_pos (show (i : Int) < ((str (fsText fs)).size : Int) by omega) ?_)))
    rw [hb, hw]
    by_cases h10 : (fsText fs)[i] = 10
    · have hw2 : wrap64 ((c : Int) + 1) = ((c + 1 : Nat) : Int) := wrap_nat (by omega)
      rw [h10] at ih
      rw [hw2]
      exact ev_pos (by rw [h10]; rfl) ih
    · rw [if_neg (by simpa using h10), Nat.add_zero] at ih
      exact ev_neg (fun e => h10 (UInt8.toNat_inj.1 (by have e2 : ((fsText fs)[i].toNat : Int) = ((10 : UInt8).toNat : Int) := e; omega))) ih
theorem LogCut (fs : List (P.S23)) (n : Int)
    (hb : (fs.map fun x : P.S23 => (x.f0.size + 1) + 1 + (x.f2.size + 1)).sum + 1 + 1 ≤ 1048576)
    (_ : ∀ x ∈ fs, x.f0.size ≤ maxLen ∧ (Lit.int .i64 x.f1).wf = true ∧ x.f2.size ≤ maxLen) (_ : (Lit.int .i64 n).wf = true) : ∃ k, cruciblelaw14_LogCut.f k fs n = some true := by
  have hi : ∀ x ∈ fs, x.f2.size ≤ 4611686018427387904 := fun x hx => by
    have h1 := fd_mem hx
    omega
  refine Ev.rounds (Ev.congr (fun k => by rw [cruciblelaw14_LogCut.f]) (ev_bindc (show cruciblelaw14_awake.f = some true from rfl) (ev_pos rfl (ev_bind (ev_Text14 fs hi) ?_))))
  unfold textF
  cases hm : mayFs fs with
  | false =>
    rw [if_neg (by simp)]
    exact ev_bindc rfl (ev_neg (by decide) (ev_const (by simp only [str_toList]; rfl)))
  | true =>
    rw [if_pos rfl]
    obtain ⟨g1, g2⟩ := mayFs_all hm
    have hl := fsText_len fs g2
    have hz : (str (fsText fs)).size = (fsText fs).length := str_size _
    have hw : IntKind.u64.wrap (wrap64 (((str (fsText fs)).size : Int) + 1)) = (((fsText fs).length + 1 : Nat) : Int) := by
      rw [hz, wrap_id (by omega) (by omega), u64_wrap]; omega
    obtain ⟨i, hi1, hi2⟩ := umod n ((fsText fs).length + 1) (by omega) (by omega)
    refine ev_bindc rfl (ev_pos rfl ?_)
    simp only [hw, hi2]
    refine ev_neg (by omega) ?_
    exact ev_Cut_loop fs hm i (by omega) i 0 (by omega)
end Go.Proofs.YtdaddlplpkmkmaaDoor.Spec
