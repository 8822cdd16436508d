/- Chapter 16: the law DeplogTwo without the program. -/
import Derived.Test.YtkplcmcmpdhigaaDoorDeplog
import Derived.Test.YtkplcmcmpdhigaaDoorP25
namespace Go.Proofs.YtkplcmcmpdhigaaDoor.Spec
open Go.RowKit Go.Proofs.YtkplcmcmpdhigaaDoorW.PrintWords Go.Proofs.YtkplcmcmpdhigaaDoorW.PrintMore Go.Proofs.YtkplcmcmpdhigaaDoor.P

theorem ev_when {α : Type} {g f : Nat → Option α} {r : α} {p : Nat → Prop} [∀ k, Decidable (p k)] (hp : ∃ K, ∀ k, K ≤ k → p k) (e : Ev g r) : Ev (fun k => if p k then g k else f k) r := by
  obtain ⟨K, hK⟩ := hp
  obtain ⟨K2, hK2⟩ := e
  exact ⟨max K K2, fun k hk => (if_pos (hK k (by omega))).trans (hK2 k (by omega))⟩
theorem ev_and {α : Type} {g : Nat → Option α} {r : α} {q : Prop} (e : Ev g r) (hq : q) : ∃ K, ∀ k, K ≤ k → (g k = some r ∧ q) := by
  obtain ⟨K, hK⟩ := e
  exact ⟨K, fun k hk => ⟨hK k hk, hq⟩⟩
theorem ev_is {α : Type} {g : Nat → Option α} {r : α} (e : Ev g r) : ∃ K, ∀ k, K ≤ k → g k = some r := e
theorem may_in {fs : List (P.S41)} (h : mayFs fs = true) : ∀ x ∈ fs, x.f2.length ≤ 4611686018427387904 := fun x hx => by
  have := (mayD_small ((mayFs_all h).2 x hx)).2.2.2.1
  omega
theorem DeplogTwo (fs gs : List (P.S41))
    (hb : (fs.map fun x : P.S41 => (x.f0.size + 1) + 1 + ((x.f2.map fun s => s.size + 1).sum + 1)).sum + 1 + ((gs.map fun x : P.S41 => (x.f0.size + 1) + 1 + ((x.f2.map fun s => s.size + 1).sum + 1)).sum + 1) ≤ 1048576)
    (_ : ∀ x ∈ fs, x.f0.size ≤ maxLen ∧ (Lit.int .i64 x.f1).wf = true ∧ ∀ s ∈ x.f2, s.size ≤ maxLen) (_ : ∀ x ∈ gs, x.f0.size ≤ maxLen ∧ (Lit.int .i64 x.f1).wf = true ∧ ∀ s ∈ x.f2, s.size ≤ maxLen) : ∃ k, cruciblelaw16_DeplogTwo.f k fs gs = some true := by
  have hl1 := fd_len fs
  have hl2 := fd_len gs
  have hi : ∀ x ∈ fs, x.f2.length ≤ 4611686018427387904 := fun x hx => by
    have h1 := fd_mem hx
    have h2 := fd_ins x
    omega
  have hj : ∀ x ∈ gs, x.f2.length ≤ 4611686018427387904 := fun x hx => by
    have h1 := fd_mem hx
    have h2 := fd_ins x
    omega
  refine Ev.rounds (Ev.congr (fun k => by rw [cruciblelaw16_DeplogTwo.f]) (ev_bind (ev_Text16 fs hi) (ev_bind (ev_Text16 gs hj) ?_)))
  have no : Ev (fun _ : Nat => if fs.length + gs.length ≤ 2000000 then some true else none) true := ev_const (by rw [if_pos (by omega)])
  cases hm : mayFs fs with
  | false =>
    have e : textF fs = (str [], 1600) := by unfold textF; rw [if_neg (by simp [hm])]
    rw [e]
    exact ev_neg (fun h => absurd h.1 (by decide)) no
  | true =>
    cases hn : mayFs gs with
    | false =>
      have e : textF gs = (str [], 1600) := by unfold textF; rw [if_neg (by simp [hn])]
      rw [e]
      exact ev_neg (fun h => absurd h.2.1 (by decide)) no
    | true =>
      have e1 : textF fs = (str (fsText fs), 0) := by unfold textF; rw [if_pos hm]
      have e2 : textF gs = (str (fsText gs), 0) := by unfold textF; rw [if_pos hn]
      rw [e1, e2]
      by_cases hl : fs.length + gs.length ≤ 256
      · have hmn : mayFs (fs ++ gs) = true := mayFs_of (by rw [List.length_append]; omega) (fun f hf => by
          rcases List.mem_append.1 hf with hf | hf
          · exact (mayFs_all hm).2 f hf
          · exact (mayFs_all hn).2 f hf)
        have z1 := fsText_len fs (mayFs_all hm).2
        have z2 := fsText_len gs (mayFs_all hn).2
        have y1 : (str (fsText fs)).size = (fsText fs).length := str_size _
        have y2 : (str (fsText gs)).size = (fsText gs).length := str_size _
        have eT := ev_Text16 (fs ++ gs) (may_in hmn)
        have e3 : textF (fs ++ gs) = (str (fsText fs) ++ str (fsText gs), 0) := by unfold textF; rw [if_pos hmn, fsText_app, str_append]
        rw [e3] at eT
        refine ev_pos ⟨rfl, rfl, hl⟩ (ev_when (ev_and eT (show (str (fsText fs)).size + (str (fsText gs)).size ≤ 9223372036854775807 by omega)) (ev_bind (ev_Load _) ?_))
        have e4 : loadD 256 (str (fsText fs) ++ str (fsText gs)).data.toList = fs ++ gs := by
          rw [str_append, str_data, ← fsText_app, load_all _ 256 (mayFs_all hmn).2 (mayFs_all hmn).1]
        rw [e4]
        have eS := ev_SameFounds (fs ++ gs) (fs ++ gs) (by rw [List.length_append]; omega) (may_in hmn)
        rw [show decide (fs ++ gs = fs ++ gs) = true from decide_eq_true rfl] at eS
        exact ev_when (ev_is eS) (Ev.now _)
      · exact ev_neg (fun h => hl h.2.2) no
end Go.Proofs.YtkplcmcmpdhigaaDoor.Spec
