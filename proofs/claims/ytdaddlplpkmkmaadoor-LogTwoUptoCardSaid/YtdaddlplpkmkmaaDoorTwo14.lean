/- Chapter 14: the law LogTwo without the program. -/
import Derived.Test.YtdaddlplpkmkmaaDoorMg2
import Derived.Test.YtdaddlplpkmkmaaDoorP24
namespace Go.Proofs.YtdaddlplpkmkmaaDoor.Spec
open Go.RowKit Go.Proofs.YtdaddlplpkmkmaaDoorW.PrintWords Go.Proofs.YtdaddlplpkmkmaaDoorW.PrintMore Go.Proofs.YtdaddlplpkmkmaaDoor.P

theorem fd_hi {fs : List (P.S23)} {B : Nat} (hb : (fs.map fun x : P.S23 => (x.f0.size + 1) + 1 + (x.f2.size + 1)).sum ≤ B) (hB : B ≤ 1048576) : ∀ x ∈ fs, x.f2.size ≤ 4611686018427387904 := fun x hx => by
  have h1 := fd_mem hx
  omega
theorem LogTwo (fs gs : List (P.S23)) (hb : (fs.map fun x : P.S23 => (x.f0.size + 1) + 1 + (x.f2.size + 1)).sum + 1 + ((gs.map fun x : P.S23 => (x.f0.size + 1) + 1 + (x.f2.size + 1)).sum + 1) ≤ 1048576)
    (_ : ∀ x ∈ fs, x.f0.size ≤ maxLen ∧ (Lit.int .i64 x.f1).wf = true ∧ x.f2.size ≤ maxLen) (_ : ∀ x ∈ gs, x.f0.size ≤ maxLen ∧ (Lit.int .i64 x.f1).wf = true ∧ x.f2.size ≤ maxLen) : ∃ k, cruciblelaw14_LogTwo.f k fs gs = some true := by
  have hl1 := fd_len fs
  have hl2 := fd_len gs
  have hi := fd_hi (fs := fs) (B := 1048576) (by omega) (by omega)
  have hj := fd_hi (fs := gs) (B := 1048576) (by omega) (by omega)
  have hw : wrap64 ((fs.length : Int) + (gs.length : Int)) = ((fs.length + gs.length : Nat) : Int) := by rw [wrap_id (by omega) (by omega)]; omega
  have no : ∀ a b, Ev (fun k => cruciblelaw14_LogTwo.j0 k fs gs a b true) true := fun a b => Ev.step (fun k => by rw [cruciblelaw14_LogTwo.j0]) (ev_pos rfl (Ev.now _))
  refine Ev.rounds (Ev.congr (fun k => by rw [cruciblelaw14_LogTwo.f]) (ev_bindc (show cruciblelaw14_awake.f = some true from rfl) (ev_pos rfl (ev_bind (ev_Text14 fs hi) (ev_bind (ev_Text14 gs hj) ?_)))))
  cases hm : mayFs fs with
  | false =>
    have e : textF fs = (str [], 1400) := by unfold textF; rw [if_neg (by simp [hm])]
    rw [e]
    exact ev_bindc rfl (ev_neg (by decide) (no _ _))
  | true =>
    have e1 : textF fs = (str (fsText fs), 0) := by unfold textF; rw [if_pos hm]
    rw [e1]
    cases hn : mayFs gs with
    | false =>
      have e : textF gs = (str [], 1400) := by unfold textF; rw [if_neg (by simp [hn])]
      rw [e]
      exact ev_bindc rfl (ev_pos rfl (ev_bindc rfl (ev_neg (by decide) (no _ _))))
    | true =>
      have e2 : textF gs = (str (fsText gs), 0) := by unfold textF; rw [if_pos hn]
      rw [e2]
      refine ev_bindc rfl (ev_pos rfl (ev_bindc rfl (ev_pos rfl ?_)))
      rw [hw]
      by_cases hl : fs.length + gs.length ≤ 256
      · have hmn : mayFs (fs ++ gs) = true := mayFs_of (by rw [List.length_append]; omega) (fun f hf => by
          rcases List.mem_append.1 hf with hf | hf
          · exact (mayFs_all hm).2 f hf
          · exact (mayFs_all hn).2 f hf)
        have hin : ∀ x ∈ fs ++ gs, x.f2.size ≤ 4611686018427387904 := fun x hx => by have := may_small ((mayFs_all hmn).2 x hx); omega
        have z1 := fsText_len fs (mayFs_all hm).2
        have z2 := fsText_len gs (mayFs_all hn).2
        have y1 : (str (fsText fs)).size = (fsText fs).length := str_size _
        have y2 : (str (fsText gs)).size = (fsText gs).length := str_size _
        have e3 : textF (fs ++ gs) = (str (fsText fs) ++ str (fsText gs), 0) := by unfold textF; rw [if_pos hmn, fsText_app, str_append]
        rw [show decide (((fs.length + gs.length : Nat) : Int) > 256) = false from decide_eq_false (by omega)]
        refine Ev.step (fun k => by rw [cruciblelaw14_LogTwo.j0]) ?_
        refine ev_neg (by simp) (ev_bindc rfl ?_)
        refine ev_pos (by show 0 + fs.length < _; omega) (ev_bindc rfl ?_)
        refine ev_pos (by rw [List.nil_append]; omega) (ev_bindc rfl ?_)
        simp only [List.nil_append]
        refine ev_bind (ev_Text14 (fs ++ gs) hin) ?_
        rw [e3]
        refine ev_bindc rfl (ev_pos rfl (ev_pos (by omega) (ev_pos rfl (ev_bind (ev_Load _ ?_) ?_))))
        · rw [append_size, y1, y2]; omega
        rw [str_append, str_data, ← fsText_app, load_all _ 256 (mayFs_all hmn).2 (mayFs_all hmn).1]
        exact ev_bind (ev_SameRecords _ _ (by rw [List.length_append]; omega)) (ev_const (by simp))
      · rw [show decide (((fs.length + gs.length : Nat) : Int) > 256) = true from decide_eq_true (by omega)]
        exact no _ _
end Go.Proofs.YtdaddlplpkmkmaaDoor.Spec
