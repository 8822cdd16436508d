/- Chapter 14: the law LogLast without the program. -/
import Derived.Test.YtdaddlplpkmkmaaDoorLC14
import Derived.Test.YtdaddlplpkmkmaaDoorP25
namespace Go.Proofs.YtdaddlplpkmkmaaDoor.Spec
open Go.RowKit Go.Proofs.YtdaddlplpkmkmaaDoorW.PrintWords Go.Proofs.YtdaddlplpkmkmaaDoorW.PrintMore Go.Proofs.YtdaddlplpkmkmaaDoor.P

theorem LogLast (fs : List (P.S23)) (s : ByteArray) (t : Int) (g : ByteArray) (name : ByteArray)
    (hb : (fs.map fun x : P.S23 => (x.f0.size + 1) + 1 + (x.f2.size + 1)).sum + 1 + (s.size + 1) + 1 + (g.size + 1) + (name.size + 1) ≤ 1048576)
    (_ : ∀ x ∈ fs, x.f0.size ≤ maxLen ∧ (Lit.int .i64 x.f1).wf = true ∧ x.f2.size ≤ maxLen) (_ : s.size ≤ maxLen) (_ : (Lit.int .i64 t).wf = true) (_ : g.size ≤ maxLen) (_ : name.size ≤ 140737488351232) : ∃ k, cruciblelaw14_LogLast.f k fs s t g name = some true := by
  have hl1 := fd_len fs
  have hi : ∀ x ∈ fs, x.f2.size ≤ 4611686018427387904 := fun x hx => by
    have h1 := fd_mem hx
    omega
  have hj : ∀ x ∈ fs ++ [(⟨s, t, g⟩ : P.S23)], x.f2.size ≤ 4611686018427387904 := fun x hx => by
    rcases List.mem_append.1 hx with hx | hx
    · exact hi x hx
    · obtain rfl := List.mem_singleton.1 hx
      show g.size ≤ _
      omega
  have hlen : (fs ++ [(⟨s, t, g⟩ : P.S23)]).length ≤ 4294967296 := by rw [List.length_append, List.length_singleton]; omega
  refine Ev.rounds (Ev.congr (fun k => by rw [cruciblelaw14_LogLast.f]) (ev_bindc (show cruciblelaw14_awake.f = some true from rfl) (ev_pos rfl (ev_bind (ev_Last14 fs name (by omega) hi) ?_))))
  refine ev_bindc rfl ?_
  refine ev_pos (by show 0 + fs.length < _; omega) (ev_bindc rfl ?_)
  refine ev_pos (by rw [List.nil_append]; omega) (ev_bindc rfl ?_)
  simp only [List.nil_append]
  refine ev_bind (ev_Last14 (fs ++ [(⟨s, t, g⟩ : P.S23)]) name hlen hj) (ev_bind (ev_May14 _ hj) ?_)
  have hF := lastO_snoc (⟨s, t, g⟩ : P.S23) name fs
  cases hm : mayFs (fs ++ [(⟨s, t, g⟩ : P.S23)]) with
  | false =>
    have e : lastF (fs ++ [(⟨s, t, g⟩ : P.S23)]) name = noF := by
      unfold lastF
      cases lastO (fs ++ [(⟨s, t, g⟩ : P.S23)]) name with
      | none => rfl
      | some y => simp only []; rw [if_neg (by simp [hm])]
    rw [e]
    exact ev_neg (by simp) (ev_neg (by simp [noF]) (ev_const (by simp only [noF, str_toList]; rfl)))
  | true =>
    have hm' : mayFs fs = true := by
      obtain ⟨h1, h2⟩ := mayFs_all hm
      rw [List.length_append, List.length_singleton] at h1
      exact mayFs_of (by omega) (fun f hf => h2 f (List.mem_append_left _ hf))
    refine ev_pos rfl ?_
    by_cases hs : s = name
    · have e : lastF (fs ++ [(⟨s, t, g⟩ : P.S23)]) name = someF ⟨s, t, g⟩ := by
        unfold lastF
        rw [hF, if_pos (show (⟨s, t, g⟩ : P.S23).f0 = name from hs)]
        simp only []
        rw [if_pos hm]
      rw [e]
      exact ev_pos (by rw [hs]) (ev_pos rfl (ev_const (by simp [someF])))
    · have e : lastF (fs ++ [(⟨s, t, g⟩ : P.S23)]) name = lastF fs name := by
        unfold lastF
        rw [hF, if_neg (show ¬ (⟨s, t, g⟩ : P.S23).f0 = name from hs), hm, hm']
      rw [e]
      have hne : ¬ s.toList = name.toList := fun e => hs (data_inj (by rw [← toList_data, ← toList_data]; exact e))
      exact ev_neg hne (ev_pos (by simp) (ev_const (by simp)))
end Go.Proofs.YtdaddlplpkmkmaaDoor.Spec
