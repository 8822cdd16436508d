/- Chapter 15: the law DeprecUnlike without the program. -/
import Derived.Test.YtkplcmcmpdhigaaDoorAw15
import Derived.Test.YtkplcmcmpdhigaaDoorP49
namespace Go.Proofs.YtkplcmcmpdhigaaDoor.Spec
open Go.RowKit Go.Proofs.YtkplcmcmpdhigaaDoorW.PrintWords Go.Proofs.YtkplcmcmpdhigaaDoorW.PrintMore Go.Proofs.YtkplcmcmpdhigaaDoor.P

theorem putF_cases (o : ByteArray) (t : Int) (ins : List ByteArray) : (mayD o t ins = true ∧ putF o t ins = (str (foundL o.data.toList t.toNat (datas ins)), 0)) ∨ putF o t ins = (str [], 1500) := by
  unfold putF
  split
  · rename_i h; exact .inl ⟨h, rfl⟩
  · exact .inr rfl
theorem same_of {o : ByteArray} {t : Int} {ins : List ByteArray} {o' : ByteArray} {t' : Int} {ins' : List ByteArray} (h : mayD o t ins = true) (h' : mayD o' t' ins' = true) {r r'} (e : foundL o.data.toList t.toNat (datas ins) ++ r = foundL o'.data.toList t'.toNat (datas ins') ++ r') :
    o = o' ∧ t = t' ∧ ins = ins' := by
  obtain ⟨hs, _, _, _, h1, _⟩ := mayD_small h
  obtain ⟨hs', _, _, _, h1', _⟩ := mayD_small h'
  obtain ⟨e1, e2, e3⟩ := found_inj hs hs' e
  refine ⟨data_inj e1, by omega, ?_⟩
  have := congrArg (List.map str) e3
  rwa [datas, datas, map_str_data, map_str_data] at this
theorem take_min {α : Type} (a b : List α) (h : a.take (min a.length b.length) = b.take (min a.length b.length)) : ∃ r r', a ++ r = b ++ r' := by
  by_cases hc : a.length ≤ b.length
  · rw [Nat.min_eq_left hc, List.take_length] at h
    have h2 := List.take_append_drop a.length b
    rw [← h] at h2
    exact ⟨b.drop a.length, [], by rw [List.append_nil]; exact h2⟩
  · rw [Nat.min_eq_right (by omega), List.take_length] at h
    have h2 := List.take_append_drop b.length a
    rw [h] at h2
    exact ⟨[], a.drop b.length, by rw [List.append_nil]; exact h2.symm⟩
theorem DeprecUnlike (o : ByteArray) (t : Int) (ins : List ByteArray) (o' : ByteArray) (t' : Int) (ins' : List ByteArray)
    (hb : (o.size + 1) + 1 + ((ins.map fun s => s.size + 1).sum + 1) + (o'.size + 1) + 1 + ((ins'.map fun s => s.size + 1).sum + 1) ≤ 1048576)
    (_ : o.size ≤ maxLen) (_ : (Lit.int .i64 t).wf = true) (_ : ∀ x ∈ ins, x.size ≤ maxLen) (_ : o'.size ≤ maxLen) (_ : (Lit.int .i64 t').wf = true) (_ : ∀ x ∈ ins', x.size ≤ maxLen) : ∃ k, cruciblelaw15_DeprecUnlike.f k o t ins o' t' ins' = some true := by
  have hl : ∀ l : List ByteArray, l.length ≤ (l.map fun s => s.size + 1).sum := by
    intro l
    induction l with
    | nil => simp
    | cons x xs ih => simp; omega
  have la := hl ins
  have lb := hl ins'
  clear hl
  refine Ev.rounds ?_
  refine Ev.congr (fun k => by rw [cruciblelaw15_DeprecUnlike.f]) (ev_bind ev_awake15 (ev_pos rfl (ev_bind (ev_Put o t ins (by omega)) (ev_bind (ev_Put o' t' ins' (by omega)) ?_))))
  rcases putF_cases o t ins with ⟨h, e⟩ | e
  · rcases putF_cases o' t' ins' with ⟨h', e'⟩ | e'
    · rw [e, e']
      obtain ⟨s, hs⟩ : ∃ s, str (foundL o.data.toList t.toNat (datas ins)) = s := ⟨_, rfl⟩
      obtain ⟨s', hs'⟩ : ∃ s', str (foundL o'.data.toList t'.toNat (datas ins')) = s' := ⟨_, rfl⟩
      have hz : s.data.toList = foundL o.data.toList t.toNat (datas ins) := by rw [← hs, str_data]
      have hz' : s'.data.toList = foundL o'.data.toList t'.toNat (datas ins') := by rw [← hs', str_data]
      rw [hs, hs']
      have hm : mn (s.size : Int) (s'.size : Int) = ((min s.size s'.size : Nat) : Int) := by unfold mn; omega
      refine ev_bindc rfl (ev_pos rfl (ev_bindc rfl (Ev.step (fun k => by rw [cruciblelaw15_DeprecUnlike.j0]) (ev_neg (by simp) ?_))))
      simp only [hm, Int.toNat_natCast]
      refine ev_pos (by omega) (ev_pos (by omega) (ev_pos (by omega) (ev_bind (ev_SameFound o t ins o' t' ins' (by omega)) (ev_const ?_))))
      simp only [toList_data, extract_data, List.drop_zero]
      by_cases hsame : o = o' ∧ t = t' ∧ ins = ins'
      · obtain ⟨rfl, rfl, rfl⟩ := hsame
        rw [hz, hz']
        simp
      · have hne : ¬ (s.data.toList.take (min s.size s'.size) = s'.data.toList.take (min s.size s'.size)) := by
          intro hx
          rw [← size_data s, ← size_data s'] at hx
          obtain ⟨r, r', hr⟩ := take_min _ _ hx
          rw [hz, hz'] at hr
          exact hsame (same_of h h' hr)
        simp [hsame, hne]
    · rw [e, e']
      refine ev_bindc rfl (ev_pos rfl (ev_bindc rfl (Ev.step (fun k => by rw [cruciblelaw15_DeprecUnlike.j0]) ?_)))
      refine ev_pos (by decide) (ev_bindc rfl (ev_pos rfl ?_))
      refine ev_bindc rfl (ev_neg (by decide) ?_)
      simp only [str_toList]
      exact ev_const rfl
  · rw [e]
    refine ev_bindc rfl (ev_neg (by decide) (Ev.step (fun k => by rw [cruciblelaw15_DeprecUnlike.j0]) ?_))
    refine ev_pos rfl (ev_bindc rfl (ev_neg (by decide) ?_))
    refine ev_pos (by simp only [str_toList]) ?_
    rcases putF_cases o' t' ins' with ⟨h', e'⟩ | e'
    · rw [e']
      exact ev_bindc rfl (ev_pos rfl (Ev.now _))
    · rw [e']
      refine ev_bindc rfl (ev_neg (by decide) ?_)
      simp only [str_toList]
      exact ev_const rfl
end Go.Proofs.YtkplcmcmpdhigaaDoor.Spec
