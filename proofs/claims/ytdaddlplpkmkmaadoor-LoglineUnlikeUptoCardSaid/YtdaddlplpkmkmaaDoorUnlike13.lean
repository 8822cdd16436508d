/- Chapter 13: the law LoglineUnlike without the program. -/
import Derived.Test.YtdaddlplpkmkmaaDoorAw13
import Derived.Test.YtdaddlplpkmkmaaDoorP17
namespace Go.Proofs.YtdaddlplpkmkmaaDoor.Spec
open Go.RowKit Go.Proofs.YtdaddlplpkmkmaaDoorW.PrintWords Go.Proofs.YtdaddlplpkmkmaaDoorW.PrintMore Go.Proofs.YtdaddlplpkmkmaaDoor.P

theorem take_min {α : Type} (a b : List α) (h : a.take (min a.length b.length) = b.take (min a.length b.length)) : ∃ r r', a ++ r = b ++ r' := by
  by_cases hc : a.length ≤ b.length
  · rw [Nat.min_eq_left hc, List.take_length] at h
    have h2 := List.take_append_drop a.length b
    rw [← h] at h2
    exact ⟨b.drop a.length, [], by rw [List.append_nil]; exact h2⟩
  · rw [Nat.min_eq_right (by omega), List.take_length] at h
    have h2 := List.take_append_drop b.length a
    rw [h] at h2
    exact ⟨[], a.drop b.length, by rw [List.append_nil]; exact h2.symm⟩
theorem txR_inj {o : ByteArray} {t : Int} {g : ByteArray} {o' : ByteArray} {t' : Int} {g' : ByteArray} (h : mayR o t g = true) (h' : mayR o' t' g' = true) {r r' : List UInt8} (e : txR o t g ++ r = txR o' t' g' ++ r') : o = o' ∧ t = t' ∧ g = g' := by
  have hm := mayR_is h
  have hm' := mayR_is h'
  obtain ⟨e1, e2, e3⟩ := line_inj hm.parts hm'.parts e
  exact ⟨data_inj e1, by have := hm.t1; have := hm'.t1; omega, data_inj e3⟩
theorem LoglineUnlike (o : ByteArray) (t : Int) (g : ByteArray) (o' : ByteArray) (t' : Int) (g' : ByteArray) (hb : (o.size + 1) + 1 + (g.size + 1) + (o'.size + 1) + 1 + (g'.size + 1) ≤ 1048576)
    (_ : o.size ≤ maxLen) (_ : (Lit.int .i64 t).wf = true) (_ : g.size ≤ maxLen) (_ : o'.size ≤ maxLen) (_ : (Lit.int .i64 t').wf = true) (_ : g'.size ≤ maxLen) : ∃ k, cruciblelaw13_LoglineUnlike.f k o t g o' t' g' = some true := by
  have eA := ev_LPut o t g (by omega)
  have eB := ev_LPut o' t' g' (by omega)
  refine Ev.rounds (Ev.congr (fun k => by rw [cruciblelaw13_LoglineUnlike.f]) (ev_bind ev_awake13 (ev_pos rfl (ev_bind eA (ev_bind eB ?_)))))
  cases h : mayR o t g with
  | true =>
    cases h' : mayR o' t' g' with
    | true =>
      rw [putR_ok h, putR_ok h']
      obtain ⟨s, hs⟩ : ∃ s, str (txR o t g) = s := ⟨_, rfl⟩
      obtain ⟨s', hs'⟩ : ∃ s', str (txR o' t' g') = s' := ⟨_, rfl⟩
      have hz : s.data.toList = txR o t g := by rw [← hs, str_data]
      have hz' : s'.data.toList = txR o' t' g' := by rw [← hs', str_data]
      rw [hs, hs']
      have hm : mn (s.size : Int) (s'.size : Int) = ((min s.size s'.size : Nat) : Int) := by unfold mn; omega
      refine ev_bindc rfl (ev_pos rfl (ev_bindc rfl (Ev.step (fun k => by rw [cruciblelaw13_LoglineUnlike.j0]) ?_)))
      refine ev_neg (by simp) ?_
      simp only [hm, Int.toNat_natCast]
      refine ev_pos (by omega) (ev_pos (by omega) (ev_pos (by omega) (ev_const ?_)))
      simp only [toList_data, extract_data, List.drop_zero]
      by_cases hsame : o = o' ∧ t = t' ∧ g = g'
      · obtain ⟨rfl, rfl, rfl⟩ := hsame
        rw [hz, hz']
        simp
      · have hne : ¬ (s.data.toList.take (min s.size s'.size) = s'.data.toList.take (min s.size s'.size)) := by
          intro hx
          rw [← size_data s, ← size_data s'] at hx
          obtain ⟨r, r', hr⟩ := take_min _ _ hx
          rw [hz, hz'] at hr
          exact hsame (txR_inj h h' hr)
        have hl : (o.data.toList == o'.data.toList && (t == t' && g.data.toList == g'.data.toList)) = false := by
          rw [Bool.eq_false_iff]
          intro hc
          simp only [Bool.and_eq_true, beq_iff_eq] at hc
          exact hsame ⟨data_inj hc.1, hc.2.1, data_inj hc.2.2⟩
        have hl2 : (s.data.toList.take (min s.size s'.size) == s'.data.toList.take (min s.size s'.size)) = false := by
          rw [beq_eq_false_iff_ne]; exact hne
        rw [hl, hl2]
        rfl
    | false =>
      rw [putR_ok h, putR_no h']
      refine ev_bindc rfl (ev_pos rfl (ev_bindc rfl (Ev.step (fun k => by rw [cruciblelaw13_LoglineUnlike.j0]) ?_)))
      refine ev_pos (by decide) (ev_bindc rfl (ev_pos rfl (ev_bindc rfl (ev_neg (by decide) (ev_const ?_)))))
      decide +kernel
  | false =>
    rw [putR_no h]
    refine ev_bindc rfl (ev_neg (by decide) (Ev.step (fun k => by rw [cruciblelaw13_LoglineUnlike.j0]) ?_))
    refine ev_pos rfl (ev_bindc rfl (ev_neg (by decide) (ev_pos (by decide +kernel) ?_)))
    cases h' : mayR o' t' g' with
    | true =>
      rw [putR_ok h']
      exact ev_bindc rfl (ev_pos rfl (Ev.now _))
    | false =>
      rw [putR_no h']
      exact ev_bindc rfl (ev_neg (by decide) (ev_const (by decide +kernel)))
end Go.Proofs.YtdaddlplpkmkmaaDoor.Spec
