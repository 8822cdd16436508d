/- Chapter 16: the law DeplogLast without the program. -/
import Derived.Test.YtkplcmcmpdhigaaDoorDeplog
import Derived.Test.YtkplcmcmpdhigaaDoorP13
import Derived.Test.YtkplcmcmpdhigaaDoorP26
namespace Go.Proofs.YtkplcmcmpdhigaaDoor.SpecL
open Go.RowKit Go.Proofs.YtkplcmcmpdhigaaDoorW.PrintWords Go.Proofs.YtkplcmcmpdhigaaDoorW.PrintMore Go.Proofs.YtkplcmcmpdhigaaDoor.P Go.Proofs.YtkplcmcmpdhigaaDoor.Spec

theorem ev_when {α : Type} {g f : Nat → Option α} {r : α} {p : Nat → Prop} [∀ k, Decidable (p k)] (hp : ∃ K, ∀ k, K ≤ k → p k) (e : Ev g r) : Ev (fun k => if p k then g k else f k) r := by
  obtain ⟨K, hK⟩ := hp
  obtain ⟨K2, hK2⟩ := e
  exact ⟨max K K2, fun k hk => (if_pos (hK k (by omega))).trans (hK2 k (by omega))⟩
theorem ev_and {α : Type} {g : Nat → Option α} {r : α} {q : Prop} (hq : q) (e : Ev g r) : ∃ K, ∀ k, K ≤ k → (q ∧ g k = some r) := by
  obtain ⟨K, hK⟩ := e
  exact ⟨K, fun k hk => ⟨hq, hK k hk⟩⟩
def lastO : List (P.S41) → ByteArray → Option P.S41
  | [], _ => none
  | x :: r, o => match lastO r o with
    | some y => some y
    | none => if x.f0 = o then some x else none
theorem lastO_snoc (x : P.S41) (o : ByteArray) : ∀ l : List (P.S41), lastO (l ++ [x]) o = if x.f0 = o then some x else lastO l o
  | [] => by simp [lastO]
  | y :: l => by
    rw [List.cons_append, lastO, lastO_snoc x o l, lastO]
    by_cases h : x.f0 = o
    · rw [if_pos h, if_pos h]
    · rw [if_neg h, if_neg h]
theorem rd_lt (fs : List (P.S41)) (j : Nat) (h : j < fs.length) : rd_T41 fs (j : Int) = fs[j] := by
  simp [rd_T41, List.getD_eq_getElem?_getD, List.getElem?_eq_getElem h]
theorem lastUpto_cases (fs : List (P.S41)) (o : ByteArray) : ∀ n, n ≤ fs.length → (deplog_lastUpto fs o n = -1 ∧ lastO (fs.take n) o = none) ∨ ∃ j, j < n ∧ deplog_lastUpto fs o n = (j : Int) ∧ lastO (fs.take n) o = some (rd_T41 fs (j : Int))
  | 0, _ => .inl ⟨rfl, rfl⟩
  | n + 1, h => by
    have hn : n < fs.length := by omega
    have e : fs.take (n + 1) = fs.take n ++ [rd_T41 fs (n : Int)] := by rw [List.take_succ_eq_append_getElem hn, rd_lt fs n hn]
    rw [deplog_lastUpto, e, lastO_snoc]
    by_cases hc : (rd_T41 fs (n : Int)).f0 = o
    · rw [if_pos hc, if_pos hc]
      exact .inr ⟨n, by omega, rfl, rfl⟩
    · rw [if_neg hc, if_neg hc]
      rcases lastUpto_cases fs o n (by omega) with ⟨h1, h2⟩ | ⟨j, h1, h2, h3⟩
      · exact .inl ⟨h1, h2⟩
      · exact .inr ⟨j, by omega, h2, h3⟩
def noF : ByteArray × Int × List ByteArray × Bool := (str [], 0, [], false)
def someF (x : P.S41) : ByteArray × Int × List ByteArray × Bool := (x.f0, x.f1, x.f2, true)
def lastF (fs : List (P.S41)) (o : ByteArray) : ByteArray × Int × List ByteArray × Bool :=
  match lastO fs o with
  | none => noF
  | some x => if mayFs fs = true then someF x else noF
theorem clone_is (l : List ByteArray) (h : l.length ≤ 8) : slices_Clone_string_string.f l = some l := by
  unfold slices_Clone_string_string.f
  rw [if_pos (by omega)]
theorem copy_is {x : P.S41} (h : mayF x = true) : deplog_Copy.f x.f0 x.f1 x.f2 = some (x.f0, x.f1, x.f2) := by
  unfold deplog_Copy.f
  rw [clone_is _ (mayD_small h).2.2.2.1]
  rfl
theorem ev_Last16 (fs : List (P.S41)) (o : ByteArray) (hl : fs.length ≤ 4294967296) (hi : ∀ x ∈ fs, x.f2.length ≤ 4611686018427387904) : Ev (fun k => deplog_Last.f k fs o) (lastF fs o) := by
  have hlast : deplog_last.f fs o = some (deplog_lastUpto fs o fs.length) := by unfold deplog_last.f; rw [if_pos hl]
  refine Ev.congr (fun k => by rw [deplog_Last.f]) (ev_bindc hlast ?_)
  unfold lastF
  rcases lastUpto_cases fs o fs.length (Nat.le_refl _) with ⟨h1, h2⟩ | ⟨j, h1, h2, h3⟩
  · rw [List.take_length] at h2
    rw [h1, h2]
    exact ev_pos (by decide) (Ev.now _)
  · rw [List.take_length] at h3
    rw [h2, h3]
    refine ev_neg (by omega) (ev_bind (ev_May16 fs hi) ?_)
    cases hm : mayFs fs with
    | false => exact ev_neg (by simp) (Ev.now _)
    | true =>
      have hx : mayF (rd_T41 fs (j : Int)) = true := by
        rw [rd_lt fs j h1]; exact (mayFs_all hm).2 _ (List.getElem_mem h1)
      exact ev_pos rfl (ev_pos (by omega) (ev_pos (by omega) (ev_bindc (copy_is hx) (Ev.now _))))
theorem lastF_ins {fs : List (P.S41)} (h : ∀ x ∈ fs, x.f2.length ≤ 4611686018427387904) (o : ByteArray) : (lastF fs o).2.2.1.length ≤ 4611686018427387904 := by
  unfold lastF
  cases hl : lastO fs o with
  | none => simp [noF]
  | some x =>
    have hx : ∀ l : List (P.S41), lastO l o = some x → x ∈ l := by
      intro l
      induction l with
      | nil => intro h; cases h
      | cons y l ih =>
        intro h
        rw [lastO] at h
        cases hr : lastO l o with
        | some z => rw [hr] at h; cases h; exact List.mem_cons_of_mem _ (ih hr)
        | none =>
          rw [hr] at h
          simp only [] at h
          split at h
          · cases h; exact List.mem_cons_self
          · cases h
    have := h x (hx fs hl)
    simp only []
    split
    · exact this
    · simp [noF]
theorem mayFs_pre {fs : List (P.S41)} {x : P.S41} (h : mayFs (fs ++ [x]) = true) : mayFs fs = true := by
  obtain ⟨h1, h2⟩ := mayFs_all h
  rw [List.length_append, List.length_singleton] at h1
  exact mayFs_of (by omega) (fun f hf => h2 f (List.mem_append_left _ hf))
end Go.Proofs.YtkplcmcmpdhigaaDoor.SpecL
namespace Go.Proofs.YtkplcmcmpdhigaaDoor.Spec
open Go.RowKit Go.Proofs.YtkplcmcmpdhigaaDoorW.PrintWords Go.Proofs.YtkplcmcmpdhigaaDoorW.PrintMore Go.Proofs.YtkplcmcmpdhigaaDoor.P Go.Proofs.YtkplcmcmpdhigaaDoor.SpecL
theorem DeplogLast (fs : List (P.S41)) (s : ByteArray) (t : Int) (ls : List ByteArray) (name : ByteArray)
    (hb : (fs.map fun x : P.S41 => (x.f0.size + 1) + 1 + ((x.f2.map fun s => s.size + 1).sum + 1)).sum + 1 + (s.size + 1) + 1 + ((ls.map fun s => s.size + 1).sum + 1) + (name.size + 1) ≤ 1048576)
    (_ : ∀ x ∈ fs, x.f0.size ≤ maxLen ∧ (Lit.int .i64 x.f1).wf = true ∧ ∀ s ∈ x.f2, s.size ≤ maxLen) (_ : s.size ≤ maxLen) (_ : (Lit.int .i64 t).wf = true) (_ : ∀ x ∈ ls, x.size ≤ maxLen) (_ : name.size ≤ 140737488351232) : ∃ k, cruciblelaw16_DeplogLast.f k fs s t ls name = some true := by
  have hl1 := fd_len fs
  have hi : ∀ x ∈ fs, x.f2.length ≤ 4611686018427387904 := fun x hx => by
    have h1 := fd_mem hx
    have h2 := fd_ins x
    omega
  have hls : ls.length ≤ (ls.map fun s => s.size + 1).sum := fd_ins ⟨s, t, ls⟩
  have hj : ∀ x ∈ fs ++ [(⟨s, t, ls⟩ : P.S41)], x.f2.length ≤ 4611686018427387904 := fun x hx => by
    rcases List.mem_append.1 hx with hx | hx
    · exact hi x hx
    · obtain rfl := List.mem_singleton.1 hx
      show ls.length ≤ _
      omega
  have hlen : (fs ++ [(⟨s, t, ls⟩ : P.S41)]).length ≤ 4294967296 := by rw [List.length_append, List.length_singleton]; omega
  refine Ev.rounds (Ev.congr (fun k => by rw [cruciblelaw16_DeplogLast.f]) (ev_pos (by omega) (ev_bind (ev_Last16 fs name (by omega) hi) (ev_bind (ev_Last16 _ name hlen hj) (ev_bind (ev_May16 _ hj) ?_)))))
  have hF := lastO_snoc (⟨s, t, ls⟩ : P.S41) name fs
  cases hm : mayFs (fs ++ [(⟨s, t, ls⟩ : P.S41)]) with
  | false =>
    have e : lastF (fs ++ [(⟨s, t, ls⟩ : P.S41)]) name = noF := by
      unfold lastF
      cases lastO (fs ++ [(⟨s, t, ls⟩ : P.S41)]) name with
      | none => rfl
      | some y => simp only []; rw [if_neg (by simp [hm])]
    rw [e]
    have eS := ev_SameFound (str []) 0 [] ⟨#[]⟩ 0 [] (by decide)
    rw [show decide (str [] = (⟨#[]⟩ : ByteArray) ∧ (0 : Int) = 0 ∧ ([] : List ByteArray) = []) = true from decide_eq_true ⟨rfl, rfl, rfl⟩] at eS
    exact ev_pos rfl (ev_when (ev_and rfl eS) (Ev.now _))
  | true =>
    have hm' := mayFs_pre hm
    refine ev_neg (by decide) ?_
    by_cases hs : s = name
    · have e : lastF (fs ++ [(⟨s, t, ls⟩ : P.S41)]) name = someF ⟨s, t, ls⟩ := by
        unfold lastF
        rw [hF, if_pos (show (⟨s, t, ls⟩ : P.S41).f0 = name from hs)]
        simp only []
        rw [if_pos hm]
      rw [e]
      have eS := ev_SameFound s t ls s t ls (by omega)
      rw [show decide (s = s ∧ t = t ∧ ls = ls) = true from decide_eq_true ⟨rfl, rfl, rfl⟩] at eS
      exact ev_pos hs (ev_when (ev_and rfl eS) (Ev.now _))
    · have e : lastF (fs ++ [(⟨s, t, ls⟩ : P.S41)]) name = lastF fs name := by
        unfold lastF
        rw [hF, if_neg (show ¬ (⟨s, t, ls⟩ : P.S41).f0 = name from hs), hm, hm']
      rw [e]
      obtain ⟨x, hx⟩ : ∃ x, lastF fs name = x := ⟨_, rfl⟩
      have hxl := lastF_ins hi name
      rw [hx] at hxl ⊢
      have eS := ev_SameFound x.1 x.2.1 x.2.2.1 x.1 x.2.1 x.2.2.1 hxl
      rw [show decide (x.1 = x.1 ∧ x.2.1 = x.2.1 ∧ x.2.2.1 = x.2.2.1) = true from decide_eq_true ⟨rfl, rfl, rfl⟩] at eS
      exact ev_neg hs (ev_when (ev_and rfl eS) (Ev.now _))
end Go.Proofs.YtkplcmcmpdhigaaDoor.Spec
