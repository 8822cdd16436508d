/- Chapter 14: what Last and Compact compute. -/
import Derived.Test.YtdaddlplpkmkmaaGreatDoorMg2
import Derived.Test.YtdaddlplpkmkmaaGreatDoorP18
import Derived.Test.YtdaddlplpkmkmaaGreatDoorP19
namespace Go.Proofs.YtdaddlplpkmkmaaGreatDoor.Spec
open Go.RowKit Go.Proofs.YtdaddlplpkmkmaaGreatDoorW.PrintWords Go.Proofs.YtdaddlplpkmkmaaGreatDoorW.PrintMore Go.Proofs.YtdaddlplpkmkmaaGreatDoor.P

def lastO : List (P.S31) → ByteArray → Option P.S31
  | [], _ => none
  | x :: r, o => match lastO r o with
    | some y => some y
    | none => if x.f0 = o then some x else none
def keepS : List (P.S31) → List (P.S31)
  | [] => []
  | x :: r => if r.any (fun y => decide (y.f0 = x.f0)) = true then keepS r else x :: keepS r
theorem lastO_snoc (x : P.S31) (o : ByteArray) : ∀ l : List (P.S31), lastO (l ++ [x]) o = if x.f0 = o then some x else lastO l o
  | [] => by simp [lastO]
  | y :: l => by
    rw [List.cons_append, lastO, lastO_snoc x o l, lastO]
    by_cases h : x.f0 = o
    · rw [if_pos h, if_pos h]
    · rw [if_neg h, if_neg h]
theorem rd_lt (fs : List (P.S31)) (j : Nat) (h : j < fs.length) : rd_T31 fs (j : Int) = fs[j] := by
  simp [rd_T31, List.getD_eq_getElem?_getD, List.getElem?_eq_getElem h]
theorem lastUpto_cases (fs : List (P.S31)) (o : ByteArray) : ∀ n, n ≤ fs.length → (log_lastUpto fs o n = -1 ∧ lastO (fs.take n) o = none) ∨ ∃ j, j < n ∧ log_lastUpto fs o n = (j : Int) ∧ lastO (fs.take n) o = some (rd_T31 fs (j : Int))
  | 0, _ => .inl ⟨rfl, rfl⟩
  | n + 1, h => by
    have hn : n < fs.length := by omega
    have e : fs.take (n + 1) = fs.take n ++ [rd_T31 fs (n : Int)] := by rw [List.take_succ_eq_append_getElem hn, rd_lt fs n hn]
    rw [log_lastUpto, e, lastO_snoc]
    by_cases hc : (rd_T31 fs (n : Int)).f0 = o
    · rw [if_pos hc, if_pos hc]
      exact .inr ⟨n, by omega, rfl, rfl⟩
    · rw [if_neg hc, if_neg hc]
      rcases lastUpto_cases fs o n (by omega) with ⟨h1, h2⟩ | ⟨j, h1, h2, h3⟩
      · exact .inl ⟨h1, h2⟩
      · exact .inr ⟨j, by omega, h2, h3⟩
theorem lastUpto_ge (fs : List (P.S31)) (o : ByteArray) (j : Nat) (hj : (rd_T31 fs (j : Int)).f0 = o) : ∀ n, j < n → (j : Int) ≤ log_lastUpto fs o n
  | 0, h => by omega
  | n + 1, h => by
    rw [log_lastUpto]
    by_cases hc : (rd_T31 fs (n : Int)).f0 = o
    · rw [if_pos hc]; omega
    · rw [if_neg hc]
      by_cases e : j = n
      · subst e; exact absurd hj hc
      · exact lastUpto_ge fs o j hj n (by omega)
theorem lastUpto_at (fs pre rest : List (P.S31)) (x : P.S31) (h : fs = pre ++ x :: rest) : log_lastUpto fs x.f0 fs.length = (pre.length : Int) ↔ rest.any (fun y => decide (y.f0 = x.f0)) = false := by
  have hl : fs.length = pre.length + (rest.length + 1) := by rw [h]; simp
  have hx : rd_T31 fs (pre.length : Int) = x := by rw [h]; exact rdT_pre _ _ _
  have hr : ∀ (j : Nat) (hj : j < rest.length), rd_T31 fs ((pre.length + 1 + j : Nat) : Int) = rest[j] := fun j hj => by
    have hlt : pre.length + 1 + j < fs.length := by omega
    rw [rd_lt fs _ hlt]
    simp [h, List.getElem_append_right, Nat.add_assoc, Nat.add_comm 1 j]
  constructor
  · intro he
    rw [List.any_eq_false]
    intro y hy hc
    obtain ⟨j, hj, rfl⟩ := List.getElem_of_mem hy
    have h1 := lastUpto_ge fs x.f0 (pre.length + 1 + j) (by rw [hr j hj]; exact of_decide_eq_true hc) fs.length (by omega)
    omega
  · intro ha
    have hne : ∀ i, i < rest.length → (rd_T31 fs ((fs.length - 1 - i : Nat) : Int)).f0 ≠ x.f0 := fun i hi => by
      have e : fs.length - 1 - i = pre.length + 1 + (rest.length - 1 - i) := by omega
      rw [e, hr _ (by omega)]
      have := List.any_eq_false.1 ha _ (List.getElem_mem (by omega : rest.length - 1 - i < rest.length))
      simpa using this
    rw [lastUpto_pre fs x.f0 fs.length rest.length (pre.length + 1) (by omega) hne, log_lastUpto, if_pos (by rw [hx])]
def noF : ByteArray × Int × ByteArray × Bool := (str [], 0, str [], false)
def someF (x : P.S31) : ByteArray × Int × ByteArray × Bool := (x.f0, x.f1, x.f2, true)
def lastF (fs : List (P.S31)) (o : ByteArray) : ByteArray × Int × ByteArray × Bool :=
  match lastO fs o with
  | none => noF
  | some x => if mayFs fs = true then someF x else noF
theorem ev_Last14 (fs : List (P.S31)) (o : ByteArray) (hl : fs.length ≤ 4294967296) (hi : ∀ x ∈ fs, x.f2.size ≤ 4611686018427387904) : Ev (fun k => log_Last.f k fs o) (lastF fs o) := by
  have hlast : log_last.f fs o = some (log_lastUpto fs o fs.length) := by unfold log_last.f; rw [if_pos hl]
  refine Ev.congr (fun k => by rw [log_Last.f]) (ev_bindc hlast ?_)
  unfold lastF
  rcases lastUpto_cases fs o fs.length (Nat.le_refl _) with ⟨h1, h2⟩ | ⟨j, h1, h2, h3⟩
  · rw [List.take_length] at h2
    rw [h1, h2]
    exact ev_pos (by decide) (Ev.now _)
  · rw [List.take_length] at h3
    rw [h2, h3]
    refine ev_neg (by omega) (ev_bind (ev_May14 fs hi) ?_)
    cases hm : mayFs fs with
    | false => exact ev_neg (by simp) (Ev.now _)
    | true =>
      have hx : mayF (rd_T31 fs (j : Int)) = true := by
        rw [rd_lt fs j h1]; exact (mayFs_all hm).2 _ (List.getElem_mem h1)
      exact ev_pos rfl (ev_pos (by omega) (ev_pos (by omega) (Ev.now _)))
theorem ev_Compact_loop (fs : List (P.S31)) (hm : mayFs fs = true) : ∀ rest pre acc : List (P.S31), fs = pre ++ rest → acc.length ≤ pre.length →
    Ev (fun k => log_Compact.l0 k fs acc fs (fs.length : Int) (pre.length : Int)) (acc ++ keepS rest, 0) := by
  intro rest
  have g1 := (mayFs_all hm).1
  induction rest with
  | nil =>
    intro pre acc h ha
    refine Ev.step (fun k => by rw [log_Compact.l0]) (ev_neg (by rw [h]; simp) (ev_const ?_))
    simp [keepS]
  | cons x rest ih =>
    intro pre acc h ha
    have hlen : fs.length = pre.length + (rest.length + 1) := by rw [h]; simp
    have hr : rd_T31 fs (pre.length : Int) = x := by rw [h]; exact rdT_pre _ _ _
    have hw : wrap64 ((pre.length : Int) + 1) = ((pre ++ [x]).length : Int) := wrap_len pre x (by omega)
    have hx : mayF x = true := (mayFs_all hm).2 x (by rw [h]; simp)
    have hlast : log_last.f fs x.f0 = some (log_lastUpto fs x.f0 fs.length) := by unfold log_last.f; rw [if_pos (by omega)]
    have hat := lastUpto_at fs pre rest x h
    refine Ev.step (fun k => by rw [log_Compact.l0]) ?_
    simp only [hr, hw]
    refine ev_pos (by omega) (ev_pos (by omega) (ev_pos (by omega) (ev_bindc hlast ?_)))
    rw [keepS]
    cases hc : rest.any (fun y => decide (y.f0 = x.f0)) with
    | false =>
      rw [if_neg (by simp)]
      have ih2 := ih (pre ++ [x]) (acc ++ [x]) (by simp [h]) (by simp; omega)
      rw [List.append_assoc] at ih2
      exact ev_pos (hat.2 hc) (ev_pos (show acc.length < 3518437208883 by omega) ih2)
    | true =>
      rw [if_pos rfl]
      have ih2 := ih (pre ++ [x]) acc (by simp [h]) (by simp; omega)
      exact ev_neg (fun e => by have := hat.1 e; rw [hc] at this; cases this) ih2
def compF (fs : List (P.S31)) : List (P.S31) × Int := if mayFs fs = true then (keepS fs, 0) else ([], 1400)
theorem ev_Compact (fs : List (P.S31)) (hi : ∀ x ∈ fs, x.f2.size ≤ 4611686018427387904) : Ev (fun k => log_Compact.f k fs) (compF fs) := by
  refine Ev.congr (fun k => by rw [log_Compact.f]) (ev_bind (ev_May14 fs hi) ?_)
  unfold compF
  cases hm : mayFs fs with
  | false => exact ev_neg (by simp) (Ev.now _)
  | true => exact ev_pos rfl (ev_Compact_loop fs hm fs [] [] rfl (Nat.le_refl _))

end Go.Proofs.YtdaddlplpkmkmaaGreatDoor.Spec
