/- Chapter 14: the law LogCompacts without the program. -/
import Derived.Test.YtdaddlplpkmkmaaGreatDoorMg2
import Derived.Test.YtdaddlplpkmkmaaGreatDoorP19
import Derived.Test.YtdaddlplpkmkmaaGreatDoorP20
import Derived.Test.YtdaddlplpkmkmaaGreatDoorP29
namespace Go.Proofs.YtdaddlplpkmkmaaGreatDoor.Spec
open Go.RowKit Go.Proofs.YtdaddlplpkmkmaaGreatDoorW.PrintWords Go.Proofs.YtdaddlplpkmkmaaGreatDoorW.PrintMore Go.Proofs.YtdaddlplpkmkmaaGreatDoor.P

def lastO : List (P.S31) → ByteArray → Option P.S31
  | [], _ => none
  | x :: r, o => match lastO r o with
    | some y => some y
    | none => if x.f0 = o then some x else none
def keepS : List (P.S31) → List (P.S31)
  | [] => []
  | x :: r => if r.any (fun y => decide (y.f0 = x.f0)) = true then keepS r else x :: keepS r
theorem lastO_snoc (x : P.S31) (o : ByteArray) : ∀ l : List (P.S31), lastO (l ++ [x]) o = if x.f0 = o then some x else lastO l o
  | [] => by simp [lastO]
  | y :: l => by
    rw [List.cons_append, lastO, lastO_snoc x o l, lastO]
    by_cases h : x.f0 = o
    · rw [if_pos h, if_pos h]
    · rw [if_neg h, if_neg h]
theorem rd_lt (fs : List (P.S31)) (j : Nat) (h : j < fs.length) : rd_T31 fs (j : Int) = fs[j] := by
  simp [rd_T31, List.getD_eq_getElem?_getD, List.getElem?_eq_getElem h]
theorem lastUpto_cases (fs : List (P.S31)) (o : ByteArray) : ∀ n, n ≤ fs.length → (log_lastUpto fs o n = -1 ∧ lastO (fs.take n) o = none) ∨ ∃ j, j < n ∧ log_lastUpto fs o n = (j : Int) ∧ lastO (fs.take n) o = some (rd_T31 fs (j : Int))
  | 0, _ => .inl ⟨rfl, rfl⟩
  | n + 1, h => by
    have hn : n < fs.length := by omega
    have e : fs.take (n + 1) = fs.take n ++ [rd_T31 fs (n : Int)] := by rw [List.take_succ_eq_append_getElem hn, rd_lt fs n hn]
    rw [log_lastUpto, e, lastO_snoc]
    by_cases hc : (rd_T31 fs (n : Int)).f0 = o
    · rw [if_pos hc, if_pos hc]
      exact .inr ⟨n, by omega, rfl, rfl⟩
    · rw [if_neg hc, if_neg hc]
      rcases lastUpto_cases fs o n (by omega) with ⟨h1, h2⟩ | ⟨j, h1, h2, h3⟩
      · exact .inl ⟨h1, h2⟩
      · exact .inr ⟨j, by omega, h2, h3⟩
theorem lastUpto_ge (fs : List (P.S31)) (o : ByteArray) (j : Nat) (hj : (rd_T31 fs (j : Int)).f0 = o) : ∀ n, j < n → (j : Int) ≤ log_lastUpto fs o n
  | 0, h => by omega
  | n + 1, h => by
    rw [log_lastUpto]
    by_cases hc : (rd_T31 fs (n : Int)).f0 = o
    · rw [if_pos hc]; omega
    · rw [if_neg hc]
      by_cases e : j = n
      · subst e; exact absurd hj hc
      · exact lastUpto_ge fs o j hj n (by omega)
theorem lastUpto_at (fs pre rest : List (P.S31)) (x : P.S31) (h : fs = pre ++ x :: rest) : log_lastUpto fs x.f0 fs.length = (pre.length : Int) ↔ rest.any (fun y => decide (y.f0 = x.f0)) = false := by
  have hl : fs.length = pre.length + (rest.length + 1) := by rw [h]; simp
  have hx : rd_T31 fs (pre.length : Int) = x := by rw [h]; exact rdT_pre _ _ _
  have hr : ∀ (j : Nat) (hj : j < rest.length), rd_T31 fs ((pre.length + 1 + j : Nat) : Int) = rest[j] := fun j hj => by
    have hlt : pre.length + 1 + j < fs.length := by omega
    rw [rd_lt fs _ hlt]
    simp [h, List.getElem_append_right, Nat.add_assoc, Nat.add_comm 1 j]
  constructor
  · intro he
    rw [List.any_eq_false]
    intro y hy hc
    obtain ⟨j, hj, rfl⟩ := List.getElem_of_mem hy
    have h1 := lastUpto_ge fs x.f0 (pre.length + 1 + j) (by rw [hr j hj]; exact of_decide_eq_true hc) fs.length (by omega)
    omega
  · intro ha
    have hne : ∀ i, i < rest.length → (rd_T31 fs ((fs.length - 1 - i : Nat) : Int)).f0 ≠ x.f0 := fun i hi => by
      have e : fs.length - 1 - i = pre.length + 1 + (rest.length - 1 - i) := by omega
      rw [e, hr _ (by omega)]
      have := List.any_eq_false.1 ha _ (List.getElem_mem (by omega : rest.length - 1 - i < rest.length))
      simpa using this
    rw [lastUpto_pre fs x.f0 fs.length rest.length (pre.length + 1) (by omega) hne, log_lastUpto, if_pos (by rw [hx])]
def noF : ByteArray × Int × ByteArray × Bool := (str [], 0, str [], false)
def someF (x : P.S31) : ByteArray × Int × ByteArray × Bool := (x.f0, x.f1, x.f2, true)
def lastF (fs : List (P.S31)) (o : ByteArray) : ByteArray × Int × ByteArray × Bool :=
  match lastO fs o with
  | none => noF
  | some x => if mayFs fs = true then someF x else noF
theorem ev_Last14 (fs : List (P.S31)) (o : ByteArray) (hl : fs.length ≤ 4294967296) (hi : ∀ x ∈ fs, x.f2.size ≤ 4611686018427387904) : Ev (fun k => log_Last.f k fs o) (lastF fs o) := by
  have hlast : log_last.f fs o = some (log_lastUpto fs o fs.length) := by unfold log_last.f; rw [if_pos hl]
  refine Ev.congr (fun k => by rw [log_Last.f]) (ev_bindc hlast ?_)
  unfold lastF
  rcases lastUpto_cases fs o fs.length (Nat.le_refl _) with ⟨h1, h2⟩ | ⟨j, h1, h2, h3⟩
  · rw [List.take_length] at h2
    rw [h1, h2]
    exact ev_pos (by decide) (Ev.now _)
  · rw [List.take_length] at h3
    rw [h2, h3]
    refine ev_neg (by omega) (ev_bind (ev_May14 fs hi) ?_)
    cases hm : mayFs fs with
    | false => exact ev_neg (by simp) (Ev.now _)
    | true =>
      have hx : mayF (rd_T31 fs (j : Int)) = true := by
        rw [rd_lt fs j h1]; exact (mayFs_all hm).2 _ (List.getElem_mem h1)
      exact ev_pos rfl (ev_pos (by omega) (ev_pos (by omega) (Ev.now _)))
theorem ev_Compact_loop (fs : List (P.S31)) (hm : mayFs fs = true) : ∀ rest pre acc : List (P.S31), fs = pre ++ rest → acc.length ≤ pre.length →
    Ev (fun k => log_Compact.l0 k fs acc fs (fs.length : Int) (pre.length : Int)) (acc ++ keepS rest, 0) := by
  intro rest
  have g1 := (mayFs_all hm).1
  induction rest with
  | nil =>
    intro pre acc h ha
    refine Ev.step (fun k => by rw [log_Compact.l0]) (ev_neg (by rw [h]; simp) (ev_const ?_))
    simp [keepS]
  | cons x rest ih =>
    intro pre acc h ha
    have hlen : fs.length = pre.length + (rest.length + 1) := by rw [h]; simp
    have hr : rd_T31 fs (pre.length : Int) = x := by rw [h]; exact rdT_pre _ _ _
    have hw : wrap64 ((pre.length : Int) + 1) = ((pre ++ [x]).length : Int) := wrap_len pre x (by omega)
    have hx : mayF x = true := (mayFs_all hm).2 x (by rw [h]; simp)
    have hlast : log_last.f fs x.f0 = some (log_lastUpto fs x.f0 fs.length) := by unfold log_last.f; rw [if_pos (by omega)]
    have hat := lastUpto_at fs pre rest x h
    refine Ev.step (fun k => by rw [log_Compact.l0]) ?_
    simp only [hr, hw]
    refine ev_pos (by omega) (ev_pos (by omega) (ev_pos (by omega) (ev_bindc hlast ?_)))
    rw [keepS]
    cases hc : rest.any (fun y => decide (y.f0 = x.f0)) with
    | false =>
      rw [if_neg (by simp)]
      have ih2 := ih (pre ++ [x]) (acc ++ [x]) (by simp [h]) (by simp; omega)
      rw [List.append_assoc] at ih2
      exact ev_pos (hat.2 hc) (ev_pos (show acc.length < 3518437208883 by omega) ih2)
    | true =>
      rw [if_pos rfl]
      have ih2 := ih (pre ++ [x]) acc (by simp [h]) (by simp; omega)
      exact ev_neg (fun e => by have := hat.1 e; rw [hc] at this; cases this) ih2
def compF (fs : List (P.S31)) : List (P.S31) × Int := if mayFs fs = true then (keepS fs, 0) else ([], 1400)
theorem ev_Compact (fs : List (P.S31)) (hi : ∀ x ∈ fs, x.f2.size ≤ 4611686018427387904) : Ev (fun k => log_Compact.f k fs) (compF fs) := by
  refine Ev.congr (fun k => by rw [log_Compact.f]) (ev_bind (ev_May14 fs hi) ?_)
  unfold compF
  cases hm : mayFs fs with
  | false => exact ev_neg (by simp) (Ev.now _)
  | true => exact ev_pos rfl (ev_Compact_loop fs hm fs [] [] rfl (Nat.le_refl _))

/-! ### Compacted -/
theorem keepS_mem : ∀ (l : List (P.S31)) (y : P.S31), y ∈ keepS l → y ∈ l
  | [], y, h => by simp [keepS] at h
  | x :: r, y, h => by
    rw [keepS] at h
    split at h
    · exact List.mem_cons_of_mem _ (keepS_mem r y h)
    · rcases List.mem_cons.1 h with rfl | h
      · exact List.mem_cons_self
      · exact List.mem_cons_of_mem _ (keepS_mem r y h)
theorem keepS_len : ∀ l : List (P.S31), (keepS l).length ≤ l.length
  | [] => Nat.le_refl _
  | x :: r => by
    rw [keepS]
    have := keepS_len r
    split <;> simp <;> omega
theorem lastO_keep (o : ByteArray) : ∀ l : List (P.S31), lastO (keepS l) o = lastO l o
  | [] => rfl
  | x :: r => by
    rw [keepS, lastO]
    split
    · rename_i h
      rw [lastO_keep o r]
      cases hr : lastO r o with
      | some y => rfl
      | none =>
        by_cases hx : x.f0 = o
        · exfalso
          obtain ⟨y, hy, hc⟩ := List.any_eq_true.1 h
          have hyo : y.f0 = o := (of_decide_eq_true hc).trans hx
          have : ∀ (l : List (P.S31)), y ∈ l → lastO l o ≠ none := by
            intro l
            induction l with
            | nil => intro h; cases h
            | cons z l ih =>
              intro h
              rw [lastO]
              rcases List.mem_cons.1 h with rfl | h
              · cases lastO l o with
                | some _ => simp
                | none => simp [hyo]
              · cases hl : lastO l o with
                | some _ => simp
                | none => exact absurd hl (ih h)
          exact this r hy hr
        · simp [hx]
    · rw [lastO, lastO_keep o r]
theorem lastO_none {o : ByteArray} : ∀ {l : List (P.S31)}, (∀ y ∈ l, y.f0 ≠ o) → lastO l o = none
  | [], _ => rfl
  | x :: r, h => by
    rw [lastO, lastO_none (fun y hy => h y (by simp [hy]))]
    simp [h x (by simp)]
theorem keepS_any : ∀ (l : List (P.S31)) (o : ByteArray), (keepS l).any (fun y => decide (y.f0 = o)) = true → l.any (fun y => decide (y.f0 = o)) = true := fun l o h => by
  obtain ⟨y, hy, hc⟩ := List.any_eq_true.1 h
  exact List.any_eq_true.2 ⟨y, keepS_mem l y hy, hc⟩
theorem keepS_keep : ∀ l : List (P.S31), keepS (keepS l) = keepS l
  | [] => rfl
  | x :: r => by
    rw [keepS]
    split
    · exact keepS_keep r
    · rename_i h
      rw [keepS, if_neg (fun hc => h (keepS_any r x.f0 hc)), keepS_keep r]
/-- unlike outputs; each its last one -/
theorem keepS_unlike : ∀ (l : List (P.S31)) (pre rest : List (P.S31)) (x : P.S31), keepS l = pre ++ x :: rest → (∀ y ∈ pre, y.f0 ≠ x.f0) ∧ lastO l x.f0 = some x
  | [], pre, rest, x, h => by simp [keepS] at h
  | z :: r, pre, rest, x, h => by
    rw [keepS] at h
    split at h
    · rename_i hz
      obtain ⟨h1, h2⟩ := keepS_unlike r pre rest x h
      exact ⟨h1, by rw [lastO, h2]⟩
    · rename_i hz
      cases pre with
      | nil =>
        obtain ⟨rfl, -⟩ := List.cons.inj h
        refine ⟨(by simp), ?_⟩
        rw [lastO, lastO_none (fun y hy hc => hz (List.any_eq_true.2 ⟨y, hy, decide_eq_true hc⟩))]
        simp
      | cons p pre =>
        obtain ⟨rfl, h2⟩ := List.cons.inj h
        obtain ⟨h3, h4⟩ := keepS_unlike r pre rest x h2
        refine ⟨fun y hy => ?_, by rw [lastO, h4]⟩
        rcases List.mem_cons.1 hy with rfl | hy
        · intro hc
          exact hz (List.any_eq_true.2 ⟨x, keepS_mem r x (by rw [h2]; simp), decide_eq_true hc.symm⟩)
        · exact h3 y hy
theorem may_keep {fs : List (P.S31)} (h : mayFs fs = true) : mayFs (keepS fs) = true := by
  obtain ⟨h1, h2⟩ := mayFs_all h
  exact mayFs_of (by have := keepS_len fs; omega) (fun f hf => h2 f (keepS_mem fs f hf))
theorem lastF_keep {fs : List (P.S31)} (h : mayFs fs = true) (o : ByteArray) : lastF (keepS fs) o = lastF fs o := by
  rw [lastF, lastF, lastO_keep, h, may_keep h]
theorem may_fd {fs : List (P.S31)} (h : mayFs fs = true) : ∀ x ∈ fs, x.f2.size ≤ 4611686018427387904 := fun x hx => by
  have := may_small ((mayFs_all h).2 x hx)
  omega
theorem ev_Compacts_inner (fs a : List (P.S31)) (name : ByteArray) (hm : mayFs fs = true) (ha : a = keepS fs) (pre rest : List (P.S31)) (x : P.S31) (h : a = pre ++ x :: rest) (hn : Ev (fun k => cruciblelaw14_LogCompacts.l0 k fs name a ((pre.length + 1 : Nat) : Int)) true) :
    ∀ (r2 p2 : List (P.S31)), pre = p2 ++ r2 → Ev (fun k => cruciblelaw14_LogCompacts.l1 k fs name a (pre.length : Int) (p2.length : Int)) true := by
  have hlen : a.length = pre.length + (rest.length + 1) := by rw [h]; simp
  have hal : a.length ≤ 256 := by
    have := keepS_len fs
    have := (mayFs_all hm).1
    rw [ha]; omega
  have hx : rd_T31 a (pre.length : Int) = x := by rw [h]; exact rdT_pre _ _ _
  obtain ⟨u1, u2⟩ := keepS_unlike fs pre rest x (by rw [← ha, h])
  intro r2
  induction r2 with
  | nil =>
    intro p2 h2
    rw [List.append_nil] at h2
    subst h2
    have hw : wrap64 ((pre.length : Int) + 1) = ((pre.length + 1 : Nat) : Int) := wrap_nat (by omega)
    have hL := ev_Last14 fs x.f0 (by have := (mayFs_all hm).1; omega) (may_fd hm)
    have hLF : lastF fs x.f0 = someF x := by rw [lastF, u2]; simp [hm]
    rw [hLF] at hL
    refine Ev.step (fun k => by rw [cruciblelaw14_LogCompacts.l1]) (ev_neg (by omega) ?_)
    simp only [hx, hw]
    refine ev_pos (by omega) (ev_pos (by omega) (ev_bind hL (ev_pos rfl (ev_neg (by simp [someF]) hn))))
  | cons y r2 ih =>
    intro p2 h2
    have hl2 : pre.length = p2.length + (r2.length + 1) := by rw [h2]; simp
    have hy : rd_T31 a (p2.length : Int) = y := by rw [h, h2]; simpa using rdT_pre p2 y (r2 ++ x :: rest)
    have hw : wrap64 ((p2.length : Int) + 1) = ((p2 ++ [y]).length : Int) := wrap_len p2 y (by omega)
    have hne : ¬ y.f0.toList = x.f0.toList := fun e => u1 y (by rw [h2]; simp) (data_inj (by rw [← toList_data, ← toList_data]; exact e))
    refine Ev.step (fun k => by rw [cruciblelaw14_LogCompacts.l1]) (ev_pos (by omega) ?_)
    simp only [hx, hy, hw]
    exact ev_pos (by omega) (ev_pos (by omega) (ev_pos (by omega) (ev_pos (by omega) (ev_neg hne (ih (p2 ++ [y]) (by simp [h2]))))))
theorem ev_Compacts_loop (fs a : List (P.S31)) (name : ByteArray) (hm : mayFs fs = true) (ha : a = keepS fs) : ∀ rest pre : List (P.S31), a = pre ++ rest → Ev (fun k => cruciblelaw14_LogCompacts.l0 k fs name a (pre.length : Int)) true := by
  have hal : a.length ≤ 256 := by
    have := keepS_len fs
    have := (mayFs_all hm).1
    rw [ha]; omega
  intro rest
  induction rest with
  | nil =>
    intro pre h
    rw [List.append_nil] at h
    have hma : mayFs a = true := by rw [ha]; exact may_keep hm
    have e1 : lastF a name = lastF fs name := by rw [ha]; exact lastF_keep hm name
    have e2 : compF a = (a, 0) := by unfold compF; rw [if_pos hma, ha, keepS_keep]
    have hL := ev_Last14 a name (by omega) (may_fd hma)
    have hC := ev_Compact a (may_fd hma)
    rw [e1] at hL
    rw [e2] at hC
    refine Ev.step (fun k => by rw [cruciblelaw14_LogCompacts.l0]) (ev_neg (by rw [h]; omega) ?_)
    refine ev_bind (ev_Last14 fs name (by have := (mayFs_all hm).1; omega) (may_fd hm)) (ev_bind hL (ev_bind hC ?_))
    exact ev_pos (by simp) (ev_pos (by simp) (ev_bindc rfl (ev_pos rfl (ev_bind (ev_SameRecords a a (by omega)) (ev_const (by simp))))))
  | cons x rest ih =>
    intro pre h
    have hlen : a.length = pre.length + (rest.length + 1) := by rw [h]; simp
    have hn := ih (pre ++ [x]) (by simp [h])
    rw [List.length_append, List.length_singleton] at hn
    refine Ev.step (fun k => by rw [cruciblelaw14_LogCompacts.l0]) (ev_pos (by omega) ?_)
    exact ev_Compacts_inner fs a name hm ha pre rest x h hn pre [] rfl
theorem LogCompacts (fs : List (P.S31)) (name : ByteArray)
    (hb : (fs.map fun x : P.S31 => (x.f0.size + 1) + 1 + (x.f2.size + 1)).sum + 1 + (name.size + 1) ≤ 1048576)
    (_ : ∀ x ∈ fs, x.f0.size ≤ maxLen ∧ (Lit.int .i64 x.f1).wf = true ∧ x.f2.size ≤ maxLen) (_ : name.size ≤ 140737488351232) : ∃ k, cruciblelaw14_LogCompacts.f k fs name = some true := by
  have hsm := smallFd (fs := fs) (by omega)
  have hlen := fd_len fs
  have hi : ∀ x ∈ fs, x.f2.size ≤ 4611686018427387904 := fun x hx => (hsm x hx).many
  refine Ev.rounds (Ev.congr (fun k => by rw [cruciblelaw14_LogCompacts.f]) (ev_bindc (show cruciblelaw14_awake.f = some true from rfl) (ev_pos rfl (ev_bind (ev_Compact fs hi) ?_))))
  unfold compF
  cases hm : mayFs fs with
  | false =>
    rw [if_neg (by simp)]
    refine ev_bindc rfl (ev_neg (by decide) (ev_pos (by simp) (ev_bind (ev_LogMay fs (by omega) hsm) ?_)))
    rw [hm]
    exact Ev.now _
  | true =>
    rw [if_pos rfl]
    exact ev_bindc rfl (ev_pos rfl (ev_Compacts_loop fs (keepS fs) name hm rfl (keepS fs) [] rfl))
end Go.Proofs.YtdaddlplpkmkmaaGreatDoor.Spec
