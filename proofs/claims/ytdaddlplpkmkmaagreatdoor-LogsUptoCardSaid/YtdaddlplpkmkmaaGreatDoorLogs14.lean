/- Chapter 14: the law Logs without the program: what the reference computes over logs. -/
import Derived.Test.YtdaddlplpkmkmaaGreatDoorMg2
import Derived.Test.YtdaddlplpkmkmaaGreatDoorLC14
import Derived.Test.YtdaddlplpkmkmaaGreatDoorP27
import Derived.Test.YtdaddlplpkmkmaaGreatDoorP15
import Derived.Test.YtdaddlplpkmkmaaGreatDoorP23
import Derived.Test.YtdaddlplpkmkmaaGreatDoorP18
import Derived.Test.YtdaddlplpkmkmaaGreatDoorP20
import Derived.Test.YtdaddlplpkmkmaaGreatDoorP24
namespace Go.Proofs.YtdaddlplpkmkmaaGreatDoor.Spec
open Go.RowKit Go.Proofs.YtdaddlplpkmkmaaGreatDoorW.PrintWords Go.Proofs.YtdaddlplpkmkmaaGreatDoorW.PrintMore Go.Proofs.YtdaddlplpkmkmaaGreatDoor.P

theorem evt_and {p q : Nat → Prop} (hp : ∃ K, ∀ k, K ≤ k → p k) (hq : ∃ K, ∀ k, K ≤ k → q k) : ∃ K, ∀ k, K ≤ k → p k ∧ q k := by
  obtain ⟨K1, h1⟩ := hp
  obtain ⟨K2, h2⟩ := hq
  exact ⟨max K1 K2, fun k hk => ⟨h1 k (by omega), h2 k (by omega)⟩⟩
theorem evt_c {p : Prop} (h : p) : ∃ K : Nat, ∀ k, K ≤ k → p := ⟨0, fun _ _ => h⟩
theorem evt_if {α : Type} {g f : Nat → Option α} {r : α} {p : Nat → Prop} {inst : ∀ k, Decidable (p k)} (hp : ∃ K, ∀ k, K ≤ k → p k) (e : Ev g r) : Ev (fun k => if p k then g k else f k) r := by
  obtain ⟨K, hK⟩ := hp
  obtain ⟨K2, hK2⟩ := e
  exact ⟨max K K2, fun k hk => (if_pos (hK k (by omega))).trans (hK2 k (by omega))⟩
theorem evt_is {α : Type} {g : Nat → Option α} {r : α} (e : Ev g r) : ∃ K, ∀ k, K ≤ k → g k = some r := e

/-! ### LogText -/
theorem ev_RText_loop (fs : List (P.S31)) (hm : mayFs fs = true) : ∀ rest pre : List (P.S31), fs = pre ++ rest →
    Ev (fun k => crucibleref12_LogText.l0 k fs (str (fsText pre)) (pre.length : Int)) (str (fsText fs), 0) := by
  obtain ⟨g1, g2⟩ := mayFs_all hm
  intro rest
  induction rest with
  | nil =>
    intro pre h
    rw [List.append_nil] at h
    exact Ev.step (fun k => by rw [crucibleref12_LogText.l0]) (ev_neg (by rw [h]; omega) (ev_const (by rw [h])))
  | cons x rest ih =>
    intro pre h
    have hl : fs.length = pre.length + (rest.length + 1) := by rw [h]; simp
    have hr : rd_T31 fs (pre.length : Int) = x := by rw [h]; exact rdT_pre _ _ _
    have hw : wrap64 ((pre.length : Int) + 1) = ((pre ++ [x]).length : Int) := wrap_len pre x (by omega)
    have hx : mayF x = true := g2 x (by rw [h]; simp)
    have hp : putR x.f0 x.f1 x.f2 = (str (txF x), 0) := by unfold putR; rw [if_pos (show mayR x.f0 x.f1 x.f2 = true from hx)]; rfl
    have h1 := (txF_len hx).2
    have h2 := fsText_len pre (fun g hg => g2 g (by rw [h]; simp [hg]))
    have z1 : (str (fsText pre)).size = (fsText pre).length := str_size _
    have z2 : (str (txF x)).size = (txF x).length := str_size _
    have e : str (fsText pre) ++ str (txF x) = str (fsText (pre ++ [x])) := by rw [str_append, fsText_app, fsText_cons, fsText_nil, List.append_nil]
    have ho := (mayR_is (show mayR x.f0 x.f1 x.f2 = true from hx)).os
    have hg := (mayR_is (show mayR x.f0 x.f1 x.f2 = true from hx)).gs
    refine Ev.step (fun k => by rw [crucibleref12_LogText.l0]) ?_
    simp only [hr, hw]
    refine ev_pos (by omega) (ev_pos (by omega) (ev_bind (ev_RPut x.f0 x.f1 x.f2 (by omega) (by omega)) ?_))
    rw [hp]
    refine ev_pos (show (str (fsText pre)).size + (str (txF x)).size ≤ 9223372036854775807 by omega) ?_
    rw [e]
    exact ih (pre ++ [x]) (by simp [h])
theorem ev_RText (fs : List (P.S31)) (hx : fs.length ≤ 4611686018427387904) (hs : ∀ x ∈ fs, SmallFd x) : Ev (fun k => crucibleref12_LogText.f k fs) (textF fs) := by
  refine Ev.congr (fun k => by rw [crucibleref12_LogText.f]) (ev_bind (ev_LogMay fs hx hs) ?_)
  unfold textF
  cases hm : mayFs fs with
  | false => exact ev_neg (by simp) (Ev.now _)
  | true => exact ev_pos rfl (ev_RText_loop fs hm fs [] rfl)

/-! ### LoadLog -/
theorem ev_RLoad_scan (s : List UInt8) (acc : List (P.S31)) (r : List (P.S31)) (hs : s.length ≤ 4611686018427387904) : ∀ rest pre : List UInt8, s = pre ++ rest →
    Ev (fun k => crucibleref12_LoadLog.j2 k (str s) acc ((pre.length + (cutAt 10 rest).1.length : Nat) : Int)) r → Ev (fun k => crucibleref12_LoadLog.l1 k (str s) acc (pre.length : Int)) r := by
  have hz : (str s).size = s.length := str_size s
  intro rest
  induction rest with
  | nil =>
    intro pre h e
    rw [List.append_nil] at h
    have e' : Ev (fun k => crucibleref12_LoadLog.j2 k (str s) acc (pre.length : Int)) r := e
    refine Ev.step (fun k => by rw [crucibleref12_LoadLog.l1]) ?_
    exact ev_neg (by rw [hz, h]; omega) e'
  | cons b rest ih =>
    intro pre h e
    have hl : s.length = pre.length + (rest.length + 1) := by rw [h]; simp
    have hb : bt (str s) (pre.length : Int) = (b.toNat : Int) := bt_pre (str s) pre b rest (by rw [str_data, h])
    have hw : wrap64 ((pre.length : Int) + 1) = ((pre ++ [b]).length : Int) := wrap_len pre b (by omega)
    refine Ev.step (fun k => by rw [crucibleref12_LoadLog.l1]) (ev_pos (by omega) (ev_pos (by omega) ?_))
    rw [hb, hw]
    by_cases h10 : b = 10
    · subst h10
      rw [cutAt, if_pos rfl] at e
      exact ev_pos rfl e
    · rw [cutAt, if_neg h10] at e
      refine ev_neg (fun e2 => h10 (UInt8.toNat_inj.1 (by have e3 : (b.toNat : Int) = ((10 : UInt8).toNat : Int) := e2; omega))) (ih (pre ++ [b]) (by simp [h]) ?_)
      rw [List.length_append, List.length_singleton, show pre.length + 1 + (cutAt 10 rest).1.length = pre.length + (b :: (cutAt 10 rest).1).length by rw [List.length_cons]; omega]
      exact e
theorem ev_RLoad_loop : ∀ (n : Nat) (s : List UInt8) (acc : List (P.S31)), acc.length + n = 256 → s.length ≤ 4611686018427387904 → Ev (fun k => crucibleref12_LoadLog.l0 k (str s) acc) (acc ++ loadD n s) := by
  intro n
  induction n with
  | zero =>
    intro s acc h hs
    exact Ev.step (fun k => by rw [crucibleref12_LoadLog.l0]) (ev_neg (by omega) (ev_const (by simp [loadD])))
  | succ n ih =>
    intro s acc h hs
    have hz : (str s).size = s.length := str_size s
    refine Ev.step (fun k => by rw [crucibleref12_LoadLog.l0]) (ev_pos (by omega) ?_)
    refine ev_RLoad_scan s acc _ hs s [] rfl ?_
    rw [List.length_nil, Nat.zero_add, loadD]
    by_cases hten : (10 : UInt8) ∈ s
    · obtain ⟨h1, h2, h3⟩ := cut_take 10 s hten
      have hw : wrap64 (((cutAt 10 s).1.length : Int) + 1) = (((cutAt 10 s).1.length + 1 : Nat) : Int) := wrap_nat (by omega)
      have hzl : (str (lineOf s)).size = (cutAt 10 s).1.length + 1 := by rw [str_size]; simp [lineOf]
      have hd : (cutAt 10 s).2.length ≤ s.length := (cutAt_len 10 s).2
      refine Ev.step (fun k => by rw [crucibleref12_LoadLog.j2]) (ev_neg (by omega) ?_)
      simp only [hw, Int.toNat_natCast, str_take, str_drop, h1, h2]
      refine ev_pos (by omega) (ev_pos (by omega) (ev_bind (ev_RGet (str (lineOf s)) (by omega)) ?_))
      by_cases hg : (getR (str (lineOf s))).2.2.2 = 0
      · rw [if_pos ⟨hten, hg⟩]
        have ih2 := ih (cutAt 10 s).2 (acc ++ [gF (lineOf s)]) (by simp; omega) (by omega)
        rw [List.append_assoc] at ih2
        exact ev_pos hg (ev_pos (show acc.length < 3518437208883 by omega) ih2)
      · rw [if_neg (fun hc => hg hc.2)]
        exact ev_neg hg (ev_const (by simp))
    · have e := cutAt_none 10 s hten
      rw [if_neg (fun hc => hten hc.1), e]
      exact Ev.step (fun k => by rw [crucibleref12_LoadLog.j2]) (ev_pos (by rw [hz]) (ev_const (by simp)))
theorem ev_RLoad (s : ByteArray) (hs : s.size ≤ 4611686018427387904) : Ev (fun k => crucibleref12_LoadLog.f k s) (loadD 256 s.data.toList) := by
  have := ev_RLoad_loop 256 s.data.toList [] rfl (by rw [size_data]; exact hs)
  rw [str_of] at this
  exact Ev.congr (fun k => by rw [crucibleref12_LoadLog.f]) this

/-! ### LastRecord -/
def lastU (fs : List (P.S31)) (o : ByteArray) : ByteArray × Int × ByteArray × Bool := match lastO fs o with
  | none => noF
  | some x => someF x
theorem ev_RLast_no (fs : List (P.S31)) (o : ByteArray) (i : Int) : Ev (fun k => crucibleref12_LastRecord.j1 k fs o i false) noF := by
  refine Ev.step (fun k => by rw [crucibleref12_LastRecord.j1]) ?_
  exact ev_neg (by simp) (Ev.now _)
theorem ev_RLast_loop (fs : List (P.S31)) (o : ByteArray) (hx : fs.length ≤ 4611686018427387904) (hs : ∀ x ∈ fs, SmallFd x) (hm : mayFs fs = true) : ∀ n : Nat, n ≤ fs.length →
    Ev (fun k => crucibleref12_LastRecord.l0 k fs o ((n : Int) - 1)) (lastU (fs.take n) o)
  | 0, _ => Ev.step (fun k => by rw [crucibleref12_LastRecord.l0]) (ev_neg (by omega) (ev_RLast_no fs o _))
  | n + 1, h => by
    have hn : n < fs.length := by omega
    have e : fs.take (n + 1) = fs.take n ++ [rd_T31 fs (n : Int)] := by rw [List.take_succ_eq_append_getElem hn, rd_lt fs n hn]
    have hw : wrap64 ((n : Int) - 1) = (n : Int) - 1 := wrap_id (by omega) (by omega)
    have ih := ev_RLast_loop fs o hx hs hm n (by omega)
    have hM := ev_LogMay fs hx hs
    rw [hm] at hM
    rw [show ((n + 1 : Nat) : Int) - 1 = (n : Int) by omega]
    refine Ev.step (fun k => by rw [crucibleref12_LastRecord.l0]) (ev_pos (by omega) (ev_bind hM ?_))
    refine Ev.step (fun k => by rw [crucibleref12_LastRecord.j1]) (ev_pos rfl (ev_pos (by omega) (ev_pos (by omega) ?_)))
    rw [hw, lastU, e, lastO_snoc]
    by_cases hc : (rd_T31 fs (n : Int)).f0 = o
    · rw [if_pos hc]
      exact ev_pos (by rw [hc]) (Ev.now _)
    · rw [if_neg hc]
      exact ev_neg (fun e2 => hc (data_inj (by rw [← toList_data, ← toList_data]; exact e2))) ih
theorem ev_RLast (fs : List (P.S31)) (o : ByteArray) (hx : fs.length ≤ 4611686018427387904) (hs : ∀ x ∈ fs, SmallFd x) : Ev (fun k => crucibleref12_LastRecord.f k fs o) (lastF fs o) := by
  have hw : wrap64 ((fs.length : Int) - 1) = (fs.length : Int) - 1 := wrap_id (by omega) (by omega)
  refine Ev.congr (fun k => by rw [crucibleref12_LastRecord.f, hw]) ?_
  cases hm : mayFs fs with
  | true =>
    have := ev_RLast_loop fs o hx hs hm fs.length (Nat.le_refl _)
    rw [List.take_length] at this
    have e : lastU fs o = lastF fs o := by
      unfold lastU lastF
      cases lastO fs o with
      | none => rfl
      | some x => simp only []; rw [if_pos hm]
    rwa [e] at this
  | false =>
    have e : lastF fs o = noF := by
      unfold lastF
      cases lastO fs o with
      | none => rfl
      | some y => simp only []; rw [if_neg (by simp [hm])]
    have hM := ev_LogMay fs hx hs
    rw [hm] at hM
    rw [e]
    by_cases h0 : (fs.length : Int) - 1 ≥ 0
    · exact Ev.step (fun k => by rw [crucibleref12_LastRecord.l0]) (ev_pos h0 (ev_bind hM (ev_RLast_no fs o _)))
    · exact Ev.step (fun k => by rw [crucibleref12_LastRecord.l0]) (ev_neg h0 (ev_RLast_no fs o _))

/-! ### CompactLog -/
theorem ev_RComp_inner (fs : List (P.S31)) (acc pre : List (P.S31)) (x : P.S31) (r : List (P.S31) × Int) (hx : fs.length ≤ 1000) (ha : acc.length ≤ 1000) (last : Bool)
    (hT : last = true → Ev (fun k => crucibleref12_CompactLog.l0 k fs (acc ++ [x]) ((pre.length + 1 : Nat) : Int)) r)
    (hF : last = false → Ev (fun k => crucibleref12_CompactLog.l0 k fs acc ((pre.length + 1 : Nat) : Int)) r) : ∀ (rest mid : List (P.S31)) (b : Bool), fs = pre ++ x :: (mid ++ rest) → last = (b && !(rest.any fun y => decide (y.f0 = x.f0))) →
    Ev (fun k => crucibleref12_CompactLog.l1 k fs acc (pre.length : Int) b ((pre.length + 1 + mid.length : Nat) : Int)) r := by
  intro rest
  induction rest with
  | nil =>
    intro mid b h hb
    have hl : fs.length = pre.length + (mid.length + 1) := by rw [h]; simp
    have hr : rd_T31 fs (pre.length : Int) = x := by rw [h]; exact rdT_pre _ _ _
    have hw : wrap64 ((pre.length : Int) + 1) = ((pre.length + 1 : Nat) : Int) := wrap_nat (by omega)
    rw [List.any_nil, Bool.not_false, Bool.and_true] at hb
    refine Ev.step (fun k => by rw [crucibleref12_CompactLog.l1]) (ev_neg (by omega) ?_)
    simp only [hr, hw]
    cases b with
    | true => exact ev_pos rfl (ev_pos (by omega) (ev_pos (by omega) (ev_pos (show acc.length < 3518437208883 by omega) (hT hb))))
    | false => exact ev_neg (by simp) (hF hb)
  | cons y rest ih =>
    intro mid b h hb
    have hl : fs.length = pre.length + (mid.length + (rest.length + 1) + 1) := by rw [h]; simp
    have hr : rd_T31 fs (pre.length : Int) = x := by rw [h]; exact rdT_pre _ _ _
    have hy : rd_T31 fs ((pre.length + 1 + mid.length : Nat) : Int) = y := by
      have := rdT_pre (pre ++ x :: mid) y rest
      rw [show (pre ++ x :: mid).length = pre.length + 1 + mid.length by simp; omega] at this
      rw [h, show pre ++ x :: (mid ++ y :: rest) = (pre ++ x :: mid) ++ y :: rest by simp]
      exact this
    have hw : wrap64 (((pre.length + 1 + mid.length : Nat) : Int) + 1) = ((pre.length + 1 + (mid ++ [y]).length : Nat) : Int) := by
      rw [wrap_id (by omega) (by omega)]; simp; omega
    refine Ev.step (fun k => by rw [crucibleref12_CompactLog.l1]) (ev_pos (by omega) ?_)
    simp only [hr, hy, hw]
    have hc : (y.f0.toList != x.f0.toList) = !decide (y.f0 = x.f0) := by
      by_cases e : y.f0 = x.f0
      · simp [e]
      · have : ¬ y.f0.toList = x.f0.toList := fun e2 => e (data_inj (by rw [← toList_data, ← toList_data]; exact e2))
        simp [e, this]
    cases b with
    | true =>
      refine ev_pos rfl (ev_pos (by omega) (ev_pos (by omega) (ev_pos (by omega) ?_)))
      refine ih (mid ++ [y]) _ (by simp [h]) ?_
      rw [hb, hc, List.any_cons]
      cases decide (y.f0 = x.f0) <;> simp
    | false =>
      refine ev_neg (by simp) (ih (mid ++ [y]) false (by simp [h]) ?_)
      rw [hb]
      simp
theorem ev_RComp_loop (fs : List (P.S31)) (hm : mayFs fs = true) : ∀ rest pre acc : List (P.S31), fs = pre ++ rest → acc.length ≤ pre.length →
    Ev (fun k => crucibleref12_CompactLog.l0 k fs acc (pre.length : Int)) (acc ++ keepS rest, 0) := by
  intro rest
  have g1 := (mayFs_all hm).1
  induction rest with
  | nil =>
    intro pre acc h ha
    rw [List.append_nil] at h
    exact Ev.step (fun k => by rw [crucibleref12_CompactLog.l0]) (ev_neg (by rw [h]; omega) (ev_const (by simp [keepS])))
  | cons x rest ih =>
    intro pre acc h ha
    have hl : fs.length = pre.length + (rest.length + 1) := by rw [h]; simp
    have hw : wrap64 ((pre.length : Int) + 1) = ((pre.length + 1 + ([] : List (P.S31)).length : Nat) : Int) := wrap_nat (by omega)
    have e1 := ih (pre ++ [x]) (acc ++ [x]) (by simp [h]) (by simp; omega)
    have e2 := ih (pre ++ [x]) acc (by simp [h]) (by simp; omega)
    rw [List.length_append, List.length_singleton] at e1 e2
    rw [List.append_assoc] at e1
    refine Ev.step (fun k => by rw [crucibleref12_CompactLog.l0]) (ev_pos (by omega) ?_)
    rw [hw, keepS]
    refine ev_RComp_inner fs acc pre x _ (by omega) (by omega) (!(rest.any fun y => decide (y.f0 = x.f0))) ?_ ?_ rest [] true (by simp [h]) (by simp)
    · intro hc
      rw [if_neg (by simpa using hc)]
      exact e1
    · intro hc
      rw [if_pos (by simpa using hc)]
      exact e2
theorem ev_RComp (fs : List (P.S31)) (hx : fs.length ≤ 4611686018427387904) (hs : ∀ x ∈ fs, SmallFd x) : Ev (fun k => crucibleref12_CompactLog.f k fs) (compF fs) := by
  refine Ev.congr (fun k => by rw [crucibleref12_CompactLog.f]) (ev_bind (ev_LogMay fs hx hs) ?_)
  unfold compF
  cases hm : mayFs fs with
  | false => exact ev_neg (by simp) (Ev.now _)
  | true => exact ev_pos rfl (ev_RComp_loop fs hm fs [] [] rfl (Nat.le_refl _))

/-! ### SpoilRecords -/
def spoilR (x : P.S31) : P.S31 := ⟨x.f0, Go.bits .xor .i64 x.f1 90, x.f2⟩
theorem ev_SpoilR_loop : ∀ (rest pre : List (P.S31)), pre.length + rest.length ≤ 4611686018427387904 → Ev (fun k => cruciblelaw0_SpoilRecords.l0 k (pre.map spoilR ++ rest) (pre.length : Int)) ((pre ++ rest).map spoilR)
  | [], pre, h => Ev.step (fun k => by rw [cruciblelaw0_SpoilRecords.l0]) (ev_neg (by simp) (ev_const (by simp)))
  | x :: rest, pre, h => by
    have hml : (pre.map spoilR).length = pre.length := List.length_map ..
    have hr : rd_T31 (pre.map spoilR ++ x :: rest) (pre.length : Int) = x := by have := rdT_pre (pre.map spoilR) x rest; rwa [hml] at this
    rw [List.length_cons] at h
    have hw : wrap64 ((pre.length : Int) + 1) = ((pre ++ [x]).length : Int) := wrap_len pre x (by omega)
    have ih := ev_SpoilR_loop rest (pre ++ [x]) (by rw [List.length_append, List.length_singleton]; omega)
    have hset : (pre.map spoilR ++ x :: rest).set pre.length (spoilR x) = (pre ++ [x]).map spoilR ++ rest := by
      rw [List.set_append_right _ _ (by rw [hml]; exact Nat.le_refl _), hml, Nat.sub_self, List.set_cons_zero, List.map_append, List.append_assoc]
      rfl
    refine Ev.step (fun k => by rw [cruciblelaw0_SpoilRecords.l0]) (ev_pos (by rw [List.length_append, hml, List.length_cons]; omega) (ev_pos (by omega) ?_))
    simp only [hr, hw, Int.toNat_natCast]
    rw [show (⟨x.f0, Go.bits .xor .i64 x.f1 90, x.f2⟩ : P.S31) = spoilR x from rfl, hset]
    rw [List.append_assoc] at ih
    exact ih
theorem ev_SpoilR (l : List (P.S31)) (h : l.length ≤ 4611686018427387904) : Ev (fun k => cruciblelaw0_SpoilRecords.f k l) (l.map spoilR) :=
  Ev.congr (fun k => by rw [cruciblelaw0_SpoilRecords.f]; rfl) (ev_SpoilR_loop l [] (by simpa using h))

/-! ### the law -/
theorem compF_len (fs : List (P.S31)) : (compF fs).1.length ≤ fs.length := by
  unfold compF
  split
  · have : ∀ l : List (P.S31), (keepS l).length ≤ l.length := by
      intro l
      induction l with
      | nil => exact Nat.le_refl _
      | cons x r ih => rw [keepS]; split <;> simp <;> omega
    exact this fs
  · exact Nat.zero_le _
theorem fd_len3 (fs : List (P.S31)) : 3 * fs.length ≤ (fs.map fun x : P.S31 => (x.f0.size + 1) + 1 + (x.f2.size + 1)).sum := by
  induction fs with
  | nil => simp
  | cons y ys ih => rw [List.map_cons, List.sum_cons, List.length_cons]; omega
theorem ev_SameR (l : List (P.S31)) (h : l.length ≤ 4611686018427387904) : Ev (fun k => cruciblelaw0_SameRecords.f k l l) true := by
  have := ev_SameRecords l l h
  rwa [show decide (l = l) = true from decide_eq_true rfl] at this
theorem Logs (fs : List (P.S31)) (s : ByteArray) (name : ByteArray)
    (hb : (fs.map fun x : P.S31 => (x.f0.size + 1) + 1 + (x.f2.size + 1)).sum + 1 + (s.size + 1) + (name.size + 1) ≤ 1048576)
    (_ : ∀ x ∈ fs, x.f0.size ≤ maxLen ∧ (Lit.int .i64 x.f1).wf = true ∧ x.f2.size ≤ maxLen) (_ : s.size ≤ 140737488351232) (_ : name.size ≤ 140737488351232) : ∃ k, cruciblelaw14_Logs.f k fs s name = some true := by
  have hsm := smallFd (fs := fs) (by omega)
  have hlen := fd_len fs
  have hi : ∀ x ∈ fs, x.f2.size ≤ 4611686018427387904 := fun x hx => (hsm x hx).many
  have hL := (load_is 256 s.data.toList).2.1
  have hC := compF_len fs
  have h3 := fd_len3 fs
  have h1 : fs.length ≤ 1000000 := by omega
  refine Ev.rounds (Ev.congr (fun k => by rw [cruciblelaw14_Logs.f]) (ev_bind (ev_Text14 fs hi) (ev_bind (ev_Load s (by omega)) (ev_bind (ev_Last14 fs name (by omega) hi) (ev_bind (ev_Compact fs hi) (ev_bind (ev_May14 fs hi) (ev_bind (ev_SpoilR (loadD 256 s.data.toList) (by omega)) (ev_bind (ev_SpoilR (compF fs).1 (by omega)) ?_))))))))
  exact evt_if (evt_and (evt_and (evt_is (ev_RText fs (by omega) hsm)) (evt_and (evt_is (ev_RLoad s (by omega))) (evt_and (evt_is (ev_RLast fs name (by omega) hsm)) (evt_and (evt_is (ev_RComp fs (by omega) hsm)) (evt_is (ev_LogMay fs (by omega) hsm))))))
    (evt_and (evt_is (ev_SameR _ (by omega))) (evt_and (evt_is (ev_SameR _ (by omega))) (evt_and (evt_is (ev_SameR fs (by omega))) (evt_c h1))))) (Ev.now _)
end Go.Proofs.YtdaddlplpkmkmaaGreatDoor.Spec
