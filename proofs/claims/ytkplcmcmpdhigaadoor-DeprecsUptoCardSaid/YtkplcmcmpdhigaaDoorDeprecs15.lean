/- Chapter 15: the law Deprecs without the program. -/
import Derived.Test.YtkplcmcmpdhigaaDoorRefD
import Derived.Test.YtkplcmcmpdhigaaDoorAw15
import Derived.Test.YtkplcmcmpdhigaaDoorP14
import Derived.Test.YtkplcmcmpdhigaaDoorP16
namespace Go.Proofs.YtkplcmcmpdhigaaDoor.Spec
open Go.RowKit Go.Proofs.YtkplcmcmpdhigaaDoorW.PrintWords Go.Proofs.YtkplcmcmpdhigaaDoorW.PrintMore Go.Proofs.YtkplcmcmpdhigaaDoor.P

def spoil (x : ByteArray) : ByteArray := (⟨#[126]⟩ : ByteArray) ++ x
theorem ev_Spoil_loop : ∀ (rest pre : List ByteArray), pre.length + rest.length ≤ 4611686018427387904 → (∀ x ∈ rest, x.size ≤ 4611686018427387904) → Ev (fun k => cruciblelaw0_SpoilTexts.l0 k (pre.map spoil ++ rest) (pre.length : Int)) ((pre ++ rest).map spoil)
  | [], pre, h, hs => Ev.step (fun k => by rw [cruciblelaw0_SpoilTexts.l0]) (ev_neg (by simp) (ev_const (by simp)))
  | x :: rest, pre, h, hs => by
    have hx := hs x (by simp)
    have hp : (pre.map spoil).length = pre.length := List.length_map _
    have hr : rdOf ByteArray.empty (pre.map spoil ++ x :: rest) (pre.length : Int) = x := by
      have := rdOf_pre ByteArray.empty (pre.map spoil) x rest
      rwa [hp] at this
    have hw : wrap64 ((pre.length : Int) + 1) = ((pre ++ [x]).length : Int) := wrap_len pre x (by omega)
    have hset : (pre.map spoil ++ x :: rest).set (pre.length : Int).toNat ((⟨#[126]⟩ : ByteArray) ++ x) = (pre ++ [x]).map spoil ++ rest := by
      rw [Int.toNat_natCast, ← hp]
      simp [spoil]
    have ih := ev_Spoil_loop rest (pre ++ [x]) (by rw [List.length_append, List.length_singleton]; rw [List.length_cons] at h; omega) (fun y hy => hs y (by simp [hy]))
    refine Ev.step (fun k => by rw [cruciblelaw0_SpoilTexts.l0]) ?_
    rw [hr, hset, hw]
    rw [List.append_assoc, List.singleton_append] at ih
    exact ev_pos (by rw [List.length_append, hp, List.length_cons]; omega) (ev_pos (by omega) (ev_pos (by omega) ih))
theorem ev_Spoil (l : List ByteArray) (h : l.length ≤ 4611686018427387904) (hs : ∀ x ∈ l, x.size ≤ 4611686018427387904) : Ev (fun k => cruciblelaw0_SpoilTexts.f k l) (l.map spoil) :=
  Ev.congr (fun k => by rw [cruciblelaw0_SpoilTexts.f]; rfl) (ev_Spoil_loop l [] (by simpa using h) hs)
theorem evt_and {p q : Nat → Prop} (hp : ∃ K, ∀ k, K ≤ k → p k) (hq : ∃ K, ∀ k, K ≤ k → q k) : ∃ K, ∀ k, K ≤ k → p k ∧ q k := by
  obtain ⟨K1, h1⟩ := hp
  obtain ⟨K2, h2⟩ := hq
  exact ⟨max K1 K2, fun k hk => ⟨h1 k (by omega), h2 k (by omega)⟩⟩
theorem evt_c {p : Prop} (h : p) : ∃ K : Nat, ∀ k, K ≤ k → p := ⟨0, fun _ _ => h⟩
theorem evt_if {α : Type} {g f : Nat → Option α} {r : α} {p : Nat → Prop} {inst : ∀ k, Decidable (p k)} (hp : ∃ K, ∀ k, K ≤ k → p k) (e : Ev g r) : Ev (fun k => if p k then g k else f k) r := by
  obtain ⟨K, hK⟩ := hp
  obtain ⟨K2, hK2⟩ := e
  exact ⟨max K K2, fun k hk => (if_pos (hK k (by omega))).trans (hK2 k (by omega))⟩
theorem evt_is {α : Type} {g : Nat → Option α} {r : α} (e : Ev g r) : ∃ K, ∀ k, K ≤ k → g k = some r := e
theorem getF_small (s : ByteArray) : (getF s).2.2.1.length ≤ 8 ∧ ∀ x ∈ (getF s).2.2.1, x.size ≤ 16 := by
  by_cases h : (getF s).2.2.2 = 0
  · obtain ⟨o, t, ins, e, hm, _⟩ := getF_ok h
    rw [e]
    have ha : allP ins 8 = true := by simp only [mayD, Bool.and_eq_true] at hm; exact hm.2
    refine ⟨(allP_all ha).2, fun x hx => ?_⟩
    have := isP_size ((allP_all ha).1 x hx)
    rwa [size_data] at this
  · rw [getF_no h]
    exact ⟨Nat.zero_le _, fun x hx => by cases hx⟩
theorem Deprecs (o : ByteArray) (t : Int) (ins : List ByteArray) (s : ByteArray)
    (hb : (o.size + 1) + 1 + ((ins.map fun s => s.size + 1).sum + 1) + (s.size + 1) ≤ 1048576)
    (_ : o.size ≤ maxLen) (_ : (Lit.int .i64 t).wf = true) (_ : ∀ x ∈ ins, x.size ≤ maxLen) (_ : s.size ≤ 140737488351232) : ∃ k, cruciblelaw15_Deprecs.f k o t ins s = some true := by
  have hl : ∀ l : List ByteArray, l.length ≤ (l.map fun s => s.size + 1).sum ∧ ∀ x ∈ l, x.size ≤ (l.map fun s => s.size + 1).sum := by
    intro l
    induction l with
    | nil => exact ⟨Nat.le_refl _, fun x hx => by cases hx⟩
    | cons y ys ih =>
      rw [List.map_cons, List.sum_cons, List.length_cons]
      refine ⟨by omega, fun x hx => ?_⟩
      rcases List.mem_cons.1 hx with rfl | hx
      · omega
      · have := ih.2 x hx; omega
  obtain ⟨hl1, hl2⟩ := hl ins
  have hz : ∀ x ∈ ins, x.size ≤ 4611686018427387904 := fun x hx => by have := hl2 x hx; omega
  obtain ⟨g1, g2⟩ := getF_small s
  have e1 := ev_Put o t ins (by omega)
  have e2 := ev_Get s
  have e3 := ev_Get (putF o t ins).1
  have e4 := ev_Put (getF s).1 (getF s).2.1 (getF s).2.2.1 (by omega)
  have e5 := ev_Spoil (getF s).2.2.1 (by omega) (fun x hx => by have := g2 x hx; omega)
  have e6 := ev_PutFound o t ins (by omega) (by omega) hz
  have e7 := ev_GetFound s (by omega)
  have e8 := ev_SameFound (getF s).1 (getF s).2.1 (getF s).2.2.1 (getF s).1 (getF s).2.1 (getF s).2.2.1 (by omega)
  rw [decide_eq_true (show (getF s).1 = (getF s).1 ∧ (getF s).2.1 = (getF s).2.1 ∧ (getF s).2.2.1 = (getF s).2.2.1 from ⟨rfl, rfl, rfl⟩)] at e8
  have e9 := ev_SameFound o t ins o t ins (by omega)
  rw [decide_eq_true (show o = o ∧ t = t ∧ ins = ins from ⟨rfl, rfl, rfl⟩)] at e9
  have p1 : (putF o t ins).2 = 0 → getF (putF o t ins).1 = (o, t, ins, 0) := by
    unfold putF
    split
    · rename_i hm; intro _; exact getF_found hm
    · intro h; exact absurd h (by decide)
  have p2 : (getF s).2.2.2 = 0 → putF (getF s).1 (getF s).2.1 (getF s).2.2.1 = (s, 0) := by
    intro h
    obtain ⟨o', t', ins', e, hm, hs⟩ := getF_ok h
    rw [e]
    show putF o' t' ins' = _
    unfold putF
    rw [if_pos hm, ← hs]
  refine Ev.rounds (Ev.congr (fun k => by rw [cruciblelaw15_Deprecs.f]) (ev_bind e1 (ev_bind e2 (ev_bind e3 (ev_bind e4 (ev_bind e5 ?_))))))
  exact evt_if (evt_and (evt_and (evt_is e6) (evt_and (evt_is e7) (evt_and ⟨3, fun _ h => h⟩ (evt_c (by omega))))) (evt_and (evt_and (evt_is e8) (evt_and (evt_is e9) (evt_is ev_awake15))) (evt_c ⟨p1, p2⟩))) (Ev.now _)
end Go.Proofs.YtkplcmcmpdhigaaDoor.Spec
