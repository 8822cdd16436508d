/- The law DiskRow without the program. -/
import Derived.Test.YtilnamobmjngbaaDoorLook12
import Derived.Test.YtilnamobmjngbaaDoorSameD
import Derived.Test.YtilnamobmjngbaaDoorP27
namespace Go.Proofs.YtilnamobmjngbaaDoor.Spec
open Go.RowKit Go.Proofs.YtilnamobmjngbaaDoorW.PrintWords Go.Proofs.YtilnamobmjngbaaDoor.P

def rwL (i : Nat) : List UInt8 := [102, UInt8.ofNat (97 + i)]
theorem rwL_may : ∀ i : Fin 16, isP (rwL i) = true := by decide +kernel
theorem rwL_lt : ∀ i j : Fin 16, i < j → rwL i < rwL j := by decide +kernel
theorem rw_is (i : Nat) : (drw_nm (i : Int)).data.toList = rwL i := by
  unfold drw_nm
  rw [show ∀ a b : ByteArray, (a ++ b).data.toList = a.data.toList ++ b.data.toList from fun a b => by simp, strOfNums_data]
  unfold rwL
  rw [List.map_cons, List.map_nil, show (97 + (i : Int)).toNat = 97 + i by omega]
  rfl
theorem rw_lt {i j : Nat} (hj : j < 16) (h : i < j) : (drw_nm (i : Int)).toList < (drw_nm (j : Int)).toList := by
  rw [toList_data, toList_data, rw_is, rw_is]
  exact rwL_lt ⟨i, by omega⟩ ⟨j, hj⟩ h
theorem rw_ne {i j : Nat} (hi : i < 16) (hj : j < 16) (h : i ≠ j) : (drw_nm (i : Int)).toList ≠ (drw_nm (j : Int)).toList := fun e => by
  rcases Nat.lt_or_gt_of_ne h with g | g
  · have := rw_lt hj g
    rw [e] at this
    exact List.lt_irrefl _ this
  · have := rw_lt hi g
    rw [e] at this
    exact List.lt_irrefl _ this
/-- two lists that rise by name and know the same files are one -/
theorem rise_ext : ∀ {l m : List (P.S72)}, (l.Pairwise fun a b => a.f0.toList < b.f0.toList) → (m.Pairwise fun a b => a.f0.toList < b.f0.toList) → (∀ x, x ∈ l ↔ x ∈ m) → l = m
  | [], [], _, _, _ => rfl
  | [], y :: ys, _, _, h => by have := (h y).2 (by simp); cases this
  | x :: xs, [], _, _, h => by have := (h x).1 (by simp); cases this
  | x :: xs, y :: ys, hl, hm, h => by
    have hl2 := List.pairwise_cons.1 hl
    have hm2 := List.pairwise_cons.1 hm
    have e : x = y := by
      rcases List.mem_cons.1 ((h x).1 (by simp)) with e | e
      · exact e
      · rcases List.mem_cons.1 ((h y).2 (by simp)) with e2 | e2
        · exact e2.symm
        · exact absurd (List.lt_trans (hm2.1 x e) (hl2.1 y e2)) (List.lt_irrefl _)
    subst e
    rw [rise_ext hl2.2 hm2.2 (fun z => ⟨fun hz => ?_, fun hz => ?_⟩)]
    · rcases List.mem_cons.1 ((h z).1 (by simp [hz])) with e | e
      · subst e; exact absurd (hl2.1 z hz) (List.lt_irrefl _)
      · exact e
    · rcases List.mem_cons.1 ((h z).2 (by simp [hz])) with e | e
      · subst e; exact absurd (hm2.1 z hz) (List.lt_irrefl _)
      · exact e
theorem look_self {x : P.S72} : ∀ {l : List (P.S72)}, (l.Pairwise fun a b => a.f0.toList < b.f0.toList) → x ∈ l → lookF x.f0 l = some x
  | y :: ys, hp, h => by
    have hp2 := List.pairwise_cons.1 hp
    rw [lookF]
    rcases List.mem_cons.1 h with e | e
    · rw [e, if_pos rfl]
    · have hlt := hp2.1 x e
      rw [if_neg (fun q => by rw [q] at hlt; exact List.lt_irrefl _ hlt), look_self hp2.2 e]
theorem insF_le (f : P.S72) : ∀ l : List (P.S72), (insF f l).length ≤ l.length + 1
  | [] => Nat.le_refl _
  | y :: ys => by
    have ih := insF_le f ys
    rw [insF]
    split
    · simp only [List.length_cons]; omega
    · split
      · simp only [List.length_cons]; omega
      · simp only [List.length_cons]; omega
theorem getD_set (l : List Int) (i j : Nat) (v : Int) (h : j < l.length) : (l.set i v).getD j 0 = if i = j then v else l.getD j 0 := by
  rw [List.getD_eq_getElem?_getD, List.getD_eq_getElem?_getD, List.getElem?_set]
  by_cases e : i = j
  · subst e
    rw [if_pos rfl, if_pos rfl, if_pos h]; rfl
  · rw [if_neg e, if_neg e]
structure Rw (i : Nat) (l : List (P.S72)) (la wh : List Int) : Prop where
  may : mayD (i : Int) l = true
  len : l.length ≤ i
  la16 : la.length = 16
  wh16 : wh.length = 16
  has : ∀ j : Nat, j < 16 → lookF (drw_nm (j : Int)) l = if 0 < la.getD j 0 then some ⟨drw_nm (j : Int), wh.getD j 0, la.getD j 0⟩ else none
  no : ∀ s : ByteArray, (∀ j : Nat, j < 16 → s.toList ≠ (drw_nm (j : Int)).toList) → lookF s l = none
theorem rw_step {i : Nat} {l : List (P.S72)} {la wh : List Int} (h : Rw i l la wh) (hi : i < 40) (kk : Nat) (hk : kk < 16) :
    putD (i : Int) l (drw_nm (kk : Int)) (i : Int) = ((i : Int) + 1, insF ⟨drw_nm (kk : Int), i, (i : Int) + 1⟩ l, 0) ∧ Rw (i + 1) (insF ⟨drw_nm (kk : Int), i, (i : Int) + 1⟩ l) (la.set kk ((i : Int) + 1)) (wh.set kk (i : Int)) := by
  have ho := mayD_ok h.may
  have hle := insF_le ⟨drw_nm (kk : Int), i, (i : Int) + 1⟩ l
  have hl := h.len
  have hp : isP (drw_nm (kk : Int)).data.toList = true := by rw [rw_is]; exact rwL_may ⟨kk, hk⟩
  have e1 : ((i + 1 : Nat) : Int) = (i : Int) + 1 := by omega
  refine ⟨?_, ?_, by omega, by rw [List.length_set]; exact h.la16, by rw [List.length_set]; exact h.wh16, fun j hj => ?_, fun s hs => ?_⟩
  · unfold putD
    rw [h.may, hp, decide_eq_true (show 0 ≤ (i : Int) ∧ (i : Int) ≤ 2147483647 by omega)]
    simp only [Bool.and_self, if_true]
    rw [if_neg (by omega)]
  · rw [e1]
    exact ok_mayD (ok_put ho hp (by omega) (by omega) (by omega))
  · rw [lookF_ins _ _ _ ho.rise, getD_set _ _ _ _ (by rw [h.la16]; exact hj), getD_set _ _ _ _ (by rw [h.wh16]; exact hj)]
    by_cases e : kk = j
    · subst e
      rw [if_pos rfl, if_pos rfl, if_pos rfl, if_pos (by omega)]
    · rw [if_neg (rw_ne hk hj e), if_neg e, if_neg e]
      exact h.has j hj
  · rw [lookF_ins _ _ _ ho.rise, if_neg (fun e => hs kk hk e.symm)]
    exact h.no s hs
theorem drw_k_lt (rows : List Int) (i : Nat) : drw_k rows i < 16 := by
  have hb := bits_low 4 (by omega) (rd rows (i : Int))
  unfold drw_k
  rw [show Go.bits .and .i64 (rd rows (i : Int)) 15 = rd rows (i : Int) % 16 from hb]
  omega
theorem ev_rw (rows : List Int) : ∀ (n i : Nat) (t : Int) (l : List (P.S72)) (la wh : List Int), i + n ≤ 40 → t = (i : Int) → Rw i l la wh → ∃ d la2 wh2, Rw (i + n) d la2 wh2 ∧ Ev (fun k => drw_go k rows n i t l la wh) (((i + n : Nat) : Int), d, la2, wh2)
  | 0, i, t, l, la, wh, h, ht, hR => ⟨l, la, wh, hR, by
    subst ht
    exact Ev.congr (fun k => by rw [drw_go]; rfl) (Ev.now _)⟩
  | n + 1, i, t, l, la, wh, h, ht, hR => by
    subst ht
    obtain ⟨g1, g2⟩ := rw_step hR (by omega) (drw_k rows i) (drw_k_lt rows i)
    obtain ⟨d, la2, wh2, hd, he⟩ := ev_rw rows n (i + 1) ((i : Int) + 1) _ _ _ (by omega) (by omega) g2
    rw [show i + 1 + n = i + (n + 1) by omega] at hd he
    refine ⟨d, la2, wh2, hd, ?_⟩
    have hl := hR.len
    have e1 := ev_Put12 (i : Int) l (drw_nm (drw_k rows i : Int)) (i : Int) (by omega) (by omega)
    rw [g1] at e1
    refine Ev.congr (fun k => by rw [drw_go]) (ev_bind e1 (ev_pos rfl he))
theorem mem_want (la wh : List Int) (x : P.S72) : ∀ j : Nat, x ∈ drw_want la wh j ↔ ∃ i : Nat, i < j ∧ 0 < la.getD i 0 ∧ x = ⟨drw_nm (i : Int), wh.getD i 0, la.getD i 0⟩
  | 0 => by
    rw [drw_want]
    constructor
    · intro h
      cases h
    · rintro ⟨i, h, _⟩
      omega
  | j + 1 => by
    have ih := mem_want la wh x j
    rw [drw_want]
    split
    · rename_i hp
      rw [List.mem_append, ih, List.mem_singleton]
      constructor
      · rintro (⟨i, h1, h2, h3⟩ | h)
        · exact ⟨i, by omega, h2, h3⟩
        · exact ⟨j, by omega, hp, h⟩
      · rintro ⟨i, h1, h2, h3⟩
        by_cases e : i = j
        · subst e; exact .inr h3
        · exact .inl ⟨i, by omega, h2, h3⟩
    · rename_i hp
      rw [ih]
      constructor
      · rintro ⟨i, h1, h2, h3⟩
        exact ⟨i, by omega, h2, h3⟩
      · rintro ⟨i, h1, h2, h3⟩
        by_cases e : i = j
        · subst e; exact absurd h2 hp
        · exact ⟨i, by omega, h2, h3⟩
theorem want_rise (la wh : List Int) : ∀ j, j ≤ 16 → (drw_want la wh j).Pairwise fun a b => a.f0.toList < b.f0.toList
  | 0, _ => by rw [drw_want]; exact List.Pairwise.nil
  | j + 1, h => by
    have ih := want_rise la wh j (by omega)
    rw [drw_want]
    split
    · refine List.pairwise_append.2 ⟨ih, List.pairwise_singleton _ _, fun a ha b hb => ?_⟩
      obtain ⟨i, h1, _, rfl⟩ := (mem_want la wh a j).1 ha
      obtain rfl := List.mem_singleton.1 hb
      exact rw_lt (by omega) h1
    · exact ih
theorem rw_want {i : Nat} {l : List (P.S72)} {la wh : List Int} (h : Rw i l la wh) : l = drw_want la wh 16 := by
  have ho := mayD_ok h.may
  refine rise_ext ho.rise (want_rise la wh 16 (Nat.le_refl _)) (fun x => ?_)
  rw [mem_want]
  constructor
  · intro hx
    have hs := look_self ho.rise hx
    by_cases e : ∀ j : Nat, j < 16 → x.f0.toList ≠ (drw_nm (j : Int)).toList
    · rw [h.no x.f0 e] at hs
      cases hs
    · obtain ⟨j, e⟩ := Classical.not_forall.1 e
      obtain ⟨hj, e⟩ := Classical.not_imp.1 e
      have e := toList_inj (Classical.not_not.1 e)
      rw [e, h.has j hj] at hs
      by_cases hp : 0 < la.getD j 0
      · rw [if_pos hp] at hs
        exact ⟨j, hj, hp, (Option.some.inj hs).symm⟩
      · rw [if_neg hp] at hs
        cases hs
  · rintro ⟨j, hj, hp, rfl⟩
    have := h.has j hj
    rw [if_pos hp] at this
    exact (lookF_mem this).1
theorem diskRow_true (a0 : List Int) {p : Prop} (_ : p) : ∃ k, cruciblelaw12_DiskRow.f k a0 = some true := by
  have h0 : Rw 0 [] (List.replicate 16 0) (List.replicate 16 0) := ⟨ok_mayD ⟨by omega, by omega, by simp, by simp, List.Pairwise.nil, List.Pairwise.nil⟩, Nat.le_refl _, rfl, rfl, fun j hj => by
    rw [if_neg]
    · rfl
    · rw [List.getD_eq_getElem?_getD, List.getElem?_replicate]
      split <;> simp, fun s _ => rfl⟩
  obtain ⟨d, la, wh, hd, he⟩ := ev_rw a0 (min a0.length 40) 0 0 [] _ _ (by omega) rfl h0
  rw [Nat.zero_add] at hd he
  have hl := hd.len
  have hm : min a0.length 40 ≤ 40 := Nat.min_le_right _ _
  have e1 := ev_SameFiles_refl d (by omega)
  have e2 := ev_May12 ((min a0.length 40 : Nat) : Int) d (by omega) (by omega)
  rw [hd.may] at e2
  have hw := rw_want hd
  refine Ev.rounds ?_
  unfold cruciblelaw12_DiskRow.f
  refine ev_bind he ?_
  simp only [← hw]
  exact evt_if (evt_and (evt_and (evt_is e1) (evt_is e2)) (evt_c trivial)) (Ev.now _)
end Go.Proofs.YtilnamobmjngbaaDoor.Spec
