/- Chapter 12 in plain lists: the reference's put and remove, the spoiled list, and the law Disks. -/
import Derived.Test.YtilnamobmjngbaaDoorSameD
import Derived.Test.YtilnamobmjngbaaDoorRefP
import Derived.Test.YtilnamobmjngbaaDoorP23
import Derived.Test.YtilnamobmjngbaaDoorP8
import Derived.Test.YtilnamobmjngbaaDoorP20
import Derived.Test.YtilnamobmjngbaaDoorP19
import Derived.Test.YtilnamobmjngbaaDoorP6
import Derived.Test.YtilnamobmjngbaaDoorP21
namespace Go.Proofs.YtilnamobmjngbaaDoor.Spec
open Go.RowKit Go.Proofs.YtilnamobmjngbaaDoorW.PrintWords Go.Proofs.YtilnamobmjngbaaDoor.P

theorem upTo31_is (x : Int) : crucibleref12_upTo.f x 0 2147483647 = some (decide (0 ≤ x ∧ x ≤ 2147483647)) := by
  unfold crucibleref12_upTo.f
  by_cases h : 0 ≤ x
  · rw [if_pos h]; simp [h]
  · rw [if_neg h]; simp [h]
theorem delF_self {s : ByteArray} {l : List (P.S72)} (h : ∀ y ∈ l, y.f0.toList ≠ s.toList) : delF s l = l :=
  List.filter_eq_self.2 fun y hy => decide_eq_true (h y hy)
def finF (c : Int) (out : List (P.S72)) : Int × List (P.S72) × Int := if c > 1048576 then (0, [], 1201) else if (out.length : Int) > 64 then (0, [], 1201) else (c, out, 0)
theorem ev_finF {c : Int} {out : List (P.S72)} : Ev (fun _ => if c > 1048576 then some ((0, [], 1201) : Int × List (P.S72) × Int) else if (out.length : Int) > 64 then some (0, [], 1201) else some (c, out, 0)) (finF c out) := by
  refine ev_const ?_
  unfold finF
  by_cases h1 : c > 1048576
  · rw [if_pos h1, if_pos h1]
  · rw [if_neg h1, if_neg h1]
    by_cases h2 : (out.length : Int) > 64
    · rw [if_pos h2, if_pos h2]
    · rw [if_neg h2, if_neg h2]
theorem ev_pf_in (clk c : Int) (l : List (P.S72)) (s : ByteArray) (x : Int) (hl : l.length ≤ 1000000) : ∀ rest pre out : List (P.S72), l = pre ++ rest → out.length ≤ pre.length + 1 →
    Ev (fun k => crucibleref12_PutFile.l0 k s true (pre.length : Int) clk l s x c c out) (finF c (out ++ delF s rest)) := by
  intro rest
  induction rest with
  | nil =>
    intro pre out h ho
    refine Ev.step (fun k => by rw [crucibleref12_PutFile.l0]) (ev_neg (by rw [h]; simp) (ev_pos rfl ?_))
    exact ev_eq ev_finF (by rw [delF, List.filter_nil, List.append_nil])
  | cons y rest ih =>
    intro pre out h ho
    have hlen : l.length = pre.length + (rest.length + 1) := by rw [h]; simp
    have hr : rd_T72 l (pre.length : Int) = y := by rw [rdF_lt l _ (by omega)]; simp [h]
    have hw : wrap64 ((pre.length : Int) + 1) = ((pre ++ [y]).length : Int) := wrap_len pre y (by omega)
    have hp1 : (pre ++ [y]).length = pre.length + 1 := by simp
    refine Ev.step (fun k => by rw [crucibleref12_PutFile.l0]) (ev_pos (by omega) (ev_pos rfl ?_))
    refine Ev.step (fun k => by rw [crucibleref12_PutFile.j2]) (ev_neg (by simp) (ev_pos (by omega) (ev_pos (by omega) ?_)))
    simp only [hr, hw]
    by_cases e : y.f0.toList = s.toList
    · refine ev_pos e ?_
      refine ev_eq (ih (pre ++ [y]) out (by simp [h]) (by omega)) ?_
      rw [delF, delF, List.filter_cons_of_neg (by simp [e])]
    · refine ev_neg e (ev_pos (by omega) ?_)
      refine ev_eq (ih (pre ++ [y]) (out ++ [y]) (by simp [h]) (by simp; omega)) ?_
      rw [delF, delF, List.filter_cons_of_pos (by simp [e]), List.append_assoc, List.singleton_append]
theorem ev_pf_out (clk c : Int) (l : List (P.S72)) (s : ByteArray) (x : Int) (hl : l.length ≤ 1000000) : ∀ rest pre out : List (P.S72), l = pre ++ rest → out.length ≤ pre.length → (rest.Pairwise fun a b => a.f0.toList < b.f0.toList) →
    Ev (fun k => crucibleref12_PutFile.l0 k s false (pre.length : Int) clk l s x c c out) (finF c (out ++ insF ⟨s, x, c⟩ rest)) := by
  intro rest
  induction rest with
  | nil =>
    intro pre out h ho _
    have hlen : l.length = pre.length := by rw [h]; simp
    refine Ev.step (fun k => by rw [crucibleref12_PutFile.l0]) (ev_neg (by rw [h]; simp) (ev_neg (by simp) (ev_pos (by omega) (ev_bindc rfl ?_))))
    exact ev_finF
  | cons y rest ih =>
    intro pre out h ho hp
    have hp2 := List.pairwise_cons.1 hp
    have hlen : l.length = pre.length + (rest.length + 1) := by rw [h]; simp
    have hr : rd_T72 l (pre.length : Int) = y := by rw [rdF_lt l _ (by omega)]; simp [h]
    have hw : wrap64 ((pre.length : Int) + 1) = ((pre ++ [y]).length : Int) := wrap_len pre y (by omega)
    have hp1 : (pre ++ [y]).length = pre.length + 1 := by simp
    have ho1 : (out ++ [(⟨s, x, c⟩ : P.S72)]).length = out.length + 1 := by simp
    refine Ev.step (fun k => by rw [crucibleref12_PutFile.l0]) (ev_pos (by omega) (ev_neg (by simp) (ev_pos (by omega) ?_)))
    simp only [hr]
    cases hb : Op.bytesLess y.f0.toList s.toList with
    | true =>
      have hne : y.f0.toList ≠ s.toList := fun e => by
        rw [P.less_is, e, decide_eq_false (List.lt_irrefl _)] at hb
        exact absurd hb (by decide)
      refine Ev.step (fun k => by rw [crucibleref12_PutFile.j2]) (ev_neg (by simp) (ev_pos (by omega) (ev_pos (by omega) ?_)))
      simp only [hr, hw]
      refine ev_neg hne (ev_pos (by omega) ?_)
      refine ev_eq (ih (pre ++ [y]) (out ++ [y]) (by simp [h]) (by simp; omega) hp2.2) ?_
      rw [insF, if_pos (show Op.bytesLess y.f0.toList (⟨s, x, c⟩ : P.S72).f0.toList = true from hb), List.append_assoc, List.singleton_append]
    | false =>
      have hrest : ∀ z ∈ rest, z.f0.toList ≠ s.toList := fun z hz e => by
        have h1 := hp2.1 z hz
        rw [e] at h1
        rw [P.less_is, decide_eq_true h1] at hb
        exact absurd hb (by decide)
      refine Ev.step (fun k => by rw [crucibleref12_PutFile.j2]) ?_
      refine ev_pos rfl (ev_pos (by omega) (ev_bindc rfl (ev_pos (by omega) (ev_pos (by omega) ?_))))
      simp only [hr, hw]
      by_cases e : y.f0.toList = s.toList
      · refine ev_pos e ?_
        refine ev_eq (ev_pf_in clk c l s x hl rest (pre ++ [y]) _ (by simp [h]) (by omega)) ?_
        rw [delF_self hrest, insF, if_neg (show ¬ Op.bytesLess y.f0.toList (⟨s, x, c⟩ : P.S72).f0.toList = true by rw [hb]; simp), if_pos e, List.append_assoc, List.singleton_append]
      · refine ev_neg e (ev_pos (by omega) ?_)
        refine ev_eq (ev_pf_in clk c l s x hl rest (pre ++ [y]) (out ++ [⟨s, x, c⟩] ++ [y]) (by simp [h]) (by rw [List.length_append, ho1, hp1, List.length_singleton]; omega)) ?_
        rw [delF_self hrest, insF, if_neg (show ¬ Op.bytesLess y.f0.toList (⟨s, x, c⟩ : P.S72).f0.toList = true by rw [hb]; simp), if_neg e]
        simp
theorem ev_PutFile (clk : Int) (l : List (P.S72)) (s : ByteArray) (x : Int) (hl : l.length ≤ 1000000) (hs : ∀ x ∈ l, x.f0.size ≤ 4611686018427387904) (hz : s.size ≤ 4611686018427387904) : Ev (fun k => crucibleref12_PutFile.f k clk l s x) (putD clk l s x) := by
  have bad : Ev (fun k => crucibleref12_PutFile.j0 k s x true clk l) (0, [], 1200) := Ev.step (fun k => by rw [crucibleref12_PutFile.j0]) (ev_pos rfl (Ev.now _))
  refine Ev.congr (fun k => by rw [crucibleref12_PutFile.f]) (ev_bind (ev_DiskMay clk l hl hs) ?_)
  unfold putD
  cases hm : mayD clk l with
  | false => exact ev_neg (by simp) (ev_eq bad (by simp))
  | true =>
    refine ev_pos rfl (ev_bind (ev_PathMay s hz) ?_)
    cases hp : isP s.data.toList with
    | false => exact ev_neg (by simp) (ev_eq bad (by simp))
    | true =>
      refine ev_pos rfl (ev_bindc (upTo31_is x) ?_)
      cases hx : decide (0 ≤ x ∧ x ≤ 2147483647) with
      | false => exact ev_eq bad (by simp)
      | true =>
        have ho := mayD_ok hm
        have hw : wrap64 (clk + 1) = clk + 1 := wrap_id (by have := ho.low; omega) (by have := ho.high; omega)
        refine Ev.step (fun k => by rw [crucibleref12_PutFile.j0]) (ev_neg (by simp) ?_)
        rw [hw]
        refine ev_eq (ev_pf_out clk (clk + 1) l s x hl l [] [] rfl (by simp) ho.rise) ?_
        simp only [Bool.and_self, if_true, List.nil_append]
        unfold finF
        have := ho.high
        by_cases h1 : clk = 1048576
        · rw [if_pos (show clk + 1 > 1048576 by omega), if_pos (.inl h1)]
        · rw [if_neg (show ¬ clk + 1 > 1048576 by omega)]
          by_cases h2 : 64 < (insF ⟨s, x, clk + 1⟩ l).length
          · rw [if_pos (show ((insF ⟨s, x, clk + 1⟩ l).length : Int) > 64 by omega), if_pos (.inr h2)]
          · rw [if_neg (show ¬ ((insF ⟨s, x, clk + 1⟩ l).length : Int) > 64 by omega), if_neg (by rintro (h | h); exact h1 h; exact h2 h)]
theorem ev_without (clk : Int) (l : List (P.S72)) (s : ByteArray) (c : Int) (hl : l.length ≤ 1000000) : ∀ rest pre out : List (P.S72), l = pre ++ rest → out.length ≤ pre.length →
    Ev (fun k => crucibleref12_without.l0 k s (pre.length : Int) clk l c out) (c, out ++ delF s rest) := by
  intro rest
  induction rest with
  | nil =>
    intro pre out h ho
    refine Ev.step (fun k => by rw [crucibleref12_without.l0]) (ev_neg (by rw [h]; simp) ?_)
    exact ev_const (by rw [delF, List.filter_nil, List.append_nil])
  | cons y rest ih =>
    intro pre out h ho
    have hlen : l.length = pre.length + (rest.length + 1) := by rw [h]; simp
    have hr : rd_T72 l (pre.length : Int) = y := by rw [rdF_lt l _ (by omega)]; simp [h]
    have hw : wrap64 ((pre.length : Int) + 1) = ((pre ++ [y]).length : Int) := wrap_len pre y (by omega)
    have hp1 : (pre ++ [y]).length = pre.length + 1 := by simp
    refine Ev.step (fun k => by rw [crucibleref12_without.l0]) (ev_pos (by omega) (ev_pos (by omega) ?_))
    simp only [hr, hw]
    by_cases e : y.f0.toList = s.toList
    · refine ev_pos e ?_
      refine ev_eq (ih (pre ++ [y]) out (by simp [h]) (by omega)) ?_
      rw [delF, delF, List.filter_cons_of_neg (by simp [e])]
    · refine ev_neg e (ev_pos (by omega) ?_)
      refine ev_eq (ih (pre ++ [y]) (out ++ [y]) (by simp [h]) (by simp; omega)) ?_
      rw [delF, delF, List.filter_cons_of_pos (by simp [e]), List.append_assoc, List.singleton_append]
theorem ev_RemoveFile (clk : Int) (l : List (P.S72)) (s : ByteArray) (hl : l.length ≤ 1000000) (hs : ∀ x ∈ l, x.f0.size ≤ 4611686018427387904) (hz : s.size ≤ 4611686018427387904) : Ev (fun k => crucibleref12_RemoveFile.f k clk l s) (removeD clk l s) := by
  have bad : Ev (fun k => crucibleref12_RemoveFile.j0 k s true clk l) (0, [], 1200) := Ev.step (fun k => by rw [crucibleref12_RemoveFile.j0]) (ev_pos rfl (Ev.now _))
  refine Ev.congr (fun k => by rw [crucibleref12_RemoveFile.f]) (ev_bind (ev_DiskMay clk l hl hs) ?_)
  unfold removeD
  cases hm : mayD clk l with
  | false => exact ev_neg (by simp) (ev_eq bad (by simp))
  | true =>
    refine ev_pos rfl (ev_bind (ev_PathMay s hz) ?_)
    cases hp : isP s.data.toList with
    | false => exact ev_eq bad (by simp)
    | true =>
      refine Ev.step (fun k => by rw [crucibleref12_RemoveFile.j0]) (ev_neg (by simp) (ev_bind (ev_RefFind clk l s hl hs) ?_))
      unfold findD
      rw [hm, if_pos rfl]
      cases hf : lookF s l with
      | none => exact ev_neg (by simp [outF]) (ev_const (by simp))
      | some y =>
        refine ev_pos rfl ?_
        have e1 : Ev (fun k => crucibleref12_without.f k clk l s) (clk, delF s l) := Ev.congr (fun k => by rw [crucibleref12_without.f]; rfl) (ev_without clk l s clk hl l [] [] rfl (by simp))
        exact ev_bind e1 (ev_const (by simp))

/-! ### spoiled -/
def spF (x : P.S72) : P.S72 := ⟨x.f0, x.f1, Go.bits .xor .i64 x.f2 90⟩
theorem ev_SpoilF_loop : ∀ rest pre : List (P.S72), pre.length + rest.length ≤ 1000000 → Ev (fun k => cruciblelaw0_SpoilFiles.l0 k (pre.map spF ++ rest) (pre.length : Int)) ((pre ++ rest).map spF)
  | [], pre, h => Ev.step (fun k => by rw [cruciblelaw0_SpoilFiles.l0]) (ev_neg (by simp) (ev_const (by simp)))
  | x :: rest, pre, h => by
    have hp : (pre.map spF).length = pre.length := List.length_map _
    have hr : rd_T72 (pre.map spF ++ x :: rest) (pre.length : Int) = x := by
      rw [rdF_lt _ _ (by rw [List.length_append, hp, List.length_cons]; omega), List.getElem_append_right (by omega)]
      simp [hp]
    have hw : wrap64 ((pre.length : Int) + 1) = ((pre ++ [x]).length : Int) := wrap_len pre x (by omega)
    have hset : (pre.map spF ++ x :: rest).set (pre.length : Int).toNat (spF x) = (pre ++ [x]).map spF ++ rest := by
      rw [Int.toNat_natCast, ← hp]
      simp
    have ih := ev_SpoilF_loop rest (pre ++ [x]) (by rw [List.length_append, List.length_singleton]; rw [List.length_cons] at h; omega)
    refine Ev.step (fun k => by rw [cruciblelaw0_SpoilFiles.l0]) ?_
    rw [hr, hw]
    rw [List.append_assoc, List.singleton_append] at ih
    refine ev_pos (by rw [List.length_append, hp, List.length_cons]; omega) (ev_pos (by omega) ?_)
    show Ev (fun k => cruciblelaw0_SpoilFiles.l0 k ((pre.map spF ++ x :: rest).set (pre.length : Int).toNat (spF x)) ((pre ++ [x]).length : Int)) _
    rw [hset]
    exact ih
theorem ev_SpoilF (l : List (P.S72)) (h : l.length ≤ 1000000) : Ev (fun k => cruciblelaw0_SpoilFiles.f k l) (l.map spF) :=
  Ev.congr (fun k => by rw [cruciblelaw0_SpoilFiles.f]; rfl) (ev_SpoilF_loop l [] (by simpa using h))

/-! ### the law -/
theorem evt_and {p q : Nat → Prop} (hp : ∃ K, ∀ k, K ≤ k → p k) (hq : ∃ K, ∀ k, K ≤ k → q k) : ∃ K, ∀ k, K ≤ k → p k ∧ q k := by
  obtain ⟨K1, h1⟩ := hp
  obtain ⟨K2, h2⟩ := hq
  exact ⟨max K1 K2, fun k hk => ⟨h1 k (by omega), h2 k (by omega)⟩⟩
theorem evt_c {p : Prop} (h : p) : ∃ K : Nat, ∀ k, K ≤ k → p := ⟨0, fun _ _ => h⟩
theorem evt_if {α : Type} {g f : Nat → Option α} {r : α} {p : Nat → Prop} {inst : ∀ k, Decidable (p k)} (hp : ∃ K, ∀ k, K ≤ k → p k) (e : Ev g r) : Ev (fun k => if p k then g k else f k) r := by
  obtain ⟨K, hK⟩ := hp
  obtain ⟨K2, hK2⟩ := e
  exact ⟨max K K2, fun k hk => (if_pos (hK k (by omega))).trans (hK2 k (by omega))⟩
theorem evt_is {α : Type} {g : Nat → Option α} {r : α} (e : Ev g r) : ∃ K, ∀ k, K ≤ k → g k = some r := e
theorem sum_mem {α : Type} (g : α → Nat) (h : ∀ x, 2 ≤ g x) : ∀ l : List α, 2 * l.length ≤ (l.map g).sum ∧ ∀ x ∈ l, g x ≤ (l.map g).sum
  | [] => ⟨Nat.le_refl _, fun x hx => by cases hx⟩
  | y :: ys => by
    have ih := sum_mem g h ys
    have := h y
    rw [List.map_cons, List.sum_cons, List.length_cons]
    refine ⟨by omega, fun x hx => ?_⟩
    rcases List.mem_cons.1 hx with rfl | hx
    · omega
    · have := ih.2 x hx; omega
theorem insF_len (f : P.S72) : ∀ l : List (P.S72), (insF f l).length ≤ l.length + 1
  | [] => Nat.le_refl _
  | y :: ys => by
    have := insF_len f ys
    unfold insF
    split
    · rw [List.length_cons, List.length_cons]; omega
    · split
      · rw [List.length_cons, List.length_cons]; omega
      · rw [List.length_cons, List.length_cons]; omega
theorem putD_len (clk : Int) (l : List (P.S72)) (s : ByteArray) (x : Int) : (putD clk l s x).2.1.length ≤ l.length + 1 := by
  unfold putD
  have := insF_len ⟨s, x, clk + 1⟩ l
  split
  · split
    · exact Nat.zero_le _
    · exact this
  · exact Nat.zero_le _
theorem removeD_len (clk : Int) (l : List (P.S72)) (s : ByteArray) : (removeD clk l s).2.1.length ≤ l.length := by
  unfold removeD
  split
  · split
    · exact List.length_filter_le _ _
    · exact Nat.zero_le _
  · exact Nat.zero_le _
theorem Disks (clk : Int) (l : List (P.S72)) (s : ByteArray) (x : Int)
    (hl : l.length ≤ 999999) (hs : ∀ x ∈ l, x.f0.size ≤ 4611686018427387904) (hz : s.size ≤ 4611686018427387904) (hc : clk ≤ 9223372036854775807) : ∃ k, cruciblelaw12_Disks.f k clk l s x = some true := by
  have n1 := putD_len clk l s x
  have n2 := removeD_len clk l s
  have hl1 : l.length ≤ 1000000 := by omega
  have n3 : (putD clk l s x).2.1.length ≤ 1000000 := by omega
  have n4 : (removeD clk l s).2.1.length ≤ 1000000 := by omega
  refine Ev.rounds (Ev.congr (fun k => by rw [cruciblelaw12_Disks.f]) (ev_bind (ev_Put12 clk l s x hl1 hc) (ev_bind (ev_Remove12 clk l s hl1 hc) (ev_bind (ev_Find12 clk l s hl1 hc) (ev_bind (ev_May12 clk l hl1 hc) (ev_bind (ev_SpoilF _ n3) (ev_bind (ev_SpoilF _ n4) ?_)))))))
  exact evt_if (evt_and (evt_and (evt_is (ev_PutFile clk l s x hl1 hs hz)) (evt_and (evt_is (ev_RemoveFile clk l s hl1 hs hz)) (evt_and (evt_is (ev_RefFind clk l s hl1 hs)) (evt_is (ev_DiskMay clk l hl1 hs)))))
    (evt_and (evt_is (ev_SameDisk_refl _ _ n3)) (evt_and (evt_is (ev_SameDisk_refl _ _ n4)) (evt_and (evt_is (ev_SameDisk_refl clk l hl1)) (evt_c hl1))))) (Ev.now _)
theorem clk_wf {n : Int} (h : (Lit.int .i64 n).wf = true) : n ≤ 9223372036854775807 := by
  simp only [Lit.wf, Bool.and_eq_true, decide_eq_true_eq] at h
  exact h.2
theorem disks12_true (clk : Int) (l : List (P.S72)) (s : ByteArray) (x : Int)
    (hb : 1 + ((l.map fun x : P.S72 => (x.f0.size + 1) + 1 + 1).sum + 1) + (s.size + 1) + 1 ≤ 1048576) (hc : (Lit.int .i64 clk).wf = true) {p q r : Prop} (_ : p) (_ : q) (_ : r) : ∃ k, cruciblelaw12_Disks.f k clk l s x = some true := by
  obtain ⟨h1, h2⟩ := sum_mem (fun x : P.S72 => (x.f0.size + 1) + 1 + 1) (fun x => by omega) l
  exact Disks clk l s x (by omega) (fun y hy => by have := h2 y hy; omega) (by omega) (clk_wf hc)
end Go.Proofs.YtilnamobmjngbaaDoor.Spec
