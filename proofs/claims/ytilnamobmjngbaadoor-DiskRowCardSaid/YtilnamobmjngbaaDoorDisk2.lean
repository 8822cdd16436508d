/- Chapter 12 in plain lists: what is found, put and taken away (the program's and the reference's answers). -/
import Derived.Test.YtilnamobmjngbaaDoorDisk
import Derived.Test.YtilnamobmjngbaaDoorP17
import Derived.Test.YtilnamobmjngbaaDoorP15
import Derived.Test.YtilnamobmjngbaaDoorP20
import Derived.Test.YtilnamobmjngbaaDoorP8
import Derived.Test.YtilnamobmjngbaaDoorP18
namespace Go.Proofs.YtilnamobmjngbaaDoor.Spec
open Go.RowKit Go.Proofs.YtilnamobmjngbaaDoorW.PrintWords Go.Proofs.YtilnamobmjngbaaDoor.P

/-- the first file of a name -/
def lookF (s : ByteArray) : List (P.S72) → Option P.S72
  | [] => none
  | y :: ys => if y.f0.toList = s.toList then some y else lookF s ys
def outF : Option P.S72 → ByteArray × Int × Int × Bool
  | some x => (x.f0, x.f1, x.f2, true)
  | none => (⟨#[]⟩, 0, 0, false)
def findD (clk : Int) (l : List (P.S72)) (s : ByteArray) : ByteArray × Int × Int × Bool := if mayD clk l = true then outF (lookF s l) else outF none
/-- a file laid in its place -/
def insF (f : P.S72) : List (P.S72) → List (P.S72)
  | [] => [f]
  | y :: ys => if Op.bytesLess y.f0.toList f.f0.toList = true then y :: insF f ys else if y.f0.toList = f.f0.toList then f :: ys else f :: y :: ys
def delF (s : ByteArray) (l : List (P.S72)) : List (P.S72) := l.filter fun y => decide (y.f0.toList ≠ s.toList)
def putD (clk : Int) (l : List (P.S72)) (s : ByteArray) (x : Int) : Int × List (P.S72) × Int :=
  if (mayD clk l && (isP s.data.toList && decide (0 ≤ x ∧ x ≤ 2147483647))) = true then
    (if clk = 1048576 ∨ 64 < (insF ⟨s, x, clk + 1⟩ l).length then (0, [], 1201) else (clk + 1, insF ⟨s, x, clk + 1⟩ l, 0))
  else (0, [], 1200)
def removeD (clk : Int) (l : List (P.S72)) (s : ByteArray) : Int × List (P.S72) × Int :=
  if (mayD clk l && isP s.data.toList) = true then (if (lookF s l).isSome = true then (clk, delF s l, 0) else (0, [], 1202)) else (0, [], 1200)

/-! ### looking -/
theorem lookF_none {s : ByteArray} : ∀ {l : List (P.S72)}, lookF s l = none ↔ ∀ y ∈ l, y.f0.toList ≠ s.toList
  | [] => by simp [lookF]
  | y :: ys => by
    rw [lookF]
    by_cases h : y.f0.toList = s.toList
    · rw [if_pos h]; simp [h]
    · rw [if_neg h, lookF_none (l := ys)]; simp [h]
theorem lookF_some {s : ByteArray} {x : P.S72} : ∀ {l : List (P.S72)}, lookF s l = some x → ∃ i, ∃ h : i < l.length, l[i] = x ∧ x.f0.toList = s.toList
  | [], h => by simp [lookF] at h
  | y :: ys, h => by
    rw [lookF] at h
    by_cases e : y.f0.toList = s.toList
    · rw [if_pos e] at h
      obtain rfl := Option.some.inj h
      exact ⟨0, by simp, rfl, e⟩
    · rw [if_neg e] at h
      obtain ⟨i, hi, h1, h2⟩ := lookF_some h
      exact ⟨i + 1, by simpa using hi, h1, h2⟩
theorem lookF_mem {s : ByteArray} {x : P.S72} {l : List (P.S72)} (h : lookF s l = some x) : x ∈ l ∧ x.f0.toList = s.toList := by
  obtain ⟨i, hi, rfl, h2⟩ := lookF_some h
  exact ⟨List.getElem_mem hi, h2⟩
theorem bs_look {l : List (P.S72)} (hr : riseF l) (s : ByteArray) : (∃ x, ∃ h : bsAt l s < l.length, lookF s l = some x ∧ l[bsAt l s] = x ∧ bsIs l s = true) ∨ (lookF s l = none ∧ bsIs l s = false) := by
  cases h : lookF s l with
  | none => exact .inr ⟨rfl, bs_not (fun k hk => by rw [rdF_lt l k hk]; exact lookF_none.1 h _ (List.getElem_mem hk))⟩
  | some x =>
    obtain ⟨i, hi, h1, h2⟩ := lookF_some h
    obtain ⟨g1, g2⟩ := bs_there hr hi (s := s) (by rw [rdF_lt l i hi, h1]; exact h2)
    refine .inl ⟨x, by rw [g1]; exact hi, rfl, ?_, g2⟩
    subst h1
    simp only [g1]
theorem ev_Find12 (clk : Int) (l : List (P.S72)) (s : ByteArray) (hl : l.length ≤ 1000000) (hc : clk ≤ 9223372036854775807) : Ev (fun k => disk_Find.f k clk l s) (findD clk l s) := by
  refine Ev.congr (fun k => by rw [disk_Find.f]) (ev_pos hl ?_)
  unfold findD
  cases hm : mayD clk l with
  | true =>
    rw [if_pos rfl]
    have hr := ok_riseF (mayD_ok hm)
    rcases bs_look hr s with ⟨x, hlt, h1, h2, h3⟩ | ⟨h1, h2⟩
    · refine ev_pos h3 (ev_bind (ev_May12 clk l hl hc) ?_)
      rw [hm]
      refine ev_pos rfl (ev_const ?_)
      rw [h1, rdF_lt l _ hlt, h2]
      rfl
    · exact ev_neg (by rw [h2]; simp) (ev_const (by rw [h1]; rfl))
  | false =>
    rw [if_neg (by simp)]
    by_cases h : bsIs l s = true
    · refine ev_pos h (ev_bind (ev_May12 clk l hl hc) ?_)
      rw [hm]
      exact ev_neg (by simp) (Ev.now _)
    · exact ev_neg h (Ev.now _)
theorem ev_RefFind_loop (clk : Int) (l : List (P.S72)) (s : ByteArray) (hl : l.length ≤ 1000000) (hs : ∀ x ∈ l, x.f0.size ≤ 4611686018427387904) (hm : mayD clk l = true) : ∀ rest pre : List (P.S72), l = pre ++ rest →
    Ev (fun k => crucibleref12_Find.l0 k s (pre.length : Int) clk l) (outF (lookF s rest)) := by
  intro rest
  induction rest with
  | nil =>
    intro pre h
    refine Ev.step (fun k => by rw [crucibleref12_Find.l0]) (ev_neg (by rw [h]; simp) ?_)
    refine Ev.step (fun k => by rw [crucibleref12_Find.j1]) ?_
    exact ev_neg (by simp) (Ev.now _)
  | cons x rest ih =>
    intro pre h
    have hlen : l.length = pre.length + (rest.length + 1) := by rw [h]; simp
    have hr : rd_T72 l (pre.length : Int) = x := by rw [rdF_lt l _ (by omega)]; simp [h]
    have hw : wrap64 ((pre.length : Int) + 1) = ((pre ++ [x]).length : Int) := wrap_len pre x (by omega)
    refine Ev.step (fun k => by rw [crucibleref12_Find.l0]) (ev_pos (by omega) (ev_bind (ev_DiskMay clk l hl hs) ?_))
    rw [hm]
    refine Ev.step (fun k => by rw [crucibleref12_Find.j1]) (ev_pos rfl (ev_pos (by omega) (ev_pos (by omega) ?_)))
    simp only [hr, hw]
    rw [lookF]
    by_cases e : x.f0.toList = s.toList
    · rw [if_pos e]
      exact ev_pos e (Ev.now _)
    · rw [if_neg e]
      exact ev_neg e (ih (pre ++ [x]) (by simp [h]))
theorem ev_RefFind (clk : Int) (l : List (P.S72)) (s : ByteArray) (hl : l.length ≤ 1000000) (hs : ∀ x ∈ l, x.f0.size ≤ 4611686018427387904) : Ev (fun k => crucibleref12_Find.f k clk l s) (findD clk l s) := by
  refine Ev.congr (fun k => by rw [crucibleref12_Find.f]) ?_
  unfold findD
  cases hm : mayD clk l with
  | true => exact ev_RefFind_loop clk l s hl hs hm l [] rfl
  | false =>
    refine Ev.step (fun k => by rw [crucibleref12_Find.l0]) ?_
    by_cases h0 : (0 : Int) < (l.length : Int)
    · refine ev_pos h0 (ev_bind (ev_DiskMay clk l hl hs) ?_)
      rw [hm]
      refine Ev.step (fun k => by rw [crucibleref12_Find.j1]) ?_
      exact ev_neg (by simp) (Ev.now _)
    · refine ev_neg h0 ?_
      refine Ev.step (fun k => by rw [crucibleref12_Find.j1]) ?_
      exact ev_neg (by simp) (Ev.now _)

/-! ### putting -/
theorem insF_set (f : P.S72) : ∀ (l : List (P.S72)), (l.Pairwise fun a b => a.f0.toList < b.f0.toList) → ∀ i (h : i < l.length), l[i].f0.toList = f.f0.toList → insF f l = l.set i f
  | [], _, i, h, _ => by simp at h
  | y :: ys, hp, 0, h, e => by
    have e : y.f0.toList = f.f0.toList := e
    rw [insF, P.less_is, e, decide_eq_false (List.lt_irrefl _), if_neg (by simp), if_pos rfl]
    rfl
  | y :: ys, hp, i + 1, h, e => by
    have hp2 := List.pairwise_cons.1 hp
    have e : (ys[i]'(by simpa using h)).f0.toList = f.f0.toList := e
    have hlt : y.f0.toList < f.f0.toList := by rw [← e]; exact hp2.1 _ (List.getElem_mem _)
    rw [insF, P.less_is, decide_eq_true hlt, if_pos rfl, insF_set f ys hp2.2 i (by simpa using h) e]
    rfl
theorem insF_ins (f : P.S72) : ∀ (l : List (P.S72)) (at_ : Nat), at_ ≤ l.length → (∀ y ∈ l, y.f0.toList ≠ f.f0.toList) → (∀ i (h : i < l.length), i < at_ → l[i].f0.toList < f.f0.toList) → (∀ i (h : i < l.length), at_ ≤ i → ¬ l[i].f0.toList < f.f0.toList) →
    insF f l = l.take at_ ++ f :: l.drop at_
  | [], at_, h, _, _, _ => by
    have : at_ = 0 := by simpa using h
    subst this
    rfl
  | y :: ys, 0, h, hn, h1, h2 => by
    have g : ¬ y.f0.toList < f.f0.toList := h2 0 (by simp) (Nat.le_refl _)
    rw [insF, P.less_is, decide_eq_false g, if_neg (by simp), if_neg (hn y List.mem_cons_self)]
    rfl
  | y :: ys, at_ + 1, h, hn, h1, h2 => by
    have g := h1 0 (by simp) (by omega)
    rw [insF, P.less_is, decide_eq_true (show y.f0.toList < f.f0.toList from g), if_pos rfl,
      insF_ins f ys at_ (by simpa using h) (fun z hz => hn z (List.mem_cons_of_mem _ hz)) (fun i hi hlt => h1 (i + 1) (by simpa using hi) (by omega)) (fun i hi hle => h2 (i + 1) (by simpa using hi) (by omega))]
    rfl
theorem bs_places {l : List (P.S72)} (hr : riseF l) (s : ByteArray) : bsAt l s ≤ l.length ∧ (∀ i (h : i < l.length), i < bsAt l s → l[i].f0.toList < s.toList) ∧ (∀ i (h : i < l.length), bsAt l s ≤ i → ¬ l[i].f0.toList < s.toList) := by
  obtain ⟨h1, h2, h3⟩ := bsAt_spec l s (rise_mono hr s)
  refine ⟨h1, fun i hi hlt => ?_, fun i hi hle => ?_⟩
  · have := h2 i hlt
    rw [cmpS_lt, rdF_lt l i hi] at this
    exact this
  · have := h3 i hle hi
    rw [cmpS_lt, rdF_lt l i hi] at this
    exact this
theorem ev_Put12 (clk : Int) (l : List (P.S72)) (s : ByteArray) (x : Int) (hl : l.length ≤ 1000000) (hc : clk ≤ 9223372036854775807) : Ev (fun k => disk_Put.f k clk l s x) (putD clk l s x) := by
  refine Ev.congr (fun k => by rw [disk_Put.f]) (ev_pos hl (ev_bind (ev_May12 clk l hl hc) ?_))
  unfold putD
  cases hm : mayD clk l with
  | false => exact ev_neg (by simp) (Ev.now _)
  | true =>
    refine ev_pos rfl (ev_bind (ev_Is s) ?_)
    cases hp : isP s.data.toList with
    | false => exact ev_neg (by simp) (Ev.now _)
    | true =>
      refine ev_pos rfl ?_
      by_cases hx : 0 ≤ x ∧ x ≤ 2147483647
      · refine ev_pos hx ?_
        have ho := mayD_ok hm
        have hr := ok_riseF ho
        have hw : wrap64 (clk + 1) = clk + 1 := wrap_id (by have := ho.low; omega) (by have := ho.high; omega)
        rw [decide_eq_true hx]
        simp only [Bool.and_self, if_true]
        by_cases hk : clk = 1048576
        · rw [if_pos (show clk = 1048576 ∨ 64 < (insF ⟨s, x, clk + 1⟩ l).length from .inl hk)]
          exact ev_pos hk (Ev.now _)
        · refine ev_neg hk ?_
          rcases bs_look hr s with ⟨y, hlt, h1, h2, h3⟩ | ⟨h1, h2⟩
          · have hy := (lookF_mem h1).2
            have hi := insF_set ⟨s, x, clk + 1⟩ l ho.rise (bsAt l s) hlt (by rw [h2]; exact hy)
            have hlen : ¬ (clk = 1048576 ∨ 64 < (insF ⟨s, x, clk + 1⟩ l).length) := by
              rw [hi, List.length_set]
              have := ho.many
              omega
            rw [if_neg hlen, hi]
            refine ev_pos h3 (ev_const ?_)
            rw [hw]
            rfl
          · obtain ⟨g1, g2, g3⟩ := bs_places hr s
            have hi := insF_ins ⟨s, x, clk + 1⟩ l (bsAt l s) g1 (lookF_none.1 h1) g2 g3
            have hil : (insF ⟨s, x, clk + 1⟩ l).length = l.length + 1 := by rw [hi]; simp; omega
            refine ev_neg (by rw [h2]; simp) ?_
            have hmany := ho.many
            by_cases h64 : l.length = 64
            · rw [if_pos (show clk = 1048576 ∨ 64 < (insF ⟨s, x, clk + 1⟩ l).length from .inr (by omega))]
              exact ev_pos h64 (Ev.now _)
            · rw [if_neg (show ¬ (clk = 1048576 ∨ 64 < (insF ⟨s, x, clk + 1⟩ l).length) by omega), hi]
              refine ev_neg h64 (ev_const ?_)
              rw [hw]
              rfl
      · rw [decide_eq_false hx]
        exact ev_neg hx (ev_const (by simp))
theorem eraseIdx_filter (s : ByteArray) : ∀ (l : List (P.S72)), (l.Pairwise fun a b => a.f0.toList < b.f0.toList) → ∀ i (h : i < l.length), l[i].f0.toList = s.toList → l.eraseIdx i = delF s l
  | [], _, i, h, _ => by simp at h
  | y :: ys, hp, 0, h, e => by
    have e : y.f0.toList = s.toList := e
    have hp2 := List.pairwise_cons.1 hp
    rw [List.eraseIdx_cons_zero, delF, List.filter_cons_of_neg (by simp [e])]
    refine (List.filter_eq_self.2 fun z hz => ?_).symm
    have := hp2.1 z hz
    rw [e] at this
    exact decide_eq_true (fun e2 => by rw [e2] at this; exact List.lt_irrefl _ this)
  | y :: ys, hp, i + 1, h, e => by
    have hp2 := List.pairwise_cons.1 hp
    have e : (ys[i]'(by simpa using h)).f0.toList = s.toList := e
    have hlt : y.f0.toList < s.toList := by rw [← e]; exact hp2.1 _ (List.getElem_mem _)
    rw [List.eraseIdx_cons_succ, eraseIdx_filter s ys hp2.2 i (by simpa using h) e, delF, delF, List.filter_cons_of_pos]
    exact decide_eq_true (fun e2 => by rw [e2] at hlt; exact List.lt_irrefl _ hlt)
theorem ev_Remove12 (clk : Int) (l : List (P.S72)) (s : ByteArray) (hl : l.length ≤ 1000000) (hc : clk ≤ 9223372036854775807) : Ev (fun k => disk_Remove.f k clk l s) (removeD clk l s) := by
  refine Ev.congr (fun k => by rw [disk_Remove.f]) (ev_pos hl (ev_bind (ev_May12 clk l hl hc) ?_))
  unfold removeD
  cases hm : mayD clk l with
  | false => exact ev_neg (by simp) (Ev.now _)
  | true =>
    refine ev_pos rfl (ev_bind (ev_Is s) ?_)
    cases hp : isP s.data.toList with
    | false => exact ev_neg (by simp) (Ev.now _)
    | true =>
      refine ev_pos rfl ?_
      have ho := mayD_ok hm
      rcases bs_look (ok_riseF ho) s with ⟨y, hlt, h1, h2, h3⟩ | ⟨h1, h2⟩
      · refine ev_pos h3 (ev_const ?_)
        rw [h1, eraseIdx_filter s l ho.rise _ hlt (by rw [h2]; exact (lookF_mem h1).2)]
        rfl
      · exact ev_neg (by rw [h2]; simp) (ev_const (by rw [h1]; rfl))
end Go.Proofs.YtilnamobmjngbaaDoor.Spec
