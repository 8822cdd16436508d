/- Chapter 12 in plain lists: which disks may be (the program's and the reference's answer), and what follows. -/
import Derived.Test.YtilnamobmjngbaaDoorIsP
import Derived.Test.YtilnamobmjngbaaDoorRefP
import Derived.Test.YtilnamobmjngbaaDoorP12
import Derived.Test.YtilnamobmjngbaaDoorP20
import Derived.Test.YtilnamobmjngbaaDoorP7
namespace Go.Proofs.YtilnamobmjngbaaDoor.Spec
open Go.RowKit Go.Proofs.YtilnamobmjngbaaDoorW.PrintWords Go.Proofs.YtilnamobmjngbaaDoor.P

theorem rdF_lt (l : List (P.S72)) (j : Nat) (h : j < l.length) : rd_T72 l (j : Int) = l[j] := by
  simp [rd_T72, List.getD_eq_getElem?_getD, List.getElem?_eq_getElem h]
theorem toList_inj {a b : ByteArray} (h : a.toList = b.toList) : a = b := data_inj (by rw [← toList_data, ← toList_data, h])
def fileOk (clk : Int) (x : P.S72) : Bool := isP x.f0.data.toList && (decide (0 ≤ x.f1 ∧ x.f1 ≤ 2147483647) && decide (1 ≤ x.f2 ∧ x.f2 ≤ clk))
def timeIn (l : List (P.S72)) (t : Int) : Bool := l.any fun y => decide (y.f2 = t)
def oddAt (clk : Int) (l : List (P.S72)) (i : Nat) : Bool :=
  !(fileOk clk (rd_T72 l (i : Int))) || (timeIn (l.take i) (rd_T72 l (i : Int)).f2 || (decide (0 < i) && !(Op.bytesLess (rd_T72 l ((i - 1 : Nat) : Int)).f0.toList (rd_T72 l (i : Int)).f0.toList)))
def mayGo (clk : Int) (l : List (P.S72)) : Nat → Bool
  | 0 => true
  | n + 1 => !(oddAt clk l (l.length - (n + 1))) && mayGo clk l n
def mayD (clk : Int) (l : List (P.S72)) : Bool := mayGo clk l l.length && (decide (0 ≤ clk) && decide (clk ≤ 1048576) && decide (l.length ≤ 64))
theorem any_f2 (l : List (P.S72)) (t : Int) : (l.map (·.f2)).any (fun y => decide (y = t)) = timeIn l t := by
  rw [List.any_map]; rfl
theorem ev_dm_step (clk : Int) (l : List (P.S72)) (i : Nat) : Ev (fun k => dm_step k clk l i) (oddAt clk l i) := by
  refine Ev.congr (fun k => by rw [dm_step]) (ev_bind (ev_Is _) ?_)
  unfold oddAt fileOk
  cases hp : isP (rd_T72 l (i : Int)).f0.data.toList with
  | false => exact ev_pos rfl (ev_const (by simp))
  | true =>
    refine ev_neg (by simp) ?_
    by_cases h1 : 0 ≤ (rd_T72 l (i : Int)).f1 ∧ (rd_T72 l (i : Int)).f1 ≤ 2147483647
    · refine ev_neg (by simpa using h1) ?_
      rw [decide_eq_true h1]
      by_cases h2 : (rd_T72 l (i : Int)).f2 < 1
      · refine ev_pos h2 (ev_const ?_)
        rw [decide_eq_false (fun h => by omega)]; simp
      · refine ev_neg h2 ?_
        by_cases h3 : clk < (rd_T72 l (i : Int)).f2
        · refine ev_pos h3 (ev_const ?_)
          rw [decide_eq_false (fun h => by omega)]; simp
        · refine ev_neg h3 ?_
          rw [decide_eq_true (show 1 ≤ (rd_T72 l (i : Int)).f2 ∧ (rd_T72 l (i : Int)).f2 ≤ clk by omega), any_f2]
          cases ht : timeIn (l.take i) (rd_T72 l (i : Int)).f2 with
          | true => exact ev_pos rfl (ev_const (by simp))
          | false =>
            refine ev_neg (by simp) ?_
            by_cases h4 : 0 < i ∧ Op.bytesLess (rd_T72 l ((i - 1 : Nat) : Int)).f0.toList (rd_T72 l (i : Int)).f0.toList = false
            · exact ev_pos h4 (ev_const (by simp [h4.1, h4.2]))
            · refine ev_neg h4 (ev_const ?_)
              by_cases h5 : 0 < i
              · have : Op.bytesLess (rd_T72 l ((i - 1 : Nat) : Int)).f0.toList (rd_T72 l (i : Int)).f0.toList = true := by
                  cases hb : Op.bytesLess (rd_T72 l ((i - 1 : Nat) : Int)).f0.toList (rd_T72 l (i : Int)).f0.toList with
                  | true => rfl
                  | false => exact absurd ⟨h5, hb⟩ h4
                simp [this]
              · simp [h5]
    · refine ev_pos (by simpa using h1) (ev_const ?_)
      rw [decide_eq_false h1]; simp
theorem ev_dm_go (clk : Int) (l : List (P.S72)) : ∀ n, Ev (fun k => dm_go k clk l n) (mayGo clk l n)
  | 0 => Ev.now _
  | n + 1 => by
    refine Ev.congr (fun k => by rw [dm_go]) (ev_bind (ev_dm_step clk l _) ?_)
    rw [mayGo]
    cases oddAt clk l (l.length - (n + 1)) with
    | true => exact ev_pos rfl (Ev.now _)
    | false => exact ev_neg (by simp) (ev_dm_go clk l n)
theorem ev_May12 (clk : Int) (l : List (P.S72)) (hl : l.length ≤ 1000000) (hc : clk ≤ 9223372036854775807) : Ev (fun k => disk_May.f k clk l) (mayD clk l) := by
  refine Ev.congr (fun k => by rw [disk_May.f]) (ev_pos (And.intro hl hc) (ev_bind (ev_dm_go clk l l.length) ?_))
  unfold mayD
  cases mayGo clk l l.length with
  | true => exact ev_pos rfl (Ev.now _)
  | false => exact ev_neg (by simp) (Ev.now _)

/-! ### the reference -/
theorem rm_in_is (l : List (P.S72)) (i : Nat) (t : Int) (hi : i ≤ l.length) : ∀ n, n ≤ i → rm_in l i t n = timeIn ((l.take i).drop (i - n)) t
  | 0, _ => by
    rw [rm_in, Nat.sub_zero, List.drop_eq_nil_of_le (by simp; omega)]
    rfl
  | n + 1, h => by
    have hlt : i - (n + 1) < (l.take i).length := by rw [List.length_take]; omega
    rw [rm_in, rm_in_is l i t hi n (by omega), List.drop_eq_getElem_cons hlt, show i - (n + 1) + 1 = i - n by omega, rdF_lt l _ (by omega)]
    simp only [timeIn, List.any_cons, List.getElem_take]
    by_cases h2 : l[i - (n + 1)].f2 = t
    · simp [h2]
    · simp [h2]
theorem rm_in_all (l : List (P.S72)) (i : Nat) (t : Int) (hi : i ≤ l.length) : rm_in l i t i = timeIn (l.take i) t := by
  rw [rm_in_is l i t hi i (Nat.le_refl _), Nat.sub_self, List.drop_zero]
theorem ev_rm_odd (clk : Int) (l : List (P.S72)) (i : Nat) (hs : (rd_T72 l (i : Int)).f0.size ≤ 4611686018427387904) : Ev (fun k => rm_odd k clk l i) (!(fileOk clk (rd_T72 l (i : Int))) || (decide (0 < i) && !(Op.bytesLess (rd_T72 l ((i - 1 : Nat) : Int)).f0.toList (rd_T72 l (i : Int)).f0.toList))) := by
  refine Ev.congr (fun k => by rw [rm_odd]) (ev_bind (ev_PathMay _ hs) ?_)
  unfold fileOk
  cases hp : isP (rd_T72 l (i : Int)).f0.data.toList with
  | false => exact ev_pos rfl (ev_const (by simp))
  | true =>
    refine ev_neg (by simp) ?_
    by_cases h1 : 0 ≤ (rd_T72 l (i : Int)).f1 ∧ (rd_T72 l (i : Int)).f1 ≤ 2147483647
    · refine ev_neg (by simpa using h1) ?_
      rw [decide_eq_true h1]
      by_cases h2 : 1 ≤ (rd_T72 l (i : Int)).f2 ∧ (rd_T72 l (i : Int)).f2 ≤ clk
      · refine ev_neg (by simpa using h2) ?_
        rw [decide_eq_true h2]
        by_cases h4 : 0 < i ∧ Op.bytesLess (rd_T72 l ((i - 1 : Nat) : Int)).f0.toList (rd_T72 l (i : Int)).f0.toList = false
        · exact ev_pos h4 (ev_const (by simp [h4.1, h4.2]))
        · refine ev_neg h4 (ev_const ?_)
          by_cases h5 : 0 < i
          · have : Op.bytesLess (rd_T72 l ((i - 1 : Nat) : Int)).f0.toList (rd_T72 l (i : Int)).f0.toList = true := by
              cases hb : Op.bytesLess (rd_T72 l ((i - 1 : Nat) : Int)).f0.toList (rd_T72 l (i : Int)).f0.toList with
              | true => rfl
              | false => exact absurd ⟨h5, hb⟩ h4
            simp [this]
          · simp [h5]
      · refine ev_pos (by simpa using h2) (ev_const ?_)
        rw [decide_eq_false h2]; simp
    · refine ev_pos (by simpa using h1) (ev_const ?_)
      rw [decide_eq_false h1]; simp
theorem ev_rm_go (clk : Int) (l : List (P.S72)) (hs : ∀ x ∈ l, x.f0.size ≤ 4611686018427387904) : ∀ n, n ≤ l.length → Ev (fun k => rm_go k clk l n) (mayGo clk l n)
  | 0, _ => Ev.now _
  | n + 1, h => by
    have hlt : l.length - (n + 1) < l.length := by omega
    refine Ev.congr (fun k => by rw [rm_go]) (ev_bind (ev_rm_odd clk l _ (by rw [rdF_lt l _ hlt]; exact hs _ (List.getElem_mem hlt))) ?_)
    rw [mayGo, oddAt, rm_in_all l _ _ (by omega)]
    cases hA : !(fileOk clk (rd_T72 l ((l.length - (n + 1) : Nat) : Int))) with
    | true =>
      refine ev_pos (by simp) (ev_const (by simp))
    | false =>
      cases hB : decide (0 < l.length - (n + 1)) && !(Op.bytesLess (rd_T72 l ((l.length - (n + 1) - 1 : Nat) : Int)).f0.toList (rd_T72 l ((l.length - (n + 1) : Nat) : Int)).f0.toList) with
      | true => exact ev_pos (by simp) (ev_const (by simp))
      | false =>
        refine ev_neg (by simp) ?_
        cases timeIn (l.take (l.length - (n + 1))) (rd_T72 l ((l.length - (n + 1) : Nat) : Int)).f2 with
        | true => exact ev_pos rfl (ev_const (by simp))
        | false => exact ev_neg (by simp) (ev_eq (ev_rm_go clk l hs n (by omega)) (by simp))
theorem ev_DiskMay (clk : Int) (l : List (P.S72)) (hl : l.length ≤ 1000000) (hs : ∀ x ∈ l, x.f0.size ≤ 4611686018427387904) : Ev (fun k => crucibleref12_DiskMay.f k clk l) (mayD clk l) := by
  refine Ev.congr (fun k => by rw [crucibleref12_DiskMay.f]) (ev_pos hl (ev_bind (ev_rm_go clk l hs l.length (Nat.le_refl _)) ?_))
  unfold mayD
  cases mayGo clk l l.length with
  | true => exact ev_pos rfl (Ev.now _)
  | false => exact ev_neg (by simp) (Ev.now _)

/-! ### what follows for a disk that may be -/
theorem mayGo_at {clk : Int} {l : List (P.S72)} : ∀ {n}, n ≤ l.length → mayGo clk l n = true → ∀ i, l.length - n ≤ i → i < l.length → oddAt clk l i = false
  | 0, _, _, i, h1, h2 => by omega
  | n + 1, hn, h, i, h1, h2 => by
    rw [mayGo, Bool.and_eq_true, Bool.not_eq_true'] at h
    by_cases e : i = l.length - (n + 1)
    · rw [e]; exact h.1
    · exact mayGo_at (by omega) h.2 i (by omega) h2
theorem mayGo_of {clk : Int} {l : List (P.S72)} (h : ∀ i, i < l.length → oddAt clk l i = false) : ∀ n, n ≤ l.length → mayGo clk l n = true
  | 0, _ => rfl
  | n + 1, hn => by rw [mayGo, h _ (by omega), mayGo_of h n (by omega)]; rfl
structure DiskOk (clk : Int) (l : List (P.S72)) : Prop where
  low : 0 ≤ clk
  high : clk ≤ 1048576
  many : l.length ≤ 64
  ok : ∀ x ∈ l, fileOk clk x = true
  times : l.Pairwise fun a b => a.f2 ≠ b.f2
  rise : l.Pairwise fun a b => a.f0.toList < b.f0.toList
theorem mayD_ok {clk : Int} {l : List (P.S72)} (h : mayD clk l = true) : DiskOk clk l := by
  simp only [mayD, Bool.and_eq_true, decide_eq_true_eq] at h
  obtain ⟨h0, ⟨h1, h2⟩, h3⟩ := h
  have hat : ∀ i (hi : i < l.length), fileOk clk l[i] = true ∧ timeIn (l.take i) l[i].f2 = false ∧ (0 < i → Op.bytesLess (rd_T72 l ((i - 1 : Nat) : Int)).f0.toList l[i].f0.toList = true) := fun i hi => by
    have := mayGo_at (Nat.le_refl _) h0 i (by omega) hi
    rw [oddAt, rdF_lt l i hi] at this
    simp only [Bool.or_eq_false_iff, Bool.not_eq_false', Bool.and_eq_false_iff, decide_eq_false_iff_not] at this
    obtain ⟨g1, g2, g3⟩ := this
    refine ⟨g1, g2, fun h => ?_⟩
    rcases g3 with g3 | g3
    · exact absurd h g3
    · exact g3
  have hstep : ∀ j, ∀ i (hj : j < l.length) (_ : i < j), l[i].f0.toList < l[j].f0.toList := by
    intro j
    induction j with
    | zero => intro i _ h; omega
    | succ j ih =>
      intro i hj hij
      have := (hat (j + 1) hj).2.2 (by omega)
      rw [Nat.add_sub_cancel, rdF_lt l j (by omega), P.less_is, decide_eq_true_eq] at this
      by_cases e : i = j
      · subst e; exact this
      · exact List.lt_trans (ih i (by omega) (by omega)) this
  refine ⟨h1, h2, h3, fun x hx => ?_, ?_, ?_⟩
  · obtain ⟨i, hi, rfl⟩ := List.getElem_of_mem hx
    exact (hat i hi).1
  · rw [List.pairwise_iff_getElem]
    intro i j hi hj hij e
    have := (hat j hj).2.1
    rw [timeIn, List.any_eq_false] at this
    exact this l[i] (List.mem_take_iff_getElem.2 ⟨i, by omega, rfl⟩) (by simpa using e)
  · rw [List.pairwise_iff_getElem]
    exact fun i j hi hj hij => hstep j i hj hij
theorem ok_mayD {clk : Int} {l : List (P.S72)} (h : DiskOk clk l) : mayD clk l = true := by
  have hr := List.pairwise_iff_getElem.1 h.rise
  have ht := List.pairwise_iff_getElem.1 h.times
  simp only [mayD, Bool.and_eq_true, decide_eq_true_eq]
  refine ⟨mayGo_of (fun i hi => ?_) _ (Nat.le_refl _), ⟨h.low, h.high⟩, h.many⟩
  rw [oddAt, rdF_lt l i hi, h.ok _ (List.getElem_mem hi)]
  have e1 : timeIn (l.take i) l[i].f2 = false := by
    rw [timeIn, List.any_eq_false]
    intro y hy
    obtain ⟨j, hj, rfl⟩ := List.mem_take_iff_getElem.1 hy
    have := ht j i (by omega) hi (by omega)
    simpa using this
  rw [e1]
  by_cases h0 : 0 < i
  · have := hr (i - 1) i (by omega) hi (by omega)
    rw [rdF_lt l (i - 1) (by omega), P.less_is, decide_eq_true this]
    simp
  · simp [h0]
theorem ok_riseF {clk : Int} {l : List (P.S72)} (h : DiskOk clk l) : riseF l := fun a b hab hb => by
  rw [rdF_lt l a (by omega), rdF_lt l b hb]
  exact List.pairwise_iff_getElem.1 h.rise a b (by omega) hb hab
end Go.Proofs.YtilnamobmjngbaaDoor.Spec
