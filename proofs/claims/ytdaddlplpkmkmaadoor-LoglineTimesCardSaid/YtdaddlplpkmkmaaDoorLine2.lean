/- Chapter 13: records that may be, their lines told and read again; the reference's reading of a line. No program in sight. -/
import Derived.Test.YtdaddlplpkmkmaaDoorLine
import Derived.Test.YtdaddlplpkmkmaaDoorPlainB
namespace Go.Proofs.YtdaddlplpkmkmaaDoor.Spec
open Go.RowKit

/-- may a record be? -/
def mayR (o : ByteArray) (t : Int) (g : ByteArray) : Bool := isP o.data.toList && ((decide (1 ≤ t) && decide (t ≤ 1048576)) && (decide (g.data.toList ≠ []) && (g.data.toList.all plainB && decide (g.size ≤ 2048))))
theorem plainB_no {l : List UInt8} (h : l.all plainB = true) (c : UInt8) (hc : c.toNat < 32) : c ∉ l := fun hm => by
  have := List.all_eq_true.1 h c hm
  simp only [plainB, Bool.and_eq_true, decide_eq_true_eq] at this
  omega
theorem isP_no {l : List UInt8} (h : isP l = true) (c : UInt8) (hc : nameByte c.toNat = false) : c ∉ l := fun hm => by
  have := nameMay_mem (isP_names h).1 hm
  rw [hc] at this
  cases this
structure MayR (o : ByteArray) (t : Int) (g : ByteArray) : Prop where
  parts : Parts o.data.toList t.toNat g.data.toList
  path : isP o.data.toList = true
  t1 : 1 ≤ t
  tM : t ≤ 1048576
  gne : g.data.toList ≠ []
  plain : g.data.toList.all plainB = true
  gs : g.size ≤ 2048
  os : o.size ≤ 16
theorem mayR_is {o : ByteArray} {t : Int} {g : ByteArray} (h : mayR o t g = true) : MayR o t g := by
  simp only [mayR, Bool.and_eq_true, decide_eq_true_eq] at h
  obtain ⟨h1, ⟨h2, h3⟩, h4, h5, h6⟩ := h
  have hs := isP_size h1
  have hg : g.data.toList.length ≤ 2048 := by rw [size_data]; exact h6
  exact ⟨⟨isP_no h1 9 (by decide), isP_no h1 10 (by decide), plainB_no h5 9 (by decide), plainB_no h5 10 (by decide), by omega, by omega, hs, hg⟩, h1, h2, h3, h4, h5, h6, by rw [← size_data]; exact hs⟩
/-- a record's line -/
def txR (o : ByteArray) (t : Int) (g : ByteArray) : List UInt8 := lineL o.data.toList t.toNat g.data.toList
def putR (o : ByteArray) (t : Int) (g : ByteArray) : ByteArray × Int := if mayR o t g = true then (str (txR o t g), 0) else (str [], 1300)
/-- what a reading gives, told again as it was -/
def backR (s o : ByteArray) (t : Int) (g : ByteArray) : ByteArray × Int × ByteArray × Int :=
  if mayR o t g = true ∧ txR o t g = s.data.toList then (o, t, g, 0) else (str [], 0, str [], 1300)
def getR (s : ByteArray) : ByteArray × Int × ByteArray × Int := backR s (str (pO s.data.toList)) (pT s.data.toList) (str (pG s.data.toList))
theorem get_put {o : ByteArray} {t : Int} {g : ByteArray} (h : mayR o t g = true) : getR (str (txR o t g)) = (o, t, g, 0) := by
  have hm := mayR_is h
  obtain ⟨h1, h2, h3⟩ := p_line hm.parts
  have ht : ((t.toNat : Nat) : Int) = t := by have := hm.t1; omega
  unfold getR
  rw [str_data, txR, h1, h2, h3, str_of, str_of, ht]
  unfold backR
  rw [if_pos ⟨h, by rw [str_data, txR]⟩]
theorem back_cases (s o : ByteArray) (t : Int) (g : ByteArray) : (backR s o t g = (o, t, g, 0) ∧ mayR o t g = true ∧ s = str (txR o t g)) ∨ backR s o t g = (str [], 0, str [], 1300) := by
  unfold backR
  by_cases h : mayR o t g = true ∧ txR o t g = s.data.toList
  · rw [if_pos h]
    exact .inl ⟨rfl, h.1, by rw [h.2, str_of]⟩
  · rw [if_neg h]
    exact .inr rfl
theorem get_ok {s : ByteArray} (h : (getR s).2.2.2 = 0) : ∃ o t g, getR s = (o, t, g, 0) ∧ mayR o t g = true ∧ s = str (txR o t g) := by
  rcases back_cases s (str (pO s.data.toList)) (pT s.data.toList) (str (pG s.data.toList)) with ⟨h1, h2, h3⟩ | h1
  · exact ⟨_, _, _, h1, h2, h3⟩
  · unfold getR at h
    rw [h1] at h
    exact absurd h (by decide)
theorem get_no {s : ByteArray} (h : (getR s).2.2.2 ≠ 0) : getR s = (str [], 0, str [], 1300) := by
  rcases back_cases s (str (pO s.data.toList)) (pT s.data.toList) (str (pG s.data.toList)) with ⟨h1, h2, h3⟩ | h1
  · unfold getR at h
    rw [h1] at h
    exact absurd rfl h
  · exact h1
/-- any reading that gives back a line's parts reads as the program does -/
theorem back_same (s o : ByteArray) (t : Int) (g : ByteArray) (hr : ∀ o' t' g', mayR o' t' g' = true → s = str (txR o' t' g') → o = o' ∧ t = t' ∧ g = g') : backR s o t g = getR s := by
  rcases back_cases s o t g with ⟨h1, h2, h3⟩ | h1
  · rw [h1, h3, get_put h2]
  · rw [h1]
    symm
    apply get_no
    intro h
    obtain ⟨o', t', g', e, hm, hs⟩ := get_ok h
    obtain ⟨rfl, rfl, rfl⟩ := hr o' t' g' hm hs
    unfold backR at h1
    rw [if_pos ⟨hm, by rw [hs, str_data]⟩] at h1
    have h2 : (0 : Int) = 1300 := congrArg (fun x : ByteArray × Int × ByteArray × Int => x.2.2.2) h1
    exact absurd h2 (by decide)

/-! ### The reference's reading -/
structure RS where
  p : Nat
  o : List UInt8
  t : Nat
  g : List UInt8
def stepR (s : RS) (c : UInt8) : RS :=
  if c = 9 then ⟨s.p + 1, s.o, s.t, s.g⟩
  else if s.p = 0 then ⟨s.p, s.o ++ [c], s.t, s.g⟩
  else if s.p = 1 ∧ 48 ≤ c.toNat ∧ c.toNat ≤ 57 ∧ s.t ≤ 1048576 then ⟨s.p, s.o, 10 * s.t + (c.toNat - 48), s.g⟩
  else if s.p = 2 ∧ c ≠ 10 then ⟨s.p, s.o, s.t, s.g ++ [c]⟩
  else s
def readR (s : List UInt8) : RS := s.foldl stepR ⟨0, [], 0, []⟩
theorem fold_o : ∀ (o o0 : List UInt8) (t : Nat) (g : List UInt8), (9 : UInt8) ∉ o → o.foldl stepR ⟨0, o0, t, g⟩ = ⟨0, o0 ++ o, t, g⟩
  | [], o0, t, g, _ => by simp
  | c :: o, o0, t, g, h => by
    have hc : c ≠ 9 := fun e => h (by rw [e]; exact List.mem_cons_self)
    rw [List.foldl_cons, stepR, if_neg hc, if_pos rfl, fold_o o _ t g (fun hm => h (List.mem_cons_of_mem _ hm))]
    simp
theorem fold_g (o : List UInt8) (t : Nat) : ∀ (g g0 : List UInt8), (9 : UInt8) ∉ g → (10 : UInt8) ∉ g → g.foldl stepR ⟨2, o, t, g0⟩ = ⟨2, o, t, g0 ++ g⟩
  | [], g0, _, _ => by simp
  | c :: g, g0, h, h' => by
    have hc : c ≠ 9 := fun e => h (by rw [e]; exact List.mem_cons_self)
    have hc' : c ≠ 10 := fun e => h' (by rw [e]; exact List.mem_cons_self)
    rw [List.foldl_cons, stepR, if_neg hc, if_neg (show ¬ ((2 : Nat) = 0) by decide), if_neg (fun e => absurd (show (2 : Nat) = 1 from e.1) (by decide)), if_pos ⟨rfl, hc'⟩, fold_g o t g _ (fun hm => h (List.mem_cons_of_mem _ hm)) (fun hm => h' (List.mem_cons_of_mem _ hm))]
    simp
theorem fold_d (o g : List UInt8) : ∀ u : Nat, u ≤ 1048576 → (Lib.decDigits u).foldl stepR ⟨1, o, 0, g⟩ = ⟨1, o, u, g⟩ := by
  intro u
  induction u using Nat.strongRecOn with
  | _ u ih =>
    intro hu
    have one : ∀ d, d < 10 → (UInt8.ofNat (48 + d)).toNat = 48 + d := fun d hd => by
      rw [UInt8.toNat_ofNat']; omega
    have step : ∀ d t, d < 10 → t ≤ 1048576 → stepR ⟨1, o, t, g⟩ (UInt8.ofNat (48 + d)) = ⟨1, o, 10 * t + d, g⟩ := fun d t hd ht => by
      have h1 := one d hd
      have hne : UInt8.ofNat (48 + d) ≠ 9 := fun e => by rw [e] at h1; have : (9 : UInt8).toNat = 9 := rfl; omega
      rw [stepR, if_neg hne, if_neg (by simp), if_pos ⟨rfl, by omega, by omega, ht⟩, h1]
      simp
    rw [Lib.decDigits]
    split
    · rename_i h
      rw [List.foldl_cons, List.foldl_nil, step u 0 h (by omega)]
      simp
    · rw [List.foldl_append, ih (u / 10) (by omega) (by omega), List.foldl_cons, List.foldl_nil, step (u % 10) _ (by omega) (by omega)]
      congr 1
      omega
theorem read_line {o : List UInt8} {t : Nat} {g : List UInt8} (h : Parts o t g) : readR (lineL o t g) = ⟨2, o, t, g⟩ := by
  unfold readR lineL
  have s9 : ∀ p o t g, stepR ⟨p, o, t, g⟩ 9 = ⟨p + 1, o, t, g⟩ := fun p o t g => by rw [stepR, if_pos rfl]
  have s10 : ∀ o t g, stepR ⟨2, o, t, g⟩ 10 = ⟨2, o, t, g⟩ := fun o t g => by simp [stepR]
  rw [List.foldl_append, fold_o o [] 0 [] h.o9, List.foldl_cons, s9, List.foldl_append, List.nil_append, fold_d o [] t h.tM, List.foldl_cons, s9, List.foldl_append, fold_g o t g [] h.g9 h.g10, List.foldl_cons, List.foldl_nil, s10, List.nil_append]
theorem step_t (s : RS) (c : UInt8) (h : s.t ≤ 10485769) : (stepR s c).t ≤ 10485769 := by
  unfold stepR
  split
  · exact h
  · split
    · exact h
    · split
      · rename_i h1
        show 10 * s.t + (c.toNat - 48) ≤ 10485769
        omega
      · split <;> exact h
theorem ref_same (s : ByteArray) : backR s (str (readR s.data.toList).o) ((readR s.data.toList).t : Int) (str (readR s.data.toList).g) = getR s := by
  apply back_same
  intro o' t' g' hm hs
  have h := mayR_is hm
  rw [hs, str_data, txR, read_line h.parts]
  exact ⟨str_of _, by have := h.t1; show ((t'.toNat : Nat) : Int) = t'; omega, str_of _⟩
end Go.Proofs.YtdaddlplpkmkmaaDoor.Spec
