/- Chapter 13: a record's line, and what is read of one: lists of bytes, no program in sight. -/
import Derived.Test.YtdaddlplpkmkmaaDoorPlain
import Derived.Lib.AtoiAllCases
import Derived.Lib.ItoaMem
import Derived.Lib.IndexMore
import Derived.Lib.Strings
namespace Go.Proofs.YtdaddlplpkmkmaaDoor.Spec

/-- what stands ahead of the first sign, and what behind it -/
def cutAt (c : UInt8) : List UInt8 → List UInt8 × List UInt8
  | [] => ([], [])
  | b :: r => if b = c then ([], r) else (b :: (cutAt c r).1, (cutAt c r).2)
theorem cutAt_hit (c : UInt8) : ∀ (a r : List UInt8), c ∉ a → cutAt c (a ++ c :: r) = (a, r)
  | [], r, _ => by simp [cutAt]
  | b :: a, r, h => by
    have hb : b ≠ c := fun e => h (by rw [e]; exact List.mem_cons_self)
    rw [List.cons_append, cutAt, if_neg hb, cutAt_hit c a r (fun hm => h (List.mem_cons_of_mem _ hm))]
theorem cutAt_none (c : UInt8) : ∀ a : List UInt8, c ∉ a → cutAt c a = (a, [])
  | [], _ => rfl
  | b :: a, h => by
    have hb : b ≠ c := fun e => h (by rw [e]; exact List.mem_cons_self)
    rw [cutAt, if_neg hb, cutAt_none c a (fun hm => h (List.mem_cons_of_mem _ hm))]
theorem cutAt_split (c : UInt8) : ∀ s : List UInt8, c ∈ s → s = (cutAt c s).1 ++ c :: (cutAt c s).2 ∧ c ∉ (cutAt c s).1
  | [], h => by cases h
  | b :: r, h => by
    rw [cutAt]
    by_cases hb : b = c
    · rw [if_pos hb, hb]; simp
    · rw [if_neg hb]
      have hr : c ∈ r := by
        rcases List.mem_cons.1 h with e | e
        · exact absurd e.symm hb
        · exact e
      obtain ⟨h1, h2⟩ := cutAt_split c r hr
      refine ⟨by rw [List.cons_append, ← h1], fun hm => ?_⟩
      rcases List.mem_cons.1 hm with e | e
      · exact hb e.symm
      · exact h2 e
theorem cutAt_len (c : UInt8) : ∀ s : List UInt8, (cutAt c s).1.length ≤ s.length ∧ (cutAt c s).2.length ≤ s.length
  | [] => by simp [cutAt]
  | b :: r => by
    have := cutAt_len c r
    rw [cutAt]
    split <;> simp <;> omega
theorem cut_cutAt (c : UInt8) (s : List UInt8) : (Lib.cut s [c]).1 = (cutAt c s).1 ∧ (Lib.cut s [c]).2.1 = (cutAt c s).2 := by
  by_cases h : c ∈ s
  · obtain ⟨h1, h2⟩ := cutAt_split c s h
    have hi : ∀ (a r : List UInt8), c ∉ a → Lib.index (a ++ c :: r) [c] = a.length := by
      intro a
      induction a with
      | nil => intro r _; simp [index_cons_eq]
      | cons b a ih =>
        intro r hn
        have hb : b ≠ c := fun e => hn (by rw [e]; exact List.mem_cons_self)
        rw [List.cons_append, index_cons_ne b c _ hb, ih r (fun hm => hn (List.mem_cons_of_mem _ hm)), if_neg (by omega), List.length_cons]
        omega
    generalize (cutAt c s).1 = a at h1 h2 ⊢
    generalize (cutAt c s).2 = r at h1 ⊢
    subst h1
    have e := hi a r h2
    unfold Lib.cut
    rw [e, if_pos (by omega)]
    simp only [Int.toNat_natCast, List.length_singleton]
    constructor
    · rw [List.take_left' rfl]
    · have : a ++ c :: r = (a ++ [c]) ++ r := by simp
      rw [this, List.drop_left' (by simp)]
  · rw [cutAt_none c s h]
    have e := (index_none_count c s).2 h
    unfold Lib.cut
    rw [e, if_neg (by omega)]
    exact ⟨rfl, rfl⟩

/-! ### Digits -/
theorem dec_digit : ∀ (u : Nat) (b : UInt8), b ∈ Lib.decDigits u → 48 ≤ b.toNat ∧ b.toNat ≤ 57 := by
  intro u
  induction u using Nat.strongRecOn with
  | _ u ih =>
    intro b hb
    have one : ∀ d, d < 10 → (UInt8.ofNat (48 + d)).toNat = 48 + d := fun d hd => by
      rw [UInt8.toNat_ofNat']; omega
    rw [Lib.decDigits] at hb
    split at hb
    · rename_i h
      obtain rfl := List.mem_singleton.1 hb
      rw [one u h]; omega
    · rcases List.mem_append.1 hb with hb | hb
      · exact ih (u / 10) (by omega) b hb
      · obtain rfl := List.mem_singleton.1 hb
        rw [one (u % 10) (by omega)]; omega
theorem dec_ne (u : Nat) : Lib.decDigits u ≠ [] := by
  rw [Lib.decDigits]
  split <;> simp
theorem dec_len (u : Nat) (h : u ≤ 1048576) : (Lib.decDigits u).length ≤ 7 := by
  have key : ∀ (n u : Nat), u < 10 ^ (n + 1) → (Lib.decDigits u).length ≤ n + 1 := by
    intro n
    induction n with
    | zero => intro u h; rw [Lib.decDigits, dif_pos (by omega)]; simp
    | succ n ih =>
      intro u h
      rw [Lib.decDigits]
      split
      · simp
      · have := ih (u / 10) (by rw [Nat.pow_succ] at h; omega)
        rw [List.length_append, List.length_singleton]
        omega
  exact key 6 u (by omega)
theorem parse_app : ∀ (a b : List UInt8) (acc u : Nat), Lib.parseUint10 acc a = .ok u → Lib.parseUint10 acc (a ++ b) = Lib.parseUint10 u b
  | [], b, acc, u, h => by
    simp only [Lib.parseUint10] at h
    injection h with h
    rw [List.nil_append, h]
  | c :: a, b, acc, u, h => by
    simp only [Lib.parseUint10, List.cons_append] at h ⊢
    by_cases h1 : 48 ≤ c.toNat ∧ c.toNat ≤ 57
    · rw [if_pos h1] at h ⊢
      by_cases h2 : 1844674407370955162 ≤ acc
      · rw [if_pos h2] at h; cases h
      · rw [if_neg h2] at h ⊢
        by_cases h3 : 18446744073709551616 ≤ acc * 10 + (c.toNat - 48)
        · rw [if_pos h3] at h; cases h
        · rw [if_neg h3] at h ⊢
          exact parse_app a b _ u h
    · rw [if_neg h1] at h; cases h
theorem parse_dec : ∀ u : Nat, u < 9223372036854775808 → Lib.parseUint10 0 (Lib.decDigits u) = .ok u := by
  intro u
  induction u using Nat.strongRecOn with
  | _ u ih =>
    intro hu
    have one : ∀ d, d < 10 → (UInt8.ofNat (48 + d)).toNat = 48 + d := fun d hd => by
      rw [UInt8.toNat_ofNat']; omega
    rw [Lib.decDigits]
    split
    · rename_i h
      simp only [Lib.parseUint10, one u h]
      rw [if_pos (by omega), if_neg (by omega), if_neg (by omega)]
      congr 1
      omega
    · rename_i h
      rw [parse_app _ _ _ _ (ih (u / 10) (by omega) (by omega))]
      simp only [Lib.parseUint10, one (u % 10) (by omega)]
      rw [if_pos (by omega), if_neg (by omega), if_neg (by omega)]
      congr 1
      omega
/-- the number that strconv.Atoi gives, with an error or without -/
def atoiV (l : List UInt8) : Int := match Lib.atoiAll l with
  | .ok v => v
  | .range => Lib.atoiSat l
  | _ => 0
theorem atoiV_dec (u : Nat) (hu : u < 9223372036854775808) : atoiV (Lib.decDigits u) = u := by
  have hp := parse_dec u hu
  have hne := dec_ne u
  have hd := dec_digit u
  unfold atoiV
  cases hl : Lib.decDigits u with
  | nil => exact absurd hl hne
  | cons c r =>
    rw [hl] at hp hd
    have hc := hd c (by simp)
    rw [Lib.atoiAll_plain c r (by omega) (by omega)]
    unfold Lib.parseMag
    rw [if_neg (by simp), hp]
    simp only [Lib.signless]
    rw [if_neg (by omega)]

/-! ### Lines -/
/-- a record's line -/
def lineL (o : List UInt8) (t : Nat) (g : List UInt8) : List UInt8 := o ++ 9 :: (Lib.decDigits t ++ 9 :: (g ++ [10]))
/-- without a line's end behind it -/
def trimE (l : List UInt8) : List UInt8 := Lib.trimSuffix l [10]
theorem trimE_end (g : List UInt8) : trimE (g ++ [10]) = g := by
  have h : [10].isSuffixOf (g ++ [10]) = true := by rw [List.isSuffixOf_iff_suffix]; exact List.suffix_append _ _
  unfold trimE Lib.trimSuffix Lib.hasSuffix
  rw [if_pos h, List.length_append, List.length_singleton, Nat.add_sub_cancel, List.take_left' rfl]
theorem trimE_len (l : List UInt8) : (trimE l).length ≤ l.length := by
  unfold trimE Lib.trimSuffix
  split
  · rw [List.length_take]; omega
  · exact Nat.le_refl _
/-- what the program reads of a line -/
def pO (s : List UInt8) : List UInt8 := (cutAt 9 s).1
def pT (s : List UInt8) : Int := atoiV (cutAt 9 (cutAt 9 s).2).1
def pG (s : List UInt8) : List UInt8 := trimE (cutAt 9 (cutAt 9 s).2).2
structure Parts (o : List UInt8) (t : Nat) (g : List UInt8) : Prop where
  o9 : (9 : UInt8) ∉ o
  o10 : (10 : UInt8) ∉ o
  g9 : (9 : UInt8) ∉ g
  g10 : (10 : UInt8) ∉ g
  t1 : 1 ≤ t
  tM : t ≤ 1048576
  ol : o.length ≤ 16
  gl : g.length ≤ 2048
theorem dec_no (u : Nat) (c : UInt8) (h : c.toNat < 48) : c ∉ Lib.decDigits u := fun hm => by
  have := (dec_digit u c hm).1
  omega
theorem p_line {o : List UInt8} {t : Nat} {g : List UInt8} (h : Parts o t g) : pO (lineL o t g) = o ∧ pT (lineL o t g) = t ∧ pG (lineL o t g) = g := by
  have h1 : cutAt 9 (lineL o t g) = (o, Lib.decDigits t ++ 9 :: (g ++ [10])) := cutAt_hit 9 o _ h.o9
  have h2 : cutAt 9 (Lib.decDigits t ++ 9 :: (g ++ [10])) = (Lib.decDigits t, g ++ [10]) := cutAt_hit 9 _ _ (dec_no t 9 (by decide))
  refine ⟨by rw [pO, h1], ?_, ?_⟩
  · rw [pT, h1, h2]
    exact atoiV_dec t (by have := h.tM; omega)
  · rw [pG, h1, h2]
    exact trimE_end g
theorem line_len {o : List UInt8} {t : Nat} {g : List UInt8} (h : Parts o t g) : (lineL o t g).length ≤ 2074 ∧ 4 ≤ (lineL o t g).length + (if o = [] then 1 else 0) + (if g = [] then 1 else 0) := by
  have h1 := dec_len t h.tM
  have h2 := List.length_pos_iff.2 (dec_ne t)
  have h3 := h.ol
  have h4 := h.gl
  have e : (lineL o t g).length = o.length + (Lib.decDigits t).length + g.length + 3 := by simp [lineL]; omega
  constructor
  · omega
  · have ho : o = [] ∨ 0 < o.length := by cases o <;> simp
    have hg : g = [] ∨ 0 < g.length := by cases g <;> simp
    rw [e]
    rcases ho with rfl | ho <;> rcases hg with rfl | hg <;> simp <;> (try split) <;> (try split) <;> omega
theorem line_body {o : List UInt8} {t : Nat} {g : List UInt8} (h : Parts o t g) : ∃ b, lineL o t g = b ++ [10] ∧ (10 : UInt8) ∉ b := by
  refine ⟨o ++ 9 :: (Lib.decDigits t ++ 9 :: g), by simp [lineL], fun hm => ?_⟩
  rcases List.mem_append.1 hm with hm | hm
  · exact h.o10 hm
  · rcases List.mem_cons.1 hm with hm | hm
    · exact absurd hm (by decide)
    · rcases List.mem_append.1 hm with hm | hm
      · exact dec_no t 10 (by decide) hm
      · rcases List.mem_cons.1 hm with hm | hm
        · exact absurd hm (by decide)
        · exact h.g10 hm
theorem line_first {o : List UInt8} {t : Nat} {g : List UInt8} (h : Parts o t g) (r : List UInt8) : (cutAt 10 (lineL o t g ++ r)).1.length + 1 = (lineL o t g).length ∧ (10 : UInt8) ∈ lineL o t g := by
  obtain ⟨b, hb, hn⟩ := line_body h
  rw [hb, List.append_assoc, List.singleton_append, cutAt_hit 10 b r hn]
  simp
theorem line_inj {o o' : List UInt8} {t t' : Nat} {g g' : List UInt8} (h : Parts o t g) (h' : Parts o' t' g') {r r' : List UInt8} (e : lineL o t g ++ r = lineL o' t' g' ++ r') : o = o' ∧ t = t' ∧ g = g' := by
  have hl : lineL o t g = lineL o' t' g' := by
    have h1 := (line_first h r).1
    have h2 := (line_first h' r').1
    rw [e, h2] at h1
    exact (List.append_inj e h1.symm).1
  obtain ⟨a1, a2, a3⟩ := p_line h
  obtain ⟨b1, b2, b3⟩ := p_line h'
  rw [hl] at a1 a2 a3
  refine ⟨a1.symm.trans b1, ?_, a3.symm.trans b3⟩
  have := a2.symm.trans b2
  omega
end Go.Proofs.YtdaddlplpkmkmaaDoor.Spec
