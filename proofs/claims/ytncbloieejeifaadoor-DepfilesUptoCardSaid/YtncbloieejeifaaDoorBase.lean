/- Plain words of this work: names, splits and joins over lists of bytes, and how the library's own words say the same. No program is in sight. -/
import Derived.Lib.SplitLaws
import Derived.Lib.Join
import Derived.Lib.TrimUEq
import Derived.Shelf.GgClosure.StringsIndexFunc
namespace Go.Proofs.YtncbloieejeifaaDoor.Spec

/-- a byte (or a rune) that a name may have -/
def nameByte (b : Nat) : Bool := (decide (97 ≤ b) && decide (b ≤ 122)) || (decide (48 ≤ b) && decide (b ≤ 57)) || b == 95 || b == 46 || b == 45 || b == 47
/-- may a name be? -/
def nameMay (l : List UInt8) : Bool := l.all (fun b => nameByte b.toNat) && decide (1 ≤ l.length) && decide (l.length ≤ 16)

theorem nameByte_lt {b : Nat} (h : nameByte b = true) : b < 128 := by
  simp only [nameByte, Bool.or_eq_true, Bool.and_eq_true, decide_eq_true_eq, beq_iff_eq] at h
  omega

theorem decode_low (s : ByteArray) (i : Nat) (h : (s.get! i).toNat < 128) : Utf8.decode s i = ((s.get! i).toNat, 1) := by
  rw [Lib.decode_at, Lib.decodeN_ascii _ _ _ _ _ h]
theorem decode_high (s : ByteArray) (i : Nat) (h : ¬ (s.get! i).toNat < 128) : 128 ≤ (Utf8.decode s i).1 := by
  rw [Lib.decode_at]
  unfold Lib.decodeN
  rw [if_neg h]
  repeat' split
  all_goals first | omega | (simp only []; omega)

theorem odd_found (s : ByteArray) : ∀ (f pos : Nat), s.size - pos ≤ f →
    (0 ≤ Lib.idxFuncFrom (fun r => !nameByte r) true s f pos ↔ ∃ j, pos ≤ j ∧ j < s.size ∧ nameByte (s.get! j).toNat = false)
  | 0, pos, hf => by
    refine ⟨fun h => ?_, fun ⟨j, h1, h2, _⟩ => by omega⟩
    simp [Lib.idxFuncFrom] at h
  | f + 1, pos, hf => by
    unfold Lib.idxFuncFrom
    by_cases hp : pos < s.size
    · rw [if_pos hp]
      by_cases hn : nameByte (s.get! pos).toNat = true
      · have hd := decode_low s pos (nameByte_lt hn)
        rw [hd]
        simp only [hn, Bool.not_true, Bool.false_eq_true, if_false]
        rw [odd_found s f (pos + 1) (by omega)]
        refine ⟨fun ⟨j, h1, h2, h3⟩ => ⟨j, by omega, h2, h3⟩, fun ⟨j, h1, h2, h3⟩ => ⟨j, ?_, h2, h3⟩⟩
        rcases Nat.eq_or_lt_of_le h1 with e | e
        · subst e; rw [hn] at h3; cases h3
        · omega
      · have hn' : nameByte (s.get! pos).toNat = false := by simpa using hn
        have hq : nameByte (Utf8.decode s pos).1 = false := by
          by_cases hl : (s.get! pos).toNat < 128
          · rw [decode_low s pos hl]; exact hn'
          · have := decode_high s pos hl
            cases hb : nameByte (Utf8.decode s pos).1 with
            | false => rfl
            | true => have := nameByte_lt hb; omega
        simp only [hq, Bool.not_false, if_true]
        exact ⟨fun _ => ⟨pos, Nat.le_refl _, hp, hn'⟩, fun _ => by omega⟩
    · rw [if_neg hp]
      exact ⟨fun h => by omega, fun ⟨j, h1, h2, _⟩ => by omega⟩

theorem get!_eq (s : ByteArray) (j : Nat) (h : j < s.size) : s.get! j = s.data.toList[j]'(by simpa using h) := by
  show s.data[j]! = _
  rw [getElem!_pos s.data j h]
  simp

theorem odd_iff (s : ByteArray) : decide (0 ≤ Lib.idxFunc (fun r => !nameByte r) true s) = !(s.data.toList.all fun b => nameByte b.toNat) := by
  have h := odd_found s s.size 0 (by omega)
  unfold Lib.idxFunc
  cases ha : s.data.toList.all fun b => nameByte b.toNat with
  | true =>
    simp only [Bool.not_true, decide_eq_false_iff_not]
    rw [h]
    rintro ⟨j, _, h2, h3⟩
    have := List.all_eq_true.1 ha (s.get! j) (by rw [get!_eq s j h2]; exact List.getElem_mem _)
    rw [h3] at this
    cases this
  | false =>
    simp only [Bool.not_false, decide_eq_true_eq]
    rw [h]
    obtain ⟨b, hb, hn⟩ := List.all_eq_false.1 ha
    obtain ⟨j, hj, e⟩ := List.getElem_of_mem hb
    have hj' : j < s.size := by simpa using hj
    exact ⟨j, Nat.zero_le _, hj', by rw [get!_eq s j hj', e]; simpa using hn⟩

/-! ### Splits -/
/-- what stands between signs -/
def split (c : UInt8) : List UInt8 → List (List UInt8)
  | [] => [[]]
  | b :: r => if b = c then [] :: split c r else (b :: (split c r).headD []) :: (split c r).tail

theorem split_ne (c : UInt8) (l : List UInt8) : split c l ≠ [] := by
  cases l with
  | nil => simp [split]
  | cons b r => simp only [split]; split <;> simp
theorem split_cons (c : UInt8) (l : List UInt8) : split c l = (split c l).headD [] :: (split c l).tail := by
  cases h : split c l with
  | nil => exact absurd h (split_ne c l)
  | cons x r => rfl

theorem index_cons_eq (c : UInt8) (l : List UInt8) : Lib.index (c :: l) [c] = 0 := by simp [Lib.index]
theorem index_cons_ne (b c : UInt8) (l : List UInt8) (h : b ≠ c) : Lib.index (b :: l) [c] = if Lib.index l [c] = -1 then -1 else Lib.index l [c] + 1 := by
  have : ([c].isPrefixOf (b :: l)) = false := by simp [List.isPrefixOf, Ne.symm h]
  simp [Lib.index, this]
theorem index_none_count (c : UInt8) : ∀ l : List UInt8, Lib.index l [c] = -1 ↔ c ∉ l
  | [] => by simp [Lib.index]
  | b :: l => by
    by_cases h : b = c
    · subst h; rw [index_cons_eq]; simp
    · rw [index_cons_ne b c l h]
      have ih := index_none_count c l
      have hg := Lib.index_ge l [c]
      by_cases hi : Lib.index l [c] = -1
      · rw [if_pos hi]; simp [Ne.symm h, ih.1 hi]
      · rw [if_neg hi]
        refine ⟨fun e => by omega, fun e => ?_⟩
        exact absurd (ih.2 (fun hm => e (List.mem_cons_of_mem _ hm))) hi

theorem split_none (c : UInt8) : ∀ l : List UInt8, c ∉ l → split c l = [l]
  | [], _ => rfl
  | b :: l, h => by
    have hb : b ≠ c := fun e => h (by rw [e]; exact List.mem_cons_self)
    rw [split, if_neg hb, split_none c l (fun hm => h (List.mem_cons_of_mem _ hm))]
    rfl
theorem split_at (c : UInt8) : ∀ (l : List UInt8) (i : Nat), Lib.index l [c] = i → split c l = l.take i :: split c (l.drop (i + 1))
  | [], i, h => by simp [Lib.index] at h
  | b :: l, i, h => by
    by_cases hb : b = c
    · subst hb
      rw [index_cons_eq] at h
      obtain rfl : i = 0 := by omega
      simp [split]
    · rw [index_cons_ne b c l hb] at h
      by_cases hi : Lib.index l [c] = -1
      · rw [if_pos hi] at h; omega
      · rw [if_neg hi] at h
        have hg := Lib.index_ge l [c]
        obtain ⟨k, rfl⟩ : ∃ k, i = k + 1 := ⟨i - 1, by omega⟩
        have ih := split_at c l k (by omega)
        rw [split, if_neg hb, ih]
        simp

theorem splitK_split (c : UInt8) : ∀ (k : Nat) (l : List UInt8), Lib.count l [c] = k → Lib.splitK [c] 0 k l = split c l := by
  intro k
  induction k with
  | zero =>
    intro l h
    rw [Lib.count_one] at h
    show [l] = _
    rw [split_none c l (List.count_eq_zero.1 h)]
  | succ k ih =>
    intro l h
    have hm : c ∈ l := by rw [Lib.count_one] at h; exact List.count_pos_iff.1 (by omega)
    have hi : Lib.index l [c] ≠ -1 := fun e => (index_none_count c l).1 e hm
    have hg := Lib.index_ge l [c]
    obtain ⟨i, e⟩ : ∃ i : Nat, Lib.index l [c] = i := ⟨(Lib.index l [c]).toNat, by omega⟩
    have hb : ¬ (Lib.index l [c] == -1) = true := by simpa using hi
    have hc := Lib.count_hit (sub := [c]) (by simp) e
    rw [Lib.splitK, if_neg hb, e, split_at c l i e]
    simp only [List.length_singleton] at hc ⊢
    rw [show ((i : Int).toNat + 0) = i by omega, show ((i : Int).toNat + 1) = i + 1 by omega, ih _ (by omega)]

/-- bytes as a string -/
def str (l : List UInt8) : ByteArray := ⟨l.toArray⟩
theorem str_data (l : List UInt8) : (str l).data.toList = l := by simp [str]
theorem str_of (s : ByteArray) : str s.data.toList = s := by cases s; simp [str]
theorem size_data (s : ByteArray) : s.data.toList.length = s.size := by rw [Array.length_toList]; rfl
theorem str_size (l : List UInt8) : (str l).size = l.length := by rw [← size_data, str_data]
theorem data_inj {s t : ByteArray} (h : s.data.toList = t.data.toList) : s = t := by rw [← str_of s, ← str_of t, h]
theorem map_str_data (xs : List ByteArray) : (xs.map (·.data.toList)).map str = xs := by
  rw [List.map_map]
  have : (str ∘ fun x : ByteArray => x.data.toList) = id := by funext x; exact str_of x
  rw [this, List.map_id]

theorem splitB_split (c : UInt8) (s : ByteArray) : Lib.splitB ⟨#[c]⟩ 0 (Lib.countB s ⟨#[c]⟩) s = (split c s.data.toList).map str := by
  have h := Lib.splitB_data ⟨#[c]⟩ 0 (Lib.countB s ⟨#[c]⟩) s
  rw [← map_str_data (Lib.splitB ⟨#[c]⟩ 0 (Lib.countB s ⟨#[c]⟩) s), h]
  congr 1
  exact splitK_split c _ _ rfl

end Go.Proofs.YtncbloieejeifaaDoor.Spec
