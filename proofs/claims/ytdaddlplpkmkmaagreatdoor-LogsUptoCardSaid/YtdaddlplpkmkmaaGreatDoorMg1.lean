import Derived.Lib.SplitLaws
import Derived.Lib.Join
import Derived.Lib.TrimUEq
import Derived.Shelf.GgClosure.StringsIndexFunc
import Derived.Test.YtdaddlplpkmkmaaGreatDoorWWords
import Derived.Laws.BitsLemmas
import Derived.Test.YtdaddlplpkmkmaaGreatDoorWMore
import Derived.Lib.AtoiAllCases
import Derived.Lib.ItoaMem
import Derived.Lib.IndexMore
import Derived.Lib.Strings
section
/- Plain words of this work: names, splits and joins over lists of bytes, and how the library's own words say the same. No program is in sight. -/
namespace Go.Proofs.YtdaddlplpkmkmaaGreatDoor.Spec

/-- a byte (or a rune) that a name may have -/
def nameByte (b : Nat) : Bool := (decide (97 ≤ b) && decide (b ≤ 122)) || (decide (48 ≤ b) && decide (b ≤ 57)) || b == 95 || b == 46 || b == 45 || b == 47
/-- may a name be? -/
def nameMay (l : List UInt8) : Bool := l.all (fun b => nameByte b.toNat) && decide (1 ≤ l.length) && decide (l.length ≤ 16)

theorem nameByte_lt {b : Nat} (h : nameByte b = true) : b < 128 := by
  simp only [nameByte, Bool.or_eq_true, Bool.and_eq_true, decide_eq_true_eq, beq_iff_eq] at h
  omega

theorem decode_low (s : ByteArray) (i : Nat) (h : (s.get! i).toNat < 128) : Utf8.decode s i = ((s.get! i).toNat, 1) := by
  rw [Lib.decode_at, Lib.decodeN_ascii _ _ _ _ _ h]
theorem decode_high (s : ByteArray) (i : Nat) (h : ¬ (s.get! i).toNat < 128) : 128 ≤ (Utf8.decode s i).1 := by
  rw [Lib.decode_at]
  unfold Lib.decodeN
  rw [if_neg h]
  repeat' split
  all_goals first | omega | (simp only []; omega)

theorem odd_found (s : ByteArray) : ∀ (f pos : Nat), s.size - pos ≤ f →
    (0 ≤ Lib.idxFuncFrom (fun r => !nameByte r) true s f pos ↔ ∃ j, pos ≤ j ∧ j < s.size ∧ nameByte (s.get! j).toNat = false)
  | 0, pos, hf => by
    refine ⟨fun h => ?_, fun ⟨j, h1, h2, _⟩ => by omega⟩
    simp [Lib.idxFuncFrom] at h
  | f + 1, pos, hf => by
    unfold Lib.idxFuncFrom
    by_cases hp : pos < s.size
    · rw [if_pos hp]
      by_cases hn : nameByte (s.get! pos).toNat = true
      · have hd := decode_low s pos (nameByte_lt hn)
        rw [hd]
        simp only [hn, Bool.not_true, Bool.false_eq_true, if_false]
        rw [odd_found s f (pos + 1) (by omega)]
        refine ⟨fun ⟨j, h1, h2, h3⟩ => ⟨j, by omega, h2, h3⟩, fun ⟨j, h1, h2, h3⟩ => ⟨j, ?_, h2, h3⟩⟩
        rcases Nat.eq_or_lt_of_le h1 with e | e
        · subst e; rw [hn] at h3; cases h3
        · omega
      · have hn' : nameByte (s.get! pos).toNat = false := by simpa using hn
        have hq : nameByte (Utf8.decode s pos).1 = false := by
          by_cases hl : (s.get! pos).toNat < 128
          · rw [decode_low s pos hl]; exact hn'
          · have := decode_high s pos hl
            cases hb : nameByte (Utf8.decode s pos).1 with
            | false => rfl
            | true => have := nameByte_lt hb; omega
        simp only [hq, Bool.not_false, if_true]
        exact ⟨fun _ => ⟨pos, Nat.le_refl _, hp, hn'⟩, fun _ => by omega⟩
    · rw [if_neg hp]
      exact ⟨fun h => by omega, fun ⟨j, h1, h2, _⟩ => by omega⟩

theorem get!_eq (s : ByteArray) (j : Nat) (h : j < s.size) : s.get! j = s.data.toList[j]'(by simpa using h) := by
  show s.data[j]! = _
  rw [getElem!_pos s.data j h]
  simp

theorem odd_iff (s : ByteArray) : decide (0 ≤ Lib.idxFunc (fun r => !nameByte r) true s) = !(s.data.toList.all fun b => nameByte b.toNat) := by
  have h := odd_found s s.size 0 (by omega)
  unfold Lib.idxFunc
  cases ha : s.data.toList.all fun b => nameByte b.toNat with
  | true =>
    simp only [Bool.not_true, decide_eq_false_iff_not]
    rw [h]
    rintro ⟨j, _, h2, h3⟩
    have := List.all_eq_true.1 ha (s.get! j) (by rw [get!_eq s j h2]; exact List.getElem_mem _)
    rw [h3] at this
    cases this
  | false =>
    simp only [Bool.not_false, decide_eq_true_eq]
    rw [h]
    obtain ⟨b, hb, hn⟩ := List.all_eq_false.1 ha
    obtain ⟨j, hj, e⟩ := List.getElem_of_mem hb
    have hj' : j < s.size := by simpa using hj
    exact ⟨j, Nat.zero_le _, hj', by rw [get!_eq s j hj', e]; simpa using hn⟩

/-! ### Splits -/
/-- what stands between signs -/
def split (c : UInt8) : List UInt8 → List (List UInt8)
  | [] => [[]]
  | b :: r => if b = c then [] :: split c r else (b :: (split c r).headD []) :: (split c r).tail

theorem split_ne (c : UInt8) (l : List UInt8) : split c l ≠ [] := by
  cases l with
  | nil => simp [split]
  | cons b r => simp only [split]; split <;> simp
theorem split_cons (c : UInt8) (l : List UInt8) : split c l = (split c l).headD [] :: (split c l).tail := by
  cases h : split c l with
  | nil => exact absurd h (split_ne c l)
  | cons x r => rfl

theorem index_cons_eq (c : UInt8) (l : List UInt8) : Lib.index (c :: l) [c] = 0 := by simp [Lib.index]
theorem index_cons_ne (b c : UInt8) (l : List UInt8) (h : b ≠ c) : Lib.index (b :: l) [c] = if Lib.index l [c] = -1 then -1 else Lib.index l [c] + 1 := by
  have : ([c].isPrefixOf (b :: l)) = false := by simp [List.isPrefixOf, Ne.symm h]
  simp [Lib.index, this]
theorem index_none_count (c : UInt8) : ∀ l : List UInt8, Lib.index l [c] = -1 ↔ c ∉ l
  | [] => by simp [Lib.index]
  | b :: l => by
    by_cases h : b = c
    · subst h; rw [index_cons_eq]; simp
    · rw [index_cons_ne b c l h]
      have ih := index_none_count c l
      have hg := Lib.index_ge l [c]
      by_cases hi : Lib.index l [c] = -1
      · rw [if_pos hi]; simp [Ne.symm h, ih.1 hi]
      · rw [if_neg hi]
        refine ⟨fun e => by omega, fun e => ?_⟩
        exact absurd (ih.2 (fun hm => e (List.mem_cons_of_mem _ hm))) hi

theorem split_none (c : UInt8) : ∀ l : List UInt8, c ∉ l → split c l = [l]
  | [], _ => rfl
  | b :: l, h => by
    have hb : b ≠ c := fun e => h (by rw [e]; exact List.mem_cons_self)
    rw [split, if_neg hb, split_none c l (fun hm => h (List.mem_cons_of_mem _ hm))]
    rfl
theorem split_at (c : UInt8) : ∀ (l : List UInt8) (i : Nat), Lib.index l [c] = i → split c l = l.take i :: split c (l.drop (i + 1))
  | [], i, h => by simp [Lib.index] at h
  | b :: l, i, h => by
    by_cases hb : b = c
    · subst hb
      rw [index_cons_eq] at h
      obtain rfl : i = 0 := by omega
      simp [split]
    · rw [index_cons_ne b c l hb] at h
      by_cases hi : Lib.index l [c] = -1
      · rw [if_pos hi] at h; omega
      · rw [if_neg hi] at h
        have hg := Lib.index_ge l [c]
        obtain ⟨k, rfl⟩ : ∃ k, i = k + 1 := ⟨i - 1, by omega⟩
        have ih := split_at c l k (by omega)
        rw [split, if_neg hb, ih]
        simp

theorem splitK_split (c : UInt8) : ∀ (k : Nat) (l : List UInt8), Lib.count l [c] = k → Lib.splitK [c] 0 k l = split c l := by
  intro k
  induction k with
  | zero =>
    intro l h
    rw [Lib.count_one] at h
    show [l] = _
    rw [split_none c l (List.count_eq_zero.1 h)]
  | succ k ih =>
    intro l h
    have hm : c ∈ l := by rw [Lib.count_one] at h; exact List.count_pos_iff.1 (by omega)
    have hi : Lib.index l [c] ≠ -1 := fun e => (index_none_count c l).1 e hm
    have hg := Lib.index_ge l [c]
    obtain ⟨i, e⟩ : ∃ i : Nat, Lib.index l [c] = i := ⟨(Lib.index l [c]).toNat, by omega⟩
    have hb : ¬ (Lib.index l [c] == -1) = true := by simpa using hi
    have hc := Lib.count_hit (sub := [c]) (by simp) e
    rw [Lib.splitK, if_neg hb, e, split_at c l i e]
    simp only [List.length_singleton] at hc ⊢
    rw [show ((i : Int).toNat + 0) = i by omega, show ((i : Int).toNat + 1) = i + 1 by omega, ih _ (by omega)]

/-- bytes as a string -/
def str (l : List UInt8) : ByteArray := ⟨l.toArray⟩
theorem str_data (l : List UInt8) : (str l).data.toList = l := by simp [str]
theorem str_of (s : ByteArray) : str s.data.toList = s := by cases s; simp [str]
theorem size_data (s : ByteArray) : s.data.toList.length = s.size := by rw [Array.length_toList]; rfl
theorem str_size (l : List UInt8) : (str l).size = l.length := by rw [← size_data, str_data]
theorem data_inj {s t : ByteArray} (h : s.data.toList = t.data.toList) : s = t := by rw [← str_of s, ← str_of t, h]
theorem map_str_data (xs : List ByteArray) : (xs.map (·.data.toList)).map str = xs := by
  rw [List.map_map]
  have : (str ∘ fun x : ByteArray => x.data.toList) = id := by funext x; exact str_of x
  rw [this, List.map_id]

theorem splitB_split (c : UInt8) (s : ByteArray) : Lib.splitB ⟨#[c]⟩ 0 (Lib.countB s ⟨#[c]⟩) s = (split c s.data.toList).map str := by
  have h := Lib.splitB_data ⟨#[c]⟩ 0 (Lib.countB s ⟨#[c]⟩) s
  rw [← map_str_data (Lib.splitB ⟨#[c]⟩ 0 (Lib.countB s ⟨#[c]⟩) s), h]
  congr 1
  exact splitK_split c _ _ rfl

end Go.Proofs.YtdaddlplpkmkmaaGreatDoor.Spec
end

section
/- Plain words of this work: 'from some number of rounds on' through tests and calls; lists and strings read by an index. -/
namespace Go.Proofs.YtdaddlplpkmkmaaGreatDoor.Spec
open Go.RowKit Go.Proofs.YtdaddlplpkmkmaaGreatDoorW.PrintWords

section
variable {α β : Type} {g f : Nat → Option α} {r : α}
theorem ev_pos {c : Prop} [Decidable c] (h : c) (e : Ev g r) : Ev (fun k => if c then g k else f k) r := by simpa only [if_pos h] using e
theorem ev_neg {c : Prop} [Decidable c] (h : ¬ c) (e : Ev f r) : Ev (fun k => if c then g k else f k) r := by simpa only [if_neg h] using e
theorem ev_const {a : Option α} (h : a = some r) : Ev (fun _ => a) r := ⟨0, fun _ _ => h⟩
theorem ev_bindc {a : Option β} {x : β} {g : Nat → β → Option α} (h : a = some x) (e : Ev (fun k => g k x) r) : Ev (fun k => a.bind (g k)) r := by
  subst h; exact e
theorem ev_bind {a : Nat → Option β} {x : β} {g : Nat → β → Option α} (h : Ev a x) (e : Ev (fun k => g k x) r) : Ev (fun k => (a k).bind (g k)) r := Ev.bind h e
theorem ev_ite {c : Prop} [Decidable c] {x y : α} (h1 : c → Ev g x) (h2 : ¬ c → Ev f y) : Ev (fun k => if c then g k else f k) (if c then x else y) := by
  by_cases h : c
  · rw [if_pos h]; exact ev_pos h (h1 h)
  · rw [if_neg h]; exact ev_neg h (h2 h)
theorem ev_eq {r' : α} (e : Ev g r) (h : r = r') : Ev g r' := h ▸ e
end

theorem wrap_nat {n : Nat} (h : n ≤ 4611686018427387904) : wrap64 ((n : Int) + 1) = ((n + 1 : Nat) : Int) := by unfold wrap64; omega
theorem wrap_len {α : Type} (pre : List α) (x : α) (h : pre.length ≤ 4611686018427387904) : wrap64 ((pre.length : Int) + 1) = ((pre ++ [x]).length : Int) := by
  rw [wrap_nat h, List.length_append, List.length_singleton]
theorem wrap_pred {n : Nat} (h0 : 0 < n) (h : n ≤ 4611686018427387904) : wrap64 ((n : Int) - 1) = ((n - 1 : Nat) : Int) := by unfold wrap64; omega
theorem wrap_id {n : Int} (h0 : -9223372036854775808 ≤ n) (h : n ≤ 9223372036854775807) : wrap64 n = n := by unfold wrap64; omega

theorem rdOf_pre {α : Type} (d : α) (pre : List α) (x : α) (rest : List α) : rdOf d (pre ++ x :: rest) (pre.length : Int) = x := by
  simp [rdOf]
theorem rd_pre (pre : List Int) (x : Int) (rest : List Int) : rd (pre ++ x :: rest) (pre.length : Int) = x := by
  simp [rd]
theorem bt_pre (s : ByteArray) (pre : List UInt8) (x : UInt8) (rest : List UInt8) (h : s.data.toList = pre ++ x :: rest) : bt s (pre.length : Int) = x.toNat := by
  have hs : pre.length < s.size := by rw [← size_data, h]; simp
  have e : s[pre.length] = x := by
    have : s[pre.length] = s.data.toList[pre.length]'(by rw [size_data]; exact hs) := by simp [ByteArray.getElem_eq_getElem_data]
    rw [this]
    simp [h]
  simp [bt, hs, e]
theorem size_pre (s : ByteArray) (pre : List UInt8) (x : UInt8) (rest : List UInt8) (h : s.data.toList = pre ++ x :: rest) : pre.length < s.size := by
  rw [← size_data, h]; simp
theorem toList_data (s : ByteArray) : s.toList = s.data.toList := Lib.toList_data s
theorem str_toList (l : List UInt8) : (str l).toList = l := by rw [toList_data, str_data]
theorem extract_data (s : ByteArray) (a b : Nat) : (s.extract a b).data.toList = (s.data.toList.take b).drop a := by
  rw [Lib.extract_data]
  rw [List.drop_take]
theorem append_data (s t : ByteArray) : (s ++ t).data.toList = s.data.toList ++ t.data.toList := by simp
theorem append_size (s t : ByteArray) : (s ++ t).size = s.size + t.size := by simp
theorem str_append (a b : List UInt8) : str a ++ str b = str (a ++ b) := data_inj (by simp [str_data])
theorem str_eq (s : ByteArray) (l : List UInt8) (h : s.data.toList = l) : s = str l := by rw [← h, str_of]
theorem str_inj {a b : List UInt8} (h : str a = str b) : a = b := by have := congrArg (fun s => s.data.toList) h; simpa [str_data] using this
theorem str_nil : (⟨#[]⟩ : ByteArray) = str [] := rfl
theorem size_le {s : ByteArray} {l : List UInt8} (h : s.data.toList = l) : s.size = l.length := by rw [← h, size_data]

/-! ### Whole numbers -/
theorem bits_low (i : Nat) (hi : i ≤ 62) (n : Int) : Go.bits .and .i64 n ((2 ^ i - 1 : Nat) : Int) = n % 2 ^ i := by
  have hpos : 0 < 2 ^ i := Nat.two_pow_pos i
  have h62 : 2 ^ i ≤ 2 ^ 62 := Nat.pow_le_pow_right (by decide) hi
  have hm : 2 ^ i - 1 < 2 ^ 64 := by omega
  have e : ((BitVec.ofInt 64 n) &&& (BitVec.ofInt 64 ((2 ^ i - 1 : Nat) : Int))).toNat = (BitVec.ofInt 64 n).toNat % 2 ^ i := by
    rw [BitVec.toNat_and, BitVec.ofInt_natCast, BitVec.toNat_ofNat, Nat.mod_eq_of_lt hm, Nat.and_two_pow_sub_one_eq_mod]
  have e2 : (((BitVec.ofInt 64 n).toNat % 2 ^ i : Nat) : Int) = n % 2 ^ i := by
    rw [Int.natCast_emod, BitVec.toNat_ofInt]
    have hnn : 0 ≤ n % ((2 ^ 64 : Nat) : Int) := Int.emod_nonneg _ (by decide)
    rw [Int.toNat_of_nonneg hnn]
    have : ((2 ^ i : Nat) : Int) = 2 ^ i := by simp
    rw [this]
    apply Int.emod_emod_of_dvd
    have : ((2 ^ 64 : Nat) : Int) = 2 ^ 64 := by simp
    rw [this]
    exact ⟨2 ^ (64 - i), by rw [← Int.pow_add, Nat.add_sub_cancel' (by omega)]⟩
  show IntKind.i64.wrap (((BitVec.ofInt 64 n) &&& (BitVec.ofInt 64 ((2 ^ i - 1 : Nat) : Int))).toNat : Int) = _
  rw [e, e2, IntKind.wrap_i64]
  have h0 : 0 ≤ n % 2 ^ i := Int.emod_nonneg _ (by have : (0 : Int) < 2 ^ i := Int.pow_pos (by decide); omega)
  have h1 : n % 2 ^ i < 2 ^ i := Int.emod_lt_of_pos _ (Int.pow_pos (by decide))
  have h2 : (2 : Int) ^ i ≤ 2 ^ 62 := by exact_mod_cast h62
  omega
theorem bits15 (n : Int) : ∃ m : Fin 16, Go.bits .and .i64 n 15 = (m.val : Int) := by
  have h := bits_low 4 (by omega) n
  have h' : Go.bits .and .i64 n 15 = n % 16 := h
  exact ⟨⟨(n % 16).toNat, by omega⟩, by rw [h']; show _ = (((n % 16).toNat : Nat) : Int); omega⟩
theorem bits3 (n : Int) : ∃ m : Fin 4, Go.bits .and .i64 n 3 = (m.val : Int) := by
  have h := bits_low 2 (by omega) n
  have h' : Go.bits .and .i64 n 3 = n % 4 := h
  exact ⟨⟨(n % 4).toNat, by omega⟩, by rw [h']; show _ = (((n % 4).toNat : Nat) : Int); omega⟩
theorem u64_wrap (n : Int) : IntKind.u64.wrap n = n % 18446744073709551616 := by simp [IntKind.wrap, IntKind.bits, IntKind.signed]
theorem umod (n : Int) (m : Nat) (h0 : 0 < m) (hm : m ≤ 4611686018427387904) : ∃ i : Nat, i < m ∧ wrap64 (Int.tmod (IntKind.u64.wrap n) (m : Int)) = i := by
  rw [u64_wrap]
  have h1 : 0 ≤ n % 18446744073709551616 := by omega
  rw [Int.tmod_eq_emod_of_nonneg h1]
  have h2 := Int.emod_nonneg (n % 18446744073709551616) (show (m : Int) ≠ 0 by omega)
  have h3 := Int.emod_lt_of_pos (n % 18446744073709551616) (show (0 : Int) < m by omega)
  exact ⟨((n % 18446744073709551616) % (m : Int)).toNat, by omega, by unfold wrap64; omega⟩
end Go.Proofs.YtdaddlplpkmkmaaGreatDoor.Spec
end

section
/- A row's fact, where what it is apart from is spelled with another length. -/
namespace Go.Proofs.YtdaddlplpkmkmaaGreatDoor.Plus
open Go.RowKit Go.Proofs.YtdaddlplpkmkmaaGreatDoorW.PrintWords
theorem ownBlock_len (A : Option Addr) (n m c d : Nat) : (Value.slice A n c).ownBlock = (Value.slice A m d).ownBlock := by cases A <;> rfl
theorem own_len {α : Type} {d : Kd α} {e base n m c c' : Nat} {w : World} {A : Option Addr} {v : Value} {xs : List α} (h : d.R e w base (fun k_ => some k_ ≠ (Value.slice A n c).ownBlock) v xs) : d.R e w base (fun k_ => some k_ ≠ (Value.slice A m c').ownBlock) v xs :=
  Kd.R_mono h (fun k hk => by rw [ownBlock_len A m n c' c]; exact hk)
theorem size_lit (l : List UInt8) : (⟨l.toArray⟩ : ByteArray).size = l.length := by simp [ByteArray.size]
theorem ext_len {X S : ByteArray} {I J : Int} {M : Nat} (hJ : (J ≤ (S.size : Int)) = True) (h : X.size + (S.extract I.toNat J.toNat).size ≤ M) : X.size + (J.toNat - I.toNat) ≤ M := by
  have hj := of_eq_true hJ
  rw [ByteArray.size_extract] at h
  omega
end Go.Proofs.YtdaddlplpkmkmaaGreatDoor.Plus
end

section
/- Chapter 13: a record's line, and what is read of one: lists of bytes, no program in sight. -/
namespace Go.Proofs.YtdaddlplpkmkmaaGreatDoor.Spec

/-- what stands ahead of the first sign, and what behind it -/
def cutAt (c : UInt8) : List UInt8 → List UInt8 × List UInt8
  | [] => ([], [])
  | b :: r => if b = c then ([], r) else (b :: (cutAt c r).1, (cutAt c r).2)
theorem cutAt_hit (c : UInt8) : ∀ (a r : List UInt8), c ∉ a → cutAt c (a ++ c :: r) = (a, r)
  | [], r, _ => by simp [cutAt]
  | b :: a, r, h => by
    have hb : b ≠ c := fun e => h (by rw [e]; exact List.mem_cons_self)
    rw [List.cons_append, cutAt, if_neg hb, cutAt_hit c a r (fun hm => h (List.mem_cons_of_mem _ hm))]
theorem cutAt_none (c : UInt8) : ∀ a : List UInt8, c ∉ a → cutAt c a = (a, [])
  | [], _ => rfl
  | b :: a, h => by
    have hb : b ≠ c := fun e => h (by rw [e]; exact List.mem_cons_self)
    rw [cutAt, if_neg hb, cutAt_none c a (fun hm => h (List.mem_cons_of_mem _ hm))]
theorem cutAt_split (c : UInt8) : ∀ s : List UInt8, c ∈ s → s = (cutAt c s).1 ++ c :: (cutAt c s).2 ∧ c ∉ (cutAt c s).1
  | [], h => by cases h
  | b :: r, h => by
    rw [cutAt]
    by_cases hb : b = c
    · rw [if_pos hb, hb]; simp
    · rw [if_neg hb]
      have hr : c ∈ r := by
        rcases List.mem_cons.1 h with e | e
        · exact absurd e.symm hb
        · exact e
      obtain ⟨h1, h2⟩ := cutAt_split c r hr
      refine ⟨by rw [List.cons_append, ← h1], fun hm => ?_⟩
      rcases List.mem_cons.1 hm with e | e
      · exact hb e.symm
      · exact h2 e
theorem cutAt_len (c : UInt8) : ∀ s : List UInt8, (cutAt c s).1.length ≤ s.length ∧ (cutAt c s).2.length ≤ s.length
  | [] => by simp [cutAt]
  | b :: r => by
    have := cutAt_len c r
    rw [cutAt]
    split <;> simp <;> omega
theorem cut_cutAt (c : UInt8) (s : List UInt8) : (Lib.cut s [c]).1 = (cutAt c s).1 ∧ (Lib.cut s [c]).2.1 = (cutAt c s).2 := by
  by_cases h : c ∈ s
  · obtain ⟨h1, h2⟩ := cutAt_split c s h
    have hi : ∀ (a r : List UInt8), c ∉ a → Lib.index (a ++ c :: r) [c] = a.length := by
      intro a
      induction a with
      | nil => intro r _; simp [index_cons_eq]
      | cons b a ih =>
        intro r hn
        have hb : b ≠ c := fun e => hn (by rw [e]; exact List.mem_cons_self)
        rw [List.cons_append, index_cons_ne b c _ hb, ih r (fun hm => hn (List.mem_cons_of_mem _ hm)), if_neg (by omega), List.length_cons]
        omega
    generalize (cutAt c s).1 = a at h1 h2 ⊢
    generalize (cutAt c s).2 = r at h1 ⊢
    subst h1
    have e := hi a r h2
    unfold Lib.cut
    rw [e, if_pos (by omega)]
    simp only [Int.toNat_natCast, List.length_singleton]
    constructor
    · rw [List.take_left' rfl]
    · have : a ++ c :: r = (a ++ [c]) ++ r := by simp
      rw [this, List.drop_left' (by simp)]
  · rw [cutAt_none c s h]
    have e := (index_none_count c s).2 h
    unfold Lib.cut
    rw [e, if_neg (by omega)]
    exact ⟨rfl, rfl⟩

/-! ### Digits -/
theorem dec_digit : ∀ (u : Nat) (b : UInt8), b ∈ Lib.decDigits u → 48 ≤ b.toNat ∧ b.toNat ≤ 57 := by
  intro u
  induction u using Nat.strongRecOn with
  | _ u ih =>
    intro b hb
    have one : ∀ d, d < 10 → (UInt8.ofNat (48 + d)).toNat = 48 + d := fun d hd => by
      rw [UInt8.toNat_ofNat']; omega
    rw [Lib.decDigits] at hb
    split at hb
    · rename_i h
      obtain rfl := List.mem_singleton.1 hb
      rw [one u h]; omega
    · rcases List.mem_append.1 hb with hb | hb
      · exact ih (u / 10) (by omega) b hb
      · obtain rfl := List.mem_singleton.1 hb
        rw [one (u % 10) (by omega)]; omega
theorem dec_ne (u : Nat) : Lib.decDigits u ≠ [] := by
  rw [Lib.decDigits]
  split <;> simp
theorem dec_len (u : Nat) (h : u ≤ 1048576) : (Lib.decDigits u).length ≤ 7 := by
  have key : ∀ (n u : Nat), u < 10 ^ (n + 1) → (Lib.decDigits u).length ≤ n + 1 := by
    intro n
    induction n with
    | zero => intro u h; rw [Lib.decDigits, dif_pos (by omega)]; simp
    | succ n ih =>
      intro u h
      rw [Lib.decDigits]
      split
      · simp
      · have := ih (u / 10) (by rw [Nat.pow_succ] at h; omega)
        rw [List.length_append, List.length_singleton]
        omega
  exact key 6 u (by omega)
theorem parse_app : ∀ (a b : List UInt8) (acc u : Nat), Lib.parseUint10 acc a = .ok u → Lib.parseUint10 acc (a ++ b) = Lib.parseUint10 u b
  | [], b, acc, u, h => by
    simp only [Lib.parseUint10] at h
    injection h with h
    rw [List.nil_append, h]
  | c :: a, b, acc, u, h => by
    simp only [Lib.parseUint10, List.cons_append] at h ⊢
    by_cases h1 : 48 ≤ c.toNat ∧ c.toNat ≤ 57
    · rw [if_pos h1] at h ⊢
      by_cases h2 : 1844674407370955162 ≤ acc
      · rw [if_pos h2] at h; cases h
      · rw [if_neg h2] at h ⊢
        by_cases h3 : 18446744073709551616 ≤ acc * 10 + (c.toNat - 48)
        · rw [if_pos h3] at h; cases h
        · rw [if_neg h3] at h ⊢
          exact parse_app a b _ u h
    · rw [if_neg h1] at h; cases h
theorem parse_dec : ∀ u : Nat, u < 9223372036854775808 → Lib.parseUint10 0 (Lib.decDigits u) = .ok u := by
  intro u
  induction u using Nat.strongRecOn with
  | _ u ih =>
    intro hu
    have one : ∀ d, d < 10 → (UInt8.ofNat (48 + d)).toNat = 48 + d := fun d hd => by
      rw [UInt8.toNat_ofNat']; omega
    rw [Lib.decDigits]
    split
    · rename_i h
      simp only [Lib.parseUint10, one u h]
      rw [if_pos (by omega), if_neg (by omega), if_neg (by omega)]
      congr 1
      omega
    · rename_i h
      rw [parse_app _ _ _ _ (ih (u / 10) (by omega) (by omega))]
      simp only [Lib.parseUint10, one (u % 10) (by omega)]
      rw [if_pos (by omega), if_neg (by omega), if_neg (by omega)]
      congr 1
      omega
/-- the number that strconv.Atoi gives, with an error or without -/
def atoiV (l : List UInt8) : Int := match Lib.atoiAll l with
  | .ok v => v
  | .range => Lib.atoiSat l
  | _ => 0
theorem atoiV_dec (u : Nat) (hu : u < 9223372036854775808) : atoiV (Lib.decDigits u) = u := by
  have hp := parse_dec u hu
  have hne := dec_ne u
  have hd := dec_digit u
  unfold atoiV
  cases hl : Lib.decDigits u with
  | nil => exact absurd hl hne
  | cons c r =>
    rw [hl] at hp hd
    have hc := hd c (by simp)
    rw [Lib.atoiAll_plain c r (by omega) (by omega)]
    unfold Lib.parseMag
    rw [if_neg (by simp), hp]
    simp only [Lib.signless]
    rw [if_neg (by omega)]

/-! ### Lines -/
/-- a record's line -/
def lineL (o : List UInt8) (t : Nat) (g : List UInt8) : List UInt8 := o ++ 9 :: (Lib.decDigits t ++ 9 :: (g ++ [10]))
/-- without a line's end behind it -/
def trimE (l : List UInt8) : List UInt8 := Lib.trimSuffix l [10]
theorem trimE_end (g : List UInt8) : trimE (g ++ [10]) = g := by
  have h : [10].isSuffixOf (g ++ [10]) = true := by rw [List.isSuffixOf_iff_suffix]; exact List.suffix_append _ _
  unfold trimE Lib.trimSuffix Lib.hasSuffix
  rw [if_pos h, List.length_append, List.length_singleton, Nat.add_sub_cancel, List.take_left' rfl]
theorem trimE_len (l : List UInt8) : (trimE l).length ≤ l.length := by
  unfold trimE Lib.trimSuffix
  split
  · rw [List.length_take]; omega
  · exact Nat.le_refl _
/-- what the program reads of a line -/
def pO (s : List UInt8) : List UInt8 := (cutAt 9 s).1
def pT (s : List UInt8) : Int := atoiV (cutAt 9 (cutAt 9 s).2).1
def pG (s : List UInt8) : List UInt8 := trimE (cutAt 9 (cutAt 9 s).2).2
structure Parts (o : List UInt8) (t : Nat) (g : List UInt8) : Prop where
  o9 : (9 : UInt8) ∉ o
  o10 : (10 : UInt8) ∉ o
  g9 : (9 : UInt8) ∉ g
  g10 : (10 : UInt8) ∉ g
  t1 : 1 ≤ t
  tM : t ≤ 1048576
  ol : o.length ≤ 16
  gl : g.length ≤ 2048
theorem dec_no (u : Nat) (c : UInt8) (h : c.toNat < 48) : c ∉ Lib.decDigits u := fun hm => by
  have := (dec_digit u c hm).1
  omega
theorem p_line {o : List UInt8} {t : Nat} {g : List UInt8} (h : Parts o t g) : pO (lineL o t g) = o ∧ pT (lineL o t g) = t ∧ pG (lineL o t g) = g := by
  have h1 : cutAt 9 (lineL o t g) = (o, Lib.decDigits t ++ 9 :: (g ++ [10])) := cutAt_hit 9 o _ h.o9
  have h2 : cutAt 9 (Lib.decDigits t ++ 9 :: (g ++ [10])) = (Lib.decDigits t, g ++ [10]) := cutAt_hit 9 _ _ (dec_no t 9 (by decide))
  refine ⟨by rw [pO, h1], ?_, ?_⟩
  · rw [pT, h1, h2]
    exact atoiV_dec t (by have := h.tM; omega)
  · rw [pG, h1, h2]
    exact trimE_end g
theorem line_len {o : List UInt8} {t : Nat} {g : List UInt8} (h : Parts o t g) : (lineL o t g).length ≤ 2074 ∧ 4 ≤ (lineL o t g).length + (if o = [] then 1 else 0) + (if g = [] then 1 else 0) := by
  have h1 := dec_len t h.tM
  have h2 := List.length_pos_iff.2 (dec_ne t)
  have h3 := h.ol
  have h4 := h.gl
  have e : (lineL o t g).length = o.length + (Lib.decDigits t).length + g.length + 3 := by simp [lineL]; omega
  constructor
  · omega
  · have ho : o = [] ∨ 0 < o.length := by cases o <;> simp
    have hg : g = [] ∨ 0 < g.length := by cases g <;> simp
    rw [e]
    rcases ho with rfl | ho <;> rcases hg with rfl | hg <;> simp <;> (try split) <;> (try split) <;> omega
theorem line_body {o : List UInt8} {t : Nat} {g : List UInt8} (h : Parts o t g) : ∃ b, lineL o t g = b ++ [10] ∧ (10 : UInt8) ∉ b := by
  refine ⟨o ++ 9 :: (Lib.decDigits t ++ 9 :: g), by simp [lineL], fun hm => ?_⟩
  rcases List.mem_append.1 hm with hm | hm
  · exact h.o10 hm
  · rcases List.mem_cons.1 hm with hm | hm
    · exact absurd hm (by decide)
    · rcases List.mem_append.1 hm with hm | hm
      · exact dec_no t 10 (by decide) hm
      · rcases List.mem_cons.1 hm with hm | hm
        · exact absurd hm (by decide)
        · exact h.g10 hm
theorem line_first {o : List UInt8} {t : Nat} {g : List UInt8} (h : Parts o t g) (r : List UInt8) : (cutAt 10 (lineL o t g ++ r)).1.length + 1 = (lineL o t g).length ∧ (10 : UInt8) ∈ lineL o t g := by
  obtain ⟨b, hb, hn⟩ := line_body h
  rw [hb, List.append_assoc, List.singleton_append, cutAt_hit 10 b r hn]
  simp
theorem line_inj {o o' : List UInt8} {t t' : Nat} {g g' : List UInt8} (h : Parts o t g) (h' : Parts o' t' g') {r r' : List UInt8} (e : lineL o t g ++ r = lineL o' t' g' ++ r') : o = o' ∧ t = t' ∧ g = g' := by
  have hl : lineL o t g = lineL o' t' g' := by
    have h1 := (line_first h r).1
    have h2 := (line_first h' r').1
    rw [e, h2] at h1
    exact (List.append_inj e h1.symm).1
  obtain ⟨a1, a2, a3⟩ := p_line h
  obtain ⟨b1, b2, b3⟩ := p_line h'
  rw [hl] at a1 a2 a3
  refine ⟨a1.symm.trans b1, ?_, a3.symm.trans b3⟩
  have := a2.symm.trans b2
  omega
end Go.Proofs.YtdaddlplpkmkmaaGreatDoor.Spec
end

section
/- What stands up to each sign, with it: lists of bytes, no program in sight. -/
namespace Go.Proofs.YtdaddlplpkmkmaaGreatDoor.Spec

/-- the pieces behind each sign, each with its sign; the last one without -/
def after (c : UInt8) : List UInt8 → List (List UInt8)
  | [] => [[]]
  | b :: r => if b = c then [b] :: after c r else (b :: (after c r).headD []) :: (after c r).tail
theorem after_none (c : UInt8) : ∀ l : List UInt8, c ∉ l → after c l = [l]
  | [], _ => rfl
  | b :: l, h => by
    have hb : b ≠ c := fun e => h (by rw [e]; exact List.mem_cons_self)
    rw [after, if_neg hb, after_none c l (fun hm => h (List.mem_cons_of_mem _ hm))]
    rfl
theorem after_hit (c : UInt8) : ∀ (a r : List UInt8), c ∉ a → after c (a ++ c :: r) = (a ++ [c]) :: after c r
  | [], r, _ => by simp [after]
  | b :: a, r, h => by
    have hb : b ≠ c := fun e => h (by rw [e]; exact List.mem_cons_self)
    rw [List.cons_append, after, if_neg hb, after_hit c a r (fun hm => h (List.mem_cons_of_mem _ hm))]
    rfl
theorem after_step (c : UInt8) (l : List UInt8) (h : c ∈ l) : after c l = ((cutAt c l).1 ++ [c]) :: after c (cutAt c l).2 := by
  obtain ⟨h1, h2⟩ := cutAt_split c l h
  generalize (cutAt c l).1 = a at h1 h2 ⊢
  generalize (cutAt c l).2 = r at h1 ⊢
  subst h1
  exact after_hit c a r h2
theorem index_cut (c : UInt8) (l : List UInt8) (h : c ∈ l) : Lib.index l [c] = (((cutAt c l).1.length : Nat) : Int) := by
  obtain ⟨h1, h2⟩ := cutAt_split c l h
  have hi : ∀ (a r : List UInt8), c ∉ a → Lib.index (a ++ c :: r) [c] = a.length := by
    intro a
    induction a with
    | nil => intro r _; simp [index_cons_eq]
    | cons b a ih =>
      intro r hn
      have hb : b ≠ c := fun e => hn (by rw [e]; exact List.mem_cons_self)
      rw [List.cons_append, index_cons_ne b c _ hb, ih r (fun hm => hn (List.mem_cons_of_mem _ hm)), if_neg (by omega), List.length_cons]
      omega
  generalize (cutAt c l).1 = a at h1 h2 ⊢
  generalize (cutAt c l).2 = r at h1
  subst h1
  exact hi a r h2
theorem cut_take (c : UInt8) (l : List UInt8) (h : c ∈ l) : l.take ((cutAt c l).1.length + 1) = (cutAt c l).1 ++ [c] ∧ l.drop ((cutAt c l).1.length + 1) = (cutAt c l).2 ∧ (cutAt c l).1.length + 1 ≤ l.length := by
  obtain ⟨h1, h2⟩ := cutAt_split c l h
  generalize (cutAt c l).1 = a at h1 h2 ⊢
  generalize (cutAt c l).2 = r at h1 ⊢
  subst h1
  have e : a ++ c :: r = (a ++ [c]) ++ r := by simp
  have hl : a.length + 1 = (a ++ [c]).length := by simp
  rw [e, hl]
  exact ⟨List.take_left' rfl, List.drop_left' rfl, by simp only [List.length_append]; omega⟩
end Go.Proofs.YtdaddlplpkmkmaaGreatDoor.Spec
end
