import Derived.Lib.SplitLaws
import Derived.Lib.Join
import Derived.Lib.TrimUEq
import Derived.Shelf.GgClosure.StringsIndexFunc
import Derived.Test.YtaokgnhdagcepaaDoorWWords
import Derived.Laws.BitsLemmas
import Derived.Test.YtaokgnhdagcepaaDoorWMore
section
/- Plain words of this work: names, splits and joins over lists of bytes, and how the library's own words say the same. No program is in sight. -/
namespace Go.Proofs.YtaokgnhdagcepaaDoor.Spec

/-- a byte (or a rune) that a name may have -/
def nameByte (b : Nat) : Bool := (decide (97 ≤ b) && decide (b ≤ 122)) || (decide (48 ≤ b) && decide (b ≤ 57)) || b == 95 || b == 46 || b == 45 || b == 47
/-- may a name be? -/
def nameMay (l : List UInt8) : Bool := l.all (fun b => nameByte b.toNat) && decide (1 ≤ l.length) && decide (l.length ≤ 16)

theorem nameByte_lt {b : Nat} (h : nameByte b = true) : b < 128 := by
  simp only [nameByte, Bool.or_eq_true, Bool.and_eq_true, decide_eq_true_eq, beq_iff_eq] at h
  omega

theorem decode_low (s : ByteArray) (i : Nat) (h : (s.get! i).toNat < 128) : Utf8.decode s i = ((s.get! i).toNat, 1) := by
  rw [Lib.decode_at, Lib.decodeN_ascii _ _ _ _ _ h]
theorem decode_high (s : ByteArray) (i : Nat) (h : ¬ (s.get! i).toNat < 128) : 128 ≤ (Utf8.decode s i).1 := by
  rw [Lib.decode_at]
  unfold Lib.decodeN
  rw [if_neg h]
  repeat' split
  all_goals first | omega | (simp only []; omega)

theorem odd_found (s : ByteArray) : ∀ (f pos : Nat), s.size - pos ≤ f →
    (0 ≤ Lib.idxFuncFrom (fun r => !nameByte r) true s f pos ↔ ∃ j, pos ≤ j ∧ j < s.size ∧ nameByte (s.get! j).toNat = false)
  | 0, pos, hf => by
    refine ⟨fun h => ?_, fun ⟨j, h1, h2, _⟩ => by omega⟩
    simp [Lib.idxFuncFrom] at h
  | f + 1, pos, hf => by
    unfold Lib.idxFuncFrom
    by_cases hp : pos < s.size
    · rw [if_pos hp]
      by_cases hn : nameByte (s.get! pos).toNat = true
      · have hd := decode_low s pos (nameByte_lt hn)
        rw [hd]
        simp only [hn, Bool.not_true, Bool.false_eq_true, if_false]
        rw [odd_found s f (pos + 1) (by omega)]
        refine ⟨fun ⟨j, h1, h2, h3⟩ => ⟨j, by omega, h2, h3⟩, fun ⟨j, h1, h2, h3⟩ => ⟨j, ?_, h2, h3⟩⟩
        rcases Nat.eq_or_lt_of_le h1 with e | e
        · subst e; rw [hn] at h3; cases h3
        · omega
      · have hn' : nameByte (s.get! pos).toNat = false := by simpa using hn
        have hq : nameByte (Utf8.decode s pos).1 = false := by
          by_cases hl : (s.get! pos).toNat < 128
          · rw [decode_low s pos hl]; exact hn'
          · have := decode_high s pos hl
            cases hb : nameByte (Utf8.decode s pos).1 with
            | false => rfl
            | true => have := nameByte_lt hb; omega
        simp only [hq, Bool.not_false, if_true]
        exact ⟨fun _ => ⟨pos, Nat.le_refl _, hp, hn'⟩, fun _ => by omega⟩
    · rw [if_neg hp]
      exact ⟨fun h => by omega, fun ⟨j, h1, h2, _⟩ => by omega⟩

theorem get!_eq (s : ByteArray) (j : Nat) (h : j < s.size) : s.get! j = s.data.toList[j]'(by simpa using h) := by
  show s.data[j]! = _
  rw [getElem!_pos s.data j h]
  simp

theorem odd_iff (s : ByteArray) : decide (0 ≤ Lib.idxFunc (fun r => !nameByte r) true s) = !(s.data.toList.all fun b => nameByte b.toNat) := by
  have h := odd_found s s.size 0 (by omega)
  unfold Lib.idxFunc
  cases ha : s.data.toList.all fun b => nameByte b.toNat with
  | true =>
    simp only [Bool.not_true, decide_eq_false_iff_not]
    rw [h]
    rintro ⟨j, _, h2, h3⟩
    have := List.all_eq_true.1 ha (s.get! j) (by rw [get!_eq s j h2]; exact List.getElem_mem _)
    rw [h3] at this
    cases this
  | false =>
    simp only [Bool.not_false, decide_eq_true_eq]
    rw [h]
    obtain ⟨b, hb, hn⟩ := List.all_eq_false.1 ha
    obtain ⟨j, hj, e⟩ := List.getElem_of_mem hb
    have hj' : j < s.size := by simpa using hj
    exact ⟨j, Nat.zero_le _, hj', by rw [get!_eq s j hj', e]; simpa using hn⟩

/-! ### Splits -/
/-- what stands between signs -/
def split (c : UInt8) : List UInt8 → List (List UInt8)
  | [] => [[]]
  | b :: r => if b = c then [] :: split c r else (b :: (split c r).headD []) :: (split c r).tail

theorem split_ne (c : UInt8) (l : List UInt8) : split c l ≠ [] := by
  cases l with
  | nil => simp [split]
  | cons b r => simp only [split]; split <;> simp
theorem split_cons (c : UInt8) (l : List UInt8) : split c l = (split c l).headD [] :: (split c l).tail := by
  cases h : split c l with
  | nil => exact absurd h (split_ne c l)
  | cons x r => rfl

theorem index_cons_eq (c : UInt8) (l : List UInt8) : Lib.index (c :: l) [c] = 0 := by simp [Lib.index]
theorem index_cons_ne (b c : UInt8) (l : List UInt8) (h : b ≠ c) : Lib.index (b :: l) [c] = if Lib.index l [c] = -1 then -1 else Lib.index l [c] + 1 := by
  have : ([c].isPrefixOf (b :: l)) = false := by simp [List.isPrefixOf, Ne.symm h]
  simp [Lib.index, this]
theorem index_none_count (c : UInt8) : ∀ l : List UInt8, Lib.index l [c] = -1 ↔ c ∉ l
  | [] => by simp [Lib.index]
  | b :: l => by
    by_cases h : b = c
    · subst h; rw [index_cons_eq]; simp
    · rw [index_cons_ne b c l h]
      have ih := index_none_count c l
      have hg := Lib.index_ge l [c]
      by_cases hi : Lib.index l [c] = -1
      · rw [if_pos hi]; simp [Ne.symm h, ih.1 hi]
      · rw [if_neg hi]
        refine ⟨fun e => by omega, fun e => ?_⟩
        exact absurd (ih.2 (fun hm => e (List.mem_cons_of_mem _ hm))) hi

theorem split_none (c : UInt8) : ∀ l : List UInt8, c ∉ l → split c l = [l]
  | [], _ => rfl
  | b :: l, h => by
    have hb : b ≠ c := fun e => h (by rw [e]; exact List.mem_cons_self)
    rw [split, if_neg hb, split_none c l (fun hm => h (List.mem_cons_of_mem _ hm))]
    rfl
theorem split_at (c : UInt8) : ∀ (l : List UInt8) (i : Nat), Lib.index l [c] = i → split c l = l.take i :: split c (l.drop (i + 1))
  | [], i, h => by simp [Lib.index] at h
  | b :: l, i, h => by
    by_cases hb : b = c
    · subst hb
      rw [index_cons_eq] at h
      obtain rfl : i = 0 := by omega
      simp [split]
    · rw [index_cons_ne b c l hb] at h
      by_cases hi : Lib.index l [c] = -1
      · rw [if_pos hi] at h; omega
      · rw [if_neg hi] at h
        have hg := Lib.index_ge l [c]
        obtain ⟨k, rfl⟩ : ∃ k, i = k + 1 := ⟨i - 1, by omega⟩
        have ih := split_at c l k (by omega)
        rw [split, if_neg hb, ih]
        simp

theorem splitK_split (c : UInt8) : ∀ (k : Nat) (l : List UInt8), Lib.count l [c] = k → Lib.splitK [c] 0 k l = split c l := by
  intro k
  induction k with
  | zero =>
    intro l h
    rw [Lib.count_one] at h
    show [l] = _
    rw [split_none c l (List.count_eq_zero.1 h)]
  | succ k ih =>
    intro l h
    have hm : c ∈ l := by rw [Lib.count_one] at h; exact List.count_pos_iff.1 (by omega)
    have hi : Lib.index l [c] ≠ -1 := fun e => (index_none_count c l).1 e hm
    have hg := Lib.index_ge l [c]
    obtain ⟨i, e⟩ : ∃ i : Nat, Lib.index l [c] = i := ⟨(Lib.index l [c]).toNat, by omega⟩
    have hb : ¬ (Lib.index l [c] == -1) = true := by simpa using hi
    have hc := Lib.count_hit (sub := [c]) (by simp) e
    rw [Lib.splitK, if_neg hb, e, split_at c l i e]
    simp only [List.length_singleton] at hc ⊢
    rw [show ((i : Int).toNat + 0) = i by omega, show ((i : Int).toNat + 1) = i + 1 by omega, ih _ (by omega)]

/-- bytes as a string -/
def str (l : List UInt8) : ByteArray := ⟨l.toArray⟩
theorem str_data (l : List UInt8) : (str l).data.toList = l := by simp [str]
theorem str_of (s : ByteArray) : str s.data.toList = s := by cases s; simp [str]
theorem size_data (s : ByteArray) : s.data.toList.length = s.size := by rw [Array.length_toList]; rfl
theorem str_size (l : List UInt8) : (str l).size = l.length := by rw [← size_data, str_data]
theorem data_inj {s t : ByteArray} (h : s.data.toList = t.data.toList) : s = t := by rw [← str_of s, ← str_of t, h]
theorem map_str_data (xs : List ByteArray) : (xs.map (·.data.toList)).map str = xs := by
  rw [List.map_map]
  have : (str ∘ fun x : ByteArray => x.data.toList) = id := by funext x; exact str_of x
  rw [this, List.map_id]

theorem splitB_split (c : UInt8) (s : ByteArray) : Lib.splitB ⟨#[c]⟩ 0 (Lib.countB s ⟨#[c]⟩) s = (split c s.data.toList).map str := by
  have h := Lib.splitB_data ⟨#[c]⟩ 0 (Lib.countB s ⟨#[c]⟩) s
  rw [← map_str_data (Lib.splitB ⟨#[c]⟩ 0 (Lib.countB s ⟨#[c]⟩) s), h]
  congr 1
  exact splitK_split c _ _ rfl

end Go.Proofs.YtaokgnhdagcepaaDoor.Spec
end

section
/- Plain words of this work: 'from some number of rounds on' through tests and calls; lists and strings read by an index. -/
namespace Go.Proofs.YtaokgnhdagcepaaDoor.Spec
open Go.RowKit Go.Proofs.YtaokgnhdagcepaaDoorW.PrintWords

section
variable {α β : Type} {g f : Nat → Option α} {r : α}
theorem ev_pos {c : Prop} [Decidable c] (h : c) (e : Ev g r) : Ev (fun k => if c then g k else f k) r := by simpa only [if_pos h] using e
theorem ev_neg {c : Prop} [Decidable c] (h : ¬ c) (e : Ev f r) : Ev (fun k => if c then g k else f k) r := by simpa only [if_neg h] using e
theorem ev_const {a : Option α} (h : a = some r) : Ev (fun _ => a) r := ⟨0, fun _ _ => h⟩
theorem ev_bindc {a : Option β} {x : β} {g : Nat → β → Option α} (h : a = some x) (e : Ev (fun k => g k x) r) : Ev (fun k => a.bind (g k)) r := by
  subst h; exact e
theorem ev_bind {a : Nat → Option β} {x : β} {g : Nat → β → Option α} (h : Ev a x) (e : Ev (fun k => g k x) r) : Ev (fun k => (a k).bind (g k)) r := Ev.bind h e
theorem ev_ite {c : Prop} [Decidable c] {x y : α} (h1 : c → Ev g x) (h2 : ¬ c → Ev f y) : Ev (fun k => if c then g k else f k) (if c then x else y) := by
  by_cases h : c
  · rw [if_pos h]; exact ev_pos h (h1 h)
  · rw [if_neg h]; exact ev_neg h (h2 h)
theorem ev_eq {r' : α} (e : Ev g r) (h : r = r') : Ev g r' := h ▸ e
end

theorem wrap_nat {n : Nat} (h : n ≤ 4611686018427387904) : wrap64 ((n : Int) + 1) = ((n + 1 : Nat) : Int) := by unfold wrap64; omega
theorem wrap_len {α : Type} (pre : List α) (x : α) (h : pre.length ≤ 4611686018427387904) : wrap64 ((pre.length : Int) + 1) = ((pre ++ [x]).length : Int) := by
  rw [wrap_nat h, List.length_append, List.length_singleton]
theorem wrap_pred {n : Nat} (h0 : 0 < n) (h : n ≤ 4611686018427387904) : wrap64 ((n : Int) - 1) = ((n - 1 : Nat) : Int) := by unfold wrap64; omega
theorem wrap_id {n : Int} (h0 : -9223372036854775808 ≤ n) (h : n ≤ 9223372036854775807) : wrap64 n = n := by unfold wrap64; omega

theorem rdOf_pre {α : Type} (d : α) (pre : List α) (x : α) (rest : List α) : rdOf d (pre ++ x :: rest) (pre.length : Int) = x := by
  simp [rdOf]
theorem rd_pre (pre : List Int) (x : Int) (rest : List Int) : rd (pre ++ x :: rest) (pre.length : Int) = x := by
  simp [rd]
theorem bt_pre (s : ByteArray) (pre : List UInt8) (x : UInt8) (rest : List UInt8) (h : s.data.toList = pre ++ x :: rest) : bt s (pre.length : Int) = x.toNat := by
  have hs : pre.length < s.size := by rw [← size_data, h]; simp
  have e : s[pre.length] = x := by
    have : s[pre.length] = s.data.toList[pre.length]'(by rw [size_data]; exact hs) := by simp [ByteArray.getElem_eq_getElem_data]
    rw [this]
    simp [h]
  simp [bt, hs, e]
theorem size_pre (s : ByteArray) (pre : List UInt8) (x : UInt8) (rest : List UInt8) (h : s.data.toList = pre ++ x :: rest) : pre.length < s.size := by
  rw [← size_data, h]; simp
theorem toList_data (s : ByteArray) : s.toList = s.data.toList := Lib.toList_data s
theorem str_toList (l : List UInt8) : (str l).toList = l := by rw [toList_data, str_data]
theorem extract_data (s : ByteArray) (a b : Nat) : (s.extract a b).data.toList = (s.data.toList.take b).drop a := by
  rw [Lib.extract_data]
  rw [List.drop_take]
theorem append_data (s t : ByteArray) : (s ++ t).data.toList = s.data.toList ++ t.data.toList := by simp
theorem append_size (s t : ByteArray) : (s ++ t).size = s.size + t.size := by simp
theorem str_append (a b : List UInt8) : str a ++ str b = str (a ++ b) := data_inj (by simp [str_data])
theorem str_eq (s : ByteArray) (l : List UInt8) (h : s.data.toList = l) : s = str l := by rw [← h, str_of]
theorem str_inj {a b : List UInt8} (h : str a = str b) : a = b := by have := congrArg (fun s => s.data.toList) h; simpa [str_data] using this
theorem str_nil : (⟨#[]⟩ : ByteArray) = str [] := rfl
theorem size_le {s : ByteArray} {l : List UInt8} (h : s.data.toList = l) : s.size = l.length := by rw [← h, size_data]

/-! ### Whole numbers -/
theorem bits_low (i : Nat) (hi : i ≤ 62) (n : Int) : Go.bits .and .i64 n ((2 ^ i - 1 : Nat) : Int) = n % 2 ^ i := by
  have hpos : 0 < 2 ^ i := Nat.two_pow_pos i
  have h62 : 2 ^ i ≤ 2 ^ 62 := Nat.pow_le_pow_right (by decide) hi
  have hm : 2 ^ i - 1 < 2 ^ 64 := by omega
  have e : ((BitVec.ofInt 64 n) &&& (BitVec.ofInt 64 ((2 ^ i - 1 : Nat) : Int))).toNat = (BitVec.ofInt 64 n).toNat % 2 ^ i := by
    rw [BitVec.toNat_and, BitVec.ofInt_natCast, BitVec.toNat_ofNat, Nat.mod_eq_of_lt hm, Nat.and_two_pow_sub_one_eq_mod]
  have e2 : (((BitVec.ofInt 64 n).toNat % 2 ^ i : Nat) : Int) = n % 2 ^ i := by
    rw [Int.natCast_emod, BitVec.toNat_ofInt]
    have hnn : 0 ≤ n % ((2 ^ 64 : Nat) : Int) := Int.emod_nonneg _ (by decide)
    rw [Int.toNat_of_nonneg hnn]
    have : ((2 ^ i : Nat) : Int) = 2 ^ i := by simp
    rw [this]
    apply Int.emod_emod_of_dvd
    have : ((2 ^ 64 : Nat) : Int) = 2 ^ 64 := by simp
    rw [this]
    exact ⟨2 ^ (64 - i), by rw [← Int.pow_add, Nat.add_sub_cancel' (by omega)]⟩
  show IntKind.i64.wrap (((BitVec.ofInt 64 n) &&& (BitVec.ofInt 64 ((2 ^ i - 1 : Nat) : Int))).toNat : Int) = _
  rw [e, e2, IntKind.wrap_i64]
  have h0 : 0 ≤ n % 2 ^ i := Int.emod_nonneg _ (by have : (0 : Int) < 2 ^ i := Int.pow_pos (by decide); omega)
  have h1 : n % 2 ^ i < 2 ^ i := Int.emod_lt_of_pos _ (Int.pow_pos (by decide))
  have h2 : (2 : Int) ^ i ≤ 2 ^ 62 := by exact_mod_cast h62
  omega
theorem bits15 (n : Int) : ∃ m : Fin 16, Go.bits .and .i64 n 15 = (m.val : Int) := by
  have h := bits_low 4 (by omega) n
  have h' : Go.bits .and .i64 n 15 = n % 16 := h
  exact ⟨⟨(n % 16).toNat, by omega⟩, by rw [h']; show _ = (((n % 16).toNat : Nat) : Int); omega⟩
theorem bits3 (n : Int) : ∃ m : Fin 4, Go.bits .and .i64 n 3 = (m.val : Int) := by
  have h := bits_low 2 (by omega) n
  have h' : Go.bits .and .i64 n 3 = n % 4 := h
  exact ⟨⟨(n % 4).toNat, by omega⟩, by rw [h']; show _ = (((n % 4).toNat : Nat) : Int); omega⟩
theorem u64_wrap (n : Int) : IntKind.u64.wrap n = n % 18446744073709551616 := by simp [IntKind.wrap, IntKind.bits, IntKind.signed]
theorem umod (n : Int) (m : Nat) (h0 : 0 < m) (hm : m ≤ 4611686018427387904) : ∃ i : Nat, i < m ∧ wrap64 (Int.tmod (IntKind.u64.wrap n) (m : Int)) = i := by
  rw [u64_wrap]
  have h1 : 0 ≤ n % 18446744073709551616 := by omega
  rw [Int.tmod_eq_emod_of_nonneg h1]
  have h2 := Int.emod_nonneg (n % 18446744073709551616) (show (m : Int) ≠ 0 by omega)
  have h3 := Int.emod_lt_of_pos (n % 18446744073709551616) (show (0 : Int) < m by omega)
  exact ⟨((n % 18446744073709551616) % (m : Int)).toNat, by omega, by unfold wrap64; omega⟩
end Go.Proofs.YtaokgnhdagcepaaDoor.Spec
end

section
/- A row's fact, where what it is apart from is spelled with another length. -/
namespace Go.Proofs.YtaokgnhdagcepaaDoor.Plus
open Go.RowKit Go.Proofs.YtaokgnhdagcepaaDoorW.PrintWords
theorem ownBlock_len (A : Option Addr) (n m c d : Nat) : (Value.slice A n c).ownBlock = (Value.slice A m d).ownBlock := by cases A <;> rfl
theorem own_len {α : Type} {d : Kd α} {e base n m c c' : Nat} {w : World} {A : Option Addr} {v : Value} {xs : List α} (h : d.R e w base (fun k_ => some k_ ≠ (Value.slice A n c).ownBlock) v xs) : d.R e w base (fun k_ => some k_ ≠ (Value.slice A m c').ownBlock) v xs :=
  Kd.R_mono h (fun k hk => by rw [ownBlock_len A m n c' c]; exact hk)
theorem size_lit (l : List UInt8) : (⟨l.toArray⟩ : ByteArray).size = l.length := by simp [ByteArray.size]
theorem ext_len {X S : ByteArray} {I J : Int} {M : Nat} (hJ : (J ≤ (S.size : Int)) = True) (h : X.size + (S.extract I.toNat J.toNat).size ≤ M) : X.size + (J.toNat - I.toNat) ≤ M := by
  have hj := of_eq_true hJ
  rw [ByteArray.size_extract] at h
  omega
end Go.Proofs.YtaokgnhdagcepaaDoor.Plus
end

section
/- A byte laid above lower ones: 'or' is a sum. -/
namespace Go.Proofs.YtaokgnhdagcepaaDoor.Spec
open Go.RowKit
/-- a number in so many bytes, the lowest first -/
def lowL : Nat → Nat → List UInt8
  | 0, _ => []
  | k + 1, x => x.toUInt8 :: lowL k (x / 256)
def unlow : List UInt8 → Nat
  | [] => 0
  | b :: l => b.toNat + 256 * unlow l
theorem lowL_len : ∀ k x, (lowL k x).length = k
  | 0, _ => rfl
  | k + 1, x => by rw [lowL, List.length_cons, lowL_len k]
theorem byte_nat (x : Nat) : x.toUInt8.toNat = x % 256 := by simp
theorem unlow_lowL : ∀ k x, x < 256 ^ k → unlow (lowL k x) = x
  | 0, x, h => by simp at h; simp [lowL, unlow, h]
  | k + 1, x, h => by
    rw [lowL, unlow, byte_nat, unlow_lowL k (x / 256) (by rw [Nat.pow_succ] at h; omega)]
    omega
theorem unlow_lt : ∀ l : List UInt8, unlow l < 256 ^ l.length
  | [] => by simp [unlow]
  | b :: l => by
    rw [unlow, List.length_cons, Nat.pow_succ]
    have := unlow_lt l
    have hb : b.toNat < 256 := b.toNat_lt
    omega
theorem unlow_snoc : ∀ (l : List UInt8) (b : UInt8), unlow (l ++ [b]) = b.toNat * 2 ^ (8 * l.length) + unlow l
  | [], b => by simp [unlow]
  | a :: l, b => by
    rw [List.cons_append, unlow, unlow, unlow_snoc l b, List.length_cons, show 8 * (l.length + 1) = 8 + 8 * l.length by omega, Nat.pow_add]
    have : (2 : Nat) ^ 8 = 256 := by decide
    rw [this, Nat.mul_add, Nat.mul_left_comm]
    omega
theorem or_low (x b i : Nat) (hx : x < 2 ^ i) (hb : b < 256) (hi : i ≤ 24) : Go.bits .or .i64 (x : Int) ((b * 2 ^ i : Nat) : Int) = ((b * 2 ^ i + x : Nat) : Int) := by
  have h24 : 2 ^ i ≤ 2 ^ 24 := Nat.pow_le_pow_right (by decide) hi
  have hbi : b * 2 ^ i ≤ 255 * 2 ^ 24 := Nat.mul_le_mul (by omega) h24
  have e : (BitVec.ofInt 64 (x : Int) ||| BitVec.ofInt 64 ((b * 2 ^ i : Nat) : Int)).toNat = b * 2 ^ i + x := by
    rw [BitVec.toNat_or, BitVec.ofInt_natCast, BitVec.ofInt_natCast, BitVec.toNat_ofNat, BitVec.toNat_ofNat, Nat.mod_eq_of_lt (by omega), Nat.mod_eq_of_lt (by omega), Nat.or_comm, Nat.mul_comm b, ← Nat.two_pow_add_eq_or_of_lt hx]
  show IntKind.i64.wrap (((BitVec.ofInt 64 (x : Int)) ||| (BitVec.ofInt 64 ((b * 2 ^ i : Nat) : Int))).toNat : Int) = _
  rw [e, IntKind.wrap_i64]
  omega
end Go.Proofs.YtaokgnhdagcepaaDoor.Spec
end
