/- Plain words of this work: 'from some number of rounds on' through tests and calls; lists and strings read by an index. -/
import Derived.Test.YtncbloieejeifaaDoorBase
import Derived.Test.YtncbloieejeifaaDoorWWords
import Derived.Laws.BitsLemmas
namespace Go.Proofs.YtncbloieejeifaaDoor.Spec
open Go.RowKit Go.Proofs.YtncbloieejeifaaDoorW.PrintWords

section
variable {α β : Type} {g f : Nat → Option α} {r : α}
theorem ev_pos {c : Prop} [Decidable c] (h : c) (e : Ev g r) : Ev (fun k => if c then g k else f k) r := by simpa only [if_pos h] using e
theorem ev_neg {c : Prop} [Decidable c] (h : ¬ c) (e : Ev f r) : Ev (fun k => if c then g k else f k) r := by simpa only [if_neg h] using e
theorem ev_const {a : Option α} (h : a = some r) : Ev (fun _ => a) r := ⟨0, fun _ _ => h⟩
theorem ev_bindc {a : Option β} {x : β} {g : Nat → β → Option α} (h : a = some x) (e : Ev (fun k => g k x) r) : Ev (fun k => a.bind (g k)) r := by
  subst h; exact e
theorem ev_bind {a : Nat → Option β} {x : β} {g : Nat → β → Option α} (h : Ev a x) (e : Ev (fun k => g k x) r) : Ev (fun k => (a k).bind (g k)) r := Ev.bind h e
theorem ev_ite {c : Prop} [Decidable c] {x y : α} (h1 : c → Ev g x) (h2 : ¬ c → Ev f y) : Ev (fun k => if c then g k else f k) (if c then x else y) := by
  by_cases h : c
  · rw [if_pos h]; exact ev_pos h (h1 h)
  · rw [if_neg h]; exact ev_neg h (h2 h)
theorem ev_eq {r' : α} (e : Ev g r) (h : r = r') : Ev g r' := h ▸ e
end

theorem wrap_nat {n : Nat} (h : n ≤ 4611686018427387904) : wrap64 ((n : Int) + 1) = ((n + 1 : Nat) : Int) := by unfold wrap64; omega
theorem wrap_len {α : Type} (pre : List α) (x : α) (h : pre.length ≤ 4611686018427387904) : wrap64 ((pre.length : Int) + 1) = ((pre ++ [x]).length : Int) := by
  rw [wrap_nat h, List.length_append, List.length_singleton]
theorem wrap_pred {n : Nat} (h0 : 0 < n) (h : n ≤ 4611686018427387904) : wrap64 ((n : Int) - 1) = ((n - 1 : Nat) : Int) := by unfold wrap64; omega
theorem wrap_id {n : Int} (h0 : -9223372036854775808 ≤ n) (h : n ≤ 9223372036854775807) : wrap64 n = n := by unfold wrap64; omega

theorem rdOf_pre {α : Type} (d : α) (pre : List α) (x : α) (rest : List α) : rdOf d (pre ++ x :: rest) (pre.length : Int) = x := by
  simp [rdOf]
theorem rd_pre (pre : List Int) (x : Int) (rest : List Int) : rd (pre ++ x :: rest) (pre.length : Int) = x := by
  simp [rd]
theorem bt_pre (s : ByteArray) (pre : List UInt8) (x : UInt8) (rest : List UInt8) (h : s.data.toList = pre ++ x :: rest) : bt s (pre.length : Int) = x.toNat := by
  have hs : pre.length < s.size := by rw [← size_data, h]; simp
  have e : s[pre.length] = x := by
    have : s[pre.length] = s.data.toList[pre.length]'(by rw [size_data]; exact hs) := by simp [ByteArray.getElem_eq_getElem_data]
    rw [this]
    simp [h]
  simp [bt, hs, e]
theorem size_pre (s : ByteArray) (pre : List UInt8) (x : UInt8) (rest : List UInt8) (h : s.data.toList = pre ++ x :: rest) : pre.length < s.size := by
  rw [← size_data, h]; simp
theorem toList_data (s : ByteArray) : s.toList = s.data.toList := Lib.toList_data s
theorem str_toList (l : List UInt8) : (str l).toList = l := by rw [toList_data, str_data]
theorem extract_data (s : ByteArray) (a b : Nat) : (s.extract a b).data.toList = (s.data.toList.take b).drop a := by
  rw [Lib.extract_data]
  rw [List.drop_take]
theorem append_data (s t : ByteArray) : (s ++ t).data.toList = s.data.toList ++ t.data.toList := by simp
theorem append_size (s t : ByteArray) : (s ++ t).size = s.size + t.size := by simp
theorem str_append (a b : List UInt8) : str a ++ str b = str (a ++ b) := data_inj (by simp [str_data])
theorem str_eq (s : ByteArray) (l : List UInt8) (h : s.data.toList = l) : s = str l := by rw [← h, str_of]
theorem str_inj {a b : List UInt8} (h : str a = str b) : a = b := by have := congrArg (fun s => s.data.toList) h; simpa [str_data] using this
theorem str_nil : (⟨#[]⟩ : ByteArray) = str [] := rfl
theorem size_le {s : ByteArray} {l : List UInt8} (h : s.data.toList = l) : s.size = l.length := by rw [← h, size_data]

/-! ### Whole numbers -/
theorem bits_low (i : Nat) (hi : i ≤ 62) (n : Int) : Go.bits .and .i64 n ((2 ^ i - 1 : Nat) : Int) = n % 2 ^ i := by
  have hpos : 0 < 2 ^ i := Nat.two_pow_pos i
  have h62 : 2 ^ i ≤ 2 ^ 62 := Nat.pow_le_pow_right (by decide) hi
  have hm : 2 ^ i - 1 < 2 ^ 64 := by omega
  have e : ((BitVec.ofInt 64 n) &&& (BitVec.ofInt 64 ((2 ^ i - 1 : Nat) : Int))).toNat = (BitVec.ofInt 64 n).toNat % 2 ^ i := by
    rw [BitVec.toNat_and, BitVec.ofInt_natCast, BitVec.toNat_ofNat, Nat.mod_eq_of_lt hm, Nat.and_two_pow_sub_one_eq_mod]
  have e2 : (((BitVec.ofInt 64 n).toNat % 2 ^ i : Nat) : Int) = n % 2 ^ i := by
    rw [Int.natCast_emod, BitVec.toNat_ofInt]
    have hnn : 0 ≤ n % ((2 ^ 64 : Nat) : Int) := Int.emod_nonneg _ (by decide)
    rw [Int.toNat_of_nonneg hnn]
    have : ((2 ^ i : Nat) : Int) = 2 ^ i := by simp
    rw [this]
    apply Int.emod_emod_of_dvd
    have : ((2 ^ 64 : Nat) : Int) = 2 ^ 64 := by simp
    rw [this]
    exact ⟨2 ^ (64 - i), by rw [← Int.pow_add, Nat.add_sub_cancel' (by omega)]⟩
  show IntKind.i64.wrap (((BitVec.ofInt 64 n) &&& (BitVec.ofInt 64 ((2 ^ i - 1 : Nat) : Int))).toNat : Int) = _
  rw [e, e2, IntKind.wrap_i64]
  have h0 : 0 ≤ n % 2 ^ i := Int.emod_nonneg _ (by have : (0 : Int) < 2 ^ i := Int.pow_pos (by decide); omega)
  have h1 : n % 2 ^ i < 2 ^ i := Int.emod_lt_of_pos _ (Int.pow_pos (by decide))
  have h2 : (2 : Int) ^ i ≤ 2 ^ 62 := by exact_mod_cast h62
  omega
theorem bits15 (n : Int) : ∃ m : Fin 16, Go.bits .and .i64 n 15 = (m.val : Int) := by
  have h := bits_low 4 (by omega) n
  have h' : Go.bits .and .i64 n 15 = n % 16 := h
  exact ⟨⟨(n % 16).toNat, by omega⟩, by rw [h']; show _ = (((n % 16).toNat : Nat) : Int); omega⟩
theorem bits3 (n : Int) : ∃ m : Fin 4, Go.bits .and .i64 n 3 = (m.val : Int) := by
  have h := bits_low 2 (by omega) n
  have h' : Go.bits .and .i64 n 3 = n % 4 := h
  exact ⟨⟨(n % 4).toNat, by omega⟩, by rw [h']; show _ = (((n % 4).toNat : Nat) : Int); omega⟩
theorem u64_wrap (n : Int) : IntKind.u64.wrap n = n % 18446744073709551616 := by simp [IntKind.wrap, IntKind.bits, IntKind.signed]
theorem umod (n : Int) (m : Nat) (h0 : 0 < m) (hm : m ≤ 4611686018427387904) : ∃ i : Nat, i < m ∧ wrap64 (Int.tmod (IntKind.u64.wrap n) (m : Int)) = i := by
  rw [u64_wrap]
  have h1 : 0 ≤ n % 18446744073709551616 := by omega
  rw [Int.tmod_eq_emod_of_nonneg h1]
  have h2 := Int.emod_nonneg (n % 18446744073709551616) (show (m : Int) ≠ 0 by omega)
  have h3 := Int.emod_lt_of_pos (n % 18446744073709551616) (show (0 : Int) < m by omega)
  exact ⟨((n % 18446744073709551616) % (m : Int)).toNat, by omega, by unfold wrap64; omega⟩
end Go.Proofs.YtncbloieejeifaaDoor.Spec
