/- A byte laid above lower ones: 'or' is a sum. -/
import Derived.Test.YtkplcmcmpdhigaaDoorPlain
namespace Go.Proofs.YtkplcmcmpdhigaaDoor.Spec
open Go.RowKit
/-- a number in so many bytes, the lowest first -/
def lowL : Nat → Nat → List UInt8
  | 0, _ => []
  | k + 1, x => x.toUInt8 :: lowL k (x / 256)
def unlow : List UInt8 → Nat
  | [] => 0
  | b :: l => b.toNat + 256 * unlow l
theorem lowL_len : ∀ k x, (lowL k x).length = k
  | 0, _ => rfl
  | k + 1, x => by rw [lowL, List.length_cons, lowL_len k]
theorem byte_nat (x : Nat) : x.toUInt8.toNat = x % 256 := by simp
theorem unlow_lowL : ∀ k x, x < 256 ^ k → unlow (lowL k x) = x
  | 0, x, h => by simp at h; simp [lowL, unlow, h]
  | k + 1, x, h => by
    rw [lowL, unlow, byte_nat, unlow_lowL k (x / 256) (by rw [Nat.pow_succ] at h; omega)]
    omega
theorem unlow_lt : ∀ l : List UInt8, unlow l < 256 ^ l.length
  | [] => by simp [unlow]
  | b :: l => by
    rw [unlow, List.length_cons, Nat.pow_succ]
    have := unlow_lt l
    have hb : b.toNat < 256 := b.toNat_lt
    omega
theorem unlow_snoc : ∀ (l : List UInt8) (b : UInt8), unlow (l ++ [b]) = b.toNat * 2 ^ (8 * l.length) + unlow l
  | [], b => by simp [unlow]
  | a :: l, b => by
    rw [List.cons_append, unlow, unlow, unlow_snoc l b, List.length_cons, show 8 * (l.length + 1) = 8 + 8 * l.length by omega, Nat.pow_add]
    have : (2 : Nat) ^ 8 = 256 := by decide
    rw [this, Nat.mul_add, Nat.mul_left_comm]
    omega
theorem or_low (x b i : Nat) (hx : x < 2 ^ i) (hb : b < 256) (hi : i ≤ 24) : Go.bits .or .i64 (x : Int) ((b * 2 ^ i : Nat) : Int) = ((b * 2 ^ i + x : Nat) : Int) := by
  have h24 : 2 ^ i ≤ 2 ^ 24 := Nat.pow_le_pow_right (by decide) hi
  have hbi : b * 2 ^ i ≤ 255 * 2 ^ 24 := Nat.mul_le_mul (by omega) h24
  have e : (BitVec.ofInt 64 (x : Int) ||| BitVec.ofInt 64 ((b * 2 ^ i : Nat) : Int)).toNat = b * 2 ^ i + x := by
    rw [BitVec.toNat_or, BitVec.ofInt_natCast, BitVec.ofInt_natCast, BitVec.toNat_ofNat, BitVec.toNat_ofNat, Nat.mod_eq_of_lt (by omega), Nat.mod_eq_of_lt (by omega), Nat.or_comm, Nat.mul_comm b, ← Nat.two_pow_add_eq_or_of_lt hx]
  show IntKind.i64.wrap (((BitVec.ofInt 64 (x : Int)) ||| (BitVec.ofInt 64 ((b * 2 ^ i : Nat) : Int))).toNat : Int) = _
  rw [e, IntKind.wrap_i64]
  omega
end Go.Proofs.YtkplcmcmpdhigaaDoor.Spec
