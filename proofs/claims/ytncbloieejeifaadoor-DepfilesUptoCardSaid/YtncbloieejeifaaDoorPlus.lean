/- A row's fact, where what it is apart from is spelled with another length. -/
import Derived.Test.YtncbloieejeifaaDoorWWords
import Derived.Test.YtncbloieejeifaaDoorWMore
namespace Go.Proofs.YtncbloieejeifaaDoor.Plus
open Go.RowKit Go.Proofs.YtncbloieejeifaaDoorW.PrintWords
theorem ownBlock_len (A : Option Addr) (n m c d : Nat) : (Value.slice A n c).ownBlock = (Value.slice A m d).ownBlock := by cases A <;> rfl
theorem own_len {α : Type} {d : Kd α} {e base n m c c' : Nat} {w : World} {A : Option Addr} {v : Value} {xs : List α} (h : d.R e w base (fun k_ => some k_ ≠ (Value.slice A n c).ownBlock) v xs) : d.R e w base (fun k_ => some k_ ≠ (Value.slice A m c').ownBlock) v xs :=
  Kd.R_mono h (fun k hk => by rw [ownBlock_len A m n c' c]; exact hk)
theorem size_lit (l : List UInt8) : (⟨l.toArray⟩ : ByteArray).size = l.length := by simp [ByteArray.size]
theorem ext_len {X S : ByteArray} {I J : Int} {M : Nat} (hJ : (J ≤ (S.size : Int)) = True) (h : X.size + (S.extract I.toNat J.toNat).size ≤ M) : X.size + (J.toNat - I.toNat) ≤ M := by
  have hj := of_eq_true hJ
  rw [ByteArray.size_extract] at h
  omega
end Go.Proofs.YtncbloieejeifaaDoor.Plus
