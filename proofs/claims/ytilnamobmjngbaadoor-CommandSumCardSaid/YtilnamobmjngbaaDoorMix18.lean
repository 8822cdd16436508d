/- Chapter 18 without the program: numbers that are mixed. -/
import Derived.Test.YtilnamobmjngbaaDoorMg2
namespace Go.Proofs.YtilnamobmjngbaaDoor.Spec
open Go.RowKit Go.Proofs.YtilnamobmjngbaaDoorW.PrintWords Go.Proofs.YtilnamobmjngbaaDoor.P

theorem mix_is {h x : Int} (h0 : 0 ≤ h) (h1 : h < 2147483647) (x0 : 0 ≤ x) (x1 : x ≤ 2147483648) : crn_mix h x = (31 * h + x) % 2147483647 := by
  unfold crn_mix
  rw [wrap_id (n := 31 * h) (by omega) (by omega), wrap_id (by omega) (by omega), Int.tmod_eq_emod_of_nonneg (by omega)]
theorem mix_in {h x : Int} (h0 : 0 ≤ h) (h1 : h < 2147483647) (x0 : 0 ≤ x) (x1 : x ≤ 2147483648) : 0 ≤ crn_mix h x ∧ crn_mix h x < 2147483647 := by
  rw [mix_is h0 h1 x0 x1]
  omega
theorem bytes_in : ∀ (l : List Int) (h : Int), (∀ b ∈ l, 0 ≤ b ∧ b ≤ 255) → 0 ≤ h → h < 2147483647 → 0 ≤ crn_bytes h l ∧ crn_bytes h l < 2147483647
  | [], h, _, h0, h1 => ⟨h0, h1⟩
  | b :: bs, h, hb, h0, h1 => by
    have hx := hb b (by simp)
    have := mix_in h0 h1 hx.1 (by omega)
    exact bytes_in bs _ (fun y hy => hb y (by simp [hy])) this.1 this.2
theorem bytesOf_in (s : ByteArray) : ∀ b ∈ bytesOf s, 0 ≤ b ∧ b ≤ 255 := by
  intro b hb
  unfold bytesOf at hb
  obtain ⟨c, _, rfl⟩ := List.mem_map.1 hb
  have := c.toNat_lt
  omega
theorem hash_in (s : ByteArray) : 0 ≤ crn_bytes 0 (bytesOf s) ∧ crn_bytes 0 (bytesOf s) < 2147483647 := bytes_in _ 0 (bytesOf_in s) (by omega) (by omega)
theorem bt_drop (s : ByteArray) (i : Nat) (h : i < s.size) : (bytesOf s).drop i = bt s (i : Int) :: (bytesOf s).drop (i + 1) := by
  rw [crn_drop _ i (by rw [bytesOf_length]; exact h), rd_bytesOf]
end Go.Proofs.YtilnamobmjngbaaDoor.Spec
