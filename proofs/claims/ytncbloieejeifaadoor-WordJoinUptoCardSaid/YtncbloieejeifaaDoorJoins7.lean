/- Chapter 7, parts put together: the law's function by hand answers true. -/
import Derived.Test.YtncbloieejeifaaDoorJoin7
import Derived.Test.YtncbloieejeifaaDoorP7
namespace Go.Proofs.YtncbloieejeifaaDoor.Spec
open Go.RowKit Go.Proofs.YtncbloieejeifaaDoorW.PrintWords Go.Proofs.YtncbloieejeifaaDoor.P
theorem may_all (xs : List ByteArray) (h : ∀ x ∈ xs, x.size ≤ 4611686018427387904) : ∃ K, ∀ k, K ≤ k → ∀ x ∈ xs, crucibleref1_NameMay.f k x = some (words_is x) := by
  induction xs with
  | nil => exact ⟨0, fun _ _ x hx => by cases hx⟩
  | cons y ys ih =>
    obtain ⟨K, hK⟩ := ih (fun x hx => h x (List.mem_cons_of_mem _ hx))
    obtain ⟨M, hM⟩ := ev_NameMay y (h y List.mem_cons_self)
    refine ⟨max K M, fun k hk x hx => ?_⟩
    rcases List.mem_cons.1 hx with rfl | hx
    · exact hM k (by omega)
    · exact hK k (by omega) x hx
theorem rowT_le (n : Nat) (h : n ≤ 3) : ∀ xs : List ByteArray, (rowT n xs).length ≤ 4 * (xs.map fun s => s.size + 1).sum
  | [] => by simp [rowT]
  | x :: xs => by
    have := rowT_le n h xs
    rw [rowT_cons]
    simp only [gapL, List.length_append, List.length_replicate, List.map_cons, List.sum_cons, size_data]
    omega
theorem signT_le (n : Nat) (h : n ≤ 3) (s : List UInt8) (xs : List ByteArray) : (signT n s xs).length ≤ s.length + 4 := by
  unfold signT
  split
  · simp
  · simp [gapL]; omega
theorem sum_len7 (xs : List ByteArray) : xs.length ≤ (xs.map fun s => s.size + 1).sum := by
  induction xs with
  | nil => simp
  | cons y ys ih => simp only [List.map_cons, List.sum_cons, List.length_cons]; omega
theorem sum_mem_le : ∀ (xs : List ByteArray) (x : ByteArray), x ∈ xs → x.size ≤ (xs.map fun s => s.size + 1).sum
  | y :: ys, x, h => by
    simp only [List.map_cons, List.sum_cons]
    rcases List.mem_cons.1 h with rfl | h
    · omega
    · have := sum_mem_le ys x h
      omega
theorem WordJoin (o i c d : List ByteArray) (n : Int)
    (hb : ((o.map fun s => s.size + 1).sum + 1) + ((i.map fun s => s.size + 1).sum + 1) + ((c.map fun s => s.size + 1).sum + 1) + ((d.map fun s => s.size + 1).sum + 1) + 1 ≤ 1048576)
    (_ : ∀ x ∈ o, x.size ≤ maxLen) (_ : ∀ x ∈ i, x.size ≤ maxLen) (_ : ∀ x ∈ c, x.size ≤ maxLen) (_ : ∀ x ∈ d, x.size ≤ maxLen) (_ : (Lit.int .i64 n).wf = true) :
    ∃ k, cruciblelaw7_WordJoin.f k o i c d n = some true := by
  have la := sum_len7 o
  have lb := sum_len7 i
  have lc := sum_len7 c
  have ld := sum_len7 d
  obtain ⟨K, hK⟩ := may_all (o ++ (i ++ (c ++ d))) (fun x hx => by
    simp only [List.mem_append] at hx
    rcases hx with h | h | h | h
    · have := sum_mem_le o x h; omega
    · have := sum_mem_le i x h; omega
    · have := sum_mem_le c x h; omega
    · have := sum_mem_le d x h; omega)
  obtain ⟨k0, h0⟩ := ev_Same o o (by omega)
  obtain ⟨k1, h1⟩ := ev_Same i i (by omega)
  obtain ⟨k2, h2⟩ := ev_Same c c (by omega)
  obtain ⟨k3, h3⟩ := ev_Same d d (by omega)
  refine ⟨K + (k0 + (k1 + (k2 + k3))), if_pos ⟨fun m hm => ?_, hK _ (by omega), ?_, ?_, ?_, ?_⟩⟩
  · have r0 := rowT_le m (by omega) o
    have r1 := rowT_le m (by omega) i
    have r2 := rowT_le m (by omega) c
    have r3 := rowT_le m (by omega) d
    have s2 := signT_le m (by omega) [124] c
    have s3 := signT_le m (by omega) [124, 124] d
    have g : (gapL m).length = m + 1 := by simp [gapL]
    unfold lineT
    simp only [List.length_append, List.length_cons, List.length_nil, g] at s2 s3 ⊢
    omega
  · simpa using h0 _ (by omega)
  · simpa using h1 _ (by omega)
  · simpa using h2 _ (by omega)
  · simpa using h3 _ (by omega)
end Go.Proofs.YtncbloieejeifaaDoor.Spec
