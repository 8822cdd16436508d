/- Chapter 7 without the program: parts put together with blanks between are told, as many blanks as one likes. -/
import Derived.Test.YtncbloieejeifaaDoorWords7
namespace Go.Proofs.YtncbloieejeifaaDoor.Spec
open Go.RowKit Go.Proofs.YtncbloieejeifaaDoorW.PrintWords Go.Proofs.YtncbloieejeifaaDoor.P

/-- so many blanks, at least one -/
def gapL (n : Nat) : List UInt8 := List.replicate (n + 1) 32
theorem wd_blanks (b : List UInt8) : ∀ n, wd (List.replicate n 32 ++ b) = wd b
  | 0 => rfl
  | n + 1 => by
    rw [List.replicate_succ, List.cons_append]
    have := wd_cat [] (List.replicate n 32 ++ b)
    rw [List.nil_append, wd_nil, List.nil_append] at this
    rw [this, wd_blanks b n]
theorem wd_gap (a b : List UInt8) (n : Nat) : wd (a ++ (gapL n ++ b)) = wd a ++ wd b := by
  unfold gapL
  rw [List.replicate_succ, List.cons_append, wd_cat, wd_blanks]
def rowT (n : Nat) (xs : List ByteArray) : List UInt8 := (xs.map fun x => x.data.toList ++ gapL n).flatten
theorem rowT_cons (n : Nat) (x : ByteArray) (xs : List ByteArray) : rowT n (x :: xs) = x.data.toList ++ gapL n ++ rowT n xs := rfl
theorem wd_row (n : Nat) (b : List UInt8) : ∀ xs : List ByteArray, namesW xs → wd (rowT n xs ++ b) = xs ++ wd b
  | [], _ => rfl
  | x :: xs, h => by
    rw [rowT_cons, List.append_assoc, List.append_assoc, wd_gap, wd_name (h x List.mem_cons_self), wd_row n b xs (fun z hz => h z (List.mem_cons_of_mem _ hz))]
    rfl
def signT (n : Nat) (s : List UInt8) (xs : List ByteArray) : List UInt8 := if xs = [] then [] else s ++ gapL n
theorem wd_signT (n : Nat) (s : List UInt8) (h0 : s ≠ []) (h : (32 : UInt8) ∉ s) (xs : List ByteArray) (hx : namesW xs) (b : List UInt8) : wd (signT n s xs ++ (rowT n xs ++ b)) = withSign (str s) xs ++ wd b := by
  unfold signT withSign
  cases xs with
  | nil => rfl
  | cons x xs =>
    rw [if_neg (by simp), if_neg (by simp), List.append_assoc, wd_gap, wd_one s h0 h, wd_row n b _ hx]
    rfl
/-- the line, as it is put together -/
def lineT (n : Nat) (o i c d : List ByteArray) : List UInt8 :=
  gapL n ++ (rowT n o ++ ([58] ++ (gapL n ++ ([99, 99] ++ (gapL n ++ (rowT n i ++ (signT n [124] c ++ (rowT n c ++ (signT n [124, 124] d ++ (rowT n d ++ []))))))))))
theorem wd_line (n : Nat) (o i c d : List ByteArray) (ho : namesW o) (hi : namesW i) (hc : namesW c) (hd : namesW d) :
    wd (lineT n o i c d) = o ++ (⟨#[58]⟩ : ByteArray) :: (⟨#[99, 99]⟩ : ByteArray) :: (i ++ (withSign ⟨#[124]⟩ c ++ withSign ⟨#[124, 124]⟩ d)) := by
  unfold lineT
  have h0 := wd_gap [] (rowT n o ++ ([58] ++ (gapL n ++ ([99, 99] ++ (gapL n ++ (rowT n i ++ (signT n [124] c ++ (rowT n c ++ (signT n [124, 124] d ++ (rowT n d ++ [])))))))))) n
  rw [List.nil_append, wd_nil, List.nil_append] at h0
  rw [h0, wd_row n _ o ho, wd_gap, wd_gap, wd_one [58] (by simp) (by decide), wd_one [99, 99] (by simp) (by decide), wd_row n _ i hi, wd_signT n [124] (by simp) (by decide) c hc, wd_signT n [124, 124] (by simp) (by decide) d hd, wd_nil, List.append_nil]
  rfl
theorem part_any (s : ByteArray) (_ : words_is s = false) (l rest : List ByteArray) (hl : namesW l) (hr : ∀ y ∈ rest.head?, words_is y = false ∧ (y.toList == s.toList) = false) (bad : Bool) : words_part s (withSign s l ++ rest) bad = (l, rest, bad || decide (8 < l.length)) := by
  cases l with
  | nil =>
    unfold words_part
    rw [if_neg]
    · simp [withSign]
    · cases rest with
      | nil => simp [withSign, words_hd]
      | cons y r =>
        have := (hr y (by simp)).2
        simp only [withSign, if_true, List.nil_append, words_hd, this]
        decide
  | cons x l =>
    have hh : words_hd (withSign s (x :: l) ++ rest) s = true := by simp [withSign, words_hd]
    unfold words_part
    rw [if_pos hh]
    obtain ⟨h1, h2⟩ := lead_app (x :: l) rest hl (fun y hy => (hr y hy).1)
    have e : (withSign s (x :: l) ++ rest).tail = (x :: l) ++ rest := rfl
    rw [e, h1, h2]
    simp [words_bad]
theorem build_any (o i c d : List ByteArray) (x : ByteArray) (ho : namesW o) (hx : words_is x = true) (hi : namesW i) (hc : namesW c) (hd : namesW d) :
    words_build (o ++ (⟨#[58]⟩ : ByteArray) :: x :: (i ++ (withSign ⟨#[124]⟩ c ++ withSign ⟨#[124, 124]⟩ d))) = if 1 ≤ o.length ∧ o.length ≤ 8 ∧ i.length ≤ 8 ∧ c.length ≤ 8 ∧ d.length ≤ 8 then (o, x, i, c, d, 0) else words_no := by
  obtain ⟨k1, k2, k3⟩ := colon_not
  obtain ⟨l1, l2⟩ := lead_app o ((⟨#[58]⟩ : ByteArray) :: x :: (i ++ (withSign ⟨#[124]⟩ c ++ withSign ⟨#[124, 124]⟩ d))) ho (fun y hy => by simp at hy; rw [← hy]; exact k1)
  have hd2 : ∀ y ∈ (withSign (⟨#[124, 124]⟩ : ByteArray) d).head?, words_is y = false ∧ (y.toList == (⟨#[124]⟩ : ByteArray).toList) = false := fun y hy => by
    rw [head_sign hy]; exact ⟨k3, by decide +kernel⟩
  have hd1 : ∀ y ∈ (withSign (⟨#[124]⟩ : ByteArray) c ++ withSign (⟨#[124, 124]⟩ : ByteArray) d).head?, words_is y = false := fun y hy => by
    cases c with
    | nil => exact (hd2 y hy).1
    | cons z c =>
      have : y = (⟨#[124]⟩ : ByteArray) := by simpa [withSign, eq_comm] using hy
      rw [this]; exact k2
  obtain ⟨m1, m2⟩ := lead_app i (withSign ⟨#[124]⟩ c ++ withSign ⟨#[124, 124]⟩ d) hi hd1
  have p1 := part_any ⟨#[124]⟩ k2 c (withSign ⟨#[124, 124]⟩ d) hc hd2 (words_bad false 0 i.length)
  have p2 := part_any ⟨#[124, 124]⟩ k3 d [] hd (fun y hy => by simp at hy) (words_bad false 0 i.length || decide (8 < c.length))
  rw [List.append_nil] at p2
  unfold words_build
  rw [l1, l2]
  by_cases h0 : 1 ≤ o.length ∧ o.length ≤ 8
  · rw [words_bad4 (by omega) (by omega), if_pos ⟨by simp [words_hd], rfl⟩]
    simp only [List.tail_cons, hx, if_true]
    unfold words_tail
    rw [m1, m2, p1]
    simp only [p2]
    unfold words_end
    by_cases h1 : i.length ≤ 8 ∧ c.length ≤ 8 ∧ d.length ≤ 8
    · rw [if_neg (by simp [words_bad]; omega), if_pos ⟨h0.1, h0.2, h1⟩]
    · rw [if_pos (by simp [words_bad]; omega), if_neg (fun q => h1 q.2.2)]
  · rw [if_neg (fun q => h0 ⟨(bad_false q.2).2.1, (bad_false q.2).2.2⟩), if_neg (fun q => h0 ⟨q.1, q.2.1⟩)]
/-! ### The text, as the law's loops put it together -/
def jL (o i c d : List ByteArray) : Nat → List ByteArray
  | 0 => o
  | 1 => i
  | 2 => c
  | _ => d
def jH (n : Nat) (c d : List ByteArray) : Nat → List UInt8
  | 1 => [58] ++ (gapL n ++ ([99, 99] ++ gapL n))
  | 2 => signT n [124] c
  | 3 => signT n [124, 124] d
  | _ => []
def jT (n : Nat) (o i c d : List ByteArray) : Nat → List UInt8
  | 0 => gapL n
  | j + 1 => jT n o i c d j ++ (jH n c d j ++ rowT n (jL o i c d j))
def jK (o i c d : List ByteArray) : Nat → Bool
  | 0 => decide (0 < o.length)
  | j + 1 => jK o i c d j && decide ((jL o i c d j).length ≤ 8)
theorem jT_line (n : Nat) (o i c d : List ByteArray) : jT n o i c d 4 = lineT n o i c d := by
  simp only [jT, jH, jL, lineT, List.append_assoc, List.nil_append, List.append_nil]
theorem jK_is (o i c d : List ByteArray) : jK o i c d 4 = decide (1 ≤ o.length ∧ o.length ≤ 8 ∧ i.length ≤ 8 ∧ c.length ≤ 8 ∧ d.length ≤ 8) := by
  simp only [jK, jL]
  rw [Bool.eq_iff_iff]
  simp only [Bool.and_eq_true, decide_eq_true_eq]
  omega
theorem rowT_app (n : Nat) (xs ys : List ByteArray) : rowT n (xs ++ ys) = rowT n xs ++ rowT n ys := by unfold rowT; rw [List.map_append, List.flatten_append]
theorem rowT_take (n : Nat) (xs : List ByteArray) (m : Nat) (h : m < xs.length) : rowT n (xs.take (m + 1)) = rowT n (xs.take m) ++ (xs[m].data.toList ++ gapL n) := by
  rw [List.take_succ_eq_append_getElem h, rowT_app]
  unfold rowT
  simp
theorem rowT_part (n : Nat) (xs : List ByteArray) (m : Nat) : (rowT n (xs.take m)).length ≤ (rowT n xs).length := by
  have := rowT_app n (xs.take m) (xs.drop m)
  rw [List.take_append_drop] at this
  rw [this, List.length_append]
  omega
theorem jT_len (n : Nat) (o i c d : List ByteArray) (j : Nat) (hj : j < 4) : (jT n o i c d (j + 1)).length ≤ (lineT n o i c d).length := by
  rw [← jT_line]
  have h : ∀ q, (jT n o i c d q).length ≤ (jT n o i c d (q + 1)).length := fun q => by
    rw [show jT n o i c d (q + 1) = jT n o i c d q ++ (jH n c d q ++ rowT n (jL o i c d q)) from rfl, List.length_append]
    omega
  have h1 : (jT n o i c d 1).length ≤ (jT n o i c d 2).length := h 1
  have h2 : (jT n o i c d 2).length ≤ (jT n o i c d 3).length := h 2
  have h3 : (jT n o i c d 3).length ≤ (jT n o i c d 4).length := h 3
  clear h
  obtain rfl | rfl | rfl | rfl : j = 0 ∨ j = 1 ∨ j = 2 ∨ j = 3 := by omega
  · exact Nat.le_trans h1 (Nat.le_trans h2 h3)
  · exact Nat.le_trans h2 h3
  · exact h3
  · exact Nat.le_refl _
/-- what is put together is built again -/
theorem line_build (n : Nat) (o i c d : List ByteArray) (ho : namesW o) (hi : namesW i) (hc : namesW c) (hd : namesW d) (hs : (lineT n o i c d).length < 4294967281) :
    words_Build.f (str (lineT n o i c d)) = some (if jK o i c d 4 = true then (o, (⟨#[99, 99]⟩ : ByteArray), i, c, d, 0) else words_no) := by
  rw [build_is _ (by rw [str_size]; exact hs), words_of_wd, str_data, wd_line n o i c d ho hi hc hd, build_any o i c d _ ho (by decide +kernel) hi hc hd, jK_is]
  simp only [decide_eq_true_eq]
end Go.Proofs.YtncbloieejeifaaDoor.Spec
