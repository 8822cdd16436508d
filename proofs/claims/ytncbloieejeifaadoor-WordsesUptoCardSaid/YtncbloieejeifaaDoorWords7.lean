/- Chapter 7 without the program: the words of a text; a build line's parts, told again as a line. -/
import Derived.Test.YtncbloieejeifaaDoorPaths
import Derived.Test.YtncbloieejeifaaDoorP2
namespace Go.Proofs.YtncbloieejeifaaDoor.Spec
open Go.RowKit Go.Proofs.YtncbloieejeifaaDoorW.PrintWords Go.Proofs.YtncbloieejeifaaDoor.P

theorem split_cat (c : UInt8) (b : List UInt8) : ∀ a : List UInt8, split c (a ++ c :: b) = split c a ++ split c b
  | [] => by simp [split]
  | x :: a => by
    have ih := split_cat c b a
    rw [List.cons_append, split, split]
    by_cases h : x = c
    · rw [if_pos h, if_pos h, ih]; rfl
    · rw [if_neg h, if_neg h, ih]
      cases hs : split c a with
      | nil => exact absurd hs (split_ne c a)
      | cons y ys => rfl
/-- the words of some bytes -/
def wd (l : List UInt8) : List ByteArray := ((split 32 l).map str).filter fun x => !words_none x
theorem words_of_wd (a : ByteArray) : words_of a = wd a.data.toList := rfl
theorem wd_cat (a b : List UInt8) : wd (a ++ 32 :: b) = wd a ++ wd b := by
  unfold wd
  rw [split_cat, List.map_append, List.filter_append]
theorem words_none_str (l : List UInt8) : words_none (str l) = l.isEmpty := by unfold words_none; rw [str_toList]
theorem wd_nil : wd [] = [] := by simp [wd, split, words_none_str]
theorem wd_one (l : List UInt8) (h0 : l ≠ []) (h : (32 : UInt8) ∉ l) : wd l = [str l] := by
  unfold wd
  rw [split_none 32 l h]
  have : words_none (str l) = false := by rw [words_none_str]; simpa using h0
  simp [this]
theorem wd_sign (a b s : List UInt8) (h0 : s ≠ []) (h : (32 : UInt8) ∉ s) : wd (a ++ (32 :: (s ++ [32])) ++ b) = wd a ++ str s :: wd b := by
  have e : a ++ (32 :: (s ++ [32])) ++ b = a ++ 32 :: (s ++ 32 :: b) := by simp
  rw [e, wd_cat, wd_cat, wd_one s h0 h]
  rfl
abbrev namesW (l : List ByteArray) : Prop := ∀ y ∈ l, words_is y = true
theorem is_name {y : ByteArray} (h : words_is y = true) : y.data.toList ≠ [] ∧ (32 : UInt8) ∉ y.data.toList ∧ y.size ≤ 16 := by
  have h1 := nameMay_len (show nameMay y.data.toList = true from h)
  refine ⟨fun e => by rw [e] at h1; simp at h1, fun hm => ?_, by rw [← size_data]; exact h1.2⟩
  have := nameMay_mem (show nameMay y.data.toList = true from h) hm
  exact absurd this (by decide)
theorem wd_name {y : ByteArray} (h : words_is y = true) : wd y.data.toList = [y] := by
  obtain ⟨h0, h1, _⟩ := is_name h
  rw [wd_one _ h0 h1, str_of]
theorem wd_join : ∀ xs : List ByteArray, namesW xs → wd (joinS [32] (datas xs)) = xs := by
  intro xs h
  cases xs with
  | nil => exact wd_nil
  | cons x xs =>
    have hx := wd_name (h x List.mem_cons_self)
    have key : ∀ (ys : List ByteArray) (acc : List UInt8) (us : List ByteArray), namesW ys → wd acc = us → wd (acc ++ ((datas ys).map ([32] ++ ·)).flatten) = us ++ ys := by
      intro ys
      induction ys with
      | nil => intro acc us _ ha; simpa using ha
      | cons y ys ih =>
        intro acc us hy ha
        have h1 := ih (acc ++ 32 :: y.data.toList) (us ++ [y]) (fun z hz => hy z (List.mem_cons_of_mem _ hz)) (by rw [wd_cat, ha, wd_name (hy y List.mem_cons_self)])
        simpa using h1
    have := key xs x.data.toList [x] (fun z hz => h z (List.mem_cons_of_mem _ hz)) hx
    simpa [joinS, datas] using this
theorem names_bulk : ∀ xs : List ByteArray, namesW xs → bulk (datas xs) ≤ 17 * xs.length
  | [], _ => by simp [bulk]
  | y :: ys, h => by
    have ih := names_bulk ys (fun z hz => h z (List.mem_cons_of_mem _ hz))
    have h16 := (is_name (h y List.mem_cons_self)).2.2
    rw [datas, List.map_cons, bulk_cons, List.length_cons, size_data]
    have e : bulk (ys.map fun x => x.data.toList) = bulk (datas ys) := rfl
    omega
theorem join_small {xs : List ByteArray} (h : namesW xs) (hl : xs.length ≤ 8) : (joinS [32] (datas xs)).length ≤ 136 := by
  have h1 := joinS_bulk 32 (datas xs)
  have h2 := names_bulk xs h
  omega

/-! ### What is built -/
theorem lead_names : ∀ ws : List ByteArray, namesW (words_lead ws)
  | [] => fun y hy => by simp [words_lead] at hy
  | x :: ws => by
    intro y hy
    unfold words_lead at hy
    rw [List.takeWhile_cons] at hy
    cases hx : words_is x with
    | false => rw [hx] at hy; simp at hy
    | true =>
      rw [hx] at hy
      rcases List.mem_cons.1 hy with rfl | hy
      · exact hx
      · exact lead_names ws y hy
theorem lead_app (xs rest : List ByteArray) (h : namesW xs) (hr : ∀ y ∈ rest.head?, words_is y = false) : words_lead (xs ++ rest) = xs ∧ words_rest (xs ++ rest) = rest := by
  induction xs with
  | nil =>
    cases rest with
    | nil => exact ⟨rfl, rfl⟩
    | cons y r =>
      have := hr y (by simp)
      simp [words_lead, words_rest, this]
  | cons x xs ih =>
    obtain ⟨h1, h2⟩ := ih (fun z hz => h z (List.mem_cons_of_mem _ hz))
    have hx := h x List.mem_cons_self
    have e1 : words_lead (x :: (xs ++ rest)) = x :: words_lead (xs ++ rest) := by simp [words_lead, hx]
    have e2 : words_rest (x :: (xs ++ rest)) = words_rest (xs ++ rest) := by simp [words_rest, hx]
    rw [List.cons_append, e1, e2, h1, h2]
    exact ⟨rfl, rfl⟩
theorem bad_false {b : Bool} {n m : Nat} (h : words_bad b n m = false) : b = false ∧ n ≤ m ∧ m ≤ 8 := by
  simp only [words_bad, Bool.or_eq_false_iff, decide_eq_false_iff_not] at h
  exact ⟨h.1.1, by omega, by omega⟩
theorem part_inv {s : ByteArray} {ws : List ByteArray} {bad : Bool} (h : (words_part s ws bad).2.2 = false) : bad = false ∧ namesW (words_part s ws bad).1 ∧ (words_part s ws bad).1.length ≤ 8 := by
  unfold words_part at h ⊢
  split
  · rename_i hh
    rw [if_pos hh] at h
    obtain ⟨h1, _, h3⟩ := bad_false h
    exact ⟨h1, lead_names _, h3⟩
  · rename_i hh
    rw [if_neg hh] at h
    exact ⟨h, (by intro y hy; cases hy), Nat.zero_le _⟩
structure Built (o : List ByteArray) (x : ByteArray) (i c d : List ByteArray) : Prop where
  no : namesW o
  o1 : 1 ≤ o.length
  o8 : o.length ≤ 8
  nx : words_is x = true
  ni : namesW i
  i8 : i.length ≤ 8
  nc : namesW c
  c8 : c.length ≤ 8
  nd : namesW d
  d8 : d.length ≤ 8
theorem build_cases (ws : List ByteArray) : words_build ws = words_no ∨ ∃ o x i c d, words_build ws = (o, x, i, c, d, 0) ∧ Built o x i c d := by
  unfold words_build
  split
  · rename_i hh
    cases (words_rest ws).tail with
    | nil => exact .inl rfl
    | cons x r =>
      by_cases hx : words_is x = true
      · simp only [hx, if_true]
        unfold words_tail words_end
        split
        · exact .inl rfl
        · rename_i hq
          have hq3 := Bool.eq_false_iff.2 (fun h => hq (.inl h))
          obtain ⟨hp3, hd, hd8⟩ := part_inv hq3
          obtain ⟨hb, hc, hc8⟩ := part_inv hp3
          obtain ⟨_, _, hi8⟩ := bad_false hb
          obtain ⟨_, ho1, ho8⟩ := bad_false hh.2
          exact .inr ⟨_, _, _, _, _, rfl, ⟨lead_names _, ho1, ho8, hx, lead_names _, hi8, hc, hc8, hd, hd8⟩⟩
      · simp only [hx]; exact .inl rfl
  · exact .inl rfl
def withSign (s : ByteArray) (l : List ByteArray) : List ByteArray := if l = [] then [] else s :: l
theorem colon_not : words_is (⟨#[58]⟩ : ByteArray) = false ∧ words_is (⟨#[124]⟩ : ByteArray) = false ∧ words_is (⟨#[124, 124]⟩ : ByteArray) = false := by decide +kernel
theorem part_sign (s : ByteArray) (_ : words_is s = false) (l rest : List ByteArray) (hl : namesW l) (h8 : l.length ≤ 8) (hr : ∀ y ∈ rest.head?, words_is y = false ∧ (y.toList == s.toList) = false) : words_part s (withSign s l ++ rest) false = (l, rest, false) := by
  cases l with
  | nil =>
    unfold words_part
    rw [if_neg]
    · rfl
    · cases rest with
      | nil => simp [withSign, words_hd]
      | cons y r =>
        have := (hr y (by simp)).2
        simp only [withSign, if_true, List.nil_append, words_hd, this]
        decide
  | cons x l =>
    have hh : words_hd (withSign s (x :: l) ++ rest) s = true := by simp [withSign, words_hd]
    unfold words_part
    rw [if_pos hh]
    obtain ⟨h1, h2⟩ := lead_app (x :: l) rest hl (fun y hy => (hr y hy).1)
    have e : (withSign s (x :: l) ++ rest).tail = (x :: l) ++ rest := rfl
    rw [e, h1, h2, words_bad4 (by simp) (by omega)]
theorem head_sign {s : ByteArray} {l : List ByteArray} {y : ByteArray} (h : y ∈ (withSign s l).head?) : y = s := by
  cases l with
  | nil => simp [withSign] at h
  | cons x l => simpa [withSign, eq_comm] using h
theorem build_again {o : List ByteArray} {x : ByteArray} {i c d : List ByteArray} (b : Built o x i c d) :
    words_build (o ++ (⟨#[58]⟩ : ByteArray) :: x :: (i ++ (withSign ⟨#[124]⟩ c ++ withSign ⟨#[124, 124]⟩ d))) = (o, x, i, c, d, 0) := by
  obtain ⟨k1, k2, k3⟩ := colon_not
  obtain ⟨l1, l2⟩ := lead_app o ((⟨#[58]⟩ : ByteArray) :: x :: (i ++ (withSign ⟨#[124]⟩ c ++ withSign ⟨#[124, 124]⟩ d))) b.no (fun y hy => by simp at hy; rw [← hy]; exact k1)
  have hd2 : ∀ y ∈ (withSign (⟨#[124, 124]⟩ : ByteArray) d).head?, words_is y = false ∧ (y.toList == (⟨#[124]⟩ : ByteArray).toList) = false := fun y hy => by
    rw [head_sign hy]; exact ⟨k3, by decide +kernel⟩
  have hd1 : ∀ y ∈ (withSign (⟨#[124]⟩ : ByteArray) c ++ withSign (⟨#[124, 124]⟩ : ByteArray) d).head?, words_is y = false := fun y hy => by
    cases c with
    | nil => exact (hd2 y hy).1
    | cons z c =>
      have : y = (⟨#[124]⟩ : ByteArray) := by simpa [withSign, eq_comm] using hy
      rw [this]; exact k2
  obtain ⟨m1, m2⟩ := lead_app i (withSign ⟨#[124]⟩ c ++ withSign ⟨#[124, 124]⟩ d) b.ni hd1
  have p1 := part_sign ⟨#[124]⟩ k2 c (withSign ⟨#[124, 124]⟩ d) b.nc b.c8 hd2
  have p2 := part_sign ⟨#[124, 124]⟩ k3 d [] b.nd b.d8 (fun y hy => by simp at hy)
  rw [List.append_nil] at p2
  unfold words_build
  rw [l1, l2, words_bad4 (by have := b.o1; omega) (by have := b.o8; omega), if_pos ⟨by simp [words_hd], rfl⟩]
  simp only [List.tail_cons, b.nx, if_true]
  unfold words_tail
  rw [m1, m2, words_bad4 (by omega) (by have := b.i8; omega), p1]
  simp only [p2]
  unfold words_end
  rw [if_neg (by simp)]

/-! ### Told again -/
theorem build_is (a : ByteArray) (h : a.size < 4294967281) : words_Build.f a = some (words_build (words_of a)) := if_pos h
theorem join_told (xs : List ByteArray) (h : namesW xs) (h8 : xs.length ≤ 8) : ∃ k J, crucibleref1_Join.f k xs (⟨#[32]⟩ : ByteArray) = some J ∧ words_of J = xs ∧ J.size ≤ 136 := by
  have hj := join_small h h8
  obtain ⟨k, hk⟩ := Ev.rounds (ev_Join xs ⟨#[32]⟩ (by omega) (by show (joinS [32] _).length ≤ _; omega))
  exact ⟨k, _, hk, by rw [words_of_wd, str_data]; exact wd_join xs h, by rw [str_size]; exact hj⟩
theorem same_told (xs : List ByteArray) (h8 : xs.length ≤ 8) : ∃ k, cruciblelaw0_SameTexts.f k xs xs = some true := by
  obtain ⟨k, hk⟩ := Ev.rounds (ev_Same xs xs (by omega))
  exact ⟨k, by rw [hk]; simp⟩
theorem again_head {o i : List ByteArray} {x J I : ByteArray} (hJ : words_of J = o) (hI : words_of I = i) (hx : words_is x = true) : words_of ((((J ++ (⟨#[32, 58, 32]⟩ : ByteArray)) ++ x) ++ (⟨#[32]⟩ : ByteArray)) ++ I) = o ++ (⟨#[58]⟩ : ByteArray) :: x :: i := by
  rw [words_of_wd]
  simp only [append_data]
  have h1 := wd_sign J.data.toList x.data.toList [58] (by simp) (by decide)
  rw [← words_of_wd J, hJ, wd_name hx] at h1
  have h2 := wd_cat (J.data.toList ++ (32 :: ([58] ++ [32])) ++ x.data.toList) I.data.toList
  rw [h1, ← words_of_wd I, hI] at h2
  have e : J.data.toList ++ (⟨#[32, 58, 32]⟩ : ByteArray).data.toList ++ x.data.toList ++ (⟨#[32]⟩ : ByteArray).data.toList ++ I.data.toList = (J.data.toList ++ (32 :: ([58] ++ [32])) ++ x.data.toList) ++ 32 :: I.data.toList := by simp
  rw [e, h2]
  simp [str]
theorem again_sign {T C : ByteArray} {u c : List ByteArray} (s : ByteArray) (L : ByteArray) (hL : L.data.toList = 32 :: (s.data.toList ++ [32])) (h0 : s.data.toList ≠ []) (h1 : (32 : UInt8) ∉ s.data.toList) (hT : words_of T = u) (hC : words_of C = c) : words_of ((T ++ L) ++ C) = u ++ s :: c := by
  rw [words_of_wd]
  simp only [append_data, hL]
  rw [wd_sign _ _ _ h0 h1, ← words_of_wd, ← words_of_wd, hT, hC, str_of]
theorem bar_facts : (⟨#[32, 124, 32]⟩ : ByteArray).data.toList = 32 :: ((⟨#[124]⟩ : ByteArray).data.toList ++ [32]) ∧ (⟨#[32, 124, 124, 32]⟩ : ByteArray).data.toList = 32 :: ((⟨#[124, 124]⟩ : ByteArray).data.toList ++ [32]) ∧ (⟨#[124]⟩ : ByteArray).data.toList ≠ [] ∧ (⟨#[124, 124]⟩ : ByteArray).data.toList ≠ [] ∧ (32 : UInt8) ∉ (⟨#[124]⟩ : ByteArray).data.toList ∧ (32 : UInt8) ∉ (⟨#[124, 124]⟩ : ByteArray).data.toList := by
  refine ⟨rfl, rfl, by simp, by simp, by decide, by decide⟩
/-- built again of the whole text: neither sign; the one; the other; both -/
theorem again_all {o : List ByteArray} {x : ByteArray} {i c d : List ByteArray} (b : Built o x i c d) {T : ByteArray} (hs : T.size < 4294967281)
    (hT : words_of T = o ++ (⟨#[58]⟩ : ByteArray) :: x :: (i ++ (withSign ⟨#[124]⟩ c ++ withSign ⟨#[124, 124]⟩ d))) : words_Build.f T = some (o, x, i, c, d, 0) := by
  rw [build_is T hs, hT, build_again b]
theorem again_00 {o : List ByteArray} {x : ByteArray} {i : List ByteArray} (b : Built o x i [] []) {J I : ByteArray} (hJ : words_of J = o) (hI : words_of I = i) (sJ : J.size ≤ 136) (sI : I.size ≤ 136) :
    words_Build.f ((((J ++ (⟨#[32, 58, 32]⟩ : ByteArray)) ++ x) ++ (⟨#[32]⟩ : ByteArray)) ++ I) = some (o, x, i, [], [], 0) :=
  again_all b (by have := (is_name b.nx).2.2; simp only [append_size, show (⟨#[32, 58, 32]⟩ : ByteArray).size = 3 from rfl, show (⟨#[32]⟩ : ByteArray).size = 1 from rfl]; omega) (by rw [again_head hJ hI b.nx]; simp [withSign])
theorem again_10 {o : List ByteArray} {x : ByteArray} {i c : List ByteArray} (b : Built o x i c []) (hc : c ≠ []) {J I C : ByteArray} (hJ : words_of J = o) (hI : words_of I = i) (hC : words_of C = c) (sJ : J.size ≤ 136) (sI : I.size ≤ 136) (sC : C.size ≤ 136) :
    words_Build.f ((((((J ++ (⟨#[32, 58, 32]⟩ : ByteArray)) ++ x) ++ (⟨#[32]⟩ : ByteArray)) ++ I) ++ (⟨#[32, 124, 32]⟩ : ByteArray)) ++ C) = some (o, x, i, c, [], 0) :=
  again_all b (by have := (is_name b.nx).2.2; simp only [append_size, show (⟨#[32, 58, 32]⟩ : ByteArray).size = 3 from rfl, show (⟨#[32, 124, 32]⟩ : ByteArray).size = 3 from rfl, show (⟨#[32]⟩ : ByteArray).size = 1 from rfl]; omega)
    (by rw [again_sign ⟨#[124]⟩ ⟨#[32, 124, 32]⟩ bar_facts.1 bar_facts.2.2.1 bar_facts.2.2.2.2.1 (again_head hJ hI b.nx) hC]; simp [withSign, hc])
theorem again_01 {o : List ByteArray} {x : ByteArray} {i d : List ByteArray} (b : Built o x i [] d) (hd : d ≠ []) {J I D : ByteArray} (hJ : words_of J = o) (hI : words_of I = i) (hD : words_of D = d) (sJ : J.size ≤ 136) (sI : I.size ≤ 136) (sD : D.size ≤ 136) :
    words_Build.f ((((((J ++ (⟨#[32, 58, 32]⟩ : ByteArray)) ++ x) ++ (⟨#[32]⟩ : ByteArray)) ++ I) ++ (⟨#[32, 124, 124, 32]⟩ : ByteArray)) ++ D) = some (o, x, i, [], d, 0) :=
  again_all b (by have := (is_name b.nx).2.2; simp only [append_size, show (⟨#[32, 58, 32]⟩ : ByteArray).size = 3 from rfl, show (⟨#[32, 124, 124, 32]⟩ : ByteArray).size = 4 from rfl, show (⟨#[32]⟩ : ByteArray).size = 1 from rfl]; omega)
    (by rw [again_sign ⟨#[124, 124]⟩ ⟨#[32, 124, 124, 32]⟩ bar_facts.2.1 bar_facts.2.2.2.1 bar_facts.2.2.2.2.2 (again_head hJ hI b.nx) hD]; simp [withSign, hd])
theorem again_11 {o : List ByteArray} {x : ByteArray} {i c d : List ByteArray} (b : Built o x i c d) (hc : c ≠ []) (hd : d ≠ []) {J I C D : ByteArray} (hJ : words_of J = o) (hI : words_of I = i) (hC : words_of C = c) (hD : words_of D = d) (sJ : J.size ≤ 136) (sI : I.size ≤ 136) (sC : C.size ≤ 136) (sD : D.size ≤ 136) :
    words_Build.f ((((((((J ++ (⟨#[32, 58, 32]⟩ : ByteArray)) ++ x) ++ (⟨#[32]⟩ : ByteArray)) ++ I) ++ (⟨#[32, 124, 32]⟩ : ByteArray)) ++ C) ++ (⟨#[32, 124, 124, 32]⟩ : ByteArray)) ++ D) = some (o, x, i, c, d, 0) :=
  again_all b (by have := (is_name b.nx).2.2; simp only [append_size, show (⟨#[32, 58, 32]⟩ : ByteArray).size = 3 from rfl, show (⟨#[32, 124, 32]⟩ : ByteArray).size = 3 from rfl, show (⟨#[32, 124, 124, 32]⟩ : ByteArray).size = 4 from rfl, show (⟨#[32]⟩ : ByteArray).size = 1 from rfl]; omega)
    (by rw [again_sign ⟨#[124, 124]⟩ ⟨#[32, 124, 124, 32]⟩ bar_facts.2.1 bar_facts.2.2.2.1 bar_facts.2.2.2.2.2 (again_sign ⟨#[124]⟩ ⟨#[32, 124, 32]⟩ bar_facts.1 bar_facts.2.2.1 bar_facts.2.2.2.2.1 (again_head hJ hI b.nx) hC) hD]; simp [withSign, hc, hd])
end Go.Proofs.YtncbloieejeifaaDoor.Spec
