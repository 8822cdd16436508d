/- Chapter 7, any text: the law's function by hand answers true. -/
import Derived.Test.YtncbloieejeifaaDoorWords7
import Derived.Test.YtncbloieejeifaaDoorSpoilT
import Derived.Test.YtncbloieejeifaaDoorP8
namespace Go.Proofs.YtncbloieejeifaaDoor.Spec
open Go.RowKit Go.Proofs.YtncbloieejeifaaDoorW.PrintWords Go.Proofs.YtncbloieejeifaaDoor.P
theorem ev_rwords_loop : ∀ (rest pre acc : List ByteArray), (pre ++ rest).length ≤ 4398046511104 → acc.length ≤ pre.length →
    Ev (fun k => crucibleref1_words.l0 k (pre ++ rest) acc (pre.length : Int)) (acc ++ rest.filter fun x => !words_none x)
  | [], pre, acc, h, ha => by
    refine Ev.step (fun k => by rw [crucibleref1_words.l0]) (ev_neg (by simp) (ev_const ?_))
    simp
  | x :: rest, pre, acc, h, ha => by
    have hl : (pre ++ x :: rest).length = pre.length + (rest.length + 1) := by simp
    have hr : rdOf ByteArray.empty (pre ++ x :: rest) (pre.length : Int) = x := rdOf_pre _ _ _ _
    have hw : wrap64 ((pre.length : Int) + 1) = ((pre ++ [x]).length : Int) := wrap_len pre x (by omega)
    have e : pre ++ x :: rest = (pre ++ [x]) ++ rest := by simp
    have g1 : (pre.length : Int) < ((pre ++ x :: rest).length : Int) := by rw [hl]; omega
    have g3 : acc.length < 8796093022208 := by omega
    have ih1 := ev_rwords_loop rest (pre ++ [x]) acc (by rw [← e]; exact h) (by simp; omega)
    have ih2 := ev_rwords_loop rest (pre ++ [x]) (acc ++ [x]) (by rw [← e]; exact h) (by simp; omega)
    rw [← e] at ih1 ih2
    refine Ev.step (fun k => by rw [crucibleref1_words.l0]) (ev_pos g1 (ev_pos (by omega) ?_))
    rw [hr, hw]
    by_cases hx : x.toList = []
    · have hn : (!words_none x) = false := by simp [words_none, hx]
      rw [List.filter_cons, hn]
      exact ev_pos hx ih1
    · have hn : (!words_none x) = true := by simp [words_none, hx]
      rw [List.filter_cons, hn, if_pos rfl]
      refine ev_neg hx (ev_pos g3 ?_)
      rw [List.append_assoc] at ih2
      exact ih2
theorem ev_rwords (s : ByteArray) (hs : s.size ≤ 1048576) : Ev (fun k => crucibleref1_words.f k s) (words_of s) := by
  have h1 := words_split_len 32 s.data.toList
  rw [size_data] at h1
  have h2 := ev_rwords_loop ((split 32 s.data.toList).map str) [] [] (by rw [List.nil_append, List.length_map]; omega) (Nat.le_refl _)
  have h3 := ev_split1 s 32 (by omega)
  rw [show (((32 : UInt8).toNat : Nat) : Int) = 32 from rfl] at h3
  have h4 : Ev (fun k => crucibleref1_words.l0 k ((split 32 s.data.toList).map str) [] 0) (words_of s) := h2
  exact Ev.congr (fun k => by rw [crucibleref1_words.f]) (ev_bind h3 h4)
theorem ev_rnames_loop : ∀ (rest pre : List ByteArray), (pre ++ rest).length ≤ 4398046511104 → (∀ x ∈ rest, x.size ≤ 4611686018427387904) →
    Ev (fun k => crucibleref1_names.l0 k (pre ++ rest) (pre.length : Int)) ((pre.length + (words_lead rest).length : Nat) : Int)
  | [], pre, h, hs => by
    refine Ev.step (fun k => by rw [crucibleref1_names.l0]) (ev_neg (by simp) (ev_const ?_))
    simp [words_lead]
  | x :: rest, pre, h, hs => by
    have hl : (pre ++ x :: rest).length = pre.length + (rest.length + 1) := by simp
    have hr : rdOf ByteArray.empty (pre ++ x :: rest) (pre.length : Int) = x := rdOf_pre _ _ _ _
    have hw : wrap64 ((pre.length : Int) + 1) = ((pre ++ [x]).length : Int) := wrap_len pre x (by omega)
    have e : pre ++ x :: rest = (pre ++ [x]) ++ rest := by simp
    have g1 : (pre.length : Int) < ((pre ++ x :: rest).length : Int) := by rw [hl]; omega
    have ih := ev_rnames_loop rest (pre ++ [x]) (by rw [← e]; exact h) (fun y hy => hs y (List.mem_cons_of_mem _ hy))
    rw [← e] at ih
    have hM := ev_NameMay x (hs x List.mem_cons_self)
    refine Ev.step (fun k => by rw [crucibleref1_names.l0]) (ev_pos g1 (ev_pos (by omega) ?_))
    rw [hr, hw]
    refine ev_bind hM ?_
    by_cases hx : words_is x = true
    · have e2 : (words_lead (x :: rest)).length = (words_lead rest).length + 1 := by rw [words_lead, List.takeWhile_cons, hx]; rfl
      refine ev_pos hx (ev_eq ih ?_)
      rw [e2, List.length_append, List.length_singleton]
      omega
    · have e2 : (words_lead (x :: rest)).length = 0 := by rw [words_lead, List.takeWhile_cons]; simp [hx]
      refine ev_neg hx (ev_const ?_)
      rw [e2]
      rfl
theorem ev_rnames (ws : List ByteArray) (h : ws.length ≤ 4398046511104) (hs : ∀ x ∈ ws, x.size ≤ 4611686018427387904) : Ev (fun k => crucibleref1_names.f k ws) ((words_lead ws).length : Int) := by
  have := ev_rnames_loop ws [] (by simpa using h) hs
  refine Ev.congr (fun k => by rw [crucibleref1_names.f]; rfl) (ev_eq this ?_)
  simp
theorem names_all (ws : List ByteArray) (h : ws.length ≤ 4398046511104) (hs : ∀ x ∈ ws, x.size ≤ 4611686018427387904) : ∀ n, ∃ K, ∀ k, K ≤ k → ∀ j, j < n → crucibleref1_names.f k (ws.drop j) = some ((words_lead (ws.drop j)).length : Int)
  | 0 => ⟨0, fun _ _ j hj => absurd hj (Nat.not_lt_zero j)⟩
  | n + 1 => by
    obtain ⟨K, hK⟩ := names_all ws h hs n
    obtain ⟨M, hM⟩ := ev_rnames (ws.drop n) (by rw [List.length_drop]; omega) (fun x hx => hs x (List.mem_of_mem_drop hx))
    refine ⟨max K M, fun k hk j hj => ?_⟩
    by_cases hjn : j = n
    · subst hjn; exact hM k (by omega)
    · exact hK k (by omega) j (by omega)
theorem may_all7 (xs : List ByteArray) (h : ∀ x ∈ xs, x.size ≤ 4611686018427387904) : ∃ K, ∀ k, K ≤ k → ∀ x ∈ xs, crucibleref1_NameMay.f k x = some (words_is x) := by
  induction xs with
  | nil => exact ⟨0, fun _ _ x hx => by cases hx⟩
  | cons y ys ih =>
    obtain ⟨K, hK⟩ := ih (fun x hx => h x (List.mem_cons_of_mem _ hx))
    obtain ⟨M, hM⟩ := ev_NameMay y (h y List.mem_cons_self)
    refine ⟨max K M, fun k hk x hx => ?_⟩
    rcases List.mem_cons.1 hx with rfl | hx
    · exact hM k (by omega)
    · exact hK k (by omega) x hx
theorem of_small (s : ByteArray) (x : ByteArray) (h : x ∈ words_of s) : x.size ≤ s.size := by
  rw [words_of, List.mem_filter] at h
  obtain ⟨l, hl, rfl⟩ := List.mem_map.1 h.1
  rw [str_size, ← size_data s]
  have h1 := bulk_split 32 s.data.toList
  have : ∀ (ls : List (List UInt8)), l ∈ ls → l.length + 1 ≤ bulk ls := by
    intro ls
    induction ls with
    | nil => intro h; cases h
    | cons a ls ih =>
      intro h
      rw [bulk_cons]
      rcases List.mem_cons.1 h with rfl | h
      · omega
      · have := ih h; omega
  have := this _ hl
  omega
theorem ev_RWords (s : ByteArray) (hs : s.size ≤ 1048576) : ∃ K, ∀ k, K ≤ k → crucibleref1_Words.f k s = some (words_build (words_of s)) := by
  have hl := words_of_len s (by omega)
  obtain ⟨K1, h1⟩ := ev_rwords s hs
  obtain ⟨K2, h2⟩ := names_all (words_of s) (by omega) (fun x hx => by have := of_small s x hx; omega) ((words_of s).length + 1)
  obtain ⟨K3, h3⟩ := may_all7 (words_of s) (fun x hx => by have := of_small s x hx; omega)
  refine ⟨max K1 (max K2 K3), fun k hk => ?_⟩
  have h5 : crucibleref1_words.f k s = some (words_of s) := h1 k (by omega)
  rw [crucibleref1_Words.f, h5, Option.bind_some, if_pos ⟨fun j hj => h2 k (by omega) j (by omega), h3 k (by omega), hl⟩]
theorem built_small (ws : List ByteArray) : (words_build ws).1.length ≤ 8 ∧ (words_build ws).2.2.1.length ≤ 8 ∧ (words_build ws).2.2.2.1.length ≤ 8 ∧ (words_build ws).2.2.2.2.1.length ≤ 8 ∧ namesW (words_build ws).1 ∧ namesW (words_build ws).2.2.1 ∧ namesW (words_build ws).2.2.2.1 ∧ namesW (words_build ws).2.2.2.2.1 := by
  rcases build_cases ws with e | ⟨o, x, i, c, d, e, b⟩
  · rw [e]; exact ⟨by simp [words_no], by simp [words_no], by simp [words_no], by simp [words_no], fun y hy => by simp [words_no] at hy, fun y hy => by simp [words_no] at hy, fun y hy => by simp [words_no] at hy, fun y hy => by simp [words_no] at hy⟩
  · rw [e]; exact ⟨b.o8, b.i8, b.c8, b.d8, b.no, b.ni, b.nc, b.nd⟩
theorem names_sz {l : List ByteArray} (h : namesW l) : ∀ x ∈ l, x.size ≤ 4611686018427387904 := fun x hx => by have := (is_name (h x hx)).2.2; omega
theorem Wordses (a0 : ByteArray) (hb : a0.size + 1 ≤ 1048576) (_ : a0.size ≤ 140737488351232) : ∃ k, cruciblelaw7_Wordses.f k a0 = some true := by
  obtain ⟨l1, l2, l3, l4, n1, n2, n3, n4⟩ := built_small (words_of a0)
  refine Ev.rounds ?_
  unfold cruciblelaw7_Wordses.f
  refine ev_bindc (build_is a0 (by omega)) (ev_bind (ev_Spoil _ (by omega) (names_sz n1)) (ev_bind (ev_Spoil _ (by omega) (names_sz n2)) (ev_bind (ev_Spoil _ (by omega) (names_sz n3)) (ev_bind (ev_Spoil _ (by omega) (names_sz n4)) ?_))))
  refine evt_if (evt_and (ev_RWords a0 (by omega)) (evt_and ?_ (evt_and ?_ (evt_and ?_ ?_)))) (Ev.now _)
  · exact evt_is (ev_eq (ev_Same _ _ (by omega)) (by simp))
  · exact evt_is (ev_eq (ev_Same _ _ (by omega)) (by simp))
  · exact evt_is (ev_eq (ev_Same _ _ (by omega)) (by simp))
  · exact evt_is (ev_eq (ev_Same _ _ (by omega)) (by simp))
end Go.Proofs.YtncbloieejeifaaDoor.Spec
