/- Chapter 17, any names, any text: the law Depfiles without the program. -/
import Derived.Test.YtncbloieejeifaaDoorLaw17
import Derived.Test.YtncbloieejeifaaDoorSpoilT
import Derived.Test.YtncbloieejeifaaDoorP25
import Derived.Test.YtncbloieejeifaaDoorP23
namespace Go.Proofs.YtncbloieejeifaaDoor.Spec
open Go.RowKit Go.Proofs.YtncbloieejeifaaDoorW.PrintWords Go.Proofs.YtncbloieejeifaaDoor.P
def gdR (s : List UInt8) : ByteArray × List ByteArray × Int :=
  if gdBad s = true then (str [], [], 1700) else (if (putD (str (s.take (gdK s))) (gdW (gdT s))).2 = 0 ∧ (putD (str (s.take (gdK s))) (gdW (gdT s))).1.toList = s then (str (s.take (gdK s)), gdW (gdT s), 0) else (str [], [], 1700))
theorem gdT_len (s : List UInt8) : (gdT s).length ≤ s.length := by unfold gdT; rw [List.length_drop, List.length_take]; omega
theorem ev_RGetDep (s : ByteArray) (hs : s.size ≤ 2000000) : Ev (fun k => crucibleref12_GetDepfile.f k s) (gdR s.data.toList) := by
  unfold crucibleref12_GetDepfile.f gdR
  refine ev_pos hs ?_
  by_cases hb : gdBad s.data.toList = true
  · rw [if_pos hb]; exact ev_pos hb (Ev.now _)
  · rw [if_neg hb]
    obtain ⟨h1, h2⟩ := gdW_small (gdT s.data.toList)
    have h3 := gdT_len s.data.toList
    rw [size_data] at h3
    refine ev_neg hb (ev_bind (ev_PutDepfile _ _ ?_ ?_ ?_) (ev_const ?_))
    · rw [str_size, List.length_take, size_data]; omega
    · omega
    · intro x hx; have := h1 x hx; omega
    · rw [toList_data s]; rfl
theorem joinS_flat : ∀ (x : List UInt8) (xs : List (List UInt8)), joinS [32] (x :: xs) = x ++ (xs.map ([32] ++ ·)).flatten
  | x, [] => by simp [joinS]
  | x, y :: ys => by
    rw [joinS_cons2, joinS_flat y ys]
    simp
theorem gdS_on (acc : List ByteArray) (q : List UInt8) (b : UInt8) (h : b ≠ 32) : gdS (acc ++ [str q]) b = acc ++ [str (q ++ [b])] := by
  unfold gdS
  rw [if_neg h, if_neg (by simp)]
  have e : (acc ++ [str q]).length - 1 = acc.length := by simp
  rw [e, List.getD_eq_getElem?_getD]
  simp only [List.getElem?_append_right (Nat.le_refl _), Nat.sub_self, List.getElem?_cons_zero, Option.getD_some]
  rw [str_append, List.set_append_right _ _ (Nat.le_refl _), Nat.sub_self]
  rfl
theorem gdS_word (acc : List ByteArray) : ∀ (p q : List UInt8), (32 : UInt8) ∉ p → p.foldl gdS (acc ++ [str q]) = acc ++ [str (q ++ p)]
  | [], q, _ => by simp
  | b :: p, q, h => by
    rw [List.foldl_cons, gdS_on acc q b (fun e => h (by simp [e])), gdS_word acc p (q ++ [b]) (fun e => h (List.mem_cons_of_mem _ e)), List.append_assoc, List.singleton_append]
theorem gdS_all : ∀ (ps : List (List UInt8)) (acc : List ByteArray), (∀ p ∈ ps, (32 : UInt8) ∉ p) → ((ps.map ([32] ++ ·)).flatten).foldl gdS acc = acc ++ ps.map str
  | [], acc, _ => by simp
  | p :: ps, acc, h => by
    have h1 : gdS acc 32 = acc ++ [str []] := by unfold gdS; rw [if_pos rfl]; rfl
    rw [List.map_cons, List.flatten_cons, List.foldl_append, List.singleton_append, List.foldl_cons, h1, gdS_word acc p [] (h p List.mem_cons_self), List.nil_append, gdS_all ps _ (fun q hq => h q (List.mem_cons_of_mem _ hq))]
    simp
theorem gdK_is (o r : List UInt8) (h : (58 : UInt8) ∉ o) : gdK (o ++ 58 :: r) = o.length := by
  unfold gdK
  induction o with
  | nil => simp
  | cons b o ih =>
    have hb : b ≠ 58 := fun e => h (by simp [e])
    have := ih (fun e => h (List.mem_cons_of_mem _ e))
    simp [hb]
    simpa using this
theorem line_flat (o : List UInt8) (ins : List (List UInt8)) : line o ins = o ++ 58 :: ((ins.map ([32] ++ ·)).flatten ++ [10]) := by
  unfold line
  rw [joinS_flat]
  simp
/-- a line that was put is told back by the document's answer -/
theorem gdR_line (out : ByteArray) (ins : List ByteArray) (ho : isP out.data.toList = true) (hi : allP ins 8 = true) : gdR (line out.data.toList (datas ins)) = (out, ins, 0) := by
  have hp : putD out ins = (str (line out.data.toList (datas ins)), 0) := by unfold putD; rw [if_pos ⟨ho, hi⟩]
  have h58 : (58 : UInt8) ∉ out.data.toList := fun hm => absurd (nameMay_mem (isP_names ho).1 hm) (by decide)
  have h32 : ∀ p ∈ datas ins, (32 : UInt8) ∉ p := by
    intro p hp hm
    obtain ⟨x, hx, rfl⟩ := List.mem_map.1 hp
    exact absurd (nameMay_mem (isP_names ((allP_all hi).1 x hx)).1 hm) (by decide)
  obtain ⟨o, hoo⟩ : ∃ o, out.data.toList = o := ⟨_, rfl⟩
  obtain ⟨f, hf⟩ : ∃ f, ((datas ins).map ([32] ++ ·)).flatten = f := ⟨_, rfl⟩
  have hl := line_flat o (datas ins)
  rw [hf] at hl
  rw [hoo] at h58 hp ⊢
  have hK : gdK (line o (datas ins)) = o.length := by rw [hl]; exact gdK_is o _ h58
  have hlen : (line o (datas ins)).length = o.length + f.length + 2 := by rw [hl]; simp; omega
  have hT : gdT (line o (datas ins)) = f := by
    unfold gdT
    rw [hK, hlen, hl, show o ++ 58 :: (f ++ [10]) = (o ++ [58]) ++ (f ++ [10]) by simp]
    rw [show o.length + f.length + 2 - 1 = ((o ++ [58]) ++ f).length by simp; omega, ← List.append_assoc, List.take_left, show o.length + 1 = (o ++ [58]).length by simp, List.drop_left]
  have hW : gdW (gdT (line o (datas ins))) = ins := by
    rw [hT, ← hf]
    unfold gdW
    rw [gdS_all _ _ h32, List.nil_append, map_str_data]
  have htk : (line o (datas ins)).take (gdK (line o (datas ins))) = o := by rw [hK, hl]; exact List.take_left
  have hbad : ¬ gdBad (line o (datas ins)) = true := by
    unfold gdBad
    have h10 : (line o (datas ins)).getD ((line o (datas ins)).length - 1) 0 = 10 := by
      rw [hlen, hl, show o ++ 58 :: (f ++ [10]) = ((o ++ [58]) ++ f) ++ [10] by simp, show o.length + f.length + 2 - 1 = ((o ++ [58]) ++ f).length by simp; omega, List.getD_eq_getElem?_getD, List.getElem?_append_right (Nat.le_refl _), Nat.sub_self]
      rfl
    rw [hK, h10, hlen]
    simp
    omega
  unfold gdR
  rw [if_neg hbad, htk, hW, show str o = out by rw [← hoo, str_of], hp, if_pos ⟨rfl, by rw [str_toList]⟩]
theorem back_cases (s : List UInt8) (out : ByteArray) (ins : List ByteArray) : (isP out.data.toList = true ∧ allP ins 8 = true ∧ s = line out.data.toList (datas ins)) ∨ ((putD out ins).2 = 0 ∧ (putD out ins).1.toList = s) = False := by
  rcases putD_cases out ins with ⟨h1, h2, e⟩ | e
  · by_cases hl : line out.data.toList (datas ins) = s
    · exact .inl ⟨h1, h2, hl.symm⟩
    · refine .inr (eq_false (fun h => hl ?_))
      rw [e] at h
      rw [← h.2, str_toList]
  · refine .inr (eq_false (fun h => ?_))
    rw [e] at h
    exact absurd h.1 (by decide)
theorem getD_gdR (s : List UInt8) : gdR s = getD s := by
  by_cases hA : ∃ (out : ByteArray) (ins : List ByteArray), isP out.data.toList = true ∧ allP ins 8 = true ∧ s = line out.data.toList (datas ins)
  · obtain ⟨out, ins, h1, h2, rfl⟩ := hA
    rw [gdR_line out ins h1 h2, get_line out ins h1 h2]
  · have hg : getD s = (str [], [], 1700) := by
      unfold getD depfile_Get.back
      simp only []
      rcases back_cases s (str (Lib.trimSuffix ((split 32 (Lib.trimSuffix s [10])).headD []) [58])) ((split 32 (Lib.trimSuffix s [10])).tail.map str) with h | h
      · exact absurd ⟨_, _, h⟩ hA
      · split
        · rename_i h1
          rw [if_neg]
          · rfl
          · intro h2
            rw [str_toList] at h2
            exact cast h ⟨h1, h2⟩
        · rfl
    rw [hg]
    unfold gdR
    split
    · rfl
    · rcases back_cases s (str (s.take (gdK s))) (gdW (gdT s)) with h | h
      · exact absurd ⟨_, _, h⟩ hA
      · rw [if_neg (fun q => cast h q)]
theorem getD_ok (s : List UInt8) (h : (getD s).2.2 = 0) : putD (getD s).1 (getD s).2.1 = (str s, 0) := by
  by_cases hA : ∃ (out : ByteArray) (ins : List ByteArray), isP out.data.toList = true ∧ allP ins 8 = true ∧ s = line out.data.toList (datas ins)
  · obtain ⟨out, ins, h1, h2, rfl⟩ := hA
    rw [get_line out ins h1 h2]
    unfold putD
    rw [if_pos ⟨h1, h2⟩]
  · rw [← getD_gdR] at h
    unfold gdR at h
    split at h
    · exact absurd h (by decide)
    · rcases back_cases s (str (s.take (gdK s))) (gdW (gdT s)) with q | q
      · exact absurd ⟨_, _, q⟩ hA
      · rw [if_neg (fun x => cast q x)] at h
        exact absurd h (by decide)
theorem getD_small (s : List UInt8) : (getD s).2.1.length ≤ 8 ∧ ∀ x ∈ (getD s).2.1, x.size ≤ 16 := by
  by_cases hA : ∃ (out : ByteArray) (ins : List ByteArray), isP out.data.toList = true ∧ allP ins 8 = true ∧ s = line out.data.toList (datas ins)
  · obtain ⟨out, ins, h1, h2, rfl⟩ := hA
    rw [get_line out ins h1 h2]
    exact ⟨(allP_all h2).2, fun x hx => by have := isP_size ((allP_all h2).1 x hx); rw [size_data] at this; exact this⟩
  · have hg : getD s = (str [], [], 1700) := by
      rw [← getD_gdR]
      unfold gdR
      split
      · rfl
      · rcases back_cases s (str (s.take (gdK s))) (gdW (gdT s)) with q | q
        · exact absurd ⟨_, _, q⟩ hA
        · rw [if_neg (fun x => cast q x)]
    rw [hg]
    exact ⟨Nat.zero_le _, fun x hx => by cases hx⟩
theorem dsum_len (xs : List ByteArray) : xs.length ≤ (xs.map fun s => s.size + 1).sum := by
  induction xs with
  | nil => simp
  | cons y ys ih => simp only [List.map_cons, List.sum_cons, List.length_cons]; omega
theorem dsum_mem : ∀ (xs : List ByteArray) (x : ByteArray), x ∈ xs → x.size ≤ (xs.map fun s => s.size + 1).sum
  | y :: ys, x, h => by
    simp only [List.map_cons, List.sum_cons]
    rcases List.mem_cons.1 h with rfl | h
    · omega
    · have := dsum_mem ys x h
      omega
theorem Depfiles (out : ByteArray) (ins : List ByteArray) (s : ByteArray) (hb : (out.size + 1) + ((ins.map fun s => s.size + 1).sum + 1) + (s.size + 1) ≤ 1048576)
    (_ : out.size ≤ 140737488351232) (_ : ∀ x ∈ ins, x.size ≤ maxLen) (_ : s.size ≤ 140737488351232) : ∃ k, cruciblelaw17_Depfiles.f k out ins s = some true := by
  have hl := dsum_len ins
  have hm := dsum_mem ins
  have hsm := getD_small s.data.toList
  have hline : (putD out ins).1.size < 4294967281 := by
    rcases putD_cases out ins with ⟨h1, h2, e⟩ | e
    · have h3 := bulk_paths h2
      have h4 := isP_size h1
      have hj := joinS_bulk' [32] (out.data.toList ++ [58]) (datas ins) rfl
      rw [bulk_cons, List.length_append, List.length_singleton] at hj
      rw [e]
      simp only [str_size, line, List.length_append, List.length_singleton]
      omega
    · rw [e]; decide
  refine Ev.rounds ?_
  unfold cruciblelaw17_Depfiles.f
  refine ev_bind (ev_Put out ins (by omega)) (ev_bind (ev_Get s (by omega)) (ev_bind (ev_Get _ hline) (ev_bind (ev_Put _ _ (by omega)) ?_)))
  refine evt_if (evt_and (evt_and ?_ (evt_and ?_ (evt_and (evt_c (by omega)) (evt_and (evt_c (by omega)) (evt_c (fun y hy => by have := hsm.2 y hy; omega)))))) (evt_and (evt_and ?_ (evt_and ?_ ev_awake17)) (evt_and (evt_c ?_) (evt_c ?_)))) (Ev.now _)
  · exact evt_is (ev_PutDepfile out ins (by omega) (by omega) (fun x hx => by have := hm x hx; omega))
  · rw [← getD_gdR]
    exact evt_is (ev_RGetDep s (by omega))
  · exact evt_is (ev_eq (ev_Same _ _ (by omega)) (by simp))
  · exact evt_is (ev_eq (ev_Same _ _ (by omega)) (by simp))
  · intro h0
    rcases putD_cases out ins with ⟨h1, h2, e⟩ | e
    · rw [e]
      simp only [str_data]
      exact get_line out ins h1 h2
    · rw [e] at h0; exact absurd h0 (by decide)
  · intro h0
    rw [getD_ok _ h0, str_of]
end Go.Proofs.YtncbloieejeifaaDoor.Spec
