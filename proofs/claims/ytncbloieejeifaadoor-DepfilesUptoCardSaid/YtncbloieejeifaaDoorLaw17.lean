/- Chapter 17: the laws DepfileForms, DepfileUnlike, DepfileBy without the program. -/
import Derived.Test.YtncbloieejeifaaDoorDepfile
import Derived.Test.YtncbloieejeifaaDoorRef1
import Derived.Test.YtncbloieejeifaaDoorP24
import Derived.Test.YtncbloieejeifaaDoorP26
import Derived.Test.YtncbloieejeifaaDoorP27
import Derived.Test.YtncbloieejeifaaDoorP28
import Derived.Test.YtncbloieejeifaaDoorP21
namespace Go.Proofs.YtncbloieejeifaaDoor.Spec
open Go.RowKit Go.Proofs.YtncbloieejeifaaDoorW.PrintWords Go.Proofs.YtncbloieejeifaaDoor.P

theorem putD_eval (out : List UInt8) (ins : List (List UInt8)) (r : List UInt8) (n : Int)
    (h : (if isP out = true ∧ (ins.all isP && decide (ins.length ≤ 8)) = true then (line out ins, (0 : Int)) else ([], 1700)) = (r, n)) : putD (str out) (ins.map str) = (str r, n) := by
  have ha : allP (ins.map str) 8 = (ins.all isP && decide (ins.length ≤ 8)) := by
    simp only [allP, List.all_map, List.length_map]
    have : ((fun x : ByteArray => isP x.data.toList) ∘ str) = isP := by funext x; simp [str_data]
    rw [this]
  unfold putD
  rw [ha, str_data, datas_str]
  split
  · rename_i hc
    rw [if_pos hc] at h
    injection h with h1 h2
    rw [← h1, ← h2]
  · rename_i hc
    rw [if_neg hc] at h
    injection h with h1 h2
    rw [← h1, ← h2]
/-- getD, as lists -/
def getL (s : List UInt8) : List UInt8 × List (List UInt8) × Int :=
  let ws := split 32 (Lib.trimSuffix s [10])
  let out := Lib.trimSuffix (ws.headD []) [58]
  if isP out = true ∧ (ws.tail.all isP && decide (ws.tail.length ≤ 8)) = true ∧ line out ws.tail = s then (out, ws.tail, 0) else ([], [], 1700)
theorem getD_eval (s : List UInt8) : getD s = (str (getL s).1, (getL s).2.1.map str, (getL s).2.2) := by
  unfold getD getL
  simp only []
  obtain ⟨out, hout⟩ : ∃ o, Lib.trimSuffix ((split 32 (Lib.trimSuffix s [10])).headD []) [58] = o := ⟨_, rfl⟩
  obtain ⟨ins, hins⟩ : ∃ o, (split 32 (Lib.trimSuffix s [10])).tail = o := ⟨_, rfl⟩
  rw [hout, hins]
  by_cases hc : isP out = true ∧ (ins.all isP && decide (ins.length ≤ 8)) = true
  · rw [putD_eval out ins (line out ins) 0 (if_pos hc)]
    unfold depfile_Get.back
    simp only [if_true, str_toList]
    by_cases hl : line out ins = s
    · rw [if_pos hl, if_pos ⟨hc.1, hc.2, hl⟩]
    · rw [if_neg hl, if_neg (fun h => hl h.2.2)]; rfl
  · rw [putD_eval out ins [] 1700 (if_neg hc)]
    unfold depfile_Get.back
    rw [if_neg (by decide), if_neg (fun h => hc ⟨h.1, h.2.1⟩)]; rfl

theorem ev_awake17 : Ev (fun k => cruciblelaw17_awake.f k) true := by
  refine Ev.congr (fun k => by rw [cruciblelaw17_awake.f]) ?_
  have p1 := putD_eval [97, 46, 111] [[120, 46, 104], [121, 46, 104]] [97, 46, 111, 58, 32, 120, 46, 104, 32, 121, 46, 104, 10] 0 (by decide +kernel)
  have p2 := putD_eval [] [] [] 1700 (by decide +kernel)
  have g1 : getD [97, 46, 111, 58, 32, 120, 46, 104, 32, 121, 46, 104, 10] = (str [97, 46, 111], [str [120, 46, 104], str [121, 46, 104]], 0) := by
    rw [getD_eval, show getL [97, 46, 111, 58, 32, 120, 46, 104, 32, 121, 46, 104, 10] = ([97, 46, 111], [[120, 46, 104], [121, 46, 104]], 0) by decide +kernel]; rfl
  have g2 : getD [97, 46, 111, 58, 32, 120, 46, 104] = (str [], [], 1700) := by
    rw [getD_eval, show getL [97, 46, 111, 58, 32, 120, 46, 104] = ([], [], 1700) by decide +kernel]; rfl
  have e1 := ev_Put (str [97, 46, 111]) [str [120, 46, 104], str [121, 46, 104]] (by decide)
  have p1' : putD (str [97, 46, 111]) [str [120, 46, 104], str [121, 46, 104]] = _ := p1
  rw [p1'] at e1
  refine ev_bind e1 ?_
  have e2 := ev_Get (str [97, 46, 111, 58, 32, 120, 46, 104, 32, 121, 46, 104, 10]) (by decide)
  rw [str_data, g1] at e2
  refine ev_bind e2 ?_
  have e3 := ev_Put (str []) [] (by decide)
  have p2' : putD (str []) [] = _ := p2
  rw [p2'] at e3
  refine ev_bind e3 ?_
  have e4 := ev_Get (str [97, 46, 111, 58, 32, 120, 46, 104]) (by decide)
  rw [str_data, g2] at e4
  refine ev_bind e4 ?_
  simp only [str_toList]
  refine ev_pos (by simp) (ev_bindc rfl (ev_pos rfl (ev_pos (by simp) (ev_bind (ev_Same _ _ (by decide)) (ev_pos ?_ (ev_bindc rfl (ev_pos rfl (ev_bindc rfl (ev_pos rfl (ev_bindc rfl (Ev.now _)))))))))))
  exact decide_eq_true rfl

theorem forms17 (m : Fin 16) :
    (let bad := [[], [47, 97], [46, 47, 97], [65]]
     let t : List (List UInt8) := [[], [10], [97, 10], [97, 58], [97, 58, 32, 10], [97, 58, 98, 10], [97, 58, 32, 32, 98, 10], [97, 58, 32, 98, 32, 10], [97, 58, 32, 98, 10, 10], [58, 32, 98, 10], [97, 32, 58, 32, 98, 10], [97, 58, 32, 98, 58, 32, 99, 10], [97, 58, 32, 46, 47, 98, 10], [47, 97, 58, 32, 98, 10], [97, 58, 32, 113, 32, 113, 32, 113, 32, 113, 32, 113, 32, 113, 32, 113, 32, 113, 32, 113, 10], [97, 58, 32, 98, 10, 99, 58, 32, 100, 10]]
     isP (bad.getD (m.val % 4) []) = false ∧ isP (bad.getD (m.val / 4) []) = false ∧ getL (t.getD m.val []) = ([], [], 1700)) := by
  revert m; decide +kernel
theorem putD_badout (out : ByteArray) (ins : List ByteArray) (h : isP out.data.toList = false) : putD out ins = (str [], 1700) := by
  unfold putD; rw [if_neg (by simp [h])]
theorem putD_badins (out : ByteArray) (ins : List ByteArray) (h : allP ins 8 = false) : putD out ins = (str [], 1700) := by
  unfold putD; rw [if_neg (by simp [h])]
theorem DepfileForms : cruciblelaw17_DepfileForms.Pure := by
  intro n hn
  refine Ev.rounds ?_
  refine Ev.congr (fun k => by rw [cruciblelaw17_DepfileForms.f]) (ev_bind ev_awake17 (ev_pos rfl (ev_bindc rfl ?_)))
  obtain ⟨m, hm⟩ := bits15 n
  have h15 : Go.bits .and .i64 n 15 = n % 16 := bits_low 4 (by omega) n
  have h3 : Go.bits .and .i64 n 3 = n % 4 := bits_low 2 (by omega) n
  have h34 : Go.bits .and .i64 (n / 4) 3 = (n / 4) % 4 := bits_low 2 (by omega) (n / 4)
  have em : n % 16 = (m.val : Int) := by rw [← h15, hm]
  have hmlt := m.isLt
  have e3 : Go.bits .and .i64 n 3 = ((m.val % 4 : Nat) : Int) := by rw [h3]; omega
  have e34 : Go.bits .and .i64 (n / 4) 3 = ((m.val / 4 : Nat) : Int) := by rw [h34]; omega
  obtain ⟨f1, f2, f3⟩ := forms17 m
  simp only [hm, e3, e34]
  have pick4 : ∀ j : Nat, j < 4 → rdOf ByteArray.empty [(⟨#[]⟩ : ByteArray), (⟨#[47, 97]⟩ : ByteArray), (⟨#[46, 47, 97]⟩ : ByteArray), (⟨#[65]⟩ : ByteArray)] (j : Int) = str ([[], [47, 97], [46, 47, 97], [65]].getD j []) := by
    intro j hj
    rcases (show j = 0 ∨ j = 1 ∨ j = 2 ∨ j = 3 by omega) with rfl | rfl | rfl | rfl <;> rfl
  refine ev_pos (by omega) (ev_pos (by show ((m.val % 4 : Nat) : Int) < 4; omega) ?_)
  rw [pick4 _ (by omega)]
  refine ev_bind (ev_Put _ [] (by decide)) (ev_bindc rfl (ev_pos (by omega) (ev_pos (by show ((m.val / 4 : Nat) : Int) < 4; omega) ?_)))
  rw [pick4 _ (by omega), putD_badout _ _ (by rw [str_data]; exact f1)]
  refine ev_bind (ev_Put _ _ (by simp)) (ev_bind (ev_Put _ _ (by decide)) (ev_bindc rfl (ev_pos (by omega) (ev_pos (by show (m.val : Int) < 16; omega) ?_))))
  rw [putD_badins _ [(⟨#[98]⟩ : ByteArray), _] (by simp only [allP, List.all_cons, str_data, f2]; simp), putD_badins _ _ (by decide +kernel)]
  have pick16 : rdOf ByteArray.empty [(⟨#[]⟩ : ByteArray), (⟨#[10]⟩ : ByteArray), (⟨#[97, 10]⟩ : ByteArray), (⟨#[97, 58]⟩ : ByteArray), (⟨#[97, 58, 32, 10]⟩ : ByteArray), (⟨#[97, 58, 98, 10]⟩ : ByteArray), (⟨#[97, 58, 32, 32, 98, 10]⟩ : ByteArray), (⟨#[97, 58, 32, 98, 32, 10]⟩ : ByteArray), (⟨#[97, 58, 32, 98, 10, 10]⟩ : ByteArray), (⟨#[58, 32, 98, 10]⟩ : ByteArray), (⟨#[97, 32, 58, 32, 98, 10]⟩ : ByteArray), (⟨#[97, 58, 32, 98, 58, 32, 99, 10]⟩ : ByteArray), (⟨#[97, 58, 32, 46, 47, 98, 10]⟩ : ByteArray), (⟨#[47, 97, 58, 32, 98, 10]⟩ : ByteArray), (⟨#[97, 58, 32, 113, 32, 113, 32, 113, 32, 113, 32, 113, 32, 113, 32, 113, 32, 113, 32, 113, 10]⟩ : ByteArray), (⟨#[97, 58, 32, 98, 10, 99, 58, 32, 100, 10]⟩ : ByteArray)] (m.val : Int) = str (([[], [10], [97, 10], [97, 58], [97, 58, 32, 10], [97, 58, 98, 10], [97, 58, 32, 32, 98, 10], [97, 58, 32, 98, 32, 10], [97, 58, 32, 98, 10, 10], [58, 32, 98, 10], [97, 32, 58, 32, 98, 10], [97, 58, 32, 98, 58, 32, 99, 10], [97, 58, 32, 46, 47, 98, 10], [47, 97, 58, 32, 98, 10], [97, 58, 32, 113, 32, 113, 32, 113, 32, 113, 32, 113, 32, 113, 32, 113, 32, 113, 32, 113, 10], [97, 58, 32, 98, 10, 99, 58, 32, 100, 10]] : List (List UInt8)).getD m.val []) := by
    clear f1 f2 f3 e3 e34 em hm hmlt
    revert m; decide +kernel
  rw [pick16]
  refine ev_bind (ev_Get _ ?_) ?_
  · rw [str_size]
    clear f1 f2 f3 e3 e34 em hm hmlt pick16
    revert m; decide +kernel
  · rw [str_data, getD_eval, f3]
    simp only [str_toList]
    exact ev_const rfl
/-! ### The reference's line -/
theorem ev_PutDepfile_loop (out : ByteArray) (ins : List ByteArray) (hi : ins.length ≤ 100) (hL : (line out.data.toList (datas ins)).length ≤ 100000) : ∀ rest pre : List ByteArray, ins = pre ++ rest →
    Ev (fun k => crucibleref12_PutDepfile.l0 k ins (str (joinS [32] ((out.data.toList ++ [58]) :: datas pre))) (pre.length : Int)) (str (line out.data.toList (datas ins)), 0) := by
  have hj0 : ∀ pre rest : List ByteArray, ins = pre ++ rest → (joinS [32] ((out.data.toList ++ [58]) :: datas pre)).length ≤ 100000 := by
    intro pre rest h
    have h1 := joinS_le [32] ((out.data.toList ++ [58]) :: datas pre) (datas rest)
    have e : ((out.data.toList ++ [58]) :: datas pre) ++ datas rest = (out.data.toList ++ [58]) :: datas ins := by rw [h]; simp [datas]
    rw [e] at h1
    unfold line at hL
    rw [List.length_append] at hL
    exact Nat.le_trans h1 (Nat.le_trans (Nat.le_add_right _ _) hL)
  intro rest
  induction rest with
  | nil =>
    intro pre h
    have h1 := hj0 pre [] h
    rw [List.append_nil] at h
    subst h
    refine Ev.step (fun k => by rw [crucibleref12_PutDepfile.l0]) (ev_neg (by simp) (ev_pos ?_ (ev_const ?_)))
    · rw [str_size]; exact Nat.le_trans (Nat.add_le_add_right h1 1) (by decide)
    · show some (str _ ++ str [10], (0 : Int)) = _
      rw [str_append]; rfl
  | cons x rest ih =>
    intro pre h
    have h1 := hj0 pre (x :: rest) h
    have h2 := hj0 (pre ++ [x]) rest (by simp [h])
    have hl : ins.length = pre.length + (rest.length + 1) := by rw [h]; simp
    have hr : rdOf ByteArray.empty ins (pre.length : Int) = x := by rw [h]; exact rdOf_pre _ _ _ _
    have hw : wrap64 ((pre.length : Int) + 1) = ((pre ++ [x]).length : Int) := wrap_len pre x (by omega)
    have e : (str (joinS [32] ((out.data.toList ++ [58]) :: datas pre)) ++ (⟨#[32]⟩ : ByteArray)) ++ x = str (joinS [32] ((out.data.toList ++ [58]) :: datas (pre ++ [x]))) := by
      have e1 : (out.data.toList ++ [58]) :: datas (pre ++ [x]) = ((out.data.toList ++ [58]) :: datas pre) ++ [x.data.toList] := by simp [datas]
      rw [e1, joinS_snoc [32] _ x.data.toList (by simp), str_eq x _ rfl, show (⟨#[32]⟩ : ByteArray) = str [32] from rfl, str_append, str_append, str_data]
    have hz : (str (joinS [32] ((out.data.toList ++ [58]) :: datas pre)) ++ (⟨#[32]⟩ : ByteArray)).size + x.size ≤ 9223372036854775807 := by
      rw [← append_size, e, str_size]; exact Nat.le_trans h2 (by decide)
    have hz1 : (str (joinS [32] ((out.data.toList ++ [58]) :: datas pre))).size + 1 ≤ 9223372036854775807 := by
      rw [str_size]; exact Nat.le_trans (Nat.add_le_add_right h1 1) (by decide)
    refine Ev.step (fun k => by rw [crucibleref12_PutDepfile.l0]) ?_
    simp only [hr, hw]
    refine ev_pos (by omega) (ev_pos hz1 (ev_pos (by omega) (ev_pos hz ?_)))
    rw [e]
    exact ih (pre ++ [x]) (by simp [h])
theorem ev_PutDepfile (out : ByteArray) (ins : List ByteArray) (ho : out.size ≤ 4611686018427387904) (hi : ins.length ≤ 4611686018427387904) (hz : ∀ x ∈ ins, x.size ≤ 4611686018427387904) : Ev (fun k => crucibleref12_PutDepfile.f k out ins) (putD out ins) := by
  refine Ev.congr (fun k => by rw [crucibleref12_PutDepfile.f]) (ev_bind (ev_PathMay out ho) ?_)
  unfold putD
  cases hp : isP out.data.toList with
  | false =>
    refine ev_neg (by simp) (Ev.step (fun k => by rw [crucibleref12_PutDepfile.j0]) (ev_pos rfl ?_))
    rw [if_neg (by simp)]
    exact Ev.now _
  | true =>
    refine ev_pos rfl (ev_bind (ev_PathsMay ins hi hz) ?_)
    cases ha : allP ins 8 with
    | false =>
      refine Ev.step (fun k => by rw [crucibleref12_PutDepfile.j0]) ?_
      rw [if_neg (by simp)]
      exact ev_pos (by simp) (Ev.now _)
    | true =>
      have hb := bulk_paths ha
      have hl := (allP_all ha).2
      have hos := isP_size hp
      rw [size_data] at hos
      have hj := joinS_bulk' [32] (out.data.toList ++ [58]) (datas ins) rfl
      rw [bulk_cons, List.length_append, size_data, List.length_singleton] at hj
      have hL : (line out.data.toList (datas ins)).length ≤ 100000 := by
        unfold line; rw [List.length_append, List.length_singleton]; omega
      refine Ev.step (fun k => by rw [crucibleref12_PutDepfile.j0]) (ev_neg (by simp) (ev_pos (by omega) ?_))
      rw [if_pos ⟨rfl, rfl⟩]
      have := ev_PutDepfile_loop out ins (by omega) hL ins [] rfl
      have e : out ++ (⟨#[58]⟩ : ByteArray) = str (joinS [32] ((out.data.toList ++ [58]) :: datas [])) := by
        rw [str_eq out _ rfl, show (⟨#[58]⟩ : ByteArray) = str [58] from rfl, str_append, str_data]; simp [joinS, datas]
      rw [e]
      exact this

theorem putD_cases (out : ByteArray) (ins : List ByteArray) : (isP out.data.toList = true ∧ allP ins 8 = true ∧ putD out ins = (str (line out.data.toList (datas ins)), 0)) ∨ putD out ins = (str [], 1700) := by
  unfold putD
  split
  · rename_i h; exact .inl ⟨h.1, h.2, rfl⟩
  · exact .inr rfl
theorem DepfileUnlike (a : ByteArray) (us : List ByteArray) (b : ByteArray) (vs : List ByteArray)
    (hb : (a.size + 1) + (((us.map fun s => s.size + 1).sum + 1) + ((b.size + 1) + ((vs.map fun s => s.size + 1).sum + 1))) ≤ 1048576)
    (_ : a.size ≤ 140737488351232) (_ : ∀ x ∈ us, x.size ≤ maxLen) (_ : b.size ≤ 140737488351232) (_ : ∀ x ∈ vs, x.size ≤ maxLen) : ∃ k, cruciblelaw17_DepfileUnlike.f k a us b vs = some true := by
  have hla := sum_len (fun s : ByteArray => s.size) us
  have hlb := sum_len (fun s : ByteArray => s.size) vs
  have hma : ∀ x ∈ us, x.size ≤ 4611686018427387904 := fun x hx => by
    have := sum_mem (fun s : ByteArray => s.size + 1) hx
    omega
  refine Ev.rounds ?_
  refine Ev.congr (fun k => by rw [cruciblelaw17_DepfileUnlike.f]) (ev_bind ev_awake17 (ev_pos rfl (ev_bind (ev_Put a us (by omega)) (ev_bind (ev_Put b vs (by omega)) ?_))))
  rcases putD_cases a us with ⟨h1, h2, e⟩ | e
  · rcases putD_cases b vs with ⟨h3, h4, e'⟩ | e'
    · rw [e, e']
      refine ev_bindc rfl (ev_pos rfl (ev_bindc rfl (Ev.step (fun k => by rw [cruciblelaw17_DepfileUnlike.j0]) (ev_neg (by simp) (ev_bind (ev_PutDepfile a us (by omega) (by omega) hma) ?_)))))
      rw [e]
      refine ev_pos rfl ?_
      simp only [toList_data, str_data]
      have inj : line a.data.toList (datas us) = line b.data.toList (datas vs) → a = b ∧ us = vs := by
        intro h
        have g1 := get_line a us h1 h2
        have g2 := get_line b vs h3 h4
        rw [h, g2] at g1
        injection g1 with x1 x2
        injection x2 with x3 _
        exact ⟨x1.symm, x3.symm⟩
      by_cases hab : a = b
      · subst hab
        refine ev_pos rfl (ev_bind (ev_Same us vs (by omega)) (ev_const ?_))
        by_cases has : us = vs
        · subst has; simp
        · have : ¬ (line a.data.toList (datas us) = line a.data.toList (datas vs)) := fun h => has (inj h).2
          simp [has, this]
      · refine ev_neg (fun h => hab (data_inj h)) (ev_const ?_)
        have : ¬ (line a.data.toList (datas us) = line b.data.toList (datas vs)) := fun h => hab (inj h).1
        simp [this]
    · rw [e, e']
      refine ev_bindc rfl (ev_pos rfl (ev_bindc rfl (Ev.step (fun k => by rw [cruciblelaw17_DepfileUnlike.j0]) (ev_pos (by decide) ?_))))
      simp only [str_toList]
      exact ev_const rfl
  · rw [e]
    refine ev_bindc rfl (ev_neg (by decide) (Ev.step (fun k => by rw [cruciblelaw17_DepfileUnlike.j0]) (ev_pos rfl ?_)))
    rcases putD_cases b vs with ⟨h3, h4, e'⟩ | e'
    · rw [e']
      simp only [str_toList]
      exact ev_const rfl
    · rw [e']
      simp only [str_toList]
      exact ev_const rfl

/-! ### A depfile by hand -/
def four : List (List UInt8) := [[97, 46, 104], [98], [100, 47, 120, 46, 104], [122, 45, 49]]
theorem four_paths (l : List UInt8) (h : l ∈ four) : isP l = true ∧ l.length ≤ 5 := by
  have : ∀ j : Fin 4, isP (four.getD j.val []) = true ∧ (four.getD j.val []).length ≤ 5 := by decide +kernel
  obtain ⟨j, hj, e⟩ := List.getElem_of_mem h
  have := this ⟨j, hj⟩
  rwa [show four.getD j [] = l by rw [List.getD_eq_getElem?_getD, List.getElem?_eq_getElem hj, e]; rfl] at this
theorem ev_By (zs : List Int) : ∀ (d i : Nat) (ins : List ByteArray), (i + d = 8 ∨ i + d = zs.length) → i + d ≤ 8 → i + d ≤ zs.length → ins.length = i → (∀ x ∈ ins, x.data.toList ∈ four) →
    Ev (fun k => cruciblelaw17_DepfileBy.l0 k zs [(⟨#[97, 46, 104]⟩ : ByteArray), (⟨#[98]⟩ : ByteArray), (⟨#[100, 47, 120, 46, 104]⟩ : ByteArray), (⟨#[122, 45, 49]⟩ : ByteArray)] (str (joinS [32] ([111, 46, 111, 58] :: datas ins))) ins (i : Int)) true := by
  have small : ∀ ins : List ByteArray, ins.length ≤ 8 → (∀ x ∈ ins, x.data.toList ∈ four) → allP ins 8 = true ∧ (joinS [32] ([111, 46, 111, 58] :: datas ins)).length ≤ 1000 := by
    intro ins hl h
    have ha : allP ins 8 = true := by
      simp only [allP, Bool.and_eq_true, decide_eq_true_eq, List.all_eq_true]
      exact ⟨fun x hx => (four_paths _ (h x hx)).1, hl⟩
    have hj := joinS_bulk' [32] [111, 46, 111, 58] (datas ins) rfl
    rw [bulk_cons] at hj
    have hbk := bulk_paths ha
    have h4 : ([111, 46, 111, 58] : List UInt8).length = 4 := rfl
    exact ⟨ha, by omega⟩
  have fin : ∀ ins : List ByteArray, ins.length ≤ 8 → (∀ x ∈ ins, x.data.toList ∈ four) → Ev (fun k => cruciblelaw17_DepfileBy.j1 k (str (joinS [32] ([111, 46, 111, 58] :: datas ins))) ins) true := by
    intro ins hl h
    obtain ⟨ha, hj⟩ := small ins hl h
    have ho : isP ([111, 46, 111] : List UInt8) = true := by decide +kernel
    have hp : putD (str [111, 46, 111]) ins = (str (joinS [32] ([111, 46, 111, 58] :: datas ins) ++ [10]), 0) := by
      unfold putD
      rw [str_data, if_pos ⟨ho, ha⟩]; rfl
    have hg := get_line (str [111, 46, 111]) ins (by rw [str_data]; exact ho) ha
    have el : line (str [111, 46, 111]).data.toList (datas ins) = joinS [32] ([111, 46, 111, 58] :: datas ins) ++ [10] := by rw [str_data]; rfl
    rw [el] at hg
    have e1 : str (joinS [32] ([111, 46, 111, 58] :: datas ins)) ++ (⟨#[10]⟩ : ByteArray) = str (joinS [32] ([111, 46, 111, 58] :: datas ins) ++ [10]) := by
      rw [show (⟨#[10]⟩ : ByteArray) = str [10] from rfl, str_append]
    have ep := ev_Put (str [111, 46, 111]) ins (by omega)
    rw [hp] at ep
    refine Ev.step (fun k => by rw [cruciblelaw17_DepfileBy.j1]) ?_
    refine ev_bind ep (ev_pos ?_ ?_)
    · rw [str_size]; exact Nat.le_trans (Nat.add_le_add_right hj 1) (by decide)
    · rw [e1]
      have eg := ev_Get (str (joinS [32] ([111, 46, 111, 58] :: datas ins) ++ [10])) (by rw [str_size, List.length_append]; exact Nat.lt_of_le_of_lt (Nat.add_le_add_right hj 1) (by decide))
      rw [str_data, hg] at eg
      refine ev_bind eg (ev_pos rfl (ev_bindc rfl (ev_pos rfl ?_)))
      simp only [str_toList]
      refine ev_pos trivial (ev_bind (ev_Same ins ins (by omega)) (ev_pos (by simp) (ev_bindc rfl (Ev.now _))))
  intro d
  induction d with
  | zero =>
    intro i ins h h8 hz hl h4
    refine Ev.step (fun k => by rw [cruciblelaw17_DepfileBy.l0]) ?_
    have f := fin ins (by omega) h4
    refine ev_split (fun _ => ev_split (fun _ => ?_) (fun _ => f)) (fun _ => f)
    omega
  | succ d ih =>
    intro i ins h h8 hz hl h4
    refine Ev.step (fun k => by rw [cruciblelaw17_DepfileBy.l0]) (ev_pos (by omega) (ev_pos (by omega) (ev_pos (by omega) ?_)))
    obtain ⟨j, hj, e⟩ := umod (rd zs i) 4 (by omega) (by omega)
    have e : wrap64 (Int.tmod (IntKind.u64.wrap (rd zs i)) 4) = j := e
    rw [e]
    obtain ⟨p, hp, hr⟩ : ∃ p ∈ four, rdOf ByteArray.empty [(⟨#[97, 46, 104]⟩ : ByteArray), (⟨#[98]⟩ : ByteArray), (⟨#[100, 47, 120, 46, 104]⟩ : ByteArray), (⟨#[122, 45, 49]⟩ : ByteArray)] (j : Int) = str p := by
      rcases (show j = 0 ∨ j = 1 ∨ j = 2 ∨ j = 3 by omega) with rfl | rfl | rfl | rfl
      · exact ⟨[97, 46, 104], by decide, rfl⟩
      · exact ⟨[98], by decide, rfl⟩
      · exact ⟨[100, 47, 120, 46, 104], by decide, rfl⟩
      · exact ⟨[122, 45, 49], by decide, rfl⟩
    rw [hr]
    have hins : ins.length < 8796093022208 := by omega
    have hjj : (j : Int) < 4 := by omega
    have hj0 : (0 : Int) ≤ j := by omega
    have hil : i + 1 + d = 8 ∨ i + 1 + d = zs.length := by omega
    have hi8 : i + 1 + d ≤ 8 := by omega
    have hiz : i + 1 + d ≤ zs.length := by omega
    have hins1 : ins.length + 1 ≤ 8 := by omega
    have hins2 : ins.length ≤ 8 := by omega
    have hin3 : i ≤ 4611686018427387904 := by omega
    have h42 : ∀ x ∈ ins ++ [str p], x.data.toList ∈ four := fun x hx => by
      rcases List.mem_append.1 hx with hx | hx
      · exact h4 x hx
      · rw [List.mem_singleton.1 hx, str_data]; exact hp
    obtain ⟨_, hj1⟩ := small ins hins2 h4
    obtain ⟨_, hj2⟩ := small (ins ++ [str p]) (by rw [List.length_append, List.length_singleton]; exact hins1) h42
    have e2 : (str (joinS [32] ([111, 46, 111, 58] :: datas ins)) ++ (⟨#[32]⟩ : ByteArray)) ++ str p = str (joinS [32] ([111, 46, 111, 58] :: datas (ins ++ [str p]))) := by
      have e1 : [111, 46, 111, 58] :: datas (ins ++ [str p]) = ([111, 46, 111, 58] :: datas ins) ++ [p] := by simp [datas, str_data]
      rw [e1, joinS_snoc [32] _ p (by simp), show (⟨#[32]⟩ : ByteArray) = str [32] from rfl, str_append, str_append]
    have hz1 : (str (joinS [32] ([111, 46, 111, 58] :: datas ins))).size + 1 ≤ 9223372036854775807 := by rw [str_size]; exact Nat.le_trans (Nat.add_le_add_right hj1 1) (by decide)
    have hz2 : (str (joinS [32] ([111, 46, 111, 58] :: datas ins)) ++ (⟨#[32]⟩ : ByteArray)).size + (str p).size ≤ 9223372036854775807 := by rw [← append_size, e2, str_size]; exact Nat.le_trans hj2 (by decide)
    have hw : wrap64 ((i : Int) + 1) = ((i + 1 : Nat) : Int) := wrap_nat hin3
    refine ev_pos hj0 (ev_pos hjj (ev_pos hz1 (ev_pos hz2 (ev_pos hins ?_))))
    rw [e2, hw]
    exact ih (i + 1) (ins ++ [str p]) hil hi8 hiz (by simp [hl]) h42
theorem DepfileBy (zs : List Int) (_ : ∀ x ∈ zs, (Lit.int .i64 x).wf = true) : ∃ k, cruciblelaw17_DepfileBy.f k zs = some true := by
  refine Ev.rounds ?_
  refine Ev.congr (fun k => by rw [cruciblelaw17_DepfileBy.f]) (ev_bind ev_awake17 (ev_pos rfl ?_))
  have := ev_By zs (min 8 zs.length) 0 [] (by omega) (by omega) (by omega) rfl (fun x hx => by cases hx)
  exact this
end Go.Proofs.YtncbloieejeifaaDoor.Spec
