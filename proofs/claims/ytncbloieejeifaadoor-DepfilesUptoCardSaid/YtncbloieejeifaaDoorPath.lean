/- Chapter 2 without the program: what the printed functions on names and paths answer, in plain lists. -/
import Derived.Test.YtncbloieejeifaaDoorPlain
import Derived.Test.YtncbloieejeifaaDoorP13
import Derived.Test.YtncbloieejeifaaDoorP14
import Derived.Test.YtncbloieejeifaaDoorP10
import Derived.Test.YtncbloieejeifaaDoorP4
import Derived.Test.YtncbloieejeifaaDoorP3
import Derived.Test.YtncbloieejeifaaDoorP1
import Derived.Test.YtncbloieejeifaaDoorP12
namespace Go.Proofs.YtncbloieejeifaaDoor.Spec
open Go.RowKit Go.Proofs.YtncbloieejeifaaDoorW.PrintWords Go.Proofs.YtncbloieejeifaaDoor.P

theorem ev_split {α : Type} {g f : Nat → Option α} {r : α} {c : Prop} [Decidable c] (h1 : c → Ev g r) (h2 : ¬ c → Ev f r) : Ev (fun k => if c then g k else f k) r := by
  by_cases h : c
  · exact ev_pos h (h1 h)
  · exact ev_neg h (h2 h)

/-! ### Names -/
theorem small_is (b : Nat) (h : b < 256) : crucibleref1_small.f (b : Int) = some ((decide (97 ≤ b) && decide (b ≤ 122)) || (decide (48 ≤ b) && decide (b ≤ 57))) := by
  have : ∀ b : Fin 256, crucibleref1_small.f (b.val : Int) = some ((decide (97 ≤ b.val) && decide (b.val ≤ 122)) || (decide (48 ≤ b.val) && decide (b.val ≤ 57))) := by decide +kernel
  exact this ⟨b, h⟩
theorem ev_NameMay_loop (s : ByteArray) (hs : s.size ≤ 4611686018427387904) : ∀ rest pre : List UInt8, s.data.toList = pre ++ rest → (pre.all fun b => nameByte b.toNat) = true →
    Ev (fun k => crucibleref1_NameMay.l0 k s (pre.length : Int)) (nameMay s.data.toList) := by
  intro rest
  induction rest with
  | nil =>
    intro pre h ha
    have hl : s.size = pre.length := by rw [size_le h]; simp
    refine Ev.step (fun k => by rw [crucibleref1_NameMay.l0]) ?_
    refine ev_neg (by omega) ?_
    have e : nameMay s.data.toList = if ((s.size : Int) ≥ 1) then decide ((s.size : Int) ≤ 16) else false := by
      rw [h]
      simp only [List.append_nil, nameMay, ha, Bool.true_and, hl]
      by_cases h1 : (pre.length : Int) ≥ 1
      · rw [if_pos h1]
        have : 1 ≤ pre.length := by omega
        simp only [this, decide_true, Bool.true_and, decide_eq_decide]
        omega
      · rw [if_neg h1]
        have : ¬ 1 ≤ pre.length := by omega
        simp [this]
    rw [e]
    exact ev_ite (fun _ => Ev.now _) (fun _ => Ev.now _)
  | cons b rest ih =>
    intro pre h ha
    have hlt := size_pre s pre b rest h
    have hb := bt_pre s pre b rest h
    have hw : wrap64 ((pre.length : Int) + 1) = ((pre ++ [b]).length : Int) := wrap_len pre b (by omega)
    refine Ev.step (fun k => by rw [crucibleref1_NameMay.l0]) ?_
    simp only [hb, hw]
    refine ev_pos (by omega) (ev_pos (by omega) (ev_bindc (small_is b.toNat b.toNat_lt) ?_))
    cases hn : nameByte b.toNat with
    | true =>
      have ih' := ih (pre ++ [b]) (by simp [h]) (by simp [ha, hn])
      refine ev_split (fun _ => ih') (fun h1 => ev_split (fun _ => ih') (fun h2 => ev_split (fun _ => ih') (fun h3 => ev_split (fun _ => ih') (fun h4 => ev_split (fun _ => ih') (fun h5 => ?_)))))
      exfalso
      simp [nameByte] at hn h1
      omega
    | false =>
      have hf : nameMay s.data.toList = false := by simp [nameMay, h, hn]
      rw [hf]
      simp [nameByte] at hn
      refine ev_split (fun h1 => ?_) (fun h1 => ev_split (fun h2 => ?_) (fun h2 => ev_split (fun h3 => ?_) (fun h3 => ev_split (fun h4 => ?_) (fun h4 => ev_split (fun h5 => ?_) (fun h5 => Ev.now _)))))
      · simp at h1; omega
      all_goals omega
theorem ev_NameMay (s : ByteArray) (hs : s.size ≤ 4611686018427387904) : Ev (fun k => crucibleref1_NameMay.f k s) (nameMay s.data.toList) :=
  Ev.congr (fun k => by rw [crucibleref1_NameMay.f]; rfl) (ev_NameMay_loop s hs s.data.toList [] rfl rfl)

/-! ### Texts joined -/
def joinS (sg : List UInt8) : List (List UInt8) → List UInt8
  | [] => []
  | x :: xs => x ++ (xs.map (sg ++ ·)).flatten
theorem joinS_lib (sg : List UInt8) (xs : List (List UInt8)) : Lib.join xs sg = joinS sg xs := by
  cases xs with
  | nil => rfl
  | cons x xs => rw [Lib.join_cons]; rfl
theorem joinS_snoc (sg : List UInt8) (pre : List (List UInt8)) (x : List UInt8) (h : pre ≠ []) : joinS sg (pre ++ [x]) = joinS sg pre ++ sg ++ x := by
  cases pre with
  | nil => exact absurd rfl h
  | cons y ys => simp [joinS]
theorem joinS_le (sg : List UInt8) (pre rest : List (List UInt8)) : (joinS sg pre).length ≤ (joinS sg (pre ++ rest)).length := by
  cases pre with
  | nil => simp [joinS]
  | cons y ys => simp [joinS]
abbrev datas (xs : List ByteArray) : List (List UInt8) := xs.map (·.data.toList)

theorem ev_Join_loop (sg : ByteArray) (xs : List ByteArray) (hx : xs.length ≤ 4611686018427387904) (ht : (joinS sg.data.toList (datas xs)).length ≤ 4611686018427387904) : ∀ rest pre : List ByteArray, xs = pre ++ rest →
    Ev (fun k => crucibleref1_Join.l0 k xs sg (str (joinS sg.data.toList (datas pre))) (pre.length : Int)) (str (joinS sg.data.toList (datas xs))) := by
  intro rest
  induction rest with
  | nil =>
    intro pre h
    refine Ev.step (fun k => by rw [crucibleref1_Join.l0]) ?_
    rw [List.append_nil] at h
    subst h
    exact ev_neg (by omega) (Ev.now _)
  | cons x rest ih =>
    intro pre h
    have hl : xs.length = pre.length + (rest.length + 1) := by rw [h]; simp
    have hr : rdOf ByteArray.empty xs (pre.length : Int) = x := by rw [h]; exact rdOf_pre _ _ _ _
    have hw : wrap64 ((pre.length : Int) + 1) = ((pre ++ [x]).length : Int) := wrap_len pre x (by omega)
    have ih' := ih (pre ++ [x]) (by simp [h])
    have hle : (joinS sg.data.toList (datas (pre ++ [x]))).length ≤ 4611686018427387904 := by
      have := joinS_le sg.data.toList (datas (pre ++ [x])) (datas rest)
      have e : datas (pre ++ [x]) ++ datas rest = datas xs := by simp [datas, h]
      rw [e] at this
      omega
    refine Ev.step (fun k => by rw [crucibleref1_Join.l0]) ?_
    simp only [hr, hw]
    refine ev_pos (by omega) ?_
    by_cases hp : pre = []
    · subst hp
      have e : str (joinS sg.data.toList (datas [])) ++ x = str (joinS sg.data.toList (datas ([] ++ [x]))) := by
        rw [str_eq x _ rfl, str_append]; simp [joinS, datas, str_data]
      have hz : (str (joinS sg.data.toList (datas []))).size + x.size ≤ 9223372036854775807 := by
        rw [← append_size, e, str_size]; omega
      refine ev_neg (by simp) (ev_pos (by simp) (ev_pos hz ?_))
      rw [e]
      exact ih'
    · have hpl : 0 < pre.length := List.length_pos_iff.2 hp
      have e0 := joinS_snoc sg.data.toList (datas pre) x.data.toList (by simpa [datas] using hp)
      have e : (str (joinS sg.data.toList (datas pre)) ++ sg) ++ x = str (joinS sg.data.toList (datas (pre ++ [x]))) := by
        have e1 : datas (pre ++ [x]) = datas pre ++ [x.data.toList] := by simp [datas]
        rw [e1, e0, str_eq x _ rfl, str_eq sg _ rfl, str_append, str_append]
        simp [str_data]
      have hz : (str (joinS sg.data.toList (datas pre)) ++ sg).size + x.size ≤ 9223372036854775807 := by
        rw [← append_size, e, str_size]; omega
      have hz1 : (str (joinS sg.data.toList (datas pre))).size + sg.size ≤ 9223372036854775807 := by
        rw [append_size] at hz; omega
      refine ev_pos (by omega) (ev_pos hz1 (ev_pos (by omega) (ev_pos hz ?_)))
      rw [e]
      exact ih'
theorem ev_Join (xs : List ByteArray) (sg : ByteArray) (hx : xs.length ≤ 4611686018427387904) (ht : (joinS sg.data.toList (datas xs)).length ≤ 4611686018427387904) :
    Ev (fun k => crucibleref1_Join.f k xs sg) (str (joinS sg.data.toList (datas xs))) :=
  Ev.congr (fun k => by rw [crucibleref1_Join.f]; rfl) (ev_Join_loop sg xs hx ht xs [] rfl)
theorem Join_is (xs : List ByteArray) (sg : ByteArray) (hx : xs.length ≤ 140737488355328) (ht : (joinS sg.data.toList (datas xs)).length ≤ 140737488355328) :
    strings_Join.f xs sg = some (str (joinS sg.data.toList (datas xs))) := by
  unfold strings_Join.f
  rw [joinS_lib]
  exact if_pos ⟨ht, hx⟩

/-! ### Texts cut -/
theorem split_hit (c : UInt8) : ∀ (cur rest : List UInt8), c ∉ cur → split c (cur ++ c :: rest) = cur :: split c rest
  | [], rest, _ => by simp [split]
  | b :: cur, rest, h => by
    have hb : b ≠ c := fun e => h (by rw [e]; exact List.mem_cons_self)
    rw [List.cons_append, split, if_neg hb, split_hit c cur rest (fun hm => h (List.mem_cons_of_mem _ hm))]
    rfl
theorem ev_split_loop (s : ByteArray) (c : UInt8) (hs : s.size ≤ 4398046511104) : ∀ (rest cur : List UInt8) (done : Nat) (acc : List ByteArray), s.data.toList.drop done = cur ++ rest → done ≤ s.size → acc.length ≤ done → c ∉ cur →
    Ev (fun k => crucibleref1_split.l0 k s (c.toNat : Int) acc (done : Int) ((done + cur.length : Nat) : Int)) (acc ++ (split c (cur ++ rest)).map str) := by
  intro rest
  induction rest with
  | nil =>
    intro cur done acc h hd ha hc
    rw [List.append_nil] at h ⊢
    have hl : s.size = done + cur.length := by
      have := congrArg List.length h
      rw [List.length_drop, size_data] at this
      omega
    have he : s.extract done (done + cur.length) = str cur := by
      apply str_eq
      rw [extract_data, ← hl, ← size_data, List.take_length, h]
    refine Ev.step (fun k => by rw [crucibleref1_split.l0]) ?_
    refine ev_pos (by omega) (ev_pos (by omega) (ev_pos (by omega) (ev_pos (by omega) (ev_pos (by omega) ?_))))
    simp only [Int.toNat_natCast, he, wrap_nat (n := done + cur.length) (by omega)]
    refine Ev.step (fun k => by rw [crucibleref1_split.l0]) ?_
    refine ev_neg (by omega) ?_
    rw [split_none c cur hc]
    exact Ev.now _
  | cons b rest ih =>
    intro cur done acc h hd ha hc
    have hl : s.size = done + (cur.length + (rest.length + 1)) := by
      have := congrArg List.length h
      rw [List.length_drop, size_data, List.length_append, List.length_cons] at this
      omega
    have hsplit : s.data.toList = (s.data.toList.take done ++ cur) ++ b :: rest := by
      rw [List.append_assoc, ← h, List.take_append_drop]
    have hpre : (s.data.toList.take done ++ cur).length = done + cur.length := by
      rw [List.length_append, List.length_take, size_data, Nat.min_eq_left hd]
    have hb : bt s ((done + cur.length : Nat) : Int) = b.toNat := by
      rw [← hpre]; exact bt_pre s _ b rest hsplit
    have hdrop : s.data.toList.drop (done + cur.length + 1) = rest := by
      have : s.data.toList.drop (done + cur.length + 1) = ((s.data.toList.take done ++ cur ++ [b]) ++ rest).drop ((s.data.toList.take done ++ cur ++ [b]).length) := by
        rw [List.length_append, hpre]
        congr 1
        rw [List.append_assoc, List.singleton_append]; exact hsplit
      rw [this, List.drop_left]
    refine Ev.step (fun k => by rw [crucibleref1_split.l0]) ?_
    simp only [hb, wrap_nat (n := done + cur.length) (by omega), Int.toNat_natCast]
    refine ev_pos (by omega) (ev_neg (by omega) (ev_pos (by omega) (ev_pos (by omega) ?_)))
    by_cases e : b = c
    · subst e
      have he : s.extract done (done + cur.length) = str cur := by
        apply str_eq
        rw [extract_data]
        have : s.data.toList.take (done + cur.length) = s.data.toList.take done ++ cur := by
          conv => lhs; rw [hsplit]
          rw [← hpre, List.take_left]
        have hld : (s.data.toList.take done).length = done := by rw [List.length_take, size_data, Nat.min_eq_left hd]
        rw [this]
        exact List.drop_left' hld
      refine ev_pos rfl (ev_pos (by omega) (ev_pos (by omega) (ev_pos (by omega) ?_)))
      rw [he, split_hit b cur rest hc]
      have ih' := ih [] (done + cur.length + 1) (acc ++ [str cur]) (by rw [hdrop]; rfl) (by omega) (by simp; omega) (by simp)
      simpa using ih'
    · have hne : ¬ ((b.toNat : Int) = (c.toNat : Int)) := fun h' => e (UInt8.toNat_inj.1 (by omega))
      refine ev_neg hne ?_
      have ih' := ih (cur ++ [b]) done acc (by simp [h]) hd ha (by simp [hc, Ne.symm e])
      simpa [Nat.add_assoc] using ih'
theorem ev_split1 (s : ByteArray) (c : UInt8) (hs : s.size ≤ 4398046511104) : Ev (fun k => crucibleref1_split.f k s (c.toNat : Int)) ((split c s.data.toList).map str) := by
  have := ev_split_loop s c hs s.data.toList [] 0 [] rfl (Nat.zero_le _) (Nat.zero_le _) (by simp)
  exact Ev.congr (fun k => by rw [crucibleref1_split.f]) (by simpa using this)
theorem Split_is (s : ByteArray) (c : UInt8) (hs : s.size < 4294967281) : strings_Split.f s (str [c]) = some ((split c s.data.toList).map str) := by
  unfold strings_Split.f
  rw [str_data]
  exact if_pos hs

/-! ### Paths -/
def cleanGo : List (List UInt8) → List (List UInt8) → Option (List (List UInt8))
  | kept, [] => if kept = [] then none else some kept
  | kept, p :: ps => if p = [] ∨ p = [46] then cleanGo kept ps else if p = [46, 46] then (if kept = [] then none else cleanGo kept.dropLast ps) else cleanGo (kept ++ [p]) ps
/-- a file's name as a path -/
def clean (l : List UInt8) : Option (List UInt8) := if nameMay l = true ∧ l.head? ≠ some 47 then (cleanGo [] (split 47 l)).map (joinS [47]) else none
def cleanR (o : Option (List UInt8)) : ByteArray × Int := match o with
  | some l => (str l, 0)
  | none => (str [], 200)
/-- letters and pieces -/
def bulk (xs : List (List UInt8)) : Nat := (xs.map fun x => x.length + 1).sum
theorem bulk_append (xs ys : List (List UInt8)) : bulk (xs ++ ys) = bulk xs + bulk ys := by simp [bulk]
theorem bulk_cons (x : List UInt8) (ys : List (List UInt8)) : bulk (x :: ys) = x.length + 1 + bulk ys := by simp [bulk]
theorem bulk_split (c : UInt8) : ∀ l : List UInt8, bulk (split c l) = l.length + 1
  | [] => rfl
  | b :: l => by
    have ih := bulk_split c l
    simp only [split]
    cases e : split c l with
    | nil => exact absurd e (split_ne c l)
    | cons x r =>
      rw [e, bulk_cons] at ih
      split
      · rw [bulk_cons, bulk_cons]; simp; omega
      · rw [bulk_cons]; simp; omega
theorem bulk_len (xs : List (List UInt8)) : xs.length ≤ bulk xs := by
  induction xs with
  | nil => simp [bulk]
  | cons x xs ih => rw [bulk_cons]; simp; omega
theorem bulk_dropLast (xs : List (List UInt8)) : bulk xs.dropLast ≤ bulk xs := by
  rcases List.eq_nil_or_concat xs with rfl | ⟨ys, y, rfl⟩
  · exact Nat.le_refl _
  · simp [bulk_append]
theorem joinS_bulk (c : UInt8) (xs : List (List UInt8)) : (joinS [c] xs).length ≤ bulk xs := by
  cases xs with
  | nil => simp [joinS]
  | cons x xs =>
    have : ∀ ys : List (List UInt8), ((ys.map ([c] ++ ·)).flatten).length = bulk ys := by
      intro ys
      induction ys with
      | nil => rfl
      | cons y ys ih => rw [bulk_cons, List.map_cons, List.flatten_cons, List.length_append, ih]; simp
    rw [joinS, List.length_append, this, bulk_cons]; omega

theorem datas_str (xs : List (List UInt8)) : datas (xs.map str) = xs := by
  unfold datas
  rw [List.map_map]
  have : ((fun x : ByteArray => x.data.toList) ∘ str) = id := by funext x; exact str_data x
  rw [this, List.map_id]
theorem map_dropLast {α β : Type} (f : α → β) (xs : List α) : (xs.map f).take (xs.length - 1) = xs.dropLast.map f := by
  rw [List.dropLast_eq_take, List.map_take]
theorem rdOf_map (pre : List (List UInt8)) (p : List UInt8) (ps : List (List UInt8)) : rdOf ByteArray.empty ((pre ++ p :: ps).map str) (pre.length : Int) = str p := by
  rw [List.map_append, List.map_cons]
  have := rdOf_pre ByteArray.empty (pre.map str) (str p) (ps.map str)
  rwa [List.length_map] at this

theorem ev_Clean_loop (all : List (List UInt8)) (hA : bulk all ≤ 1000) : ∀ (ps pre kept : List (List UInt8)), all = pre ++ ps → bulk kept + bulk ps ≤ 1000 →
    Ev (fun k => path_Clean.l0 k (kept.map str) (all.map str) (all.length : Int) (pre.length : Int)) (cleanR ((cleanGo kept ps).map (joinS [47]))) := by
  intro ps
  induction ps with
  | nil =>
    intro pre kept h hk
    rw [List.append_nil] at h
    subst h
    refine Ev.step (fun k => by rw [path_Clean.l0]) ?_
    refine ev_neg (by omega) ?_
    rw [cleanGo]
    by_cases hz : kept = []
    · subst hz
      exact ev_pos rfl (Ev.now _)
    · rw [if_neg hz]
      have hl : ¬ (((kept.map str).length : Int) = 0) := by
        have := List.length_pos_iff.2 hz
        rw [List.length_map]; omega
      refine ev_neg hl ?_
      have hjl := joinS_bulk 47 kept
      have hbl := bulk_len kept
      have hb0 : bulk [] = 0 := rfl
      have hj := Join_is (kept.map str) (str [47]) (by rw [List.length_map]; omega) (by rw [datas_str, str_data]; omega)
      rw [datas_str, str_data] at hj
      exact ev_bindc hj (Ev.now _)
  | cons p ps ih =>
    intro pre kept h hk
    have hl : all.length = pre.length + (ps.length + 1) := by rw [h]; simp
    have hr : rdOf ByteArray.empty (all.map str) (pre.length : Int) = str p := by rw [h]; exact rdOf_map _ _ _
    have hbl := bulk_len all
    have hw : wrap64 ((pre.length : Int) + 1) = ((pre ++ [p]).length : Int) := wrap_len pre p (by omega)
    rw [bulk_cons] at hk
    refine Ev.step (fun k => by rw [path_Clean.l0]) ?_
    simp only [hr, str_toList, List.length_map]
    refine ev_pos (by omega) (ev_pos (by omega) (ev_pos (by omega) ?_))
    rw [cleanGo]
    have skip : p = [] ∨ p = [46] → Ev (fun k => path_Clean.j2 k (kept.map str) (str p) (all.map str) (all.length : Int) (pre.length : Int) true) (cleanR ((cleanGo kept ps).map (joinS [47]))) := fun _ => by
      refine Ev.step (fun k => by rw [path_Clean.j2]) ?_
      simp only [hw]
      exact ev_pos (by simp) (ih (pre ++ [p]) kept (by simp [h]) (by omega))
    by_cases e0 : p = []
    · rw [if_pos (.inl e0)]
      exact ev_pos e0 (skip (.inl e0))
    · refine ev_neg e0 ?_
      by_cases e1 : p = [46]
      · rw [if_pos (.inr e1)]
        have : (p == [46]) = true := by simpa using e1
        rw [this]
        exact skip (.inr e1)
      · rw [if_neg (by simp [e0, e1])]
        have : (p == [46]) = false := by simpa using e1
        rw [this]
        refine Ev.step (fun k => by rw [path_Clean.j2]) ?_
        simp only [hw, str_toList, List.length_map]
        refine ev_neg (by simp) ?_
        by_cases e2 : p = [46, 46]
        · rw [if_pos e2]
          refine ev_pos e2 ?_
          by_cases hz : kept = []
          · subst hz
            exact ev_pos rfl (Ev.now _)
          · have hp := List.length_pos_iff.2 hz
            have hkl := bulk_len kept
            rw [if_neg hz]
            refine ev_neg (by omega) ?_
            simp only [wrap_pred hp (by omega), Int.toNat_natCast, map_dropLast]
            refine ev_pos (by omega) (ev_pos (by omega) (ih (pre ++ [p]) kept.dropLast (by simp [h]) ?_))
            have := bulk_dropLast kept
            omega
        · rw [if_neg e2]
          refine ev_neg e2 (ev_pos ?_ ?_)
          · have hkl := bulk_len kept
            omega
          · have := ih (pre ++ [p]) (kept ++ [p]) (by simp [h]) (by rw [bulk_append, bulk_cons]; simp [bulk] at hk ⊢; omega)
            simpa using this

theorem ev_CleanPath_loop (all : List (List UInt8)) (hA : bulk all ≤ 1000) : ∀ (ps pre kept : List (List UInt8)), all = pre ++ ps → bulk kept + bulk ps ≤ 1000 →
    Ev (fun k => crucibleref1_CleanPath.l0 k (all.map str) (kept.map str) (pre.length : Int)) (cleanR ((cleanGo kept ps).map (joinS [47]))) := by
  intro ps
  induction ps with
  | nil =>
    intro pre kept h hk
    rw [List.append_nil] at h
    subst h
    refine Ev.step (fun k => by rw [crucibleref1_CleanPath.l0]) ?_
    refine ev_neg (by simp) ?_
    rw [cleanGo]
    by_cases hz : kept = []
    · subst hz
      exact ev_pos rfl (Ev.now _)
    · rw [if_neg hz]
      have hl : ¬ (((kept.map str).length : Int) = 0) := by
        have := List.length_pos_iff.2 hz
        rw [List.length_map]; omega
      refine ev_neg hl ?_
      have hjl := joinS_bulk 47 kept
      have hbl := bulk_len kept
      have hb0 : bulk [] = 0 := rfl
      have hj := ev_Join (kept.map str) (str [47]) (by rw [List.length_map]; omega) (by rw [datas_str, str_data]; omega)
      rw [datas_str, str_data] at hj
      exact ev_bind hj (Ev.now _)
  | cons p ps ih =>
    intro pre kept h hk
    have hl : all.length = pre.length + (ps.length + 1) := by rw [h]; simp
    have hr : rdOf ByteArray.empty (all.map str) (pre.length : Int) = str p := by rw [h]; exact rdOf_map _ _ _
    have hbl := bulk_len all
    have hw : wrap64 ((pre.length : Int) + 1) = ((pre ++ [p]).length : Int) := wrap_len pre p (by omega)
    rw [bulk_cons] at hk
    refine Ev.step (fun k => by rw [crucibleref1_CleanPath.l0]) ?_
    simp only [hr, str_toList, List.length_map]
    refine ev_pos (by omega) (ev_pos (by omega) ?_)
    rw [cleanGo]
    have skip : p = [] ∨ p = [46] → Ev (fun k => crucibleref1_CleanPath.j2 k (all.map str) (kept.map str) (pre.length : Int) (str p) true) (cleanR ((cleanGo kept ps).map (joinS [47]))) := fun _ => by
      refine Ev.step (fun k => by rw [crucibleref1_CleanPath.j2]) ?_
      simp only [hw]
      exact ev_pos (by simp) (ih (pre ++ [p]) kept (by simp [h]) (by omega))
    by_cases e0 : p = []
    · rw [if_pos (.inl e0)]
      refine ev_pos e0 ?_
      have : (p == []) = true := by simpa using e0
      rw [this]
      exact skip (.inl e0)
    · refine ev_neg e0 ?_
      by_cases e1 : p = [46]
      · rw [if_pos (.inr e1)]
        have : (p == [46]) = true := by simpa using e1
        rw [this]
        exact skip (.inr e1)
      · rw [if_neg (by simp [e0, e1])]
        have : (p == [46]) = false := by simpa using e1
        rw [this]
        refine Ev.step (fun k => by rw [crucibleref1_CleanPath.j2]) ?_
        simp only [hw, hr, str_toList, List.length_map]
        refine ev_neg (by simp) ?_
        by_cases e2 : p = [46, 46]
        · rw [if_pos e2]
          refine ev_pos e2 ?_
          by_cases hz : kept = []
          · subst hz
            exact ev_pos rfl (Ev.now _)
          · have hp := List.length_pos_iff.2 hz
            have hkl := bulk_len kept
            rw [if_neg hz]
            refine ev_neg (by omega) ?_
            simp only [wrap_pred hp (by omega), Int.toNat_natCast, map_dropLast]
            refine ev_pos (by omega) (ev_pos (by omega) (ih (pre ++ [p]) kept.dropLast (by simp [h]) ?_))
            have := bulk_dropLast kept
            omega
        · rw [if_neg e2]
          have hkl := bulk_len kept
          refine ev_neg e2 (ev_pos (by omega) (ev_pos (by omega) (ev_pos (by omega) ?_)))
          have := ih (pre ++ [p]) (kept ++ [p]) (by simp [h]) (by rw [bulk_append, bulk_cons]; simp [bulk] at hk ⊢; omega)
          simpa using this

theorem nameMay_len {l : List UInt8} (h : nameMay l = true) : 1 ≤ l.length ∧ l.length ≤ 16 := by
  simp [nameMay] at h
  omega
theorem bt_zero (s : ByteArray) (h : 0 < s.size) : ∃ b rest, s.data.toList = b :: rest ∧ bt s 0 = b.toNat := by
  cases hd : s.data.toList with
  | nil => rw [← size_data, hd] at h; simp at h
  | cons b rest => exact ⟨b, rest, rfl, bt_pre s [] b rest hd⟩

theorem Clean_body {j : Nat → Bool → Option (ByteArray × Int)} (s : ByteArray) (hj : ∀ b, Ev (fun k => j k b) (if b = true then (str [], 200) else cleanR ((cleanGo [] (split 47 s.data.toList)).map (joinS [47])))) (t : Bool) (ht : t = nameMay s.data.toList) :
    Ev (fun k => if t = true then (if 0 < (s.size : Int) then j k (bt s 0 == 47) else none) else j k true) (cleanR (clean s.data.toList)) := by
  subst ht
  refine ev_split (fun h => ?_) (fun h => ?_)
  · have hl := nameMay_len h
    rw [size_data] at hl
    obtain ⟨b, rest, hd, hb⟩ := bt_zero s (by omega)
    refine ev_pos (by omega) ?_
    rw [hb]
    refine ev_eq (hj _) ?_
    unfold clean
    rw [h, hd]
    by_cases e : b = 47
    · subst e; rfl
    · have hne : ¬ ((b.toNat : Int) = 47) := fun h' => e (UInt8.toNat_inj.1 (by show b.toNat = 47; omega))
      simp [e, hne, beq_iff_eq]
  · refine ev_eq (hj true) ?_
    unfold clean
    rw [if_pos rfl, if_neg (by simp [h])]
    rfl
theorem ev_Clean (s : ByteArray) : Ev (fun k => path_Clean.f k s) (cleanR (clean s.data.toList)) := by
  refine Ev.congr (fun k => by rw [path_Clean.f]) ?_
  refine ev_bindc (x := nameMay s.data.toList) rfl ?_
  by_cases hm : nameMay s.data.toList = true
  · have hl := nameMay_len hm
    rw [size_data] at hl
    refine Clean_body s (j := fun k b => path_Clean.j0 k s b) (fun b => ?_) _ rfl
    refine Ev.step (fun k => by rw [path_Clean.j0]) ?_
    refine ev_ite (fun _ => Ev.now _) (fun _ => ev_bindc (Split_is s 47 (by omega)) ?_)
    have hb : bulk (split 47 s.data.toList) ≤ 1000 := by rw [bulk_split, size_data]; omega
    have := ev_Clean_loop (split 47 s.data.toList) hb (split 47 s.data.toList) [] [] rfl (by simpa [bulk] using hb)
    simpa using this
  · have hm' : nameMay s.data.toList = false := by simpa using hm
    rw [hm']
    refine ev_neg (by simp) (Ev.step (fun k => by rw [path_Clean.j0]) (ev_pos rfl (ev_const ?_)))
    unfold clean
    rw [if_neg (by simp [hm'])]
    rfl
theorem ev_CleanPath (s : ByteArray) (hs : s.size ≤ 4611686018427387904) : Ev (fun k => crucibleref1_CleanPath.f k s) (cleanR (clean s.data.toList)) := by
  refine Ev.congr (fun k => by rw [crucibleref1_CleanPath.f]) ?_
  refine ev_bind (ev_NameMay s hs) ?_
  by_cases hm : nameMay s.data.toList = true
  · have hl := nameMay_len hm
    rw [size_data] at hl
    refine Clean_body s (j := fun k b => crucibleref1_CleanPath.j0 k s b) (fun b => ?_) _ rfl
    refine Ev.step (fun k => by rw [crucibleref1_CleanPath.j0]) ?_
    refine ev_ite (fun _ => Ev.now _) (fun _ => ev_bind (ev_split1 s 47 (by omega)) ?_)
    have hb : bulk (split 47 s.data.toList) ≤ 1000 := by rw [bulk_split, size_data]; omega
    have := ev_CleanPath_loop (split 47 s.data.toList) hb (split 47 s.data.toList) [] [] rfl (by simpa [bulk] using hb)
    simpa using this
  · have hm' : nameMay s.data.toList = false := by simpa using hm
    rw [hm']
    refine ev_neg (by simp) (Ev.step (fun k => by rw [crucibleref1_CleanPath.j0]) (ev_pos rfl (ev_const ?_)))
    unfold clean
    rw [if_neg (by simp [hm'])]
    rfl

end Go.Proofs.YtncbloieejeifaaDoor.Spec
