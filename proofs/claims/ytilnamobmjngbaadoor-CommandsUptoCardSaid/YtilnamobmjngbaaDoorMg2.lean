import Derived.Test.YtilnamobmjngbaaDoorMg1
import Derived.Test.YtilnamobmjngbaaDoorP4
import Derived.Test.YtilnamobmjngbaaDoorP10
import Derived.Test.YtilnamobmjngbaaDoorP9
import Derived.Test.YtilnamobmjngbaaDoorP8
import Derived.Test.YtilnamobmjngbaaDoorP3
import Derived.Test.YtilnamobmjngbaaDoorP5
import Derived.Test.YtilnamobmjngbaaDoorP11
import Derived.Test.YtilnamobmjngbaaDoorP24
import Derived.Test.YtilnamobmjngbaaDoorP12
import Derived.Test.YtilnamobmjngbaaDoorP16
import Derived.Test.YtilnamobmjngbaaDoorP18
import Derived.Test.YtilnamobmjngbaaDoorP21
import Derived.Test.YtilnamobmjngbaaDoorP6
import Derived.Test.YtilnamobmjngbaaDoorP7
import Derived.Test.YtilnamobmjngbaaDoorP13
import Derived.Test.YtilnamobmjngbaaDoorP19
section
/- Chapter 2 without the program: what the printed functions on names and paths answer, in plain lists. -/
namespace Go.Proofs.YtilnamobmjngbaaDoor.Spec
open Go.RowKit Go.Proofs.YtilnamobmjngbaaDoorW.PrintWords Go.Proofs.YtilnamobmjngbaaDoor.P

theorem ev_split {α : Type} {g f : Nat → Option α} {r : α} {c : Prop} [Decidable c] (h1 : c → Ev g r) (h2 : ¬ c → Ev f r) : Ev (fun k => if c then g k else f k) r := by
  by_cases h : c
  · exact ev_pos h (h1 h)
  · exact ev_neg h (h2 h)

/-! ### Names -/
theorem small_is (b : Nat) (h : b < 256) : crucibleref1_small.f (b : Int) = some ((decide (97 ≤ b) && decide (b ≤ 122)) || (decide (48 ≤ b) && decide (b ≤ 57))) := by
  have : ∀ b : Fin 256, crucibleref1_small.f (b.val : Int) = some ((decide (97 ≤ b.val) && decide (b.val ≤ 122)) || (decide (48 ≤ b.val) && decide (b.val ≤ 57))) := by decide +kernel
  exact this ⟨b, h⟩
theorem ev_NameMay_loop (s : ByteArray) (hs : s.size ≤ 4611686018427387904) : ∀ rest pre : List UInt8, s.data.toList = pre ++ rest → (pre.all fun b => nameByte b.toNat) = true →
    Ev (fun k => crucibleref1_NameMay.l0 k s (pre.length : Int)) (nameMay s.data.toList) := by
  intro rest
  induction rest with
  | nil =>
    intro pre h ha
    have hl : s.size = pre.length := by rw [size_le h]; simp
    refine Ev.step (fun k => by rw [crucibleref1_NameMay.l0]) ?_
    refine ev_neg (by omega) ?_
    have e : nameMay s.data.toList = if ((s.size : Int) ≥ 1) then decide ((s.size : Int) ≤ 16) else false := by
      rw [h]
      simp only [List.append_nil, nameMay, ha, Bool.true_and, hl]
      by_cases h1 : (pre.length : Int) ≥ 1
      · rw [if_pos h1]
        have : 1 ≤ pre.length := by omega
        simp only [this, decide_true, Bool.true_and, decide_eq_decide]
        omega
      · rw [if_neg h1]
        have : ¬ 1 ≤ pre.length := by omega
        simp [this]
    rw [e]
    exact ev_ite (fun _ => Ev.now _) (fun _ => Ev.now _)
  | cons b rest ih =>
    intro pre h ha
    have hlt := size_pre s pre b rest h
    have hb := bt_pre s pre b rest h
    have hw : wrap64 ((pre.length : Int) + 1) = ((pre ++ [b]).length : Int) := wrap_len pre b (by omega)
    refine Ev.step (fun k => by rw [crucibleref1_NameMay.l0]) ?_
    simp only [hb, hw]
    refine ev_pos (by omega) (ev_pos (by omega) (ev_bindc (small_is b.toNat b.toNat_lt) ?_))
    cases hn : nameByte b.toNat with
    | true =>
      have ih' := ih (pre ++ [b]) (by simp [h]) (by simp [ha, hn])
      refine ev_split (fun _ => ih') (fun h1 => ev_split (fun _ => ih') (fun h2 => ev_split (fun _ => ih') (fun h3 => ev_split (fun _ => ih') (fun h4 => ev_split (fun _ => ih') (fun h5 => ?_)))))
      exfalso
      simp [nameByte] at hn h1
      omega
    | false =>
      have hf : nameMay s.data.toList = false := by simp [nameMay, h, hn]
      rw [hf]
      simp [nameByte] at hn
      refine ev_split (fun h1 => ?_) (fun h1 => ev_split (fun h2 => ?_) (fun h2 => ev_split (fun h3 => ?_) (fun h3 => ev_split (fun h4 => ?_) (fun h4 => ev_split (fun h5 => ?_) (fun h5 => Ev.now _)))))
      · simp at h1; omega
      all_goals omega
theorem ev_NameMay (s : ByteArray) (hs : s.size ≤ 4611686018427387904) : Ev (fun k => crucibleref1_NameMay.f k s) (nameMay s.data.toList) :=
  Ev.congr (fun k => by rw [crucibleref1_NameMay.f]; rfl) (ev_NameMay_loop s hs s.data.toList [] rfl rfl)

/-! ### Texts joined -/
def joinS (sg : List UInt8) : List (List UInt8) → List UInt8
  | [] => []
  | x :: xs => x ++ (xs.map (sg ++ ·)).flatten
theorem joinS_lib (sg : List UInt8) (xs : List (List UInt8)) : Lib.join xs sg = joinS sg xs := by
  cases xs with
  | nil => rfl
  | cons x xs => rw [Lib.join_cons]; rfl
theorem joinS_snoc (sg : List UInt8) (pre : List (List UInt8)) (x : List UInt8) (h : pre ≠ []) : joinS sg (pre ++ [x]) = joinS sg pre ++ sg ++ x := by
  cases pre with
  | nil => exact absurd rfl h
  | cons y ys => simp [joinS]
theorem joinS_le (sg : List UInt8) (pre rest : List (List UInt8)) : (joinS sg pre).length ≤ (joinS sg (pre ++ rest)).length := by
  cases pre with
  | nil => simp [joinS]
  | cons y ys => simp [joinS]
abbrev datas (xs : List ByteArray) : List (List UInt8) := xs.map (·.data.toList)

theorem ev_Join_loop (sg : ByteArray) (xs : List ByteArray) (hx : xs.length ≤ 4611686018427387904) (ht : (joinS sg.data.toList (datas xs)).length ≤ 4611686018427387904) : ∀ rest pre : List ByteArray, xs = pre ++ rest →
    Ev (fun k => crucibleref1_Join.l0 k xs sg (str (joinS sg.data.toList (datas pre))) (pre.length : Int)) (str (joinS sg.data.toList (datas xs))) := by
  intro rest
  induction rest with
  | nil =>
    intro pre h
    refine Ev.step (fun k => by rw [crucibleref1_Join.l0]) ?_
    rw [List.append_nil] at h
    subst h
    exact ev_neg (by omega) (Ev.now _)
  | cons x rest ih =>
    intro pre h
    have hl : xs.length = pre.length + (rest.length + 1) := by rw [h]; simp
    have hr : rdOf ByteArray.empty xs (pre.length : Int) = x := by rw [h]; exact rdOf_pre _ _ _ _
    have hw : wrap64 ((pre.length : Int) + 1) = ((pre ++ [x]).length : Int) := wrap_len pre x (by omega)
    have ih' := ih (pre ++ [x]) (by simp [h])
    have hle : (joinS sg.data.toList (datas (pre ++ [x]))).length ≤ 4611686018427387904 := by
      have := joinS_le sg.data.toList (datas (pre ++ [x])) (datas rest)
      have e : datas (pre ++ [x]) ++ datas rest = datas xs := by simp [datas, h]
      rw [e] at this
      omega
    refine Ev.step (fun k => by rw [crucibleref1_Join.l0]) ?_
    simp only [hr, hw]
    refine ev_pos (by omega) ?_
    by_cases hp : pre = []
    · subst hp
      have e : str (joinS sg.data.toList (datas [])) ++ x = str (joinS sg.data.toList (datas ([] ++ [x]))) := by
        rw [str_eq x _ rfl, str_append]; simp [joinS, datas, str_data]
      have hz : (str (joinS sg.data.toList (datas []))).size + x.size ≤ 9223372036854775807 := by
        rw [← append_size, e, str_size]; omega
      refine ev_neg (by simp) (ev_pos (by simp) (ev_pos hz ?_))
      rw [e]
      exact ih'
    · have hpl : 0 < pre.length := List.length_pos_iff.2 hp
      have e0 := joinS_snoc sg.data.toList (datas pre) x.data.toList (by simpa [datas] using hp)
      have e : (str (joinS sg.data.toList (datas pre)) ++ sg) ++ x = str (joinS sg.data.toList (datas (pre ++ [x]))) := by
        have e1 : datas (pre ++ [x]) = datas pre ++ [x.data.toList] := by simp [datas]
        rw [e1, e0, str_eq x _ rfl, str_eq sg _ rfl, str_append, str_append]
        simp [str_data]
      have hz : (str (joinS sg.data.toList (datas pre)) ++ sg).size + x.size ≤ 9223372036854775807 := by
        rw [← append_size, e, str_size]; omega
      have hz1 : (str (joinS sg.data.toList (datas pre))).size + sg.size ≤ 9223372036854775807 := by
        rw [append_size] at hz; omega
      refine ev_pos (by omega) (ev_pos hz1 (ev_pos (by omega) (ev_pos hz ?_)))
      rw [e]
      exact ih'
theorem ev_Join (xs : List ByteArray) (sg : ByteArray) (hx : xs.length ≤ 4611686018427387904) (ht : (joinS sg.data.toList (datas xs)).length ≤ 4611686018427387904) :
    Ev (fun k => crucibleref1_Join.f k xs sg) (str (joinS sg.data.toList (datas xs))) :=
  Ev.congr (fun k => by rw [crucibleref1_Join.f]; rfl) (ev_Join_loop sg xs hx ht xs [] rfl)
theorem Join_is (xs : List ByteArray) (sg : ByteArray) (hx : xs.length ≤ 140737488355328) (ht : (joinS sg.data.toList (datas xs)).length ≤ 140737488355328) :
    strings_Join.f xs sg = some (str (joinS sg.data.toList (datas xs))) := by
  unfold strings_Join.f
  rw [joinS_lib]
  exact if_pos ⟨ht, hx⟩

/-! ### Texts cut -/
theorem split_hit (c : UInt8) : ∀ (cur rest : List UInt8), c ∉ cur → split c (cur ++ c :: rest) = cur :: split c rest
  | [], rest, _ => by simp [split]
  | b :: cur, rest, h => by
    have hb : b ≠ c := fun e => h (by rw [e]; exact List.mem_cons_self)
    rw [List.cons_append, split, if_neg hb, split_hit c cur rest (fun hm => h (List.mem_cons_of_mem _ hm))]
    rfl
theorem ev_split_loop (s : ByteArray) (c : UInt8) (hs : s.size ≤ 4398046511104) : ∀ (rest cur : List UInt8) (done : Nat) (acc : List ByteArray), s.data.toList.drop done = cur ++ rest → done ≤ s.size → acc.length ≤ done → c ∉ cur →
    Ev (fun k => crucibleref1_split.l0 k s (c.toNat : Int) acc (done : Int) ((done + cur.length : Nat) : Int)) (acc ++ (split c (cur ++ rest)).map str) := by
  intro rest
  induction rest with
  | nil =>
    intro cur done acc h hd ha hc
    rw [List.append_nil] at h ⊢
    have hl : s.size = done + cur.length := by
      have := congrArg List.length h
      rw [List.length_drop, size_data] at this
      omega
    have he : s.extract done (done + cur.length) = str cur := by
      apply str_eq
      rw [extract_data, ← hl, ← size_data, List.take_length, h]
    refine Ev.step (fun k => by rw [crucibleref1_split.l0]) ?_
    refine ev_pos (by omega) (ev_pos (by omega) (ev_pos (by omega) (ev_pos (by omega) (ev_pos (by omega) ?_))))
    simp only [Int.toNat_natCast, he, wrap_nat (n := done + cur.length) (by omega)]
    refine Ev.step (fun k => by rw [crucibleref1_split.l0]) ?_
    refine ev_neg (by omega) ?_
    rw [split_none c cur hc]
    exact Ev.now _
  | cons b rest ih =>
    intro cur done acc h hd ha hc
    have hl : s.size = done + (cur.length + (rest.length + 1)) := by
      have := congrArg List.length h
      rw [List.length_drop, size_data, List.length_append, List.length_cons] at this
      omega
    have hsplit : s.data.toList = (s.data.toList.take done ++ cur) ++ b :: rest := by
      rw [List.append_assoc, ← h, List.take_append_drop]
    have hpre : (s.data.toList.take done ++ cur).length = done + cur.length := by
      rw [List.length_append, List.length_take, size_data, Nat.min_eq_left hd]
    have hb : bt s ((done + cur.length : Nat) : Int) = b.toNat := by
      rw [← hpre]; exact bt_pre s _ b rest hsplit
    have hdrop : s.data.toList.drop (done + cur.length + 1) = rest := by
      have : s.data.toList.drop (done + cur.length + 1) = ((s.data.toList.take done ++ cur ++ [b]) ++ rest).drop ((s.data.toList.take done ++ cur ++ [b]).length) := by
        rw [List.length_append, hpre]
        congr 1
        rw [List.append_assoc, List.singleton_append]; exact hsplit
      rw [this, List.drop_left]
    refine Ev.step (fun k => by rw [crucibleref1_split.l0]) ?_
    simp only [hb, wrap_nat (n := done + cur.length) (by omega), Int.toNat_natCast]
    refine ev_pos (by omega) (ev_neg (by omega) (ev_pos (by omega) (ev_pos (by omega) ?_)))
    by_cases e : b = c
    · subst e
      have he : s.extract done (done + cur.length) = str cur := by
        apply str_eq
        rw [extract_data]
        have : s.data.toList.take (done + cur.length) = s.data.toList.take done ++ cur := by
          conv => lhs; rw [hsplit]
          rw [← hpre, List.take_left]
        have hld : (s.data.toList.take done).length = done := by rw [List.length_take, size_data, Nat.min_eq_left hd]
        rw [this]
        exact List.drop_left' hld
      refine ev_pos rfl (ev_pos (by omega) (ev_pos (by omega) (ev_pos (by omega) ?_)))
      rw [he, split_hit b cur rest hc]
      have ih' := ih [] (done + cur.length + 1) (acc ++ [str cur]) (by rw [hdrop]; rfl) (by omega) (by simp; omega) (by simp)
      simpa using ih'
    · have hne : ¬ ((b.toNat : Int) = (c.toNat : Int)) := fun h' => e (UInt8.toNat_inj.1 (by omega))
      refine ev_neg hne ?_
      have ih' := ih (cur ++ [b]) done acc (by simp [h]) hd ha (by simp [hc, Ne.symm e])
      simpa [Nat.add_assoc] using ih'
theorem ev_split1 (s : ByteArray) (c : UInt8) (hs : s.size ≤ 4398046511104) : Ev (fun k => crucibleref1_split.f k s (c.toNat : Int)) ((split c s.data.toList).map str) := by
  have := ev_split_loop s c hs s.data.toList [] 0 [] rfl (Nat.zero_le _) (Nat.zero_le _) (by simp)
  exact Ev.congr (fun k => by rw [crucibleref1_split.f]) (by simpa using this)
theorem Split_is (s : ByteArray) (c : UInt8) (hs : s.size < 4294967281) : strings_Split.f s (str [c]) = some ((split c s.data.toList).map str) := by
  unfold strings_Split.f
  rw [str_data]
  exact if_pos hs

/-! ### Paths -/
def cleanGo : List (List UInt8) → List (List UInt8) → Option (List (List UInt8))
  | kept, [] => if kept = [] then none else some kept
  | kept, p :: ps => if p = [] ∨ p = [46] then cleanGo kept ps else if p = [46, 46] then (if kept = [] then none else cleanGo kept.dropLast ps) else cleanGo (kept ++ [p]) ps
/-- a file's name as a path -/
def clean (l : List UInt8) : Option (List UInt8) := if nameMay l = true ∧ l.head? ≠ some 47 then (cleanGo [] (split 47 l)).map (joinS [47]) else none
def cleanR (o : Option (List UInt8)) : ByteArray × Int := match o with
  | some l => (str l, 0)
  | none => (str [], 200)
/-- letters and pieces -/
def bulk (xs : List (List UInt8)) : Nat := (xs.map fun x => x.length + 1).sum
theorem bulk_append (xs ys : List (List UInt8)) : bulk (xs ++ ys) = bulk xs + bulk ys := by simp [bulk]
theorem bulk_cons (x : List UInt8) (ys : List (List UInt8)) : bulk (x :: ys) = x.length + 1 + bulk ys := by simp [bulk]
theorem bulk_split (c : UInt8) : ∀ l : List UInt8, bulk (split c l) = l.length + 1
  | [] => rfl
  | b :: l => by
    have ih := bulk_split c l
    simp only [split]
    cases e : split c l with
    | nil => exact absurd e (split_ne c l)
    | cons x r =>
      rw [e, bulk_cons] at ih
      split
      · rw [bulk_cons, bulk_cons]; simp; omega
      · rw [bulk_cons]; simp; omega
theorem bulk_len (xs : List (List UInt8)) : xs.length ≤ bulk xs := by
  induction xs with
  | nil => simp [bulk]
  | cons x xs ih => rw [bulk_cons]; simp; omega
theorem bulk_dropLast (xs : List (List UInt8)) : bulk xs.dropLast ≤ bulk xs := by
  rcases List.eq_nil_or_concat xs with rfl | ⟨ys, y, rfl⟩
  · exact Nat.le_refl _
  · simp [bulk_append]
theorem joinS_bulk (c : UInt8) (xs : List (List UInt8)) : (joinS [c] xs).length ≤ bulk xs := by
  cases xs with
  | nil => simp [joinS]
  | cons x xs =>
    have : ∀ ys : List (List UInt8), ((ys.map ([c] ++ ·)).flatten).length = bulk ys := by
      intro ys
      induction ys with
      | nil => rfl
      | cons y ys ih => rw [bulk_cons, List.map_cons, List.flatten_cons, List.length_append, ih]; simp
    rw [joinS, List.length_append, this, bulk_cons]; omega

theorem datas_str (xs : List (List UInt8)) : datas (xs.map str) = xs := by
  unfold datas
  rw [List.map_map]
  have : ((fun x : ByteArray => x.data.toList) ∘ str) = id := by funext x; exact str_data x
  rw [this, List.map_id]
theorem map_dropLast {α β : Type} (f : α → β) (xs : List α) : (xs.map f).take (xs.length - 1) = xs.dropLast.map f := by
  rw [List.dropLast_eq_take, List.map_take]
theorem rdOf_map (pre : List (List UInt8)) (p : List UInt8) (ps : List (List UInt8)) : rdOf ByteArray.empty ((pre ++ p :: ps).map str) (pre.length : Int) = str p := by
  rw [List.map_append, List.map_cons]
  have := rdOf_pre ByteArray.empty (pre.map str) (str p) (ps.map str)
  rwa [List.length_map] at this

theorem ev_Clean_loop (all : List (List UInt8)) (hA : bulk all ≤ 1000) : ∀ (ps pre kept : List (List UInt8)), all = pre ++ ps → bulk kept + bulk ps ≤ 1000 →
    Ev (fun k => path_Clean.l0 k (kept.map str) (all.map str) (all.length : Int) (pre.length : Int)) (cleanR ((cleanGo kept ps).map (joinS [47]))) := by
  intro ps
  induction ps with
  | nil =>
    intro pre kept h hk
    rw [List.append_nil] at h
    subst h
    refine Ev.step (fun k => by rw [path_Clean.l0]) ?_
    refine ev_neg (by omega) ?_
    rw [cleanGo]
    by_cases hz : kept = []
    · subst hz
      exact ev_pos rfl (Ev.now _)
    · rw [if_neg hz]
      have hl : ¬ (((kept.map str).length : Int) = 0) := by
        have := List.length_pos_iff.2 hz
        rw [List.length_map]; omega
      refine ev_neg hl ?_
      have hjl := joinS_bulk 47 kept
      have hbl := bulk_len kept
      have hb0 : bulk [] = 0 := rfl
      have hj := Join_is (kept.map str) (str [47]) (by rw [List.length_map]; omega) (by rw [datas_str, str_data]; omega)
      rw [datas_str, str_data] at hj
      exact ev_bindc hj (Ev.now _)
  | cons p ps ih =>
    intro pre kept h hk
    have hl : all.length = pre.length + (ps.length + 1) := by rw [h]; simp
    have hr : rdOf ByteArray.empty (all.map str) (pre.length : Int) = str p := by rw [h]; exact rdOf_map _ _ _
    have hbl := bulk_len all
    have hw : wrap64 ((pre.length : Int) + 1) = ((pre ++ [p]).length : Int) := wrap_len pre p (by omega)
    rw [bulk_cons] at hk
    refine Ev.step (fun k => by rw [path_Clean.l0]) ?_
    simp only [hr, str_toList, List.length_map]
    refine ev_pos (by omega) (ev_pos (by omega) (ev_pos (by omega) ?_))
    rw [cleanGo]
    have skip : p = [] ∨ p = [46] → Ev (fun k => path_Clean.j2 k (kept.map str) (str p) (all.map str) (all.length : Int) (pre.length : Int) true) (cleanR ((cleanGo kept ps).map (joinS [47]))) := fun _ => by
      refine Ev.step (fun k => by rw [path_Clean.j2]) ?_
      simp only [hw]
      exact ev_pos (by simp) (ih (pre ++ [p]) kept (by simp [h]) (by omega))
    by_cases e0 : p = []
    · rw [if_pos (.inl e0)]
      exact ev_pos e0 (skip (.inl e0))
    · refine ev_neg e0 ?_
      by_cases e1 : p = [46]
      · rw [if_pos (.inr e1)]
        have : (p == [46]) = true := by simpa using e1
        rw [this]
        exact skip (.inr e1)
      · rw [if_neg (by simp [e0, e1])]
        have : (p == [46]) = false := by simpa using e1
        rw [this]
        refine Ev.step (fun k => by rw [path_Clean.j2]) ?_
        simp only [hw, str_toList, List.length_map]
        refine ev_neg (by simp) ?_
        by_cases e2 : p = [46, 46]
        · rw [if_pos e2]
          refine ev_pos e2 ?_
          by_cases hz : kept = []
          · subst hz
            exact ev_pos rfl (Ev.now _)
          · have hp := List.length_pos_iff.2 hz
            have hkl := bulk_len kept
            rw [if_neg hz]
            refine ev_neg (by omega) ?_
            simp only [wrap_pred hp (by omega), Int.toNat_natCast, map_dropLast]
            refine ev_pos (by omega) (ev_pos (by omega) (ih (pre ++ [p]) kept.dropLast (by simp [h]) ?_))
            have := bulk_dropLast kept
            omega
        · rw [if_neg e2]
          refine ev_neg e2 (ev_pos ?_ ?_)
          · have hkl := bulk_len kept
            omega
          · have := ih (pre ++ [p]) (kept ++ [p]) (by simp [h]) (by rw [bulk_append, bulk_cons]; simp [bulk] at hk ⊢; omega)
            simpa using this

theorem ev_CleanPath_loop (all : List (List UInt8)) (hA : bulk all ≤ 1000) : ∀ (ps pre kept : List (List UInt8)), all = pre ++ ps → bulk kept + bulk ps ≤ 1000 →
    Ev (fun k => crucibleref1_CleanPath.l0 k (all.map str) (kept.map str) (pre.length : Int)) (cleanR ((cleanGo kept ps).map (joinS [47]))) := by
  intro ps
  induction ps with
  | nil =>
    intro pre kept h hk
    rw [List.append_nil] at h
    subst h
    refine Ev.step (fun k => by rw [crucibleref1_CleanPath.l0]) ?_
    refine ev_neg (by simp) ?_
    rw [cleanGo]
    by_cases hz : kept = []
    · subst hz
      exact ev_pos rfl (Ev.now _)
    · rw [if_neg hz]
      have hl : ¬ (((kept.map str).length : Int) = 0) := by
        have := List.length_pos_iff.2 hz
        rw [List.length_map]; omega
      refine ev_neg hl ?_
      have hjl := joinS_bulk 47 kept
      have hbl := bulk_len kept
      have hb0 : bulk [] = 0 := rfl
      have hj := ev_Join (kept.map str) (str [47]) (by rw [List.length_map]; omega) (by rw [datas_str, str_data]; omega)
      rw [datas_str, str_data] at hj
      exact ev_bind hj (Ev.now _)
  | cons p ps ih =>
    intro pre kept h hk
    have hl : all.length = pre.length + (ps.length + 1) := by rw [h]; simp
    have hr : rdOf ByteArray.empty (all.map str) (pre.length : Int) = str p := by rw [h]; exact rdOf_map _ _ _
    have hbl := bulk_len all
    have hw : wrap64 ((pre.length : Int) + 1) = ((pre ++ [p]).length : Int) := wrap_len pre p (by omega)
    rw [bulk_cons] at hk
    refine Ev.step (fun k => by rw [crucibleref1_CleanPath.l0]) ?_
    simp only [hr, str_toList, List.length_map]
    refine ev_pos (by omega) (ev_pos (by omega) ?_)
    rw [cleanGo]
    have skip : p = [] ∨ p = [46] → Ev (fun k => crucibleref1_CleanPath.j2 k (all.map str) (kept.map str) (pre.length : Int) (str p) true) (cleanR ((cleanGo kept ps).map (joinS [47]))) := fun _ => by
      refine Ev.step (fun k => by rw [crucibleref1_CleanPath.j2]) ?_
      simp only [hw]
      exact ev_pos (by simp) (ih (pre ++ [p]) kept (by simp [h]) (by omega))
    by_cases e0 : p = []
    · rw [if_pos (.inl e0)]
      refine ev_pos e0 ?_
      have : (p == []) = true := by simpa using e0
      rw [this]
      exact skip (.inl e0)
    · refine ev_neg e0 ?_
      by_cases e1 : p = [46]
      · rw [if_pos (.inr e1)]
        have : (p == [46]) = true := by simpa using e1
        rw [this]
        exact skip (.inr e1)
      · rw [if_neg (by simp [e0, e1])]
        have : (p == [46]) = false := by simpa using e1
        rw [this]
        refine Ev.step (fun k => by rw [crucibleref1_CleanPath.j2]) ?_
        simp only [hw, hr, str_toList, List.length_map]
        refine ev_neg (by simp) ?_
        by_cases e2 : p = [46, 46]
        · rw [if_pos e2]
          refine ev_pos e2 ?_
          by_cases hz : kept = []
          · subst hz
            exact ev_pos rfl (Ev.now _)
          · have hp := List.length_pos_iff.2 hz
            have hkl := bulk_len kept
            rw [if_neg hz]
            refine ev_neg (by omega) ?_
            simp only [wrap_pred hp (by omega), Int.toNat_natCast, map_dropLast]
            refine ev_pos (by omega) (ev_pos (by omega) (ih (pre ++ [p]) kept.dropLast (by simp [h]) ?_))
            have := bulk_dropLast kept
            omega
        · rw [if_neg e2]
          have hkl := bulk_len kept
          refine ev_neg e2 (ev_pos (by omega) (ev_pos (by omega) (ev_pos (by omega) ?_)))
          have := ih (pre ++ [p]) (kept ++ [p]) (by simp [h]) (by rw [bulk_append, bulk_cons]; simp [bulk] at hk ⊢; omega)
          simpa using this

theorem nameMay_len {l : List UInt8} (h : nameMay l = true) : 1 ≤ l.length ∧ l.length ≤ 16 := by
  simp [nameMay] at h
  omega
theorem bt_zero (s : ByteArray) (h : 0 < s.size) : ∃ b rest, s.data.toList = b :: rest ∧ bt s 0 = b.toNat := by
  cases hd : s.data.toList with
  | nil => rw [← size_data, hd] at h; simp at h
  | cons b rest => exact ⟨b, rest, rfl, bt_pre s [] b rest hd⟩

theorem Clean_body {j : Nat → Bool → Option (ByteArray × Int)} (s : ByteArray) (hj : ∀ b, Ev (fun k => j k b) (if b = true then (str [], 200) else cleanR ((cleanGo [] (split 47 s.data.toList)).map (joinS [47])))) (t : Bool) (ht : t = nameMay s.data.toList) :
    Ev (fun k => if t = true then (if 0 < (s.size : Int) then j k (bt s 0 == 47) else none) else j k true) (cleanR (clean s.data.toList)) := by
  subst ht
  refine ev_split (fun h => ?_) (fun h => ?_)
  · have hl := nameMay_len h
    rw [size_data] at hl
    obtain ⟨b, rest, hd, hb⟩ := bt_zero s (by omega)
    refine ev_pos (by omega) ?_
    rw [hb]
    refine ev_eq (hj _) ?_
    unfold clean
    rw [h, hd]
    by_cases e : b = 47
    · subst e; rfl
    · have hne : ¬ ((b.toNat : Int) = 47) := fun h' => e (UInt8.toNat_inj.1 (by show b.toNat = 47; omega))
      simp [e, hne, beq_iff_eq]
  · refine ev_eq (hj true) ?_
    unfold clean
    rw [if_pos rfl, if_neg (by simp [h])]
    rfl
theorem ev_Clean (s : ByteArray) : Ev (fun k => path_Clean.f k s) (cleanR (clean s.data.toList)) := by
  refine Ev.congr (fun k => by rw [path_Clean.f]) ?_
  refine ev_bindc (x := nameMay s.data.toList) rfl ?_
  by_cases hm : nameMay s.data.toList = true
  · have hl := nameMay_len hm
    rw [size_data] at hl
    refine Clean_body s (j := fun k b => path_Clean.j0 k s b) (fun b => ?_) _ rfl
    refine Ev.step (fun k => by rw [path_Clean.j0]) ?_
    refine ev_ite (fun _ => Ev.now _) (fun _ => ev_bindc (Split_is s 47 (by omega)) ?_)
    have hb : bulk (split 47 s.data.toList) ≤ 1000 := by rw [bulk_split, size_data]; omega
    have := ev_Clean_loop (split 47 s.data.toList) hb (split 47 s.data.toList) [] [] rfl (by simpa [bulk] using hb)
    simpa using this
  · have hm' : nameMay s.data.toList = false := by simpa using hm
    rw [hm']
    refine ev_neg (by simp) (Ev.step (fun k => by rw [path_Clean.j0]) (ev_pos rfl (ev_const ?_)))
    unfold clean
    rw [if_neg (by simp [hm'])]
    rfl
theorem ev_CleanPath (s : ByteArray) (hs : s.size ≤ 4611686018427387904) : Ev (fun k => crucibleref1_CleanPath.f k s) (cleanR (clean s.data.toList)) := by
  refine Ev.congr (fun k => by rw [crucibleref1_CleanPath.f]) ?_
  refine ev_bind (ev_NameMay s hs) ?_
  by_cases hm : nameMay s.data.toList = true
  · have hl := nameMay_len hm
    rw [size_data] at hl
    refine Clean_body s (j := fun k b => crucibleref1_CleanPath.j0 k s b) (fun b => ?_) _ rfl
    refine Ev.step (fun k => by rw [crucibleref1_CleanPath.j0]) ?_
    refine ev_ite (fun _ => Ev.now _) (fun _ => ev_bind (ev_split1 s 47 (by omega)) ?_)
    have hb : bulk (split 47 s.data.toList) ≤ 1000 := by rw [bulk_split, size_data]; omega
    have := ev_CleanPath_loop (split 47 s.data.toList) hb (split 47 s.data.toList) [] [] rfl (by simpa [bulk] using hb)
    simpa using this
  · have hm' : nameMay s.data.toList = false := by simpa using hm
    rw [hm']
    refine ev_neg (by simp) (Ev.step (fun k => by rw [crucibleref1_CleanPath.j0]) (ev_pos rfl (ev_const ?_)))
    unfold clean
    rw [if_neg (by simp [hm'])]
    rfl

end Go.Proofs.YtilnamobmjngbaaDoor.Spec
end

section
/- Chapter 2 without the program: a clean path is its own clean path; texts put together are cut where they were put together. -/
namespace Go.Proofs.YtilnamobmjngbaaDoor.Spec

def stepC (o : Option (List (List UInt8))) (p : List UInt8) : Option (List (List UInt8)) := match o with
  | none => none
  | some kept => if p = [] ∨ p = [46] then some kept else if p = [46, 46] then (if kept = [] then none else some kept.dropLast) else some (kept ++ [p])
def endC (o : Option (List (List UInt8))) : Option (List (List UInt8)) := match o with
  | none => none
  | some kept => if kept = [] then none else some kept
theorem stepC_none (ps : List (List UInt8)) : ps.foldl stepC none = none := by
  induction ps with
  | nil => rfl
  | cons p ps ih => exact ih
theorem cleanGo_fold : ∀ (ps kept : List (List UInt8)), cleanGo kept ps = endC (ps.foldl stepC (some kept))
  | [], kept => rfl
  | p :: ps, kept => by
    rw [cleanGo, List.foldl_cons]
    simp only [stepC]
    split
    · exact cleanGo_fold ps kept
    · split
      · split
        · rw [stepC_none]; rfl
        · exact cleanGo_fold ps _
      · exact cleanGo_fold ps _

/-- a piece that stays -/
def Good (p : List UInt8) : Prop := p ≠ [] ∧ p ≠ [46] ∧ p ≠ [46, 46] ∧ 47 ∉ p
theorem fold_good : ∀ (ps kept : List (List UInt8)) (r : List (List UInt8)), ps.foldl stepC (some kept) = some r → (∀ p ∈ kept, Good p) → (∀ p ∈ ps, (47 : UInt8) ∉ p) →
    (∀ p ∈ r, Good p) ∧ bulk r ≤ bulk kept + bulk ps ∧ ∀ p ∈ r, p ∈ kept ∨ p ∈ ps
  | [], kept, r, h, hk, _ => by
    obtain rfl : kept = r := Option.some.inj h
    exact ⟨hk, by simp [bulk], fun p hp => .inl hp⟩
  | p :: ps, kept, r, h, hk, hp => by
    rw [List.foldl_cons] at h
    simp only [stepC] at h
    have hps : ∀ q ∈ ps, (47 : UInt8) ∉ q := fun q hq => hp q (List.mem_cons_of_mem _ hq)
    rw [bulk_cons]
    split at h
    · obtain ⟨h1, h2, h3⟩ := fold_good ps kept r h hk hps
      exact ⟨h1, by omega, fun q hq => (h3 q hq).imp_right (List.mem_cons_of_mem _)⟩
    · rename_i hn
      split at h
      · split at h
        · rw [stepC_none] at h; cases h
        · obtain ⟨h1, h2, h3⟩ := fold_good ps kept.dropLast r h (fun q hq => hk q ((List.dropLast_sublist _).subset hq)) hps
          have := bulk_dropLast kept
          exact ⟨h1, by omega, fun q hq => (h3 q hq).elim (fun h => .inl ((List.dropLast_sublist _).subset h)) (fun h => .inr (List.mem_cons_of_mem _ h))⟩
      · rename_i hd
        have hg : Good p := ⟨fun e => hn (.inl e), fun e => hn (.inr e), hd, hp p List.mem_cons_self⟩
        obtain ⟨h1, h2, h3⟩ := fold_good ps (kept ++ [p]) r h (fun q hq => by
          rcases List.mem_append.1 hq with hq | hq
          · exact hk q hq
          · rw [List.mem_singleton.1 hq]; exact hg) hps
        rw [bulk_append, bulk_cons] at h2
        have hb0 : bulk [] = 0 := rfl
        refine ⟨h1, by omega, fun q hq => ?_⟩
        rcases h3 q hq with h | h
        · rcases List.mem_append.1 h with h | h
          · exact .inl h
          · exact .inr (by rw [List.mem_singleton.1 h]; exact List.mem_cons_self)
        · exact .inr (List.mem_cons_of_mem _ h)
theorem fold_keeps : ∀ (ps kept : List (List UInt8)), (∀ p ∈ ps, Good p) → ps.foldl stepC (some kept) = some (kept ++ ps)
  | [], kept, _ => by simp
  | p :: ps, kept, h => by
    obtain ⟨h1, h2, h3, _⟩ := h p List.mem_cons_self
    rw [List.foldl_cons]
    simp only [stepC]
    rw [if_neg (by simp [h1, h2]), if_neg h3, fold_keeps ps (kept ++ [p]) (fun q hq => h q (List.mem_cons_of_mem _ hq))]
    simp

theorem split_append (c : UInt8) : ∀ u v : List UInt8, split c (u ++ c :: v) = split c u ++ split c v
  | [], v => by simp [split]
  | b :: u, v => by
    rw [List.cons_append, split, split_append c u v, split]
    split
    · rfl
    · cases e : split c u with
      | nil => exact absurd e (split_ne c u)
      | cons x r => simp
theorem joinS_cons2 (sg x y : List UInt8) (r : List (List UInt8)) : joinS sg (x :: y :: r) = x ++ sg ++ joinS sg (y :: r) := by simp [joinS]
theorem split_join (c : UInt8) : ∀ r : List (List UInt8), r ≠ [] → (∀ p ∈ r, c ∉ p) → split c (joinS [c] r) = r
  | [], h, _ => absurd rfl h
  | [x], _, h => by
    have : joinS [c] [x] = x := by simp [joinS]
    rw [this]; exact split_none c x (h x List.mem_cons_self)
  | x :: y :: r, _, h => by
    rw [joinS_cons2, List.append_assoc, List.singleton_append, split_append, split_none c x (h x List.mem_cons_self), split_join c (y :: r) (by simp) (fun p hp => h p (List.mem_cons_of_mem _ hp))]
    rfl
theorem joinS_len (c : UInt8) : ∀ r : List (List UInt8), r ≠ [] → (joinS [c] r).length + 1 = bulk r
  | [], h => absurd rfl h
  | [x], _ => by simp [joinS, bulk]
  | x :: y :: r, _ => by
    rw [joinS_cons2, bulk_cons, ← joinS_len c (y :: r) (by simp)]
    simp; omega
theorem split_mem (c : UInt8) : ∀ (l p : List UInt8), p ∈ split c l → c ∉ p ∧ ∀ b ∈ p, b ∈ l
  | [], p, h => by
    obtain rfl : p = [] := by simpa [split] using h
    exact ⟨by simp, fun b hb => by cases hb⟩
  | a :: l, p, h => by
    rw [split] at h
    split at h
    · rcases List.mem_cons.1 h with rfl | h
      · exact ⟨by simp, fun b hb => by cases hb⟩
      · obtain ⟨h1, h2⟩ := split_mem c l p h
        exact ⟨h1, fun b hb => List.mem_cons_of_mem _ (h2 b hb)⟩
    · rename_i hac
      cases e : split c l with
      | nil => exact absurd e (split_ne c l)
      | cons x r =>
        rw [e] at h
        simp only [List.headD_cons, List.tail_cons] at h
        rcases List.mem_cons.1 h with rfl | h
        · obtain ⟨h1, h2⟩ := split_mem c l x (by rw [e]; exact List.mem_cons_self)
          refine ⟨fun hm => ?_, fun b hb => ?_⟩
          · rcases List.mem_cons.1 hm with rfl | hm
            · exact hac rfl
            · exact h1 hm
          · rcases List.mem_cons.1 hb with rfl | hb
            · exact List.mem_cons_self
            · exact List.mem_cons_of_mem _ (h2 b hb)
        · obtain ⟨h1, h2⟩ := split_mem c l p (by rw [e]; exact List.mem_cons_of_mem _ h)
          exact ⟨h1, fun b hb => List.mem_cons_of_mem _ (h2 b hb)⟩
theorem mem_joinS (sg : List UInt8) (b : UInt8) : ∀ r : List (List UInt8), b ∈ joinS sg r → b ∈ sg ∨ ∃ p ∈ r, b ∈ p
  | [], h => by simp [joinS] at h
  | [x], h => .inr ⟨x, List.mem_cons_self, by simpa [joinS] using h⟩
  | x :: y :: r, h => by
    rw [joinS_cons2] at h
    simp only [List.mem_append] at h
    rcases h with (h | h) | h
    · exact .inr ⟨x, List.mem_cons_self, h⟩
    · exact .inl h
    · rcases mem_joinS sg b (y :: r) h with h | ⟨p, hp, hb⟩
      · exact .inl h
      · exact .inr ⟨p, List.mem_cons_of_mem _ hp, hb⟩

/-- what a clean path is -/
theorem clean_some {l m : List UInt8} (h : clean l = some m) : ∃ r : List (List UInt8), r ≠ [] ∧ (∀ p ∈ r, Good p) ∧ m = joinS [47] r ∧ (split 47 l).foldl stepC (some []) = some r ∧ nameMay m = true ∧ m.head? ≠ some 47 ∧ m.length ≤ l.length := by
  unfold clean at h
  split at h
  · rename_i hc
    obtain ⟨r, hr, rfl⟩ := Option.map_eq_some_iff.1 h
    rw [cleanGo_fold] at hr
    cases hf : (split 47 l).foldl stepC (some []) with
    | none => rw [hf] at hr; cases hr
    | some k =>
      rw [hf] at hr
      simp only [endC] at hr
      split at hr
      · cases hr
      · rename_i hk
        obtain rfl : k = r := Option.some.inj hr
        obtain ⟨h1, h2, h3⟩ := fold_good (split 47 l) [] k hf (fun p hp => by cases hp) (fun p hp => (split_mem 47 l p hp).1)
        have hb0 : bulk [] = 0 := rfl
        have hl := joinS_len 47 k hk
        rw [bulk_split] at h2
        have hnl := nameMay_len hc.1
        refine ⟨k, hk, h1, rfl, rfl, ?_, ?_, by omega⟩
        · have hall : (joinS [47] k).all (fun b => nameByte b.toNat) = true := by
            rw [List.all_eq_true]
            intro b hb
            rcases mem_joinS [47] b k hb with hb | ⟨p, hp, hb⟩
            · rw [List.mem_singleton.1 hb]; rfl
            · rcases h3 p hp with h | h
              · cases h
              · have := (split_mem 47 l p h).2 b hb
                have ha : l.all (fun b => nameByte b.toNat) = true := by
                  have := hc.1
                  simp only [nameMay, Bool.and_eq_true] at this
                  exact this.1.1
                exact List.all_eq_true.1 ha b this
          have hne : 1 ≤ (joinS [47] k).length := by
            cases k with
            | nil => exact absurd rfl hk
            | cons x r =>
              have := (h1 x List.mem_cons_self).1
              have := List.length_pos_iff.2 this
              simp [joinS]; omega
          simp only [nameMay, hall, Bool.true_and, Bool.and_eq_true, decide_eq_true_eq]
          omega
        · cases k with
          | nil => exact absurd rfl hk
          | cons x r =>
            obtain ⟨hx, _, _, h47⟩ := h1 x List.mem_cons_self
            cases x with
            | nil => exact absurd rfl hx
            | cons b x =>
              simp only [joinS, List.cons_append, List.head?_cons]
              intro e
              injection e with e
              exact h47 (by rw [e]; exact List.mem_cons_self)
  · cases h
/-- the pieces of a path are kept -/
theorem clean_of {r : List (List UInt8)} {ps : List (List UInt8)} (hr : r ≠ []) {l : List UInt8} (hs : split 47 l = ps) (hf : ps.foldl stepC (some []) = some r) (hn : nameMay l = true) (hh : l.head? ≠ some 47) : clean l = some (joinS [47] r) := by
  unfold clean
  rw [if_pos ⟨hn, hh⟩, cleanGo_fold, hs, hf]
  simp [endC, hr]
theorem clean_again {l m : List UInt8} (h : clean l = some m) : clean m = some m := by
  obtain ⟨r, hr, hg, rfl, _, hn, hh, _⟩ := clean_some h
  exact clean_of hr (split_join 47 r hr (fun p hp => (hg p hp).2.2.2)) (by simpa using fold_keeps r [] hg) hn hh
end Go.Proofs.YtilnamobmjngbaaDoor.Spec
end

section
/- Paths, without the program. -/
namespace Go.Proofs.YtilnamobmjngbaaDoor.Spec
open Go.RowKit Go.Proofs.YtilnamobmjngbaaDoorW.PrintWords Go.Proofs.YtilnamobmjngbaaDoor.P

/-- is it a path? -/
def isP (l : List UInt8) : Bool := decide (clean l = some l)
theorem isP_of {o : Option (List UInt8)} {l : List UInt8} : ((if (cleanR o).2 = 0 then some ((cleanR o).1.toList == l) else some false) : Option Bool) = some (decide (o = some l)) := by
  cases o with
  | none => rfl
  | some m =>
    simp only [cleanR, if_true, str_toList, Option.some.injEq]
    by_cases h : m = l <;> simp [h]
theorem ev_Is (s : ByteArray) : Ev (fun k => path_Is.f k s) (isP s.data.toList) := by
  refine Ev.congr (fun k => by rw [path_Is.f]) (ev_bind (ev_Clean s) ?_)
  refine ev_const ?_
  rw [toList_data s]
  exact isP_of
theorem isP_names {l : List UInt8} (h : isP l = true) : nameMay l = true ∧ l ≠ [] := by
  have := of_decide_eq_true h
  obtain ⟨r, _, _, _, _, hn, _, _⟩ := clean_some this
  have h1 := nameMay_len hn
  exact ⟨hn, fun e => by rw [e] at h1; simp at h1⟩
theorem nameMay_mem {l : List UInt8} (h : nameMay l = true) {b : UInt8} (hb : b ∈ l) : nameByte b.toNat = true := by
  simp only [nameMay, Bool.and_eq_true] at h
  exact List.all_eq_true.1 h.1.1 b hb
theorem isP_size {l : List UInt8} (h : isP l = true) : l.length ≤ 16 := (nameMay_len (isP_names h).1).2
end Go.Proofs.YtilnamobmjngbaaDoor.Spec
end

section
/- The reference's path, without the program. -/
namespace Go.Proofs.YtilnamobmjngbaaDoor.Spec
open Go.RowKit Go.Proofs.YtilnamobmjngbaaDoorW.PrintWords Go.Proofs.YtilnamobmjngbaaDoor.P

theorem ev_PathMay (s : ByteArray) (hs : s.size ≤ 4611686018427387904) : Ev (fun k => crucibleref1_PathMay.f k s) (isP s.data.toList) := by
  refine Ev.congr (fun k => by rw [crucibleref1_PathMay.f]) (ev_bind (ev_CleanPath s hs) ?_)
  refine ev_const ?_
  rw [toList_data s]
  exact isP_of
end Go.Proofs.YtilnamobmjngbaaDoor.Spec
end

section
/- Texts of bytes from 32 to 126, without the program. -/
namespace Go.Proofs.YtilnamobmjngbaaDoor.Spec
open Go.RowKit Go.Proofs.YtilnamobmjngbaaDoorW.PrintWords Go.Proofs.YtilnamobmjngbaaDoor.P

def plainB (b : UInt8) : Bool := decide (32 ≤ b.toNat) && decide (b.toNat ≤ 126)
theorem plain_cases (b : UInt8) : (plainB b = true ∧ ¬ ((b.toNat : Int) < 32) ∧ ¬ ((b.toNat : Int) > 126)) ∨ (plainB b = false ∧ ((b.toNat : Int) < 32 ∨ (b.toNat : Int) > 126)) := by
  unfold plainB
  by_cases h1 : 32 ≤ b.toNat <;> by_cases h2 : b.toNat ≤ 126
  · left; simp [h1, h2]; omega
  · right; refine ⟨by simp [h2], by omega⟩
  · right; refine ⟨by simp [h1], by omega⟩
  · right; refine ⟨by simp [h1], by omega⟩
theorem ev_PlainA_loop (s : ByteArray) (most : Nat) (hs : s.size ≤ 4611686018427387904) : ∀ rest pre : List UInt8, s.data.toList = pre ++ rest → pre.all plainB = true →
    Ev (fun k => name_Plain.l0 k s (most : Int) (s.size : Int) (pre.length : Int)) (s.data.toList.all plainB && decide (s.size ≤ most)) := by
  intro rest
  induction rest with
  | nil =>
    intro pre h ha
    have hl : s.size = pre.length := by rw [size_le h]; simp
    refine Ev.step (fun k => by rw [name_Plain.l0]) (ev_neg (by omega) (ev_const ?_))
    rw [h, List.append_nil, ha]
    simp
  | cons b rest ih =>
    intro pre h ha
    have hlt := size_pre s pre b rest h
    have hb := bt_pre s pre b rest h
    have hw : wrap64 ((pre.length : Int) + 1) = ((pre ++ [b]).length : Int) := wrap_len pre b (by omega)
    refine Ev.step (fun k => by rw [name_Plain.l0]) ?_
    simp only [hb, hw]
    refine ev_pos (by omega) (ev_pos (by omega) (ev_pos (by omega) ?_))
    rcases plain_cases b with ⟨hp, h1, h2⟩ | ⟨hp, h12⟩
    · exact ev_neg h1 (ev_neg h2 (ih (pre ++ [b]) (by simp [h]) (by simp [ha, hp])))
    · have hf : (s.data.toList.all plainB && decide (s.size ≤ most)) = false := by rw [h]; simp [hp]
      rw [hf]
      exact ev_split (fun _ => Ev.now _) (fun h1 => ev_pos (by omega) (Ev.now _))
theorem ev_PlainA (s : ByteArray) (most : Nat) (hs : s.size ≤ 4611686018427387904) : Ev (fun k => name_Plain.f k s (most : Int)) (s.data.toList.all plainB && decide (s.size ≤ most)) :=
  Ev.congr (fun k => by rw [name_Plain.f]; rfl) (ev_PlainA_loop s most hs s.data.toList [] rfl rfl)
theorem ev_PlainR_loop (s : ByteArray) (least most : Nat) (hs : s.size ≤ 4611686018427387904) : ∀ rest pre : List UInt8, s.data.toList = pre ++ rest → pre.all plainB = true →
    Ev (fun k => crucibleref1_Plain.l0 k s (least : Int) (most : Int) (pre.length : Int)) (s.data.toList.all plainB && decide (least ≤ s.size) && decide (s.size ≤ most)) := by
  intro rest
  induction rest with
  | nil =>
    intro pre h ha
    have hl : s.size = pre.length := by rw [size_le h]; simp
    refine Ev.step (fun k => by rw [crucibleref1_Plain.l0]) (ev_neg (by omega) ?_)
    rw [h, List.append_nil, ha]
    refine ev_split (fun h1 => ev_const ?_) (fun h1 => ev_const ?_)
    · have : least ≤ s.size := by omega
      simp [this]
    · have : ¬ least ≤ s.size := by omega
      simp [this]
  | cons b rest ih =>
    intro pre h ha
    have hlt := size_pre s pre b rest h
    have hb := bt_pre s pre b rest h
    have hw : wrap64 ((pre.length : Int) + 1) = ((pre ++ [b]).length : Int) := wrap_len pre b (by omega)
    refine Ev.step (fun k => by rw [crucibleref1_Plain.l0]) ?_
    simp only [hb, hw]
    refine ev_pos (by omega) (ev_pos (by omega) ?_)
    rcases plain_cases b with ⟨hp, h1, h2⟩ | ⟨hp, h12⟩
    · exact ev_neg h1 (ev_neg h2 (ih (pre ++ [b]) (by simp [h]) (by simp [ha, hp])))
    · have hf : (s.data.toList.all plainB && decide (least ≤ s.size) && decide (s.size ≤ most)) = false := by rw [h]; simp [hp]
      rw [hf]
      exact ev_split (fun _ => Ev.now _) (fun h1 => ev_pos (by omega) (Ev.now _))
theorem ev_PlainR (s : ByteArray) (least most : Nat) (hs : s.size ≤ 4611686018427387904) : Ev (fun k => crucibleref1_Plain.f k s (least : Int) (most : Int)) (s.data.toList.all plainB && decide (least ≤ s.size) && decide (s.size ≤ most)) :=
  Ev.congr (fun k => by rw [crucibleref1_Plain.f]; rfl) (ev_PlainR_loop s least most hs s.data.toList [] rfl rfl)
end Go.Proofs.YtilnamobmjngbaaDoor.Spec
end

section
/- Paths and lists of them, texts compared, without the program. -/
namespace Go.Proofs.YtilnamobmjngbaaDoor.Spec
open Go.RowKit Go.Proofs.YtilnamobmjngbaaDoorW.PrintWords Go.Proofs.YtilnamobmjngbaaDoor.P

def allP (xs : List ByteArray) (most : Nat) : Bool := xs.all (fun x => isP x.data.toList) && decide (xs.length ≤ most)

theorem ev_All_loop (xs : List ByteArray) (most : Nat) (hx : xs.length ≤ 4611686018427387904) : ∀ rest pre : List ByteArray, xs = pre ++ rest → (pre.all fun x => isP x.data.toList) = true →
    Ev (fun k => path_All.l0 k xs (most : Int) xs (xs.length : Int) (pre.length : Int)) (allP xs most) := by
  intro rest
  induction rest with
  | nil =>
    intro pre h ha
    refine Ev.step (fun k => by rw [path_All.l0]) (ev_neg (by rw [h]; simp) (ev_const ?_))
    rw [List.append_nil] at h
    subst h
    simp only [allP, ha, Bool.true_and, Option.some.injEq, decide_eq_decide]
    omega
  | cons x rest ih =>
    intro pre h ha
    have hl : xs.length = pre.length + (rest.length + 1) := by rw [h]; simp
    have hr : rdOf ByteArray.empty xs (pre.length : Int) = x := by rw [h]; exact rdOf_pre _ _ _ _
    have hw : wrap64 ((pre.length : Int) + 1) = ((pre ++ [x]).length : Int) := wrap_len pre x (by omega)
    refine Ev.step (fun k => by rw [path_All.l0]) ?_
    simp only [hr, hw]
    refine ev_pos (by omega) (ev_pos (by omega) (ev_pos (by omega) (ev_bind (ev_Is x) ?_)))
    cases hp : isP x.data.toList with
    | true => exact ev_pos rfl (ih (pre ++ [x]) (by simp [h]) (by simp [ha, hp]))
    | false =>
      refine ev_neg (by simp) (ev_const ?_)
      rw [show allP xs most = false by simp [allP, h, hp]]
theorem ev_All (xs : List ByteArray) (most : Nat) (hx : xs.length ≤ 4611686018427387904) : Ev (fun k => path_All.f k xs (most : Int)) (allP xs most) :=
  Ev.congr (fun k => by rw [path_All.f]; rfl) (ev_All_loop xs most hx xs [] rfl rfl)

theorem ev_Same_loop (xs ys : List ByteArray) (hl : xs.length = ys.length) (hx : xs.length ≤ 4611686018427387904) : ∀ rest resty pre prey : List ByteArray, xs = pre ++ rest → ys = prey ++ resty → pre = prey →
    Ev (fun k => cruciblelaw0_SameTexts.l0 k xs ys (pre.length : Int)) (decide (xs = ys)) := by
  intro rest
  induction rest with
  | nil =>
    intro resty pre prey h hy e
    subst e
    have : resty = [] := by
      rw [h, hy] at hl; simp at hl; exact hl
    subst this
    refine Ev.step (fun k => by rw [cruciblelaw0_SameTexts.l0]) (ev_neg (by rw [h]; simp) (ev_const ?_))
    rw [h, hy]; simp
  | cons x rest ih =>
    intro resty pre prey h hy e
    subst e
    have hlx : xs.length = pre.length + (rest.length + 1) := by rw [h]; simp
    cases resty with
    | nil => rw [h, hy] at hl; simp at hl
    | cons y resty =>
      have hr : rdOf ByteArray.empty xs (pre.length : Int) = x := by rw [h]; exact rdOf_pre _ _ _ _
      have hry : rdOf ByteArray.empty ys (pre.length : Int) = y := by rw [hy]; exact rdOf_pre _ _ _ _
      have hw : wrap64 ((pre.length : Int) + 1) = ((pre ++ [x]).length : Int) := wrap_len pre x (by omega)
      refine Ev.step (fun k => by rw [cruciblelaw0_SameTexts.l0]) ?_
      simp only [hr, hry, hw]
      refine ev_pos (by omega) (ev_pos (by omega) (ev_pos (by omega) (ev_split (fun e => ?_) (fun e => ev_const ?_))))
      · have exy : x = y := data_inj (by rw [← toList_data, ← toList_data, e])
        exact ih resty (pre ++ [x]) (prey := pre ++ [y]) (by simp [h]) (by simp [hy]) (by rw [exy])
      · have : xs ≠ ys := by
          intro h2
          rw [h, hy] at h2
          have := List.append_cancel_left h2
          injection this with h3 _
          exact e (by rw [h3])
        simp [this]
theorem ev_Same (xs ys : List ByteArray) (hx : xs.length ≤ 4611686018427387904) : Ev (fun k => cruciblelaw0_SameTexts.f k xs ys) (decide (xs = ys)) := by
  refine Ev.congr (fun k => by rw [cruciblelaw0_SameTexts.f]) ?_
  by_cases hl : xs.length = ys.length
  · exact ev_pos (by omega) (ev_Same_loop xs ys hl hx xs ys [] [] rfl rfl rfl)
  · refine ev_neg (by omega) (ev_const ?_)
    have : xs ≠ ys := fun e => hl (by rw [e])
    simp [this]

theorem allP_all {xs : List ByteArray} {m : Nat} (h : allP xs m = true) : (∀ x ∈ xs, isP x.data.toList = true) ∧ xs.length ≤ m := by
  simp only [allP, Bool.and_eq_true, decide_eq_true_eq] at h
  exact ⟨fun x hx => List.all_eq_true.1 h.1 x hx, h.2⟩
theorem bulk_paths {xs : List ByteArray} {m : Nat} (h : allP xs m = true) : bulk (datas xs) ≤ 17 * m := by
  obtain ⟨h1, h2⟩ := allP_all h
  have : ∀ ys : List ByteArray, (∀ x ∈ ys, isP x.data.toList = true) → bulk (datas ys) ≤ 17 * ys.length := by
    intro ys
    induction ys with
    | nil => intro _; simp [bulk]
    | cons y ys ih =>
      intro hy
      have := ih (fun x hx => hy x (List.mem_cons_of_mem _ hx))
      have h16 := isP_size (hy y List.mem_cons_self)
      rw [datas, List.map_cons, bulk_cons, List.length_cons]
      have e : bulk (ys.map fun x => x.data.toList) = bulk (datas ys) := rfl
      omega
  have := this xs h1
  omega
end Go.Proofs.YtilnamobmjngbaaDoor.Spec
end

section
/- Edges without the program: which may be. -/
namespace Go.Proofs.YtilnamobmjngbaaDoor.Spec
open Go.RowKit Go.Proofs.YtilnamobmjngbaaDoorW.PrintWords Go.Proofs.YtilnamobmjngbaaDoor.P

set_option linter.unusedSimpArgs false
set_option linter.unusedVariables false
/-- a text that may be a command -/
def cmdOk (l : List UInt8) : Bool := l.all plainB && decide (1 ≤ l.length) && decide (l.length ≤ 256)
theorem ev_Command (s : ByteArray) (hs : s.size ≤ 4611686018427387904) : Ev (fun k => graph_Command.f k s) (cmdOk s.data.toList) := by
  refine Ev.congr (fun k => by rw [graph_Command.f]) ?_
  have hl := size_data s
  refine ev_split (fun h => ev_const ?_) (fun h => ev_bind (ev_PlainA s 256 hs) (ev_const ?_))
  · rw [toList_data] at h
    rw [h]; rfl
  · rw [toList_data] at h
    have h1 : 1 ≤ s.size := by rw [← hl]; exact List.length_pos_iff.2 h
    simp only [cmdOk, hl, h1, decide_true, Bool.and_true]

/-! ### Edges -/
def edgeOk (o i m r : List ByteArray) (cmd pool : ByteArray) : Bool :=
  allP o 8 && (allP i 8 && (allP m 8 && (allP r 8 && (decide (0 < o.length) && (cmdOk cmd.data.toList && (pool.data.toList.isEmpty || nameMay pool.data.toList))))))
structure EdgeIs (o i m r : List ByteArray) (cmd pool : ByteArray) : Prop where
  po : allP o 8 = true
  pi : allP i 8 = true
  pm : allP m 8 = true
  pr : allP r 8 = true
  one : 0 < o.length
  pc : cmdOk cmd.data.toList = true
  pp : pool.data.toList = [] ∨ nameMay pool.data.toList = true
theorem edgeOk_is {o i m r : List ByteArray} {cmd pool : ByteArray} (h : edgeOk o i m r cmd pool = true) : EdgeIs o i m r cmd pool := by
  simp only [edgeOk, Bool.and_eq_true, Bool.or_eq_true, decide_eq_true_eq, List.isEmpty_iff] at h
  exact ⟨h.1, h.2.1, h.2.2.1, h.2.2.2.1, h.2.2.2.2.1, h.2.2.2.2.2.1, h.2.2.2.2.2.2⟩
theorem ev_Edge (o i m r : List ByteArray) (cmd pool : ByteArray) (ho : o.length ≤ 4611686018427387904) (hi : i.length ≤ 4611686018427387904) (hm : m.length ≤ 4611686018427387904) (hr : r.length ≤ 4611686018427387904) (hc : cmd.size ≤ 4611686018427387904) :
    Ev (fun k => graph_Edge.f k o i m r cmd pool) (edgeOk o i m r cmd pool) := by
  refine Ev.congr (fun k => by rw [graph_Edge.f]) ?_
  unfold edgeOk
  refine ev_bind (ev_All o 8 ho) ?_
  cases allP o 8 with
  | false => exact ev_neg (by simp) (Ev.now _)
  | true =>
    refine ev_pos rfl (ev_bind (ev_All i 8 hi) ?_)
    cases allP i 8 with
    | false => exact ev_neg (by simp) (Ev.now _)
    | true =>
      refine ev_pos rfl (ev_bind (ev_All m 8 hm) ?_)
      cases allP m 8 with
      | false => exact ev_neg (by simp) (Ev.now _)
      | true =>
        refine ev_pos rfl (ev_bind (ev_All r 8 hr) ?_)
        cases allP r 8 with
        | false => exact ev_neg (by simp) (Ev.now _)
        | true =>
          refine ev_pos rfl ?_
          by_cases h0 : 0 < o.length
          · refine ev_pos h0 (ev_bind (ev_Command cmd hc) ?_)
            simp only [Bool.true_and, h0, decide_true]
            cases cmdOk cmd.data.toList with
            | false => exact ev_neg (by simp) (Ev.now _)
            | true =>
              refine ev_pos rfl ?_
              simp only [Bool.true_and]
              refine ev_split (fun hp => ev_const ?_) (fun hp => ev_const ?_)
              · rw [toList_data] at hp
                rw [hp]; rfl
              · rw [toList_data] at hp
                unfold name_May.f
                have : pool.data.toList.isEmpty = false := by simpa using hp
                rw [this]; rfl
          · refine ev_neg h0 (ev_const ?_)
            simp [h0]
theorem cmd_len {cmd : ByteArray} (h : cmdOk cmd.data.toList = true) : cmd.size ≤ 256 := by
  simp only [cmdOk, Bool.and_eq_true, decide_eq_true_eq] at h
  rw [← size_data]; exact h.2
end Go.Proofs.YtilnamobmjngbaaDoor.Spec
end

section
/- Chapter 12 in plain lists: which disks may be (the program's and the reference's answer), and what follows. -/
namespace Go.Proofs.YtilnamobmjngbaaDoor.Spec
open Go.RowKit Go.Proofs.YtilnamobmjngbaaDoorW.PrintWords Go.Proofs.YtilnamobmjngbaaDoor.P

theorem rdF_lt (l : List (P.S72)) (j : Nat) (h : j < l.length) : rd_T72 l (j : Int) = l[j] := by
  simp [rd_T72, List.getD_eq_getElem?_getD, List.getElem?_eq_getElem h]
theorem toList_inj {a b : ByteArray} (h : a.toList = b.toList) : a = b := data_inj (by rw [← toList_data, ← toList_data, h])
def fileOk (clk : Int) (x : P.S72) : Bool := isP x.f0.data.toList && (decide (0 ≤ x.f1 ∧ x.f1 ≤ 2147483647) && decide (1 ≤ x.f2 ∧ x.f2 ≤ clk))
def timeIn (l : List (P.S72)) (t : Int) : Bool := l.any fun y => decide (y.f2 = t)
def oddAt (clk : Int) (l : List (P.S72)) (i : Nat) : Bool :=
  !(fileOk clk (rd_T72 l (i : Int))) || (timeIn (l.take i) (rd_T72 l (i : Int)).f2 || (decide (0 < i) && !(Op.bytesLess (rd_T72 l ((i - 1 : Nat) : Int)).f0.toList (rd_T72 l (i : Int)).f0.toList)))
def mayGo (clk : Int) (l : List (P.S72)) : Nat → Bool
  | 0 => true
  | n + 1 => !(oddAt clk l (l.length - (n + 1))) && mayGo clk l n
def mayD (clk : Int) (l : List (P.S72)) : Bool := mayGo clk l l.length && (decide (0 ≤ clk) && decide (clk ≤ 1048576) && decide (l.length ≤ 64))
theorem any_f2 (l : List (P.S72)) (t : Int) : (l.map (·.f2)).any (fun y => decide (y = t)) = timeIn l t := by
  rw [List.any_map]; rfl
theorem ev_dm_step (clk : Int) (l : List (P.S72)) (i : Nat) : Ev (fun k => dm_step k clk l i) (oddAt clk l i) := by
  refine Ev.congr (fun k => by rw [dm_step]) (ev_bind (ev_Is _) ?_)
  unfold oddAt fileOk
  cases hp : isP (rd_T72 l (i : Int)).f0.data.toList with
  | false => exact ev_pos rfl (ev_const (by simp))
  | true =>
    refine ev_neg (by simp) ?_
    by_cases h1 : 0 ≤ (rd_T72 l (i : Int)).f1 ∧ (rd_T72 l (i : Int)).f1 ≤ 2147483647
    · refine ev_neg (by simpa using h1) ?_
      rw [decide_eq_true h1]
      by_cases h2 : (rd_T72 l (i : Int)).f2 < 1
      · refine ev_pos h2 (ev_const ?_)
        rw [decide_eq_false (fun h => by omega)]; simp
      · refine ev_neg h2 ?_
        by_cases h3 : clk < (rd_T72 l (i : Int)).f2
        · refine ev_pos h3 (ev_const ?_)
          rw [decide_eq_false (fun h => by omega)]; simp
        · refine ev_neg h3 ?_
          rw [decide_eq_true (show 1 ≤ (rd_T72 l (i : Int)).f2 ∧ (rd_T72 l (i : Int)).f2 ≤ clk by omega), any_f2]
          cases ht : timeIn (l.take i) (rd_T72 l (i : Int)).f2 with
          | true => exact ev_pos rfl (ev_const (by simp))
          | false =>
            refine ev_neg (by simp) ?_
            by_cases h4 : 0 < i ∧ Op.bytesLess (rd_T72 l ((i - 1 : Nat) : Int)).f0.toList (rd_T72 l (i : Int)).f0.toList = false
            · exact ev_pos h4 (ev_const (by simp [h4.1, h4.2]))
            · refine ev_neg h4 (ev_const ?_)
              by_cases h5 : 0 < i
              · have : Op.bytesLess (rd_T72 l ((i - 1 : Nat) : Int)).f0.toList (rd_T72 l (i : Int)).f0.toList = true := by
                  cases hb : Op.bytesLess (rd_T72 l ((i - 1 : Nat) : Int)).f0.toList (rd_T72 l (i : Int)).f0.toList with
                  | true => rfl
                  | false => exact absurd ⟨h5, hb⟩ h4
                simp [this]
              · simp [h5]
    · refine ev_pos (by simpa using h1) (ev_const ?_)
      rw [decide_eq_false h1]; simp
theorem ev_dm_go (clk : Int) (l : List (P.S72)) : ∀ n, Ev (fun k => dm_go k clk l n) (mayGo clk l n)
  | 0 => Ev.now _
  | n + 1 => by
    refine Ev.congr (fun k => by rw [dm_go]) (ev_bind (ev_dm_step clk l _) ?_)
    rw [mayGo]
    cases oddAt clk l (l.length - (n + 1)) with
    | true => exact ev_pos rfl (Ev.now _)
    | false => exact ev_neg (by simp) (ev_dm_go clk l n)
theorem ev_May12 (clk : Int) (l : List (P.S72)) (hl : l.length ≤ 1000000) (hc : clk ≤ 9223372036854775807) : Ev (fun k => disk_May.f k clk l) (mayD clk l) := by
  refine Ev.congr (fun k => by rw [disk_May.f]) (ev_pos (And.intro hl hc) (ev_bind (ev_dm_go clk l l.length) ?_))
  unfold mayD
  cases mayGo clk l l.length with
  | true => exact ev_pos rfl (Ev.now _)
  | false => exact ev_neg (by simp) (Ev.now _)

/-! ### the reference -/
theorem rm_in_is (l : List (P.S72)) (i : Nat) (t : Int) (hi : i ≤ l.length) : ∀ n, n ≤ i → rm_in l i t n = timeIn ((l.take i).drop (i - n)) t
  | 0, _ => by
    rw [rm_in, Nat.sub_zero, List.drop_eq_nil_of_le (by simp; omega)]
    rfl
  | n + 1, h => by
    have hlt : i - (n + 1) < (l.take i).length := by rw [List.length_take]; omega
    rw [rm_in, rm_in_is l i t hi n (by omega), List.drop_eq_getElem_cons hlt, show i - (n + 1) + 1 = i - n by omega, rdF_lt l _ (by omega)]
    simp only [timeIn, List.any_cons, List.getElem_take]
    by_cases h2 : l[i - (n + 1)].f2 = t
    · simp [h2]
    · simp [h2]
theorem rm_in_all (l : List (P.S72)) (i : Nat) (t : Int) (hi : i ≤ l.length) : rm_in l i t i = timeIn (l.take i) t := by
  rw [rm_in_is l i t hi i (Nat.le_refl _), Nat.sub_self, List.drop_zero]
theorem ev_rm_odd (clk : Int) (l : List (P.S72)) (i : Nat) (hs : (rd_T72 l (i : Int)).f0.size ≤ 4611686018427387904) : Ev (fun k => rm_odd k clk l i) (!(fileOk clk (rd_T72 l (i : Int))) || (decide (0 < i) && !(Op.bytesLess (rd_T72 l ((i - 1 : Nat) : Int)).f0.toList (rd_T72 l (i : Int)).f0.toList))) := by
  refine Ev.congr (fun k => by rw [rm_odd]) (ev_bind (ev_PathMay _ hs) ?_)
  unfold fileOk
  cases hp : isP (rd_T72 l (i : Int)).f0.data.toList with
  | false => exact ev_pos rfl (ev_const (by simp))
  | true =>
    refine ev_neg (by simp) ?_
    by_cases h1 : 0 ≤ (rd_T72 l (i : Int)).f1 ∧ (rd_T72 l (i : Int)).f1 ≤ 2147483647
    · refine ev_neg (by simpa using h1) ?_
      rw [decide_eq_true h1]
      by_cases h2 : 1 ≤ (rd_T72 l (i : Int)).f2 ∧ (rd_T72 l (i : Int)).f2 ≤ clk
      · refine ev_neg (by simpa using h2) ?_
        rw [decide_eq_true h2]
        by_cases h4 : 0 < i ∧ Op.bytesLess (rd_T72 l ((i - 1 : Nat) : Int)).f0.toList (rd_T72 l (i : Int)).f0.toList = false
        · exact ev_pos h4 (ev_const (by simp [h4.1, h4.2]))
        · refine ev_neg h4 (ev_const ?_)
          by_cases h5 : 0 < i
          · have : Op.bytesLess (rd_T72 l ((i - 1 : Nat) : Int)).f0.toList (rd_T72 l (i : Int)).f0.toList = true := by
              cases hb : Op.bytesLess (rd_T72 l ((i - 1 : Nat) : Int)).f0.toList (rd_T72 l (i : Int)).f0.toList with
              | true => rfl
              | false => exact absurd ⟨h5, hb⟩ h4
            simp [this]
          · simp [h5]
      · refine ev_pos (by simpa using h2) (ev_const ?_)
        rw [decide_eq_false h2]; simp
    · refine ev_pos (by simpa using h1) (ev_const ?_)
      rw [decide_eq_false h1]; simp
theorem ev_rm_go (clk : Int) (l : List (P.S72)) (hs : ∀ x ∈ l, x.f0.size ≤ 4611686018427387904) : ∀ n, n ≤ l.length → Ev (fun k => rm_go k clk l n) (mayGo clk l n)
  | 0, _ => Ev.now _
  | n + 1, h => by
    have hlt : l.length - (n + 1) < l.length := by omega
    refine Ev.congr (fun k => by rw [rm_go]) (ev_bind (ev_rm_odd clk l _ (by rw [rdF_lt l _ hlt]; exact hs _ (List.getElem_mem hlt))) ?_)
    rw [mayGo, oddAt, rm_in_all l _ _ (by omega)]
    cases hA : !(fileOk clk (rd_T72 l ((l.length - (n + 1) : Nat) : Int))) with
    | true =>
      refine ev_pos (by simp) (ev_const (by simp))
    | false =>
      cases hB : decide (0 < l.length - (n + 1)) && !(Op.bytesLess (rd_T72 l ((l.length - (n + 1) - 1 : Nat) : Int)).f0.toList (rd_T72 l ((l.length - (n + 1) : Nat) : Int)).f0.toList) with
      | true => exact ev_pos (by simp) (ev_const (by simp))
      | false =>
        refine ev_neg (by simp) ?_
        cases timeIn (l.take (l.length - (n + 1))) (rd_T72 l ((l.length - (n + 1) : Nat) : Int)).f2 with
        | true => exact ev_pos rfl (ev_const (by simp))
        | false => exact ev_neg (by simp) (ev_eq (ev_rm_go clk l hs n (by omega)) (by simp))
theorem ev_DiskMay (clk : Int) (l : List (P.S72)) (hl : l.length ≤ 1000000) (hs : ∀ x ∈ l, x.f0.size ≤ 4611686018427387904) : Ev (fun k => crucibleref12_DiskMay.f k clk l) (mayD clk l) := by
  refine Ev.congr (fun k => by rw [crucibleref12_DiskMay.f]) (ev_pos hl (ev_bind (ev_rm_go clk l hs l.length (Nat.le_refl _)) ?_))
  unfold mayD
  cases mayGo clk l l.length with
  | true => exact ev_pos rfl (Ev.now _)
  | false => exact ev_neg (by simp) (Ev.now _)

/-! ### what follows for a disk that may be -/
theorem mayGo_at {clk : Int} {l : List (P.S72)} : ∀ {n}, n ≤ l.length → mayGo clk l n = true → ∀ i, l.length - n ≤ i → i < l.length → oddAt clk l i = false
  | 0, _, _, i, h1, h2 => by omega
  | n + 1, hn, h, i, h1, h2 => by
    rw [mayGo, Bool.and_eq_true, Bool.not_eq_true'] at h
    by_cases e : i = l.length - (n + 1)
    · rw [e]; exact h.1
    · exact mayGo_at (by omega) h.2 i (by omega) h2
theorem mayGo_of {clk : Int} {l : List (P.S72)} (h : ∀ i, i < l.length → oddAt clk l i = false) : ∀ n, n ≤ l.length → mayGo clk l n = true
  | 0, _ => rfl
  | n + 1, hn => by rw [mayGo, h _ (by omega), mayGo_of h n (by omega)]; rfl
structure DiskOk (clk : Int) (l : List (P.S72)) : Prop where
  low : 0 ≤ clk
  high : clk ≤ 1048576
  many : l.length ≤ 64
  ok : ∀ x ∈ l, fileOk clk x = true
  times : l.Pairwise fun a b => a.f2 ≠ b.f2
  rise : l.Pairwise fun a b => a.f0.toList < b.f0.toList
theorem mayD_ok {clk : Int} {l : List (P.S72)} (h : mayD clk l = true) : DiskOk clk l := by
  simp only [mayD, Bool.and_eq_true, decide_eq_true_eq] at h
  obtain ⟨h0, ⟨h1, h2⟩, h3⟩ := h
  have hat : ∀ i (hi : i < l.length), fileOk clk l[i] = true ∧ timeIn (l.take i) l[i].f2 = false ∧ (0 < i → Op.bytesLess (rd_T72 l ((i - 1 : Nat) : Int)).f0.toList l[i].f0.toList = true) := fun i hi => by
    have := mayGo_at (Nat.le_refl _) h0 i (by omega) hi
    rw [oddAt, rdF_lt l i hi] at this
    simp only [Bool.or_eq_false_iff, Bool.not_eq_false', Bool.and_eq_false_iff, decide_eq_false_iff_not] at this
    obtain ⟨g1, g2, g3⟩ := this
    refine ⟨g1, g2, fun h => ?_⟩
    rcases g3 with g3 | g3
    · exact absurd h g3
    · exact g3
  have hstep : ∀ j, ∀ i (hj : j < l.length) (_ : i < j), l[i].f0.toList < l[j].f0.toList := by
    intro j
    induction j with
    | zero => intro i _ h; omega
    | succ j ih =>
      intro i hj hij
      have := (hat (j + 1) hj).2.2 (by omega)
      rw [Nat.add_sub_cancel, rdF_lt l j (by omega), P.less_is, decide_eq_true_eq] at this
      by_cases e : i = j
      · subst e; exact this
      · exact List.lt_trans (ih i (by omega) (by omega)) this
  refine ⟨h1, h2, h3, fun x hx => ?_, ?_, ?_⟩
  · obtain ⟨i, hi, rfl⟩ := List.getElem_of_mem hx
    exact (hat i hi).1
  · rw [List.pairwise_iff_getElem]
    intro i j hi hj hij e
    have := (hat j hj).2.1
    rw [timeIn, List.any_eq_false] at this
    exact this l[i] (List.mem_take_iff_getElem.2 ⟨i, by omega, rfl⟩) (by simpa using e)
  · rw [List.pairwise_iff_getElem]
    exact fun i j hi hj hij => hstep j i hj hij
theorem ok_mayD {clk : Int} {l : List (P.S72)} (h : DiskOk clk l) : mayD clk l = true := by
  have hr := List.pairwise_iff_getElem.1 h.rise
  have ht := List.pairwise_iff_getElem.1 h.times
  simp only [mayD, Bool.and_eq_true, decide_eq_true_eq]
  refine ⟨mayGo_of (fun i hi => ?_) _ (Nat.le_refl _), ⟨h.low, h.high⟩, h.many⟩
  rw [oddAt, rdF_lt l i hi, h.ok _ (List.getElem_mem hi)]
  have e1 : timeIn (l.take i) l[i].f2 = false := by
    rw [timeIn, List.any_eq_false]
    intro y hy
    obtain ⟨j, hj, rfl⟩ := List.mem_take_iff_getElem.1 hy
    have := ht j i (by omega) hi (by omega)
    simpa using this
  rw [e1]
  by_cases h0 : 0 < i
  · have := hr (i - 1) i (by omega) hi (by omega)
    rw [rdF_lt l (i - 1) (by omega), P.less_is, decide_eq_true this]
    simp
  · simp [h0]
theorem ok_riseF {clk : Int} {l : List (P.S72)} (h : DiskOk clk l) : riseF l := fun a b hab hb => by
  rw [rdF_lt l a (by omega), rdF_lt l b hb]
  exact List.pairwise_iff_getElem.1 h.rise a b (by omega) hb hab
end Go.Proofs.YtilnamobmjngbaaDoor.Spec
end

section
/- Disks in plain lists: what is found. -/
namespace Go.Proofs.YtilnamobmjngbaaDoor.Spec
open Go.RowKit Go.Proofs.YtilnamobmjngbaaDoorW.PrintWords Go.Proofs.YtilnamobmjngbaaDoor.P

set_option linter.unusedSimpArgs false
set_option linter.unusedVariables false
/-- the first file of a name -/
def lookF (s : ByteArray) : List (P.S72) → Option P.S72
  | [] => none
  | y :: ys => if y.f0.toList = s.toList then some y else lookF s ys
def outF : Option P.S72 → ByteArray × Int × Int × Bool
  | some x => (x.f0, x.f1, x.f2, true)
  | none => (⟨#[]⟩, 0, 0, false)
def findD (clk : Int) (l : List (P.S72)) (s : ByteArray) : ByteArray × Int × Int × Bool := if mayD clk l = true then outF (lookF s l) else outF none
/-- a file laid in its place -/
def insF (f : P.S72) : List (P.S72) → List (P.S72)
  | [] => [f]
  | y :: ys => if Op.bytesLess y.f0.toList f.f0.toList = true then y :: insF f ys else if y.f0.toList = f.f0.toList then f :: ys else f :: y :: ys
def delF (s : ByteArray) (l : List (P.S72)) : List (P.S72) := l.filter fun y => decide (y.f0.toList ≠ s.toList)
def putD (clk : Int) (l : List (P.S72)) (s : ByteArray) (x : Int) : Int × List (P.S72) × Int :=
  if (mayD clk l && (isP s.data.toList && decide (0 ≤ x ∧ x ≤ 2147483647))) = true then
    (if clk = 1048576 ∨ 64 < (insF ⟨s, x, clk + 1⟩ l).length then (0, [], 1201) else (clk + 1, insF ⟨s, x, clk + 1⟩ l, 0))
  else (0, [], 1200)
def removeD (clk : Int) (l : List (P.S72)) (s : ByteArray) : Int × List (P.S72) × Int :=
  if (mayD clk l && isP s.data.toList) = true then (if (lookF s l).isSome = true then (clk, delF s l, 0) else (0, [], 1202)) else (0, [], 1200)

/-! ### looking -/
theorem lookF_none {s : ByteArray} : ∀ {l : List (P.S72)}, lookF s l = none ↔ ∀ y ∈ l, y.f0.toList ≠ s.toList
  | [] => by simp [lookF]
  | y :: ys => by
    rw [lookF]
    by_cases h : y.f0.toList = s.toList
    · rw [if_pos h]; simp [h]
    · rw [if_neg h, lookF_none (l := ys)]; simp [h]
theorem lookF_some {s : ByteArray} {x : P.S72} : ∀ {l : List (P.S72)}, lookF s l = some x → ∃ i, ∃ h : i < l.length, l[i] = x ∧ x.f0.toList = s.toList
  | [], h => by simp [lookF] at h
  | y :: ys, h => by
    rw [lookF] at h
    by_cases e : y.f0.toList = s.toList
    · rw [if_pos e] at h
      obtain rfl := Option.some.inj h
      exact ⟨0, by simp, rfl, e⟩
    · rw [if_neg e] at h
      obtain ⟨i, hi, h1, h2⟩ := lookF_some h
      exact ⟨i + 1, by simpa using hi, h1, h2⟩
theorem lookF_mem {s : ByteArray} {x : P.S72} {l : List (P.S72)} (h : lookF s l = some x) : x ∈ l ∧ x.f0.toList = s.toList := by
  obtain ⟨i, hi, rfl, h2⟩ := lookF_some h
  exact ⟨List.getElem_mem hi, h2⟩
theorem bs_look {l : List (P.S72)} (hr : riseF l) (s : ByteArray) : (∃ x, ∃ h : bsAt l s < l.length, lookF s l = some x ∧ l[bsAt l s] = x ∧ bsIs l s = true) ∨ (lookF s l = none ∧ bsIs l s = false) := by
  cases h : lookF s l with
  | none => exact .inr ⟨rfl, bs_not (fun k hk => by rw [rdF_lt l k hk]; exact lookF_none.1 h _ (List.getElem_mem hk))⟩
  | some x =>
    obtain ⟨i, hi, h1, h2⟩ := lookF_some h
    obtain ⟨g1, g2⟩ := bs_there hr hi (s := s) (by rw [rdF_lt l i hi, h1]; exact h2)
    refine .inl ⟨x, by rw [g1]; exact hi, rfl, ?_, g2⟩
    subst h1
    simp only [g1]
theorem ev_Find12 (clk : Int) (l : List (P.S72)) (s : ByteArray) (hl : l.length ≤ 1000000) (hc : clk ≤ 9223372036854775807) : Ev (fun k => disk_Find.f k clk l s) (findD clk l s) := by
  refine Ev.congr (fun k => by rw [disk_Find.f]) (ev_pos hl ?_)
  unfold findD
  cases hm : mayD clk l with
  | true =>
    rw [if_pos rfl]
    have hr := ok_riseF (mayD_ok hm)
    rcases bs_look hr s with ⟨x, hlt, h1, h2, h3⟩ | ⟨h1, h2⟩
    · refine ev_pos h3 (ev_bind (ev_May12 clk l hl hc) ?_)
      rw [hm]
      refine ev_pos rfl (ev_const ?_)
      rw [h1, rdF_lt l _ hlt, h2]
      rfl
    · exact ev_neg (by rw [h2]; simp) (ev_const (by rw [h1]; rfl))
  | false =>
    rw [if_neg (by simp)]
    by_cases h : bsIs l s = true
    · refine ev_pos h (ev_bind (ev_May12 clk l hl hc) ?_)
      rw [hm]
      exact ev_neg (by simp) (Ev.now _)
    · exact ev_neg h (Ev.now _)
end Go.Proofs.YtilnamobmjngbaaDoor.Spec
end

section
/- Chapter 18 without the program: actions, what a command reads besides, what it makes (the program's answers). -/
namespace Go.Proofs.YtilnamobmjngbaaDoor.Spec
open Go.RowKit Go.Proofs.YtilnamobmjngbaaDoorW.PrintWords Go.Proofs.YtilnamobmjngbaaDoor.P

def actOk (x : P.S33) : Bool := cmdOk x.f0.data.toList && allP x.f1 8
def mayA (l : List (P.S33)) : Bool := decide (l.length ≤ 16) && l.all actOk
def SmallA (l : List (P.S33)) : Prop := ∀ x ∈ l, x.f0.size ≤ 4611686018427387904 ∧ x.f1.length ≤ 4611686018427387904 ∧ ∀ y ∈ x.f1, y.size ≤ 4611686018427387904
theorem ev_odd (x : P.S33) (hs : x.f0.size ≤ 4611686018427387904) (hl : x.f1.length ≤ 4611686018427387904) : Ev (fun k => command_odd.f k x.f0 x.f1 x.f2) (!(actOk x)) := by
  refine Ev.congr (fun k => by rw [command_odd.f]) (ev_bind (ev_Command x.f0 hs) ?_)
  unfold actOk
  cases cmdOk x.f0.data.toList with
  | false => exact ev_neg (by simp) (Ev.now _)
  | true => exact ev_pos rfl (ev_bind (ev_All x.f1 8 hl) (ev_const (by simp)))
theorem ev_allA : ∀ l : List (P.S33), SmallA l → Ev (fun k => command_all k l) (l.all actOk)
  | [], _ => Ev.now _
  | x :: xs, h => by
    have hx := h x (by simp)
    refine Ev.congr (fun k => by rw [command_all]) (ev_bind (ev_odd x hx.1 hx.2.1) ?_)
    rw [List.all_cons]
    cases actOk x with
    | false => exact ev_pos rfl (Ev.now _)
    | true => exact ev_neg (by simp) (ev_allA xs (fun y hy => h y (by simp [hy])))
theorem ev_MayA (l : List (P.S33)) (h : SmallA l) : Ev (fun k => command_May.f k l) (mayA l) := by
  refine Ev.congr (fun k => by rw [command_May.f]) ?_
  unfold mayA
  by_cases hl : l.length ≤ 16
  · rw [decide_eq_true hl]
    exact ev_pos hl (ev_allA l h)
  · rw [decide_eq_false hl]
    exact ev_neg hl (Ev.now _)
theorem mayA_is {l : List (P.S33)} (h : mayA l = true) : l.length ≤ 16 ∧ ∀ x ∈ l, cmdOk x.f0.data.toList = true ∧ allP x.f1 8 = true := by
  simp only [mayA, Bool.and_eq_true, decide_eq_true_eq, List.all_eq_true, actOk] at h
  exact h
/-- the first action of a command -/
def lookA (s : ByteArray) : List (P.S33) → Option P.S33
  | [] => none
  | y :: ys => if y.f0.toList = s.toList then some y else lookA s ys
theorem lookA_at (s : ByteArray) : ∀ l : List (P.S33), (lookA s l = none ∧ act_at s l = l.length) ∨ (∃ x, ∃ h : act_at s l < l.length, lookA s l = some x ∧ l[act_at s l] = x)
  | [] => .inl ⟨rfl, rfl⟩
  | y :: ys => by
    rw [lookA]
    by_cases e : y.f0.toList = s.toList
    · refine .inr ⟨y, ?_, if_pos e, ?_⟩
      · rw [act_at, if_pos e]; simp
      · simp only [act_at, if_pos e, List.getElem_cons_zero]
    · rw [if_neg e]
      rcases lookA_at s ys with ⟨h1, h2⟩ | ⟨x, h, h1, h2⟩
      · exact .inl ⟨h1, by rw [act_at, if_neg e, h2, List.length_cons]⟩
      · refine .inr ⟨x, ?_, h1, ?_⟩
        · rw [act_at, if_neg e, List.length_cons]; omega
        · simp only [act_at, if_neg e, List.getElem_cons_succ]
          exact h2
theorem lookA_mem {s : ByteArray} {x : P.S33} : ∀ {l : List (P.S33)}, lookA s l = some x → x ∈ l ∧ x.f0 = s
  | y :: ys, h => by
    rw [lookA] at h
    split at h
    · rename_i e
      obtain rfl := Option.some.inj h
      exact ⟨by simp, toList_inj e⟩
    · have := lookA_mem h
      exact ⟨by simp [this.1], this.2⟩
def outA (s : ByteArray) : Option P.S33 → ByteArray × List ByteArray × Bool
  | some x => (s, x.f1, x.f2)
  | none => (s, [], false)
def actOf (l : List (P.S33)) (s : ByteArray) : ByteArray × List ByteArray × Bool := if mayA l = true then outA s (lookA s l) else (s, [], false)
theorem actOf_len (l : List (P.S33)) (s : ByteArray) : allP (actOf l s).2.1 8 = true := by
  unfold actOf
  split
  · rename_i h
    cases hx : lookA s l with
    | none => rfl
    | some x => exact ((mayA_is h).2 x (lookA_mem hx).1).2
  · rfl
theorem ev_Action (l : List (P.S33)) (s : ByteArray) (h : SmallA l) (hl : l.length ≤ 4611686018427387904) : Ev (fun k => command_Action.f k l s) (actOf l s) := by
  refine Ev.congr (fun k => by rw [command_Action.f]) (ev_pos hl ?_)
  unfold actOf
  rcases lookA_at s l with ⟨h1, h2⟩ | ⟨x, hlt, h1, h2⟩
  · refine ev_neg (by omega) (ev_const ?_)
    rw [h1]
    unfold outA
    split <;> rfl
  · refine ev_pos hlt (ev_bind (ev_MayA l h) ?_)
    cases hm : mayA l with
    | false => exact ev_neg (by simp) (ev_const (by simp))
    | true =>
      have hx := lookA_mem h1
      have hb := allP_all ((mayA_is hm).2 x hx.1).2
      have hr : rd_T33 l (act_at s l : Int) = x := by rw [act_rd l _ hlt, h2]
      refine ev_pos rfl (ev_bindc (x := x.f1) ?_ (ev_const ?_))
      · rw [hr]
        unfold slices_Clone_string_string.f
        rw [if_pos (by have := hb.2; omega)]
      · rw [hr, h1, if_pos rfl, hx.2]
        rfl
def readsD (l : List (P.S33)) (o i m r : List ByteArray) (cmd : ByteArray) (dep : Bool) (pool : ByteArray) : List ByteArray × Int :=
  if (mayA l && edgeOk o i m r cmd pool) = true then (if dep = true then ((actOf l cmd).2.1, 0) else ([], 0)) else ([], 1800)
/-- sizes of an edge, as they come in -/
structure SmallE (o i m r : List ByteArray) (cmd pool : ByteArray) : Prop where
  o : o.length ≤ 4611686018427387904
  i : i.length ≤ 4611686018427387904
  m : m.length ≤ 4611686018427387904
  r : r.length ≤ 4611686018427387904
  c : cmd.size ≤ 4611686018427387904
theorem ev_Reads (l : List (P.S33)) (o i m r : List ByteArray) (cmd : ByteArray) (dep : Bool) (pool : ByteArray) (h : SmallA l) (hl : l.length ≤ 4611686018427387904) (hE : SmallE o i m r cmd pool) :
    Ev (fun k => command_Reads.f k l o i m r cmd dep pool) (readsD l o i m r cmd dep pool) := by
  refine Ev.congr (fun k => by rw [command_Reads.f]) (ev_bind (ev_MayA l h) ?_)
  unfold readsD
  cases mayA l with
  | false => exact ev_neg (by simp) (Ev.now _)
  | true =>
    refine ev_pos rfl (ev_bind (ev_Edge o i m r cmd pool hE.o hE.i hE.m hE.r hE.c) ?_)
    cases edgeOk o i m r cmd pool with
    | false => exact ev_neg (by simp) (Ev.now _)
    | true =>
      refine ev_pos rfl ?_
      cases dep with
      | false => exact ev_neg (by simp) (Ev.now _)
      | true => exact ev_pos rfl (ev_bind (ev_Action l cmd h hl) (Ev.now _))
theorem readsD_ok {l : List (P.S33)} {o i m r : List ByteArray} {cmd : ByteArray} {dep : Bool} {pool : ByteArray} (h : (readsD l o i m r cmd dep pool).2 = 0) :
    mayA l = true ∧ edgeOk o i m r cmd pool = true ∧ allP (readsD l o i m r cmd dep pool).1 8 = true := by
  unfold readsD at h ⊢
  split at h
  · rename_i hc
    simp only [Bool.and_eq_true] at hc
    rw [if_pos (by simp [hc.1, hc.2])]
    refine ⟨hc.1, hc.2, ?_⟩
    split
    · exact actOf_len l cmd
    · rfl
  · exact absurd h (by simp)
/-- all files are there: their contents mixed -/
def lookAll (l : List (P.S72)) (h : Int) : List ByteArray → Option Int
  | [] => some h
  | s :: ss => match lookF s l with
    | some x => lookAll l (crn_mix h x.f1) ss
    | none => none
theorem ev_files (t : Int) (l : List (P.S72)) (hm : mayD t l = true) : ∀ (ss : List ByteArray) (h : Int), Ev (fun k => crn_files k t l h ss) (lookAll l h ss)
  | [], h => Ev.now _
  | s :: ss, h => by
    have ho := mayD_ok hm
    have hmany := ho.many
    have hhigh := ho.high
    have e := ev_Find12 t l s (by omega) (by omega)
    unfold findD at e
    rw [if_pos hm] at e
    refine Ev.congr (fun k => by rw [crn_files]) (ev_bind e ?_)
    rw [lookAll]
    cases lookF s l with
    | none => exact ev_neg (by simp [outF]) (Ev.now _)
    | some x => exact ev_pos rfl (ev_files t l hm ss _)
def endD (l : List (P.S33)) (cmd : ByteArray) (n : Nat) : Option Int → List Int × Int
  | none => ([], 1801)
  | some h => if (actOf l cmd).2.2 = true then ([], 1801) else (crn_outs h n, 0)
def runD (l : List (P.S33)) (o i m r : List ByteArray) (cmd : ByteArray) (dep : Bool) (pool : ByteArray) (t : Int) (fs : List (P.S72)) : List Int × Int :=
  if (readsD l o i m r cmd dep pool).2 = 0 ∧ mayD t fs = true then endD l cmd o.length (lookAll fs (crn_bytes 0 (bytesOf cmd)) (i ++ m ++ (readsD l o i m r cmd dep pool).1)) else ([], 1800)
theorem ev_end (l : List (P.S33)) (cmd : ByteArray) (n : Nat) (h : SmallA l) (hl : l.length ≤ 4611686018427387904) : ∀ x, Ev (fun k => crn_end k l cmd n x) (endD l cmd n x)
  | none => Ev.now _
  | some v => by
    refine Ev.congr (fun k => by rw [crn_end]) (ev_bind (ev_Action l cmd h hl) ?_)
    rw [show endD l cmd n (some v) = if (actOf l cmd).2.2 = true then ([], 1801) else (crn_outs v n, 0) from rfl]
    by_cases e : (actOf l cmd).2.2 = true
    · exact ev_pos e (ev_const (by rw [if_pos e]))
    · exact ev_neg e (ev_const (by rw [if_neg e]))
theorem ev_Run (l : List (P.S33)) (o i m r : List ByteArray) (cmd : ByteArray) (dep : Bool) (pool : ByteArray) (t : Int) (fs : List (P.S72)) (h : SmallA l) (hl : l.length ≤ 4611686018427387904) (hE : SmallE o i m r cmd pool) (hf : fs.length ≤ 1000000) (ht : t ≤ 9223372036854775807) :
    Ev (fun k => command_Run.f k l o i m r cmd dep pool t fs) (runD l o i m r cmd dep pool t fs) := by
  refine Ev.congr (fun k => by rw [command_Run.f]) (ev_bind (ev_Reads l o i m r cmd dep pool h hl hE) ?_)
  unfold runD
  by_cases h0 : (readsD l o i m r cmd dep pool).2 = 0
  · refine ev_pos h0 (ev_bind (ev_May12 t fs hf ht) ?_)
    cases hm : mayD t fs with
    | false => exact ev_neg (by simp) (ev_const (by rw [if_neg (by simp)]))
    | true =>
      obtain ⟨g1, g2, g3⟩ := readsD_ok h0
      have e := edgeOk_is g2
      have b1 := (allP_all e.po).2
      have b2 := (allP_all e.pi).2
      have b3 := (allP_all e.pm).2
      have b4 := (allP_all g3).2
      have b5 := cmd_len e.pc
      rw [if_pos ⟨h0, rfl⟩]
      exact ev_pos rfl (ev_pos ⟨⟨by omega, by omega⟩, ⟨by omega, by omega⟩, by omega⟩ (ev_bind (ev_files t fs hm _ _) (ev_end l cmd o.length h hl _)))
  · exact ev_neg h0 (ev_const (by rw [if_neg (fun q => h0 q.1)]))
end Go.Proofs.YtilnamobmjngbaaDoor.Spec
end
