import Derived.Test.YtaokgnhdagcepaaDoorMg1
import Derived.Test.YtaokgnhdagcepaaDoorP2
import Derived.Test.YtaokgnhdagcepaaDoorP8
import Derived.Test.YtaokgnhdagcepaaDoorP7
import Derived.Test.YtaokgnhdagcepaaDoorP6
import Derived.Test.YtaokgnhdagcepaaDoorP1
import Derived.Test.YtaokgnhdagcepaaDoorP3
import Derived.Test.YtaokgnhdagcepaaDoorP19
import Derived.Test.YtaokgnhdagcepaaDoorP18
import Derived.Test.YtaokgnhdagcepaaDoorWMore
import Derived.Test.YtaokgnhdagcepaaDoorP5
import Derived.Test.YtaokgnhdagcepaaDoorP13
import Derived.Test.YtaokgnhdagcepaaDoorP9
import Derived.Test.YtaokgnhdagcepaaDoorP10
import Derived.Test.YtaokgnhdagcepaaDoorP11
import Derived.Test.YtaokgnhdagcepaaDoorP22
import Derived.Test.YtaokgnhdagcepaaDoorP14
import Derived.Test.YtaokgnhdagcepaaDoorP20
import Derived.Test.YtaokgnhdagcepaaDoorP16
import Derived.Test.YtaokgnhdagcepaaDoorP17
import Derived.Test.YtaokgnhdagcepaaDoorP12
import Derived.Test.YtaokgnhdagcepaaDoorP23
import Derived.Test.YtaokgnhdagcepaaDoorP26
import Derived.Test.YtaokgnhdagcepaaDoorP24
section
/- Chapter 2 without the program: what the printed functions on names and paths answer, in plain lists. -/
namespace Go.Proofs.YtaokgnhdagcepaaDoor.Spec
open Go.RowKit Go.Proofs.YtaokgnhdagcepaaDoorW.PrintWords Go.Proofs.YtaokgnhdagcepaaDoor.P

theorem ev_split {α : Type} {g f : Nat → Option α} {r : α} {c : Prop} [Decidable c] (h1 : c → Ev g r) (h2 : ¬ c → Ev f r) : Ev (fun k => if c then g k else f k) r := by
  by_cases h : c
  · exact ev_pos h (h1 h)
  · exact ev_neg h (h2 h)

/-! ### Names -/
theorem small_is (b : Nat) (h : b < 256) : crucibleref1_small.f (b : Int) = some ((decide (97 ≤ b) && decide (b ≤ 122)) || (decide (48 ≤ b) && decide (b ≤ 57))) := by
  have : ∀ b : Fin 256, crucibleref1_small.f (b.val : Int) = some ((decide (97 ≤ b.val) && decide (b.val ≤ 122)) || (decide (48 ≤ b.val) && decide (b.val ≤ 57))) := by decide +kernel
  exact this ⟨b, h⟩
theorem ev_NameMay_loop (s : ByteArray) (hs : s.size ≤ 4611686018427387904) : ∀ rest pre : List UInt8, s.data.toList = pre ++ rest → (pre.all fun b => nameByte b.toNat) = true →
    Ev (fun k => crucibleref1_NameMay.l0 k s (pre.length : Int)) (nameMay s.data.toList) := by
  intro rest
  induction rest with
  | nil =>
    intro pre h ha
    have hl : s.size = pre.length := by rw [size_le h]; simp
    refine Ev.step (fun k => by rw [crucibleref1_NameMay.l0]) ?_
    refine ev_neg (by omega) ?_
    have e : nameMay s.data.toList = if ((s.size : Int) ≥ 1) then decide ((s.size : Int) ≤ 16) else false := by
      rw [h]
      simp only [List.append_nil, nameMay, ha, Bool.true_and, hl]
      by_cases h1 : (pre.length : Int) ≥ 1
      · rw [if_pos h1]
        have : 1 ≤ pre.length := by omega
        simp only [this, decide_true, Bool.true_and, decide_eq_decide]
        omega
      · rw [if_neg h1]
        have : ¬ 1 ≤ pre.length := by omega
        simp [this]
    rw [e]
    exact ev_ite (fun _ => Ev.now _) (fun _ => Ev.now _)
  | cons b rest ih =>
    intro pre h ha
    have hlt := size_pre s pre b rest h
    have hb := bt_pre s pre b rest h
    have hw : wrap64 ((pre.length : Int) + 1) = ((pre ++ [b]).length : Int) := wrap_len pre b (by omega)
    refine Ev.step (fun k => by rw [crucibleref1_NameMay.l0]) ?_
    simp only [hb, hw]
    refine ev_pos (by omega) (ev_pos (by omega) (ev_bindc (small_is b.toNat b.toNat_lt) ?_))
    cases hn : nameByte b.toNat with
    | true =>
      have ih' := ih (pre ++ [b]) (by simp [h]) (by simp [ha, hn])
      refine ev_split (fun _ => ih') (fun h1 => ev_split (fun _ => ih') (fun h2 => ev_split (fun _ => ih') (fun h3 => ev_split (fun _ => ih') (fun h4 => ev_split (fun _ => ih') (fun h5 => ?_)))))
      exfalso
      simp [nameByte] at hn h1
      omega
    | false =>
      have hf : nameMay s.data.toList = false := by simp [nameMay, h, hn]
      rw [hf]
      simp [nameByte] at hn
      refine ev_split (fun h1 => ?_) (fun h1 => ev_split (fun h2 => ?_) (fun h2 => ev_split (fun h3 => ?_) (fun h3 => ev_split (fun h4 => ?_) (fun h4 => ev_split (fun h5 => ?_) (fun h5 => Ev.now _)))))
      · simp at h1; omega
      all_goals omega
theorem ev_NameMay (s : ByteArray) (hs : s.size ≤ 4611686018427387904) : Ev (fun k => crucibleref1_NameMay.f k s) (nameMay s.data.toList) :=
  Ev.congr (fun k => by rw [crucibleref1_NameMay.f]; rfl) (ev_NameMay_loop s hs s.data.toList [] rfl rfl)

/-! ### Texts joined -/
def joinS (sg : List UInt8) : List (List UInt8) → List UInt8
  | [] => []
  | x :: xs => x ++ (xs.map (sg ++ ·)).flatten
theorem joinS_lib (sg : List UInt8) (xs : List (List UInt8)) : Lib.join xs sg = joinS sg xs := by
  cases xs with
  | nil => rfl
  | cons x xs => rw [Lib.join_cons]; rfl
theorem joinS_snoc (sg : List UInt8) (pre : List (List UInt8)) (x : List UInt8) (h : pre ≠ []) : joinS sg (pre ++ [x]) = joinS sg pre ++ sg ++ x := by
  cases pre with
  | nil => exact absurd rfl h
  | cons y ys => simp [joinS]
theorem joinS_le (sg : List UInt8) (pre rest : List (List UInt8)) : (joinS sg pre).length ≤ (joinS sg (pre ++ rest)).length := by
  cases pre with
  | nil => simp [joinS]
  | cons y ys => simp [joinS]
abbrev datas (xs : List ByteArray) : List (List UInt8) := xs.map (·.data.toList)

theorem ev_Join_loop (sg : ByteArray) (xs : List ByteArray) (hx : xs.length ≤ 4611686018427387904) (ht : (joinS sg.data.toList (datas xs)).length ≤ 4611686018427387904) : ∀ rest pre : List ByteArray, xs = pre ++ rest →
    Ev (fun k => crucibleref1_Join.l0 k xs sg (str (joinS sg.data.toList (datas pre))) (pre.length : Int)) (str (joinS sg.data.toList (datas xs))) := by
  intro rest
  induction rest with
  | nil =>
    intro pre h
    refine Ev.step (fun k => by rw [crucibleref1_Join.l0]) ?_
    rw [List.append_nil] at h
    subst h
    exact ev_neg (by omega) (Ev.now _)
  | cons x rest ih =>
    intro pre h
    have hl : xs.length = pre.length + (rest.length + 1) := by rw [h]; simp
    have hr : rdOf ByteArray.empty xs (pre.length : Int) = x := by rw [h]; exact rdOf_pre _ _ _ _
    have hw : wrap64 ((pre.length : Int) + 1) = ((pre ++ [x]).length : Int) := wrap_len pre x (by omega)
    have ih' := ih (pre ++ [x]) (by simp [h])
    have hle : (joinS sg.data.toList (datas (pre ++ [x]))).length ≤ 4611686018427387904 := by
      have := joinS_le sg.data.toList (datas (pre ++ [x])) (datas rest)
      have e : datas (pre ++ [x]) ++ datas rest = datas xs := by simp [datas, h]
      rw [e] at this
      omega
    refine Ev.step (fun k => by rw [crucibleref1_Join.l0]) ?_
    simp only [hr, hw]
    refine ev_pos (by omega) ?_
    by_cases hp : pre = []
    · subst hp
      have e : str (joinS sg.data.toList (datas [])) ++ x = str (joinS sg.data.toList (datas ([] ++ [x]))) := by
        rw [str_eq x _ rfl, str_append]; simp [joinS, datas, str_data]
      have hz : (str (joinS sg.data.toList (datas []))).size + x.size ≤ 9223372036854775807 := by
        rw [← append_size, e, str_size]; omega
      refine ev_neg (by simp) (ev_pos (by simp) (ev_pos hz ?_))
      rw [e]
      exact ih'
    · have hpl : 0 < pre.length := List.length_pos_iff.2 hp
      have e0 := joinS_snoc sg.data.toList (datas pre) x.data.toList (by simpa [datas] using hp)
      have e : (str (joinS sg.data.toList (datas pre)) ++ sg) ++ x = str (joinS sg.data.toList (datas (pre ++ [x]))) := by
        have e1 : datas (pre ++ [x]) = datas pre ++ [x.data.toList] := by simp [datas]
        rw [e1, e0, str_eq x _ rfl, str_eq sg _ rfl, str_append, str_append]
        simp [str_data]
      have hz : (str (joinS sg.data.toList (datas pre)) ++ sg).size + x.size ≤ 9223372036854775807 := by
        rw [← append_size, e, str_size]; omega
      have hz1 : (str (joinS sg.data.toList (datas pre))).size + sg.size ≤ 9223372036854775807 := by
        rw [append_size] at hz; omega
      refine ev_pos (by omega) (ev_pos hz1 (ev_pos (by omega) (ev_pos hz ?_)))
      rw [e]
      exact ih'
theorem ev_Join (xs : List ByteArray) (sg : ByteArray) (hx : xs.length ≤ 4611686018427387904) (ht : (joinS sg.data.toList (datas xs)).length ≤ 4611686018427387904) :
    Ev (fun k => crucibleref1_Join.f k xs sg) (str (joinS sg.data.toList (datas xs))) :=
  Ev.congr (fun k => by rw [crucibleref1_Join.f]; rfl) (ev_Join_loop sg xs hx ht xs [] rfl)
theorem Join_is (xs : List ByteArray) (sg : ByteArray) (hx : xs.length ≤ 140737488355328) (ht : (joinS sg.data.toList (datas xs)).length ≤ 140737488355328) :
    strings_Join.f xs sg = some (str (joinS sg.data.toList (datas xs))) := by
  unfold strings_Join.f
  rw [joinS_lib]
  exact if_pos ⟨ht, hx⟩

/-! ### Texts cut -/
theorem split_hit (c : UInt8) : ∀ (cur rest : List UInt8), c ∉ cur → split c (cur ++ c :: rest) = cur :: split c rest
  | [], rest, _ => by simp [split]
  | b :: cur, rest, h => by
    have hb : b ≠ c := fun e => h (by rw [e]; exact List.mem_cons_self)
    rw [List.cons_append, split, if_neg hb, split_hit c cur rest (fun hm => h (List.mem_cons_of_mem _ hm))]
    rfl
theorem ev_split_loop (s : ByteArray) (c : UInt8) (hs : s.size ≤ 4398046511104) : ∀ (rest cur : List UInt8) (done : Nat) (acc : List ByteArray), s.data.toList.drop done = cur ++ rest → done ≤ s.size → acc.length ≤ done → c ∉ cur →
    Ev (fun k => crucibleref1_split.l0 k s (c.toNat : Int) acc (done : Int) ((done + cur.length : Nat) : Int)) (acc ++ (split c (cur ++ rest)).map str) := by
  intro rest
  induction rest with
  | nil =>
    intro cur done acc h hd ha hc
    rw [List.append_nil] at h ⊢
    have hl : s.size = done + cur.length := by
      have := congrArg List.length h
      rw [List.length_drop, size_data] at this
      omega
    have he : s.extract done (done + cur.length) = str cur := by
      apply str_eq
      rw [extract_data, ← hl, ← size_data, List.take_length, h]
    refine Ev.step (fun k => by rw [crucibleref1_split.l0]) ?_
    refine ev_pos (by omega) (ev_pos (by omega) (ev_pos (by omega) (ev_pos (by omega) (ev_pos (by omega) ?_))))
    simp only [Int.toNat_natCast, he, wrap_nat (n := done + cur.length) (by omega)]
    refine Ev.step (fun k => by rw [crucibleref1_split.l0]) ?_
    refine ev_neg (by omega) ?_
    rw [split_none c cur hc]
    exact Ev.now _
  | cons b rest ih =>
    intro cur done acc h hd ha hc
    have hl : s.size = done + (cur.length + (rest.length + 1)) := by
      have := congrArg List.length h
      rw [List.length_drop, size_data, List.length_append, List.length_cons] at this
      omega
    have hsplit : s.data.toList = (s.data.toList.take done ++ cur) ++ b :: rest := by
      rw [List.append_assoc, ← h, List.take_append_drop]
    have hpre : (s.data.toList.take done ++ cur).length = done + cur.length := by
      rw [List.length_append, List.length_take, size_data, Nat.min_eq_left hd]
    have hb : bt s ((done + cur.length : Nat) : Int) = b.toNat := by
      rw [← hpre]; exact bt_pre s _ b rest hsplit
    have hdrop : s.data.toList.drop (done + cur.length + 1) = rest := by
      have : s.data.toList.drop (done + cur.length + 1) = ((s.data.toList.take done ++ cur ++ [b]) ++ rest).drop ((s.data.toList.take done ++ cur ++ [b]).length) := by
        rw [List.length_append, hpre]
        congr 1
        rw [List.append_assoc, List.singleton_append]; exact hsplit
      rw [this, List.drop_left]
    refine Ev.step (fun k => by rw [crucibleref1_split.l0]) ?_
    simp only [hb, wrap_nat (n := done + cur.length) (by omega), Int.toNat_natCast]
    refine ev_pos (by omega) (ev_neg (by omega) (ev_pos (by omega) (ev_pos (by omega) ?_)))
    by_cases e : b = c
    · subst e
      have he : s.extract done (done + cur.length) = str cur := by
        apply str_eq
        rw [extract_data]
        have : s.data.toList.take (done + cur.length) = s.data.toList.take done ++ cur := by
          conv => lhs; rw [hsplit]
          rw [← hpre, List.take_left]
        have hld : (s.data.toList.take done).length = done := by rw [List.length_take, size_data, Nat.min_eq_left hd]
        rw [this]
        exact List.drop_left' hld
      refine ev_pos rfl (ev_pos (by omega) (ev_pos (by omega) (ev_pos (by omega) ?_)))
      rw [he, split_hit b cur rest hc]
      have ih' := ih [] (done + cur.length + 1) (acc ++ [str cur]) (by rw [hdrop]; rfl) (by omega) (by simp; omega) (by simp)
      simpa using ih'
    · have hne : ¬ ((b.toNat : Int) = (c.toNat : Int)) := fun h' => e (UInt8.toNat_inj.1 (by omega))
      refine ev_neg hne ?_
      have ih' := ih (cur ++ [b]) done acc (by simp [h]) hd ha (by simp [hc, Ne.symm e])
      simpa [Nat.add_assoc] using ih'
theorem ev_split1 (s : ByteArray) (c : UInt8) (hs : s.size ≤ 4398046511104) : Ev (fun k => crucibleref1_split.f k s (c.toNat : Int)) ((split c s.data.toList).map str) := by
  have := ev_split_loop s c hs s.data.toList [] 0 [] rfl (Nat.zero_le _) (Nat.zero_le _) (by simp)
  exact Ev.congr (fun k => by rw [crucibleref1_split.f]) (by simpa using this)
theorem Split_is (s : ByteArray) (c : UInt8) (hs : s.size < 4294967281) : strings_Split.f s (str [c]) = some ((split c s.data.toList).map str) := by
  unfold strings_Split.f
  rw [str_data]
  exact if_pos hs

/-! ### Paths -/
def cleanGo : List (List UInt8) → List (List UInt8) → Option (List (List UInt8))
  | kept, [] => if kept = [] then none else some kept
  | kept, p :: ps => if p = [] ∨ p = [46] then cleanGo kept ps else if p = [46, 46] then (if kept = [] then none else cleanGo kept.dropLast ps) else cleanGo (kept ++ [p]) ps
/-- a file's name as a path -/
def clean (l : List UInt8) : Option (List UInt8) := if nameMay l = true ∧ l.head? ≠ some 47 then (cleanGo [] (split 47 l)).map (joinS [47]) else none
def cleanR (o : Option (List UInt8)) : ByteArray × Int := match o with
  | some l => (str l, 0)
  | none => (str [], 200)
/-- letters and pieces -/
def bulk (xs : List (List UInt8)) : Nat := (xs.map fun x => x.length + 1).sum
theorem bulk_append (xs ys : List (List UInt8)) : bulk (xs ++ ys) = bulk xs + bulk ys := by simp [bulk]
theorem bulk_cons (x : List UInt8) (ys : List (List UInt8)) : bulk (x :: ys) = x.length + 1 + bulk ys := by simp [bulk]
theorem bulk_split (c : UInt8) : ∀ l : List UInt8, bulk (split c l) = l.length + 1
  | [] => rfl
  | b :: l => by
    have ih := bulk_split c l
    simp only [split]
    cases e : split c l with
    | nil => exact absurd e (split_ne c l)
    | cons x r =>
      rw [e, bulk_cons] at ih
      split
      · rw [bulk_cons, bulk_cons]; simp; omega
      · rw [bulk_cons]; simp; omega
theorem bulk_len (xs : List (List UInt8)) : xs.length ≤ bulk xs := by
  induction xs with
  | nil => simp [bulk]
  | cons x xs ih => rw [bulk_cons]; simp; omega
theorem bulk_dropLast (xs : List (List UInt8)) : bulk xs.dropLast ≤ bulk xs := by
  rcases List.eq_nil_or_concat xs with rfl | ⟨ys, y, rfl⟩
  · exact Nat.le_refl _
  · simp [bulk_append]
theorem joinS_bulk (c : UInt8) (xs : List (List UInt8)) : (joinS [c] xs).length ≤ bulk xs := by
  cases xs with
  | nil => simp [joinS]
  | cons x xs =>
    have : ∀ ys : List (List UInt8), ((ys.map ([c] ++ ·)).flatten).length = bulk ys := by
      intro ys
      induction ys with
      | nil => rfl
      | cons y ys ih => rw [bulk_cons, List.map_cons, List.flatten_cons, List.length_append, ih]; simp
    rw [joinS, List.length_append, this, bulk_cons]; omega

theorem datas_str (xs : List (List UInt8)) : datas (xs.map str) = xs := by
  unfold datas
  rw [List.map_map]
  have : ((fun x : ByteArray => x.data.toList) ∘ str) = id := by funext x; exact str_data x
  rw [this, List.map_id]
theorem map_dropLast {α β : Type} (f : α → β) (xs : List α) : (xs.map f).take (xs.length - 1) = xs.dropLast.map f := by
  rw [List.dropLast_eq_take, List.map_take]
theorem rdOf_map (pre : List (List UInt8)) (p : List UInt8) (ps : List (List UInt8)) : rdOf ByteArray.empty ((pre ++ p :: ps).map str) (pre.length : Int) = str p := by
  rw [List.map_append, List.map_cons]
  have := rdOf_pre ByteArray.empty (pre.map str) (str p) (ps.map str)
  rwa [List.length_map] at this

theorem ev_Clean_loop (all : List (List UInt8)) (hA : bulk all ≤ 1000) : ∀ (ps pre kept : List (List UInt8)), all = pre ++ ps → bulk kept + bulk ps ≤ 1000 →
    Ev (fun k => path_Clean.l0 k (kept.map str) (all.map str) (all.length : Int) (pre.length : Int)) (cleanR ((cleanGo kept ps).map (joinS [47]))) := by
  intro ps
  induction ps with
  | nil =>
    intro pre kept h hk
    rw [List.append_nil] at h
    subst h
    refine Ev.step (fun k => by rw [path_Clean.l0]) ?_
    refine ev_neg (by omega) ?_
    rw [cleanGo]
    by_cases hz : kept = []
    · subst hz
      exact ev_pos rfl (Ev.now _)
    · rw [if_neg hz]
      have hl : ¬ (((kept.map str).length : Int) = 0) := by
        have := List.length_pos_iff.2 hz
        rw [List.length_map]; omega
      refine ev_neg hl ?_
      have hjl := joinS_bulk 47 kept
      have hbl := bulk_len kept
      have hb0 : bulk [] = 0 := rfl
      have hj := Join_is (kept.map str) (str [47]) (by rw [List.length_map]; omega) (by rw [datas_str, str_data]; omega)
      rw [datas_str, str_data] at hj
      exact ev_bindc hj (Ev.now _)
  | cons p ps ih =>
    intro pre kept h hk
    have hl : all.length = pre.length + (ps.length + 1) := by rw [h]; simp
    have hr : rdOf ByteArray.empty (all.map str) (pre.length : Int) = str p := by rw [h]; exact rdOf_map _ _ _
    have hbl := bulk_len all
    have hw : wrap64 ((pre.length : Int) + 1) = ((pre ++ [p]).length : Int) := wrap_len pre p (by omega)
    rw [bulk_cons] at hk
    refine Ev.step (fun k => by rw [path_Clean.l0]) ?_
    simp only [hr, str_toList, List.length_map]
    refine ev_pos (by omega) (ev_pos (by omega) (ev_pos (by omega) ?_))
    rw [cleanGo]
    have skip : p = [] ∨ p = [46] → Ev (fun k => path_Clean.j2 k (kept.map str) (str p) (all.map str) (all.length : Int) (pre.length : Int) true) (cleanR ((cleanGo kept ps).map (joinS [47]))) := fun _ => by
      refine Ev.step (fun k => by rw [path_Clean.j2]) ?_
      simp only [hw]
      exact ev_pos (by simp) (ih (pre ++ [p]) kept (by simp [h]) (by omega))
    by_cases e0 : p = []
    · rw [if_pos (.inl e0)]
      exact ev_pos e0 (skip (.inl e0))
    · refine ev_neg e0 ?_
      by_cases e1 : p = [46]
      · rw [if_pos (.inr e1)]
        have : (p == [46]) = true := by simpa using e1
        rw [this]
        exact skip (.inr e1)
      · rw [if_neg (by simp [e0, e1])]
        have : (p == [46]) = false := by simpa using e1
        rw [this]
        refine Ev.step (fun k => by rw [path_Clean.j2]) ?_
        simp only [hw, str_toList, List.length_map]
        refine ev_neg (by simp) ?_
        by_cases e2 : p = [46, 46]
        · rw [if_pos e2]
          refine ev_pos e2 ?_
          by_cases hz : kept = []
          · subst hz
            exact ev_pos rfl (Ev.now _)
          · have hp := List.length_pos_iff.2 hz
            have hkl := bulk_len kept
            rw [if_neg hz]
            refine ev_neg (by omega) ?_
            simp only [wrap_pred hp (by omega), Int.toNat_natCast, map_dropLast]
            refine ev_pos (by omega) (ev_pos (by omega) (ih (pre ++ [p]) kept.dropLast (by simp [h]) ?_))
            have := bulk_dropLast kept
            omega
        · rw [if_neg e2]
          refine ev_neg e2 (ev_pos ?_ ?_)
          · have hkl := bulk_len kept
            omega
          · have := ih (pre ++ [p]) (kept ++ [p]) (by simp [h]) (by rw [bulk_append, bulk_cons]; simp [bulk] at hk ⊢; omega)
            simpa using this

theorem ev_CleanPath_loop (all : List (List UInt8)) (hA : bulk all ≤ 1000) : ∀ (ps pre kept : List (List UInt8)), all = pre ++ ps → bulk kept + bulk ps ≤ 1000 →
    Ev (fun k => crucibleref1_CleanPath.l0 k (all.map str) (kept.map str) (pre.length : Int)) (cleanR ((cleanGo kept ps).map (joinS [47]))) := by
  intro ps
  induction ps with
  | nil =>
    intro pre kept h hk
    rw [List.append_nil] at h
    subst h
    refine Ev.step (fun k => by rw [crucibleref1_CleanPath.l0]) ?_
    refine ev_neg (by simp) ?_
    rw [cleanGo]
    by_cases hz : kept = []
    · subst hz
      exact ev_pos rfl (Ev.now _)
    · rw [if_neg hz]
      have hl : ¬ (((kept.map str).length : Int) = 0) := by
        have := List.length_pos_iff.2 hz
        rw [List.length_map]; omega
      refine ev_neg hl ?_
      have hjl := joinS_bulk 47 kept
      have hbl := bulk_len kept
      have hb0 : bulk [] = 0 := rfl
      have hj := ev_Join (kept.map str) (str [47]) (by rw [List.length_map]; omega) (by rw [datas_str, str_data]; omega)
      rw [datas_str, str_data] at hj
      exact ev_bind hj (Ev.now _)
  | cons p ps ih =>
    intro pre kept h hk
    have hl : all.length = pre.length + (ps.length + 1) := by rw [h]; simp
    have hr : rdOf ByteArray.empty (all.map str) (pre.length : Int) = str p := by rw [h]; exact rdOf_map _ _ _
    have hbl := bulk_len all
    have hw : wrap64 ((pre.length : Int) + 1) = ((pre ++ [p]).length : Int) := wrap_len pre p (by omega)
    rw [bulk_cons] at hk
    refine Ev.step (fun k => by rw [crucibleref1_CleanPath.l0]) ?_
    simp only [hr, str_toList, List.length_map]
    refine ev_pos (by omega) (ev_pos (by omega) ?_)
    rw [cleanGo]
    have skip : p = [] ∨ p = [46] → Ev (fun k => crucibleref1_CleanPath.j2 k (all.map str) (kept.map str) (pre.length : Int) (str p) true) (cleanR ((cleanGo kept ps).map (joinS [47]))) := fun _ => by
      refine Ev.step (fun k => by rw [crucibleref1_CleanPath.j2]) ?_
      simp only [hw]
      exact ev_pos (by simp) (ih (pre ++ [p]) kept (by simp [h]) (by omega))
    by_cases e0 : p = []
    · rw [if_pos (.inl e0)]
      refine ev_pos e0 ?_
      have : (p == []) = true := by simpa using e0
      rw [this]
      exact skip (.inl e0)
    · refine ev_neg e0 ?_
      by_cases e1 : p = [46]
      · rw [if_pos (.inr e1)]
        have : (p == [46]) = true := by simpa using e1
        rw [this]
        exact skip (.inr e1)
      · rw [if_neg (by simp [e0, e1])]
        have : (p == [46]) = false := by simpa using e1
        rw [this]
        refine Ev.step (fun k => by rw [crucibleref1_CleanPath.j2]) ?_
        simp only [hw, hr, str_toList, List.length_map]
        refine ev_neg (by simp) ?_
        by_cases e2 : p = [46, 46]
        · rw [if_pos e2]
          refine ev_pos e2 ?_
          by_cases hz : kept = []
          · subst hz
            exact ev_pos rfl (Ev.now _)
          · have hp := List.length_pos_iff.2 hz
            have hkl := bulk_len kept
            rw [if_neg hz]
            refine ev_neg (by omega) ?_
            simp only [wrap_pred hp (by omega), Int.toNat_natCast, map_dropLast]
            refine ev_pos (by omega) (ev_pos (by omega) (ih (pre ++ [p]) kept.dropLast (by simp [h]) ?_))
            have := bulk_dropLast kept
            omega
        · rw [if_neg e2]
          have hkl := bulk_len kept
          refine ev_neg e2 (ev_pos (by omega) (ev_pos (by omega) (ev_pos (by omega) ?_)))
          have := ih (pre ++ [p]) (kept ++ [p]) (by simp [h]) (by rw [bulk_append, bulk_cons]; simp [bulk] at hk ⊢; omega)
          simpa using this

theorem nameMay_len {l : List UInt8} (h : nameMay l = true) : 1 ≤ l.length ∧ l.length ≤ 16 := by
  simp [nameMay] at h
  omega
theorem bt_zero (s : ByteArray) (h : 0 < s.size) : ∃ b rest, s.data.toList = b :: rest ∧ bt s 0 = b.toNat := by
  cases hd : s.data.toList with
  | nil => rw [← size_data, hd] at h; simp at h
  | cons b rest => exact ⟨b, rest, rfl, bt_pre s [] b rest hd⟩

theorem Clean_body {j : Nat → Bool → Option (ByteArray × Int)} (s : ByteArray) (hj : ∀ b, Ev (fun k => j k b) (if b = true then (str [], 200) else cleanR ((cleanGo [] (split 47 s.data.toList)).map (joinS [47])))) (t : Bool) (ht : t = nameMay s.data.toList) :
    Ev (fun k => if t = true then (if 0 < (s.size : Int) then j k (bt s 0 == 47) else none) else j k true) (cleanR (clean s.data.toList)) := by
  subst ht
  refine ev_split (fun h => ?_) (fun h => ?_)
  · have hl := nameMay_len h
    rw [size_data] at hl
    obtain ⟨b, rest, hd, hb⟩ := bt_zero s (by omega)
    refine ev_pos (by omega) ?_
    rw [hb]
    refine ev_eq (hj _) ?_
    unfold clean
    rw [h, hd]
    by_cases e : b = 47
    · subst e; rfl
    · have hne : ¬ ((b.toNat : Int) = 47) := fun h' => e (UInt8.toNat_inj.1 (by show b.toNat = 47; omega))
      simp [e, hne, beq_iff_eq]
  · refine ev_eq (hj true) ?_
    unfold clean
    rw [if_pos rfl, if_neg (by simp [h])]
    rfl
theorem ev_Clean (s : ByteArray) : Ev (fun k => path_Clean.f k s) (cleanR (clean s.data.toList)) := by
  refine Ev.congr (fun k => by rw [path_Clean.f]) ?_
  refine ev_bindc (x := nameMay s.data.toList) rfl ?_
  by_cases hm : nameMay s.data.toList = true
  · have hl := nameMay_len hm
    rw [size_data] at hl
    refine Clean_body s (j := fun k b => path_Clean.j0 k s b) (fun b => ?_) _ rfl
    refine Ev.step (fun k => by rw [path_Clean.j0]) ?_
    refine ev_ite (fun _ => Ev.now _) (fun _ => ev_bindc (Split_is s 47 (by omega)) ?_)
    have hb : bulk (split 47 s.data.toList) ≤ 1000 := by rw [bulk_split, size_data]; omega
    have := ev_Clean_loop (split 47 s.data.toList) hb (split 47 s.data.toList) [] [] rfl (by simpa [bulk] using hb)
    simpa using this
  · have hm' : nameMay s.data.toList = false := by simpa using hm
    rw [hm']
    refine ev_neg (by simp) (Ev.step (fun k => by rw [path_Clean.j0]) (ev_pos rfl (ev_const ?_)))
    unfold clean
    rw [if_neg (by simp [hm'])]
    rfl
theorem ev_CleanPath (s : ByteArray) (hs : s.size ≤ 4611686018427387904) : Ev (fun k => crucibleref1_CleanPath.f k s) (cleanR (clean s.data.toList)) := by
  refine Ev.congr (fun k => by rw [crucibleref1_CleanPath.f]) ?_
  refine ev_bind (ev_NameMay s hs) ?_
  by_cases hm : nameMay s.data.toList = true
  · have hl := nameMay_len hm
    rw [size_data] at hl
    refine Clean_body s (j := fun k b => crucibleref1_CleanPath.j0 k s b) (fun b => ?_) _ rfl
    refine Ev.step (fun k => by rw [crucibleref1_CleanPath.j0]) ?_
    refine ev_ite (fun _ => Ev.now _) (fun _ => ev_bind (ev_split1 s 47 (by omega)) ?_)
    have hb : bulk (split 47 s.data.toList) ≤ 1000 := by rw [bulk_split, size_data]; omega
    have := ev_CleanPath_loop (split 47 s.data.toList) hb (split 47 s.data.toList) [] [] rfl (by simpa [bulk] using hb)
    simpa using this
  · have hm' : nameMay s.data.toList = false := by simpa using hm
    rw [hm']
    refine ev_neg (by simp) (Ev.step (fun k => by rw [crucibleref1_CleanPath.j0]) (ev_pos rfl (ev_const ?_)))
    unfold clean
    rw [if_neg (by simp [hm'])]
    rfl

end Go.Proofs.YtaokgnhdagcepaaDoor.Spec
end

section
/- Chapter 2 without the program: a clean path is its own clean path; texts put together are cut where they were put together. -/
namespace Go.Proofs.YtaokgnhdagcepaaDoor.Spec

def stepC (o : Option (List (List UInt8))) (p : List UInt8) : Option (List (List UInt8)) := match o with
  | none => none
  | some kept => if p = [] ∨ p = [46] then some kept else if p = [46, 46] then (if kept = [] then none else some kept.dropLast) else some (kept ++ [p])
def endC (o : Option (List (List UInt8))) : Option (List (List UInt8)) := match o with
  | none => none
  | some kept => if kept = [] then none else some kept
theorem stepC_none (ps : List (List UInt8)) : ps.foldl stepC none = none := by
  induction ps with
  | nil => rfl
  | cons p ps ih => exact ih
theorem cleanGo_fold : ∀ (ps kept : List (List UInt8)), cleanGo kept ps = endC (ps.foldl stepC (some kept))
  | [], kept => rfl
  | p :: ps, kept => by
    rw [cleanGo, List.foldl_cons]
    simp only [stepC]
    split
    · exact cleanGo_fold ps kept
    · split
      · split
        · rw [stepC_none]; rfl
        · exact cleanGo_fold ps _
      · exact cleanGo_fold ps _

/-- a piece that stays -/
def Good (p : List UInt8) : Prop := p ≠ [] ∧ p ≠ [46] ∧ p ≠ [46, 46] ∧ 47 ∉ p
theorem fold_good : ∀ (ps kept : List (List UInt8)) (r : List (List UInt8)), ps.foldl stepC (some kept) = some r → (∀ p ∈ kept, Good p) → (∀ p ∈ ps, (47 : UInt8) ∉ p) →
    (∀ p ∈ r, Good p) ∧ bulk r ≤ bulk kept + bulk ps ∧ ∀ p ∈ r, p ∈ kept ∨ p ∈ ps
  | [], kept, r, h, hk, _ => by
    obtain rfl : kept = r := Option.some.inj h
    exact ⟨hk, by simp [bulk], fun p hp => .inl hp⟩
  | p :: ps, kept, r, h, hk, hp => by
    rw [List.foldl_cons] at h
    simp only [stepC] at h
    have hps : ∀ q ∈ ps, (47 : UInt8) ∉ q := fun q hq => hp q (List.mem_cons_of_mem _ hq)
    rw [bulk_cons]
    split at h
    · obtain ⟨h1, h2, h3⟩ := fold_good ps kept r h hk hps
      exact ⟨h1, by omega, fun q hq => (h3 q hq).imp_right (List.mem_cons_of_mem _)⟩
    · rename_i hn
      split at h
      · split at h
        · rw [stepC_none] at h; cases h
        · obtain ⟨h1, h2, h3⟩ := fold_good ps kept.dropLast r h (fun q hq => hk q ((List.dropLast_sublist _).subset hq)) hps
          have := bulk_dropLast kept
          exact ⟨h1, by omega, fun q hq => (h3 q hq).elim (fun h => .inl ((List.dropLast_sublist _).subset h)) (fun h => .inr (List.mem_cons_of_mem _ h))⟩
      · rename_i hd
        have hg : Good p := ⟨fun e => hn (.inl e), fun e => hn (.inr e), hd, hp p List.mem_cons_self⟩
        obtain ⟨h1, h2, h3⟩ := fold_good ps (kept ++ [p]) r h (fun q hq => by
          rcases List.mem_append.1 hq with hq | hq
          · exact hk q hq
          · rw [List.mem_singleton.1 hq]; exact hg) hps
        rw [bulk_append, bulk_cons] at h2
        have hb0 : bulk [] = 0 := rfl
        refine ⟨h1, by omega, fun q hq => ?_⟩
        rcases h3 q hq with h | h
        · rcases List.mem_append.1 h with h | h
          · exact .inl h
          · exact .inr (by rw [List.mem_singleton.1 h]; exact List.mem_cons_self)
        · exact .inr (List.mem_cons_of_mem _ h)
theorem fold_keeps : ∀ (ps kept : List (List UInt8)), (∀ p ∈ ps, Good p) → ps.foldl stepC (some kept) = some (kept ++ ps)
  | [], kept, _ => by simp
  | p :: ps, kept, h => by
    obtain ⟨h1, h2, h3, _⟩ := h p List.mem_cons_self
    rw [List.foldl_cons]
    simp only [stepC]
    rw [if_neg (by simp [h1, h2]), if_neg h3, fold_keeps ps (kept ++ [p]) (fun q hq => h q (List.mem_cons_of_mem _ hq))]
    simp

theorem split_append (c : UInt8) : ∀ u v : List UInt8, split c (u ++ c :: v) = split c u ++ split c v
  | [], v => by simp [split]
  | b :: u, v => by
    rw [List.cons_append, split, split_append c u v, split]
    split
    · rfl
    · cases e : split c u with
      | nil => exact absurd e (split_ne c u)
      | cons x r => simp
theorem joinS_cons2 (sg x y : List UInt8) (r : List (List UInt8)) : joinS sg (x :: y :: r) = x ++ sg ++ joinS sg (y :: r) := by simp [joinS]
theorem split_join (c : UInt8) : ∀ r : List (List UInt8), r ≠ [] → (∀ p ∈ r, c ∉ p) → split c (joinS [c] r) = r
  | [], h, _ => absurd rfl h
  | [x], _, h => by
    have : joinS [c] [x] = x := by simp [joinS]
    rw [this]; exact split_none c x (h x List.mem_cons_self)
  | x :: y :: r, _, h => by
    rw [joinS_cons2, List.append_assoc, List.singleton_append, split_append, split_none c x (h x List.mem_cons_self), split_join c (y :: r) (by simp) (fun p hp => h p (List.mem_cons_of_mem _ hp))]
    rfl
theorem joinS_len (c : UInt8) : ∀ r : List (List UInt8), r ≠ [] → (joinS [c] r).length + 1 = bulk r
  | [], h => absurd rfl h
  | [x], _ => by simp [joinS, bulk]
  | x :: y :: r, _ => by
    rw [joinS_cons2, bulk_cons, ← joinS_len c (y :: r) (by simp)]
    simp; omega
theorem split_mem (c : UInt8) : ∀ (l p : List UInt8), p ∈ split c l → c ∉ p ∧ ∀ b ∈ p, b ∈ l
  | [], p, h => by
    obtain rfl : p = [] := by simpa [split] using h
    exact ⟨by simp, fun b hb => by cases hb⟩
  | a :: l, p, h => by
    rw [split] at h
    split at h
    · rcases List.mem_cons.1 h with rfl | h
      · exact ⟨by simp, fun b hb => by cases hb⟩
      · obtain ⟨h1, h2⟩ := split_mem c l p h
        exact ⟨h1, fun b hb => List.mem_cons_of_mem _ (h2 b hb)⟩
    · rename_i hac
      cases e : split c l with
      | nil => exact absurd e (split_ne c l)
      | cons x r =>
        rw [e] at h
        simp only [List.headD_cons, List.tail_cons] at h
        rcases List.mem_cons.1 h with rfl | h
        · obtain ⟨h1, h2⟩ := split_mem c l x (by rw [e]; exact List.mem_cons_self)
          refine ⟨fun hm => ?_, fun b hb => ?_⟩
          · rcases List.mem_cons.1 hm with rfl | hm
            · exact hac rfl
            · exact h1 hm
          · rcases List.mem_cons.1 hb with rfl | hb
            · exact List.mem_cons_self
            · exact List.mem_cons_of_mem _ (h2 b hb)
        · obtain ⟨h1, h2⟩ := split_mem c l p (by rw [e]; exact List.mem_cons_of_mem _ h)
          exact ⟨h1, fun b hb => List.mem_cons_of_mem _ (h2 b hb)⟩
theorem mem_joinS (sg : List UInt8) (b : UInt8) : ∀ r : List (List UInt8), b ∈ joinS sg r → b ∈ sg ∨ ∃ p ∈ r, b ∈ p
  | [], h => by simp [joinS] at h
  | [x], h => .inr ⟨x, List.mem_cons_self, by simpa [joinS] using h⟩
  | x :: y :: r, h => by
    rw [joinS_cons2] at h
    simp only [List.mem_append] at h
    rcases h with (h | h) | h
    · exact .inr ⟨x, List.mem_cons_self, h⟩
    · exact .inl h
    · rcases mem_joinS sg b (y :: r) h with h | ⟨p, hp, hb⟩
      · exact .inl h
      · exact .inr ⟨p, List.mem_cons_of_mem _ hp, hb⟩

/-- what a clean path is -/
theorem clean_some {l m : List UInt8} (h : clean l = some m) : ∃ r : List (List UInt8), r ≠ [] ∧ (∀ p ∈ r, Good p) ∧ m = joinS [47] r ∧ (split 47 l).foldl stepC (some []) = some r ∧ nameMay m = true ∧ m.head? ≠ some 47 ∧ m.length ≤ l.length := by
  unfold clean at h
  split at h
  · rename_i hc
    obtain ⟨r, hr, rfl⟩ := Option.map_eq_some_iff.1 h
    rw [cleanGo_fold] at hr
    cases hf : (split 47 l).foldl stepC (some []) with
    | none => rw [hf] at hr; cases hr
    | some k =>
      rw [hf] at hr
      simp only [endC] at hr
      split at hr
      · cases hr
      · rename_i hk
        obtain rfl : k = r := Option.some.inj hr
        obtain ⟨h1, h2, h3⟩ := fold_good (split 47 l) [] k hf (fun p hp => by cases hp) (fun p hp => (split_mem 47 l p hp).1)
        have hb0 : bulk [] = 0 := rfl
        have hl := joinS_len 47 k hk
        rw [bulk_split] at h2
        have hnl := nameMay_len hc.1
        refine ⟨k, hk, h1, rfl, rfl, ?_, ?_, by omega⟩
        · have hall : (joinS [47] k).all (fun b => nameByte b.toNat) = true := by
            rw [List.all_eq_true]
            intro b hb
            rcases mem_joinS [47] b k hb with hb | ⟨p, hp, hb⟩
            · rw [List.mem_singleton.1 hb]; rfl
            · rcases h3 p hp with h | h
              · cases h
              · have := (split_mem 47 l p h).2 b hb
                have ha : l.all (fun b => nameByte b.toNat) = true := by
                  have := hc.1
                  simp only [nameMay, Bool.and_eq_true] at this
                  exact this.1.1
                exact List.all_eq_true.1 ha b this
          have hne : 1 ≤ (joinS [47] k).length := by
            cases k with
            | nil => exact absurd rfl hk
            | cons x r =>
              have := (h1 x List.mem_cons_self).1
              have := List.length_pos_iff.2 this
              simp [joinS]; omega
          simp only [nameMay, hall, Bool.true_and, Bool.and_eq_true, decide_eq_true_eq]
          omega
        · cases k with
          | nil => exact absurd rfl hk
          | cons x r =>
            obtain ⟨hx, _, _, h47⟩ := h1 x List.mem_cons_self
            cases x with
            | nil => exact absurd rfl hx
            | cons b x =>
              simp only [joinS, List.cons_append, List.head?_cons]
              intro e
              injection e with e
              exact h47 (by rw [e]; exact List.mem_cons_self)
  · cases h
/-- the pieces of a path are kept -/
theorem clean_of {r : List (List UInt8)} {ps : List (List UInt8)} (hr : r ≠ []) {l : List UInt8} (hs : split 47 l = ps) (hf : ps.foldl stepC (some []) = some r) (hn : nameMay l = true) (hh : l.head? ≠ some 47) : clean l = some (joinS [47] r) := by
  unfold clean
  rw [if_pos ⟨hn, hh⟩, cleanGo_fold, hs, hf]
  simp [endC, hr]
theorem clean_again {l m : List UInt8} (h : clean l = some m) : clean m = some m := by
  obtain ⟨r, hr, hg, rfl, _, hn, hh, _⟩ := clean_some h
  exact clean_of hr (split_join 47 r hr (fun p hp => (hg p hp).2.2.2)) (by simpa using fold_keeps r [] hg) hn hh
end Go.Proofs.YtaokgnhdagcepaaDoor.Spec
end

section
/- Paths, without the program. -/
namespace Go.Proofs.YtaokgnhdagcepaaDoor.Spec
open Go.RowKit Go.Proofs.YtaokgnhdagcepaaDoorW.PrintWords Go.Proofs.YtaokgnhdagcepaaDoor.P

/-- is it a path? -/
def isP (l : List UInt8) : Bool := decide (clean l = some l)
theorem isP_of {o : Option (List UInt8)} {l : List UInt8} : ((if (cleanR o).2 = 0 then some ((cleanR o).1.toList == l) else some false) : Option Bool) = some (decide (o = some l)) := by
  cases o with
  | none => rfl
  | some m =>
    simp only [cleanR, if_true, str_toList, Option.some.injEq]
    by_cases h : m = l <;> simp [h]
theorem ev_Is (s : ByteArray) : Ev (fun k => path_Is.f k s) (isP s.data.toList) := by
  refine Ev.congr (fun k => by rw [path_Is.f]) (ev_bind (ev_Clean s) ?_)
  refine ev_const ?_
  rw [toList_data s]
  exact isP_of
theorem isP_names {l : List UInt8} (h : isP l = true) : nameMay l = true ∧ l ≠ [] := by
  have := of_decide_eq_true h
  obtain ⟨r, _, _, _, _, hn, _, _⟩ := clean_some this
  have h1 := nameMay_len hn
  exact ⟨hn, fun e => by rw [e] at h1; simp at h1⟩
theorem nameMay_mem {l : List UInt8} (h : nameMay l = true) {b : UInt8} (hb : b ∈ l) : nameByte b.toNat = true := by
  simp only [nameMay, Bool.and_eq_true] at h
  exact List.all_eq_true.1 h.1.1 b hb
theorem isP_size {l : List UInt8} (h : isP l = true) : l.length ≤ 16 := (nameMay_len (isP_names h).1).2
end Go.Proofs.YtaokgnhdagcepaaDoor.Spec
end

section
/- Paths and lists of them, texts compared, without the program. -/
namespace Go.Proofs.YtaokgnhdagcepaaDoor.Spec
open Go.RowKit Go.Proofs.YtaokgnhdagcepaaDoorW.PrintWords Go.Proofs.YtaokgnhdagcepaaDoor.P

def allP (xs : List ByteArray) (most : Nat) : Bool := xs.all (fun x => isP x.data.toList) && decide (xs.length ≤ most)

theorem ev_All_loop (xs : List ByteArray) (most : Nat) (hx : xs.length ≤ 4611686018427387904) : ∀ rest pre : List ByteArray, xs = pre ++ rest → (pre.all fun x => isP x.data.toList) = true →
    Ev (fun k => path_All.l0 k xs (most : Int) xs (xs.length : Int) (pre.length : Int)) (allP xs most) := by
  intro rest
  induction rest with
  | nil =>
    intro pre h ha
    refine Ev.step (fun k => by rw [path_All.l0]) (ev_neg (by rw [h]; simp) (ev_const ?_))
    rw [List.append_nil] at h
    subst h
    simp only [allP, ha, Bool.true_and, Option.some.injEq, decide_eq_decide]
    omega
  | cons x rest ih =>
    intro pre h ha
    have hl : xs.length = pre.length + (rest.length + 1) := by rw [h]; simp
    have hr : rdOf ByteArray.empty xs (pre.length : Int) = x := by rw [h]; exact rdOf_pre _ _ _ _
    have hw : wrap64 ((pre.length : Int) + 1) = ((pre ++ [x]).length : Int) := wrap_len pre x (by omega)
    refine Ev.step (fun k => by rw [path_All.l0]) ?_
    simp only [hr, hw]
    refine ev_pos (by omega) (ev_pos (by omega) (ev_pos (by omega) (ev_bind (ev_Is x) ?_)))
    cases hp : isP x.data.toList with
    | true => exact ev_pos rfl (ih (pre ++ [x]) (by simp [h]) (by simp [ha, hp]))
    | false =>
      refine ev_neg (by simp) (ev_const ?_)
      rw [show allP xs most = false by simp [allP, h, hp]]
theorem ev_All (xs : List ByteArray) (most : Nat) (hx : xs.length ≤ 4611686018427387904) : Ev (fun k => path_All.f k xs (most : Int)) (allP xs most) :=
  Ev.congr (fun k => by rw [path_All.f]; rfl) (ev_All_loop xs most hx xs [] rfl rfl)

theorem ev_Same_loop (xs ys : List ByteArray) (hl : xs.length = ys.length) (hx : xs.length ≤ 4611686018427387904) : ∀ rest resty pre prey : List ByteArray, xs = pre ++ rest → ys = prey ++ resty → pre = prey →
    Ev (fun k => cruciblelaw0_SameTexts.l0 k xs ys (pre.length : Int)) (decide (xs = ys)) := by
  intro rest
  induction rest with
  | nil =>
    intro resty pre prey h hy e
    subst e
    have : resty = [] := by
      rw [h, hy] at hl; simp at hl; exact hl
    subst this
    refine Ev.step (fun k => by rw [cruciblelaw0_SameTexts.l0]) (ev_neg (by rw [h]; simp) (ev_const ?_))
    rw [h, hy]; simp
  | cons x rest ih =>
    intro resty pre prey h hy e
    subst e
    have hlx : xs.length = pre.length + (rest.length + 1) := by rw [h]; simp
    cases resty with
    | nil => rw [h, hy] at hl; simp at hl
    | cons y resty =>
      have hr : rdOf ByteArray.empty xs (pre.length : Int) = x := by rw [h]; exact rdOf_pre _ _ _ _
      have hry : rdOf ByteArray.empty ys (pre.length : Int) = y := by rw [hy]; exact rdOf_pre _ _ _ _
      have hw : wrap64 ((pre.length : Int) + 1) = ((pre ++ [x]).length : Int) := wrap_len pre x (by omega)
      refine Ev.step (fun k => by rw [cruciblelaw0_SameTexts.l0]) ?_
      simp only [hr, hry, hw]
      refine ev_pos (by omega) (ev_pos (by omega) (ev_pos (by omega) (ev_split (fun e => ?_) (fun e => ev_const ?_))))
      · have exy : x = y := data_inj (by rw [← toList_data, ← toList_data, e])
        exact ih resty (pre ++ [x]) (prey := pre ++ [y]) (by simp [h]) (by simp [hy]) (by rw [exy])
      · have : xs ≠ ys := by
          intro h2
          rw [h, hy] at h2
          have := List.append_cancel_left h2
          injection this with h3 _
          exact e (by rw [h3])
        simp [this]
theorem ev_Same (xs ys : List ByteArray) (hx : xs.length ≤ 4611686018427387904) : Ev (fun k => cruciblelaw0_SameTexts.f k xs ys) (decide (xs = ys)) := by
  refine Ev.congr (fun k => by rw [cruciblelaw0_SameTexts.f]) ?_
  by_cases hl : xs.length = ys.length
  · exact ev_pos (by omega) (ev_Same_loop xs ys hl hx xs ys [] [] rfl rfl rfl)
  · refine ev_neg (by omega) (ev_const ?_)
    have : xs ≠ ys := fun e => hl (by rw [e])
    simp [this]

theorem allP_all {xs : List ByteArray} {m : Nat} (h : allP xs m = true) : (∀ x ∈ xs, isP x.data.toList = true) ∧ xs.length ≤ m := by
  simp only [allP, Bool.and_eq_true, decide_eq_true_eq] at h
  exact ⟨fun x hx => List.all_eq_true.1 h.1 x hx, h.2⟩
theorem bulk_paths {xs : List ByteArray} {m : Nat} (h : allP xs m = true) : bulk (datas xs) ≤ 17 * m := by
  obtain ⟨h1, h2⟩ := allP_all h
  have : ∀ ys : List ByteArray, (∀ x ∈ ys, isP x.data.toList = true) → bulk (datas ys) ≤ 17 * ys.length := by
    intro ys
    induction ys with
    | nil => intro _; simp [bulk]
    | cons y ys ih =>
      intro hy
      have := ih (fun x hx => hy x (List.mem_cons_of_mem _ hx))
      have h16 := isP_size (hy y List.mem_cons_self)
      rw [datas, List.map_cons, bulk_cons, List.length_cons]
      have e : bulk (ys.map fun x => x.data.toList) = bulk (datas ys) := rfl
      omega
  have := this xs h1
  omega
end Go.Proofs.YtaokgnhdagcepaaDoor.Spec
end

section
/- Chapter 15 without the program: a found's bytes, and back. -/
namespace Go.Proofs.YtaokgnhdagcepaaDoor.Spec
open Go.RowKit

/-- a text, its length ahead -/
def txtL (s : List UInt8) : List UInt8 := lowL 1 s.length ++ s
def bodyL (o : List UInt8) (t : Nat) (ins : List (List UInt8)) : List UInt8 := txtL o ++ (lowL 4 t ++ (lowL 1 ins.length ++ (ins.map txtL).flatten))
def foundL (o : List UInt8) (t : Nat) (ins : List (List UInt8)) : List UInt8 := lowL 2 (bodyL o t ins).length ++ bodyL o t ins
theorem txtL_len (s : List UInt8) : (txtL s).length = s.length + 1 := by rw [txtL, List.length_append, lowL_len, Nat.add_comm]
theorem txts_len (ins : List (List UInt8)) : ((ins.map txtL).flatten).length = bulk ins := by
  induction ins with
  | nil => rfl
  | cons x r ih => rw [List.map_cons, List.flatten_cons, List.length_append, ih, txtL_len, bulk_cons]
theorem bodyL_len (o : List UInt8) (t : Nat) (ins : List (List UInt8)) : (bodyL o t ins).length = o.length + 6 + bulk ins := by
  simp only [bodyL, List.length_append, txtL_len, lowL_len, txts_len]; omega
theorem foundL_len (o : List UInt8) (t : Nat) (ins : List (List UInt8)) : (foundL o t ins).length = o.length + 8 + bulk ins := by
  rw [foundL, List.length_append, lowL_len, bodyL_len]; omega

/-! ### Back: so many bytes are taken, or as many as there are -/
def tN (k : Nat) (s : List UInt8) : Nat := unlow (s.take k)
def tT (s : List UInt8) : List UInt8 := (s.drop 1).take (tN 1 s)
def tR (s : List UInt8) : List UInt8 := (s.drop 1).drop (tN 1 s)
def tTs : Nat → List UInt8 → List (List UInt8)
  | 0, _ => []
  | n + 1, s => tT s :: tTs n (tR s)
def pOut (s : List UInt8) : List UInt8 := tT (s.drop 2)
def pR1 (s : List UInt8) : List UInt8 := tR (s.drop 2)
def pTime (s : List UInt8) : Nat := tN 4 (pR1 s)
def pMany (s : List UInt8) : Nat := min (tN 1 ((pR1 s).drop 4)) 8
def pR2 (s : List UInt8) : List UInt8 := ((pR1 s).drop 4).drop 1
def pIns (s : List UInt8) : List (List UInt8) := tTs (pMany s) (pR2 s)

theorem tN_low (k x : Nat) (r : List UInt8) (h : x < 256 ^ k) : tN k (lowL k x ++ r) = x := by
  rw [tN, List.take_left' (lowL_len k x), unlow_lowL k x h]
theorem drop_low (k x : Nat) (r : List UInt8) : (lowL k x ++ r).drop k = r := List.drop_left' (lowL_len k x)
theorem tT_txt (x r : List UInt8) (h : x.length < 256) : tT (txtL x ++ r) = x := by
  rw [tT, txtL, List.append_assoc, tN_low 1 _ _ (by omega), drop_low, List.take_left' rfl]
theorem tR_txt (x r : List UInt8) (h : x.length < 256) : tR (txtL x ++ r) = r := by
  rw [tR, txtL, List.append_assoc, tN_low 1 _ _ (by omega), drop_low, List.drop_left' rfl]
theorem tTs_txts : ∀ (ins : List (List UInt8)) (r : List UInt8), (∀ x ∈ ins, x.length < 256) → tTs ins.length ((ins.map txtL).flatten ++ r) = ins
  | [], _, _ => rfl
  | x :: ins, r, h => by
    rw [List.length_cons, tTs, List.map_cons, List.flatten_cons, List.append_assoc, tT_txt x _ (h x (by simp)), tR_txt x _ (h x (by simp)), tTs_txts ins r fun y hy => h y (by simp [hy])]
/-- what may be told -/
structure Small (o : List UInt8) (t : Nat) (ins : List (List UInt8)) : Prop where
  out : o.length < 256
  time : t < 4294967296
  many : ins.length ≤ 8
  each : ∀ x ∈ ins, x.length < 256
theorem foundL_eq (o : List UInt8) (t : Nat) (ins : List (List UInt8)) : foundL o t ins = lowL 2 (bodyL o t ins).length ++ (txtL o ++ (lowL 4 t ++ (lowL 1 ins.length ++ (ins.map txtL).flatten))) := rfl
theorem pR1_found {o t ins} (h : Small o t ins) (r : List UInt8) : pR1 (foundL o t ins ++ r) = lowL 4 t ++ (lowL 1 ins.length ++ ((ins.map txtL).flatten ++ r)) := by
  rw [pR1, foundL_eq]
  simp only [List.append_assoc]
  rw [drop_low, tR_txt _ _ h.out]
theorem pOut_found {o t ins} (h : Small o t ins) (r : List UInt8) : pOut (foundL o t ins ++ r) = o := by
  rw [pOut, foundL_eq]
  simp only [List.append_assoc]
  rw [drop_low, tT_txt _ _ h.out]
theorem pTime_found {o t ins} (h : Small o t ins) (r : List UInt8) : pTime (foundL o t ins ++ r) = t := by
  rw [pTime, pR1_found h, tN_low 4 t _ (by have := h.time; omega)]
theorem pMany_found {o t ins} (h : Small o t ins) (r : List UInt8) : pMany (foundL o t ins ++ r) = ins.length := by
  have := h.many
  rw [pMany, pR1_found h, drop_low, tN_low 1 _ _ (by omega)]
  omega
theorem pIns_found {o t ins} (h : Small o t ins) (r : List UInt8) : pIns (foundL o t ins ++ r) = ins := by
  rw [pIns, pMany_found h, pR2, pR1_found h, drop_low, drop_low, tTs_txts ins r h.each]
theorem found_inj {o t ins o' t' ins'} (h : Small o t ins) (h' : Small o' t' ins') {r r'} (e : foundL o t ins ++ r = foundL o' t' ins' ++ r') : o = o' ∧ t = t' ∧ ins = ins' := by
  refine ⟨?_, ?_, ?_⟩
  · rw [← pOut_found h r, e, pOut_found h' r']
  · rw [← pTime_found h r, e, pTime_found h' r']
  · rw [← pIns_found h r, e, pIns_found h' r']

/-! ### Founds -/
def mayD (o : ByteArray) (t : Int) (ins : List ByteArray) : Bool := isP o.data.toList && (decide (1 ≤ t) && decide (t ≤ 1048576)) && allP ins 8
theorem mayD_small {o : ByteArray} {t : Int} {ins : List ByteArray} (h : mayD o t ins = true) : Small o.data.toList t.toNat (datas ins) ∧ o.size ≤ 16 ∧ bulk (datas ins) ≤ 136 ∧ ins.length ≤ 8 ∧ 1 ≤ t ∧ t ≤ 1048576 := by
  simp only [mayD, Bool.and_eq_true, decide_eq_true_eq] at h
  obtain ⟨⟨h1, h2, h3⟩, h4⟩ := h
  have e1 := isP_size h1
  have e2 := bulk_paths h4
  have e3 := (allP_all h4).2
  refine ⟨⟨by omega, by omega, by simpa [datas] using e3, fun x hx => ?_⟩, by rw [← size_data]; exact e1, by omega, e3, h2, h3⟩
  obtain ⟨y, hy, rfl⟩ := List.mem_map.1 hx
  have := isP_size ((allP_all h4).1 y hy)
  omega
def putF (o : ByteArray) (t : Int) (ins : List ByteArray) : ByteArray × Int :=
  if mayD o t ins = true then (str (foundL o.data.toList t.toNat (datas ins)), 0) else (str [], 1500)
/-- back again -/
def getF (s : ByteArray) : ByteArray × Int × List ByteArray × Int :=
  let o := str (pOut s.data.toList); let t : Int := (pTime s.data.toList : Nat); let ins := (pIns s.data.toList).map str
  if mayD o t ins = true ∧ foundL (pOut s.data.toList) (pTime s.data.toList) (pIns s.data.toList) = s.data.toList then (o, t, ins, 0) else (str [], 0, [], 1500)
theorem getF_found {o : ByteArray} {t : Int} {ins : List ByteArray} (h : mayD o t ins = true) : getF (str (foundL o.data.toList t.toNat (datas ins))) = (o, t, ins, 0) := by
  obtain ⟨hs, _, _, _, h1, _⟩ := mayD_small h
  have e1 := pOut_found hs []
  have e2 := pTime_found hs []
  have e3 := pIns_found hs []
  rw [List.append_nil] at e1 e2 e3
  have e4 : ((t.toNat : Nat) : Int) = t := by omega
  unfold getF
  simp only [str_data, e1, e2, e3, str_of, map_str_data, e4]
  rw [if_pos ⟨h, trivial⟩]
theorem getF_ok {s : ByteArray} (h : (getF s).2.2.2 = 0) : ∃ o t ins, getF s = (o, t, ins, 0) ∧ mayD o t ins = true ∧ s = str (foundL o.data.toList t.toNat (datas ins)) := by
  unfold getF at h ⊢
  simp only [] at h ⊢
  split at h
  · rename_i hc
    rw [if_pos hc]
    refine ⟨_, _, _, rfl, hc.1, ?_⟩
    have e : ((pTime s.data.toList : Nat) : Int).toNat = pTime s.data.toList := Int.toNat_natCast _
    rw [str_data, e, datas_str, hc.2, str_of]
  · exact absurd h (by decide)
theorem getF_no {s : ByteArray} (h : (getF s).2.2.2 ≠ 0) : getF s = (str [], 0, [], 1500) := by
  unfold getF at h ⊢
  simp only [] at h ⊢
  split at h
  · exact absurd rfl h
  · rename_i hc; rw [if_neg hc]
end Go.Proofs.YtaokgnhdagcepaaDoor.Spec
end

section
/- Bytes as numbers. -/
namespace Go.Proofs.YtaokgnhdagcepaaDoor.Spec
open Go.RowKit Go.Proofs.YtaokgnhdagcepaaDoorW.PrintWords Go.Proofs.YtaokgnhdagcepaaDoorW.PrintMore

def nb (l : List UInt8) : List Int := l.map fun b => (b.toNat : Int)
theorem nb_str (l : List UInt8) : strOfNums (nb l) = str l := by
  refine str_eq _ _ ?_
  rw [strOfNums_data, nb, List.map_map]
  conv => rhs; rw [← List.map_id l]
  apply List.map_congr_left
  intro b _
  simp
theorem nb_app (a b : List UInt8) : nb a ++ nb b = nb (a ++ b) := by simp [nb]
theorem nb_len (a : List UInt8) : (nb a).length = a.length := by simp [nb]
theorem bytes_nb (s : ByteArray) : bytesOf s = nb s.data.toList := rfl
end Go.Proofs.YtaokgnhdagcepaaDoor.Spec
end

section
/- May a time be? -/
namespace Go.Proofs.YtaokgnhdagcepaaDoor.Spec
open Go.RowKit Go.Proofs.YtaokgnhdagcepaaDoorW.PrintWords Go.Proofs.YtaokgnhdagcepaaDoor.P

theorem time_is (t : Int) : logline_Time.f t = some (decide (1 ≤ t) && decide (t ≤ 1048576)) := by
  unfold logline_Time.f
  by_cases h : 1 ≤ t
  · rw [if_pos h]; simp [h]
  · rw [if_neg h]; simp [h]
end Go.Proofs.YtaokgnhdagcepaaDoor.Spec
end

section
/- Chapter 15: what Put, Get and Size compute. -/
namespace Go.Proofs.YtaokgnhdagcepaaDoor.Spec
open Go.RowKit Go.Proofs.YtaokgnhdagcepaaDoorW.PrintWords Go.Proofs.YtaokgnhdagcepaaDoorW.PrintMore Go.Proofs.YtaokgnhdagcepaaDoor.P

theorem ev_low_loop : ∀ (d i x : Nat) (pre : List Int), i + d ≤ 1000 → pre.length = i →
    Ev (fun k => deprec_low.l0 k (x : Int) pre ((i + d : Nat) : Int) (i : Int)) (pre ++ nb (lowL d x))
  | 0, i, x, pre, _, _ => Ev.step (fun k => by rw [deprec_low.l0]) (ev_neg (by omega) (ev_const (by simp [lowL, nb])))
  | d + 1, i, x, pre, h, hp => by
    refine Ev.step (fun k => by rw [deprec_low.l0]) (ev_pos (by omega) (ev_pos (by omega) ?_))
    have e1 : (x : Int) / 256 = ((x / 256 : Nat) : Int) := by omega
    have e2 : (x : Int) % 256 = ((x.toUInt8.toNat : Nat) : Int) := by rw [byte_nat]; omega
    have e3 : wrap64 ((i : Int) + 1) = ((i + 1 : Nat) : Int) := wrap_nat (by omega)
    have ih := ev_low_loop d (i + 1) (x / 256) (pre ++ [((x.toUInt8.toNat : Nat) : Int)]) (by omega) (by simp [hp])
    rw [e1, e2, e3]
    rw [show i + 1 + d = i + (d + 1) by omega] at ih
    refine ev_eq ih ?_
    rw [lowL, List.append_assoc]
    rfl
theorem ev_low (n x : Nat) (h : n ≤ 1000) : Ev (fun k => deprec_low.f k (x : Int) (n : Int)) (nb (lowL n x)) := by
  have := ev_low_loop n 0 x [] (by omega) rfl
  rw [Nat.zero_add] at this
  exact Ev.congr (fun k => by rw [deprec_low.f]; rfl) this
theorem ev_low1 (x : Nat) : Ev (fun k => deprec_low.f k (x : Int) 1) (nb (lowL 1 x)) := ev_low 1 x (by omega)
theorem ev_low2 (x : Nat) : Ev (fun k => deprec_low.f k (x : Int) 2) (nb (lowL 2 x)) := ev_low 2 x (by omega)
theorem ev_low4 (x : Nat) : Ev (fun k => deprec_low.f k (x : Int) 4) (nb (lowL 4 x)) := ev_low 4 x (by omega)
theorem ev_text (s : ByteArray) (h : s.size ≤ 1000) : Ev (fun k => deprec_text.f k s) (nb (txtL s.data.toList)) := by
  have e : nb (lowL 1 s.size) ++ bytesOf s = nb (txtL s.data.toList) := by rw [bytes_nb, nb_app, txtL, size_data]
  refine Ev.congr (fun k => by rw [deprec_text.f]) (ev_bind (ev_low1 s.size) ?_)
  rw [e]
  exact ev_pos (by rw [nb_len, lowL_len]; omega) (Ev.now _)
theorem ev_May (o : ByteArray) (t : Int) (ins : List ByteArray) (hi : ins.length ≤ 4611686018427387904) : Ev (fun k => deprec_May.f k o t ins) (mayD o t ins) := by
  refine Ev.congr (fun k => by rw [deprec_May.f]) (ev_bind (ev_Is o) ?_)
  unfold mayD
  cases h1 : isP o.data.toList with
  | false => exact ev_neg (by simp) (Ev.now _)
  | true =>
    refine ev_pos rfl (ev_bindc (time_is t) ?_)
    cases h2 : (decide (1 ≤ t) && decide (t ≤ 1048576)) with
    | false => exact ev_neg (by simp) (Ev.now _)
    | true =>
      refine ev_pos rfl (ev_bind (ev_All ins 8 hi) ?_)
      exact ev_const (by simp)
theorem ev_Put_loop (ins : List ByteArray) (hl : ins.length ≤ 8) (hs : ∀ x ∈ ins, x.size ≤ 16) : ∀ (rest pre : List ByteArray) (acc : List UInt8), ins = pre ++ rest → acc.length + 17 * rest.length ≤ 100000 →
    Ev (fun k => deprec_Put.l0 k (nb acc) ins (ins.length : Int) (pre.length : Int)) (str (lowL 2 (acc ++ ((datas rest).map txtL).flatten).length ++ (acc ++ ((datas rest).map txtL).flatten)), 0)
  | [], pre, acc, h, hb => by
    refine Ev.step (fun k => by rw [deprec_Put.l0]) (ev_neg (by rw [h]; simp) ?_)
    rw [nb_len]
    refine ev_bind (ev_low2 acc.length) (ev_pos ?_ (ev_const ?_))
    · rw [nb_len, lowL_len]; simp at hb; omega
    · rw [nb_app, nb_str]; simp [datas]
  | x :: rest, pre, acc, h, hb => by
    have hx := hs x (by rw [h]; simp)
    have hlen : ins.length = pre.length + (rest.length + 1) := by rw [h]; simp
    have hr : rdOf ByteArray.empty ins (pre.length : Int) = x := by rw [h]; exact rdOf_pre _ _ _ _
    have hw : wrap64 ((pre.length : Int) + 1) = ((pre ++ [x]).length : Int) := wrap_len pre x (by omega)
    have ht : (txtL x.data.toList).length ≤ 17 := by rw [txtL_len, size_data]; omega
    rw [List.length_cons] at hb
    have ih := ev_Put_loop ins hl hs rest (pre ++ [x]) (acc ++ txtL x.data.toList) (by simp [h]) (by rw [List.length_append]; omega)
    refine Ev.step (fun k => by rw [deprec_Put.l0]) ?_
    simp only [hr, hw]
    refine ev_pos (by omega) (ev_pos (by omega) (ev_pos (by omega) (ev_bind (ev_text x (by omega)) (ev_pos ?_ ?_))))
    · rw [nb_len, nb_len]; omega
    · rw [nb_app]
      refine ev_eq ih ?_
      simp [datas]
theorem ev_Put (o : ByteArray) (t : Int) (ins : List ByteArray) (hi : ins.length ≤ 4611686018427387904) : Ev (fun k => deprec_Put.f k o t ins) (putF o t ins) := by
  refine Ev.congr (fun k => by rw [deprec_Put.f]) (ev_bind (ev_May o t ins hi) ?_)
  unfold putF
  cases hm : mayD o t ins with
  | false => exact ev_neg (by simp) (Ev.now _)
  | true =>
    obtain ⟨hs, ho, hb, hl, h1, h2⟩ := mayD_small hm
    have e4 : t = ((t.toNat : Nat) : Int) := by omega
    have hx : ∀ x ∈ ins, x.size ≤ 16 := fun x hx => by
      have ha : allP ins 8 = true := by simp only [mayD, Bool.and_eq_true] at hm; exact hm.2
      have := isP_size ((allP_all ha).1 x hx)
      rwa [size_data] at this
    have hlow : Ev (fun k => deprec_low.f k t 4) (nb (lowL 4 t.toNat)) := by
      have := ev_low4 t.toNat
      rwa [← e4] at this
    refine ev_pos rfl (ev_bind (ev_text o (by omega)) (ev_bind hlow (ev_pos ?_ (ev_bindc rfl (ev_bind (ev_low1 ins.length) (ev_pos ?_ ?_))))))
    · rw [nb_len, nb_len, lowL_len, txtL_len, size_data]; omega
    · rw [List.length_append, nb_len, nb_len, nb_len, lowL_len, lowL_len, txtL_len, size_data]; omega
    · rw [nb_app, nb_app]
      have := ev_Put_loop ins hl hx ins [] (txtL o.data.toList ++ lowL 4 t.toNat ++ lowL 1 ins.length) rfl (by simp only [List.length_append, txtL_len, lowL_len, size_data]; omega)
      refine ev_eq this ?_
      rw [if_pos rfl, foundL, bodyL]
      simp [datas, List.append_assoc]

/-! ### Get -/
theorem text_is (s : List UInt8) : deprec_taker_text.f (str s) = some (str (tT s), str (tR s)) := by
  unfold deprec_taker_text.f deprec_taker_number.f
  rw [if_pos (by omega)]
  simp only [Option.bind_some]
  rw [taker_take_is _ _ (by omega)]
  simp only [Option.bind_some, str_data, Int.toNat_natCast]
  rfl
theorem number_is (s : List UInt8) (n : Nat) (h : n ≤ 4) : deprec_taker_number.f (str s) (n : Int) = some (((tN n s : Nat) : Int), str (s.drop n)) := by
  unfold deprec_taker_number.f
  rw [if_pos (by omega), str_data, Int.toNat_natCast]
  rfl
def backF (s o : ByteArray) (t : Int) (ins : List ByteArray) : ByteArray × Int × List ByteArray × Int :=
  if (putF o t ins).2 = 0 then (if (putF o t ins).1.toList = s.toList then (o, t, ins, 0) else (str [], 0, [], 1500)) else (str [], 0, [], 1500)
theorem ev_Get_loop (s o : ByteArray) (t : Int) : ∀ (d i : Nat) (rest : List UInt8) (pre : List ByteArray), i + d ≤ 8 → pre.length = i →
    Ev (fun k => deprec_Get.l0 k s ((i + d : Nat) : Int) (i : Int) (str rest) o t pre) (backF s o t (pre ++ (tTs d rest).map str))
  | 0, i, rest, pre, h, hp => by
    refine Ev.step (fun k => by rw [deprec_Get.l0]) (ev_neg (by omega) (ev_bind (ev_Put o t pre (by omega)) ?_))
    simp only [tTs, List.map_nil, List.append_nil]
    unfold backF
    exact ev_ite (fun _ => ev_ite (fun _ => Ev.now _) (fun _ => Ev.now _)) (fun _ => Ev.now _)
  | d + 1, i, rest, pre, h, hp => by
    have hw : wrap64 ((i : Int) + 1) = ((i + 1 : Nat) : Int) := wrap_nat (by omega)
    have ih := ev_Get_loop s o t d (i + 1) (tR rest) (pre ++ [str (tT rest)]) (by omega) (by simp [hp])
    refine Ev.step (fun k => by rw [deprec_Get.l0]) (ev_pos (by omega) (ev_bindc (text_is rest) (ev_pos (show pre.length < 8796093022208 by omega) ?_)))
    rw [hw]
    rw [show i + 1 + d = i + (d + 1) by omega] at ih
    refine ev_eq ih ?_
    simp [tTs]
theorem backF_is (s : ByteArray) : backF s (str (pOut s.data.toList)) ((pTime s.data.toList : Nat) : Int) ((pIns s.data.toList).map str) = getF s := by
  unfold backF getF putF
  simp only []
  by_cases h : mayD (str (pOut s.data.toList)) ((pTime s.data.toList : Nat) : Int) ((pIns s.data.toList).map str) = true
  · rw [if_pos h]
    simp only [if_true, str_data, Int.toNat_natCast, datas_str, toList_data]
    by_cases h2 : foundL (pOut s.data.toList) (pTime s.data.toList) (pIns s.data.toList) = s.data.toList
    · rw [if_pos h2, if_pos ⟨h, h2⟩]
    · rw [if_neg h2, if_neg (fun e => h2 e.2)]
  · rw [if_neg h, if_neg (show ¬ ((str [], (1500 : Int)).2 = 0) by decide), if_neg (fun e => h e.1)]
theorem ev_Get (s : ByteArray) : Ev (fun k => deprec_Get.f k s) (getF s) := by
  have e1 : deprec_taker_take.f s 2 = some (str (s.data.toList.take 2), str (s.data.toList.drop 2)) := taker_take_is s 2 (by omega)
  refine Ev.congr (fun k => by rw [deprec_Get.f]) (ev_bindc e1 (ev_bindc (text_is _) (ev_bindc (number_is (tR (s.data.toList.drop 2)) 4 (by omega)) (ev_bindc (number_is _ 1 (by omega)) ?_))))
  have hm : mn ((tN 1 ((tR (s.data.toList.drop 2)).drop 4) : Nat) : Int) 8 = ((pMany s.data.toList : Nat) : Int) := by
    unfold mn pMany pR1; omega
  simp only [hm]
  have := ev_Get_loop s (str (pOut s.data.toList)) ((pTime s.data.toList : Nat) : Int) (pMany s.data.toList) 0 (pR2 s.data.toList) [] (by unfold pMany; omega) rfl
  rw [Nat.zero_add, List.nil_append] at this
  rw [show tTs (pMany s.data.toList) (pR2 s.data.toList) = pIns s.data.toList from rfl, backF_is] at this
  exact this
theorem ev_SameFound (o : ByteArray) (t : Int) (ins : List ByteArray) (o' : ByteArray) (t' : Int) (ins' : List ByteArray) (h : ins.length ≤ 4611686018427387904) :
    Ev (fun k => cruciblelaw0_SameFound.f k o t ins o' t' ins') (decide (o = o' ∧ t = t' ∧ ins = ins')) := by
  refine Ev.congr (fun k => by rw [cruciblelaw0_SameFound.f]) ?_
  simp only [toList_data]
  by_cases h1 : o = o'
  · subst h1
    refine ev_pos rfl ?_
    by_cases h2 : t = t'
    · subst h2
      refine ev_pos rfl (ev_bind (ev_Same ins ins' h) (ev_const ?_))
      simp
    · exact ev_neg h2 (ev_const (by simp [h2]))
  · exact ev_neg (fun e => h1 (data_inj e)) (ev_const (by simp [h1]))
def mayL (o : List UInt8) (t : Nat) (ins : List (List UInt8)) : Bool := isP o && (decide (1 ≤ t) && decide (t ≤ 1048576)) && (ins.all isP && decide (ins.length ≤ 8))
theorem mayD_L (o : List UInt8) (t : Nat) (ins : List (List UInt8)) : mayD (str o) (t : Int) (ins.map str) = mayL o t ins := by
  have ha : allP (ins.map str) 8 = (ins.all isP && decide (ins.length ≤ 8)) := by
    simp only [allP, List.all_map, List.length_map]
    have : ((fun x : ByteArray => isP x.data.toList) ∘ str) = isP := by funext x; simp [str_data]
    rw [this]
  have h1 : decide ((1 : Int) ≤ (t : Int)) = decide (1 ≤ t) := by rw [decide_eq_decide]; omega
  have h2 : decide ((t : Int) ≤ 1048576) = decide (t ≤ 1048576) := by rw [decide_eq_decide]; omega
  rw [mayD, mayL, ha, h1, h2, str_data]
theorem putF_eval (o : List UInt8) (t : Nat) (ins : List (List UInt8)) (r : List UInt8) (n : Int)
    (h : (if mayL o t ins = true then (foundL o t ins, (0 : Int)) else ([], 1500)) = (r, n)) : putF (str o) (t : Int) (ins.map str) = (str r, n) := by
  unfold putF
  rw [mayD_L, str_data, datas_str, Int.toNat_natCast]
  split
  · rename_i hc
    rw [if_pos hc] at h
    injection h with h1 h2
    rw [← h1, ← h2]
  · rename_i hc
    rw [if_neg hc] at h
    injection h with h1 h2
    rw [← h1, ← h2]
/-- getF, as lists -/
def getL (s : List UInt8) : List UInt8 × Nat × List (List UInt8) × Int :=
  if mayL (pOut s) (pTime s) (pIns s) = true ∧ foundL (pOut s) (pTime s) (pIns s) = s then (pOut s, pTime s, pIns s, 0) else ([], 0, [], 1500)
theorem getF_eval (s : List UInt8) : getF (str s) = (str (getL s).1, (((getL s).2.1 : Nat) : Int), (getL s).2.2.1.map str, (getL s).2.2.2) := by
  unfold getF getL
  simp only [mayD_L, str_data]
  split <;> rfl
end Go.Proofs.YtaokgnhdagcepaaDoor.Spec
end

section
/- The reference's path, without the program. -/
namespace Go.Proofs.YtaokgnhdagcepaaDoor.Spec
open Go.RowKit Go.Proofs.YtaokgnhdagcepaaDoorW.PrintWords Go.Proofs.YtaokgnhdagcepaaDoor.P

theorem ev_PathMay (s : ByteArray) (hs : s.size ≤ 4611686018427387904) : Ev (fun k => crucibleref1_PathMay.f k s) (isP s.data.toList) := by
  refine Ev.congr (fun k => by rw [crucibleref1_PathMay.f]) (ev_bind (ev_CleanPath s hs) ?_)
  refine ev_const ?_
  rw [toList_data s]
  exact isP_of
end Go.Proofs.YtaokgnhdagcepaaDoor.Spec
end

section
/- The reference's paths, without the program. -/
namespace Go.Proofs.YtaokgnhdagcepaaDoor.Spec
open Go.RowKit Go.Proofs.YtaokgnhdagcepaaDoorW.PrintWords Go.Proofs.YtaokgnhdagcepaaDoor.P

theorem ev_PathsMay_loop (xs : List ByteArray) (hx : xs.length ≤ 4611686018427387904) (hz : ∀ x ∈ xs, x.size ≤ 4611686018427387904) : ∀ rest pre : List ByteArray, xs = pre ++ rest → (pre.all fun x => isP x.data.toList) = true →
    Ev (fun k => crucibleref1_PathsMay.l0 k xs (pre.length : Int)) (allP xs 8) := by
  intro rest
  induction rest with
  | nil =>
    intro pre h ha
    refine Ev.step (fun k => by rw [crucibleref1_PathsMay.l0]) (ev_neg (by rw [h]; simp) (ev_const ?_))
    rw [List.append_nil] at h
    subst h
    simp only [allP, ha, Bool.true_and, Option.some.injEq, decide_eq_decide]
    omega
  | cons x rest ih =>
    intro pre h ha
    have hl : xs.length = pre.length + (rest.length + 1) := by rw [h]; simp
    have hr : rdOf ByteArray.empty xs (pre.length : Int) = x := by rw [h]; exact rdOf_pre _ _ _ _
    have hw : wrap64 ((pre.length : Int) + 1) = ((pre ++ [x]).length : Int) := wrap_len pre x (by omega)
    refine Ev.step (fun k => by rw [crucibleref1_PathsMay.l0]) ?_
    simp only [hr, hw]
    refine ev_pos (by omega) (ev_pos (by omega) (ev_bind (ev_PathMay x (hz x (by rw [h]; simp))) ?_))
    cases hp : isP x.data.toList with
    | true => exact ev_pos rfl (ih (pre ++ [x]) (by simp [h]) (by simp [ha, hp]))
    | false =>
      refine ev_neg (by simp) (ev_const ?_)
      rw [show allP xs 8 = false by simp [allP, h, hp]]
theorem ev_PathsMay (xs : List ByteArray) (hx : xs.length ≤ 4611686018427387904) (hz : ∀ x ∈ xs, x.size ≤ 4611686018427387904) : Ev (fun k => crucibleref1_PathsMay.f k xs) (allP xs 8) :=
  Ev.congr (fun k => by rw [crucibleref1_PathsMay.f]; rfl) (ev_PathsMay_loop xs hx hz xs [] rfl rfl)
theorem sum_len {α : Type} (f : α → Nat) (xs : List α) : xs.length ≤ (xs.map fun x => f x + 1).sum := by
  induction xs with
  | nil => simp
  | cons x xs ih => simp; omega
theorem sum_mem {α : Type} (f : α → Nat) {xs : List α} {x : α} (h : x ∈ xs) : f x ≤ (xs.map f).sum := by
  induction xs with
  | nil => cases h
  | cons y xs ih =>
    rw [List.map_cons, List.sum_cons]
    rcases List.mem_cons.1 h with rfl | h
    · omega
    · have := ih h; omega
end Go.Proofs.YtaokgnhdagcepaaDoor.Spec
end

section
/- The reference's bounds. -/
namespace Go.Proofs.YtaokgnhdagcepaaDoor.Spec
open Go.RowKit Go.Proofs.YtaokgnhdagcepaaDoorW.PrintWords Go.Proofs.YtaokgnhdagcepaaDoor.P

theorem upTo_is (t : Int) : crucibleref12_upTo.f t 1 1048576 = some (decide (1 ≤ t) && decide (t ≤ 1048576)) := by
  unfold crucibleref12_upTo.f
  by_cases h : 1 ≤ t
  · rw [if_pos h]; simp [h]
  · rw [if_neg h]; simp [h]
end Go.Proofs.YtaokgnhdagcepaaDoor.Spec
end

section
/- Chapter 15: may a found be, as the reference has it. -/
namespace Go.Proofs.YtaokgnhdagcepaaDoor.Spec
open Go.RowKit Go.Proofs.YtaokgnhdagcepaaDoorW.PrintWords Go.Proofs.YtaokgnhdagcepaaDoor.P

theorem ev_FoundMay (o : ByteArray) (t : Int) (ins : List ByteArray) (ho : o.size ≤ 4611686018427387904) (hi : ins.length ≤ 4611686018427387904) (hz : ∀ x ∈ ins, x.size ≤ 4611686018427387904) : Ev (fun k => crucibleref12_FoundMay.f k o t ins) (mayD o t ins) := by
  refine Ev.congr (fun k => by rw [crucibleref12_FoundMay.f]) (ev_bind (ev_PathMay o ho) ?_)
  unfold mayD
  cases h1 : isP o.data.toList with
  | false => exact ev_neg (by simp) (Ev.now _)
  | true =>
    refine ev_pos rfl (ev_bindc (upTo_is t) ?_)
    cases h2 : (decide (1 ≤ t) && decide (t ≤ 1048576)) with
    | false => exact ev_neg (by simp) (Ev.now _)
    | true =>
      refine ev_pos rfl (ev_bind (ev_PathsMay ins hi hz) ?_)
      exact ev_const (by simp)
end Go.Proofs.YtaokgnhdagcepaaDoor.Spec
end

section
/- Chapter 15: what the reference's PutFound and GetFound compute. -/
namespace Go.Proofs.YtaokgnhdagcepaaDoor.Spec
open Go.RowKit Go.Proofs.YtaokgnhdagcepaaDoorW.PrintWords Go.Proofs.YtaokgnhdagcepaaDoorW.PrintMore Go.Proofs.YtaokgnhdagcepaaDoor.P

/-! ### A number in so many bytes -/
theorem lowL_snoc : ∀ (k x : Nat), lowL (k + 1) x = lowL k x ++ [(x / 256 ^ k).toUInt8]
  | 0, x => by simp [lowL]
  | k + 1, x => by
    rw [lowL, lowL_snoc k (x / 256), lowL, List.cons_append, Nat.div_div_eq_div_mul, Nat.pow_succ, Nat.mul_comm 256]
theorem set_mid (pre : List Int) (a b : Int) (post : List Int) : (pre ++ a :: post).set pre.length b = pre ++ b :: post := by simp
theorem shr_low (x i : Nat) (hi : i ≤ 7) : (shr .i64 (x : Int) (wrap64 (8 * (i : Int)))) % 256 = (((x / 256 ^ i).toUInt8.toNat : Nat) : Int) := by
  have e : wrap64 (8 * (i : Int)) = ((8 * i : Nat) : Int) := by unfold wrap64; omega
  rw [e, byte_nat]
  unfold shr
  have h1 : min ((8 * i : Nat) : Int).toNat IntKind.i64.bits = 8 * i := by
    rw [Int.toNat_natCast]; exact Nat.min_eq_left (show 8 * i ≤ 64 by omega)
  rw [h1]
  have h2 : (2 : Int) ^ (8 * i) = ((256 ^ i : Nat) : Int) := by rw [Int.pow_mul]; simp
  rw [h2]
  omega
theorem ev_rlow_loop (x n : Nat) (hn : n ≤ 7) : ∀ (d i : Nat), i + d = n → Ev (fun k => crucibleref12_low.l0 k (x : Int) (n : Int) (nb (lowL i x) ++ List.replicate d 0) (i : Int)) (str (lowL n x))
  | 0, i, h => by
    refine Ev.step (fun k => by rw [crucibleref12_low.l0]) (ev_neg (by omega) (ev_const ?_))
    have : i = n := by omega
    rw [List.replicate_zero, List.append_nil, nb_str, this]
  | d + 1, i, h => by
    refine Ev.step (fun k => by rw [crucibleref12_low.l0]) ?_
    have hl : (nb (lowL i x) ++ List.replicate (d + 1) 0).length = n := by rw [List.length_append, nb_len, lowL_len, List.length_replicate]; omega
    have e3 : wrap64 ((i : Int) + 1) = ((i + 1 : Nat) : Int) := wrap_nat (by omega)
    have e4 : (0 : Int) ≤ wrap64 (8 * (i : Int)) := by unfold wrap64; omega
    rw [hl, e3, shr_low x i (by omega)]
    have ih := ev_rlow_loop x n hn d (i + 1) (by omega)
    have e5 : (nb (lowL i x) ++ List.replicate (d + 1) 0).set ((i : Int).toNat) (((x / 256 ^ i).toUInt8.toNat : Nat) : Int) = nb (lowL (i + 1) x) ++ List.replicate d 0 := by
      have hp : (nb (lowL i x)).length = i := by rw [nb_len, lowL_len]
      rw [Int.toNat_natCast, List.replicate_succ]
      have := set_mid (nb (lowL i x)) 0 (((x / 256 ^ i).toUInt8.toNat : Nat) : Int) (List.replicate d 0)
      rw [hp] at this
      rw [this, lowL_snoc, ← nb_app, List.append_assoc]
      rfl
    rw [e5]
    exact ev_pos (by omega) (ev_pos e4 (ev_pos (by omega) (ev_pos (by omega) ih)))
theorem ev_rlow (x n : Nat) (hn : n ≤ 7) : Ev (fun k => crucibleref12_low.f k (x : Int) (n : Int)) (str (lowL n x)) := by
  have := ev_rlow_loop x n hn n 0 (by omega)
  refine Ev.congr (fun k => by rw [crucibleref12_low.f]) (ev_pos (by omega) (ev_pos (by omega) ?_))
  exact this
theorem ev_rlow1 (x : Nat) : Ev (fun k => crucibleref12_low.f k (x : Int) 1) (str (lowL 1 x)) := ev_rlow x 1 (by omega)
theorem ev_rlow2 (x : Nat) : Ev (fun k => crucibleref12_low.f k (x : Int) 2) (str (lowL 2 x)) := ev_rlow x 2 (by omega)
theorem ev_rlow4 (x : Nat) : Ev (fun k => crucibleref12_low.f k (x : Int) 4) (str (lowL 4 x)) := ev_rlow x 4 (by omega)

/-! ### PutFound -/
theorem str_of' (s : ByteArray) : s = str s.data.toList := (str_of s).symm
theorem ev_PutFound_loop (o : ByteArray) (t : Int) (ins : List ByteArray) (hl : ins.length ≤ 8) (hs : ∀ x ∈ ins, x.size ≤ 16) : ∀ (rest pre : List ByteArray) (acc : List UInt8), ins = pre ++ rest → acc.length + 17 * rest.length ≤ 100000 →
    Ev (fun k => crucibleref12_PutFound.l0 k (str acc) (pre.length : Int) o t ins) (str (lowL 2 (acc ++ ((datas rest).map txtL).flatten).length ++ (acc ++ ((datas rest).map txtL).flatten)), 0)
  | [], pre, acc, h, hb => by
    refine Ev.step (fun k => by rw [crucibleref12_PutFound.l0]) (ev_neg (by rw [h]; simp) ?_)
    rw [str_size]
    refine ev_bind (ev_rlow2 acc.length) (ev_pos ?_ (ev_const ?_))
    · rw [str_size, lowL_len]; simp at hb; omega
    · rw [str_append]; simp [datas]
  | x :: rest, pre, acc, h, hb => by
    have hx := hs x (by rw [h]; simp)
    have hlen : ins.length = pre.length + (rest.length + 1) := by rw [h]; simp
    have hr : rdOf ByteArray.empty ins (pre.length : Int) = x := by rw [h]; exact rdOf_pre _ _ _ _
    have hw : wrap64 ((pre.length : Int) + 1) = ((pre ++ [x]).length : Int) := wrap_len pre x (by omega)
    have ht : (txtL x.data.toList).length ≤ 17 := by rw [txtL_len, size_data]; omega
    rw [List.length_cons] at hb
    have ih := ev_PutFound_loop o t ins hl hs rest (pre ++ [x]) (acc ++ txtL x.data.toList) (by simp [h]) (by rw [List.length_append]; omega)
    refine Ev.step (fun k => by rw [crucibleref12_PutFound.l0]) ?_
    simp only [hr, hw]
    have e1 : str acc ++ str (lowL 1 x.size) ++ x = str (acc ++ txtL x.data.toList) := by
      rw [str_append, str_eq x x.data.toList rfl, str_append, txtL, str_data, List.append_assoc, str_size]
    refine ev_pos (by omega) (ev_pos (by omega) (ev_bind (ev_rlow1 x.size) (ev_pos ?_ (ev_pos ?_ ?_))))
    · rw [str_size, str_size, lowL_len]; omega
    · rw [append_size, str_size, str_size, lowL_len]; omega
    · rw [e1]
      refine ev_eq ih ?_
      simp [datas]
theorem ev_PutFound (o : ByteArray) (t : Int) (ins : List ByteArray) (ho : o.size ≤ 4611686018427387904) (hi : ins.length ≤ 4611686018427387904) (hz : ∀ x ∈ ins, x.size ≤ 4611686018427387904) : Ev (fun k => crucibleref12_PutFound.f k o t ins) (putF o t ins) := by
  refine Ev.congr (fun k => by rw [crucibleref12_PutFound.f]) (ev_bind (ev_FoundMay o t ins ho hi hz) ?_)
  unfold putF
  cases hm : mayD o t ins with
  | false => exact ev_neg (by simp) (Ev.now _)
  | true =>
    obtain ⟨hs, ho, hb, hl, h1, h2⟩ := mayD_small hm
    have e4 : t = ((t.toNat : Nat) : Int) := by omega
    have hx : ∀ x ∈ ins, x.size ≤ 16 := fun x hx => by
      have ha : allP ins 8 = true := by simp only [mayD, Bool.and_eq_true] at hm; exact hm.2
      have := isP_size ((allP_all ha).1 x hx)
      rwa [size_data] at this
    have hlow : Ev (fun k => crucibleref12_low.f k t 4) (str (lowL 4 t.toNat)) := by
      have := ev_rlow4 t.toNat
      rwa [← e4] at this
    have e1 : str (lowL 1 o.size) ++ o ++ str (lowL 4 t.toNat) ++ str (lowL 1 ins.length) = str (txtL o.data.toList ++ lowL 4 t.toNat ++ lowL 1 ins.length) := by
      rw [str_eq o o.data.toList rfl, str_append, str_append, str_append, txtL, str_data, str_size]
    refine ev_pos rfl (ev_bind (ev_rlow1 o.size) (ev_pos ?_ (ev_bind hlow (ev_pos ?_ (ev_bind (ev_rlow1 ins.length) (ev_pos ?_ ?_))))))
    · rw [str_size, lowL_len]; omega
    · rw [append_size, str_size, str_size, lowL_len, lowL_len]; omega
    · rw [append_size, append_size, str_size, str_size, str_size, lowL_len, lowL_len, lowL_len]; omega
    · rw [e1]
      have := ev_PutFound_loop o t ins hl hx ins [] (txtL o.data.toList ++ lowL 4 t.toNat ++ lowL 1 ins.length) rfl (by simp only [List.length_append, txtL_len, lowL_len, size_data]; omega)
      refine ev_eq this ?_
      rw [if_pos rfl, foundL, bodyL]
      simp [datas, List.append_assoc]

/-! ### The reader -/
def rT (n : Nat) (s : List UInt8) (b : Bool) : List UInt8 × List UInt8 × Bool := if s.length < n then ([], s, true) else (s.take n, s.drop n, b)
theorem rT_len (n : Nat) (s : List UInt8) (b : Bool) : (rT n s b).1.length ≤ n ∧ (rT n s b).1.length ≤ s.length ∧ (rT n s b).2.1.length ≤ s.length := by
  unfold rT
  split
  · exact ⟨Nat.zero_le _, Nat.zero_le _, Nat.le_refl _⟩
  · refine ⟨?_, ?_, ?_⟩ <;> simp <;> omega
theorem rT_app (a r : List UInt8) (b : Bool) (n : Nat) (h : a.length = n) : rT n (a ++ r) b = (a, r, b) := by
  unfold rT
  rw [if_neg (by rw [List.length_append]; omega), List.take_left' h, List.drop_left' h]
theorem rtake_is (s : List UInt8) (b : Bool) (n : Nat) : crucibleref12_reader_take.f (str s) b (n : Int) = some (str (rT n s b).1, str (rT n s b).2.1, (rT n s b).2.2) := by
  unfold crucibleref12_reader_take.f rT
  rw [str_size]
  by_cases h : s.length < n
  · rw [if_pos (by omega), if_pos h]; rfl
  · rw [if_neg (by omega), if_neg h, if_pos (by omega), if_pos (by omega), Int.toNat_natCast]
    have e1 : (str s).extract 0 n = str (s.take n) := str_eq _ _ (by rw [extract_data, str_data, List.drop_zero])
    have e2 : (str s).extract n s.length = str (s.drop n) := str_eq _ _ (by rw [extract_data, str_data, List.take_length])
    rw [e1, e2]
theorem or_high (x b : Nat) (hb : b < 256) (hx : x < 16777216) : Go.bits .or .i64 (wrap64 ((x : Int) * 256)) (wrap64 (b : Int)) = ((b + 256 * x : Nat) : Int) := by
  have e1 : wrap64 ((x : Int) * 256) = ((x * 2 ^ 8 : Nat) : Int) := by unfold wrap64; omega
  have e2 : wrap64 (b : Int) = ((b : Nat) : Int) := by unfold wrap64; omega
  rw [e1, e2]
  have e : (BitVec.ofInt 64 ((x * 2 ^ 8 : Nat) : Int) ||| BitVec.ofInt 64 (b : Int)).toNat = x * 2 ^ 8 + b := by
    rw [BitVec.toNat_or, BitVec.ofInt_natCast, BitVec.ofInt_natCast, BitVec.toNat_ofNat, BitVec.toNat_ofNat, Nat.mod_eq_of_lt (by omega), Nat.mod_eq_of_lt (by omega), Nat.mul_comm x, ← Nat.two_pow_add_eq_or_of_lt (show b < 2 ^ 8 by omega)]
  show IntKind.i64.wrap (((BitVec.ofInt 64 ((x * 2 ^ 8 : Nat) : Int)) ||| (BitVec.ofInt 64 (b : Int))).toNat : Int) = _
  rw [e, IntKind.wrap_i64]
  omega
theorem ev_num_loop (t s : List UInt8) (b : Bool) (ht : t.length ≤ 4) : ∀ (n : Nat) (pre post : List UInt8), pre.length = n → t = pre ++ post → Ev (fun k => crucibleref12_reader_num.l0 k (str t) ((unlow post : Nat) : Int) ((n : Int) - 1) (str s) b) (((unlow t : Nat) : Int), str s, b)
  | 0, pre, post, hp, h => by
    obtain rfl := List.eq_nil_of_length_eq_zero hp
    rw [List.nil_append] at h
    subst h
    exact Ev.step (fun k => by rw [crucibleref12_reader_num.l0]) (ev_neg (by omega) (Ev.now _))
  | n + 1, pre, post, hp, h => by
    obtain ⟨pre', x, rfl⟩ : ∃ pre' x, pre = pre' ++ [x] := by
      rcases List.eq_nil_or_concat pre with e | ⟨p, x, e⟩
      · rw [e] at hp; simp at hp
      · exact ⟨p, x, by rw [e, List.concat_eq_append]⟩
    have hp' : pre'.length = n := by simpa using hp
    have h' : t = pre' ++ x :: post := by rw [h]; simp
    have hlen : t.length = n + (post.length + 1) := by rw [h', List.length_append, List.length_cons, hp']
    have hb : bt (str t) (n : Int) = x.toNat := by rw [← hp']; exact bt_pre _ _ _ _ (by rw [str_data]; exact h')
    have hu : unlow post < 16777216 := by
      have h1 := unlow_lt post
      have h2 : (256 : Nat) ^ post.length ≤ 256 ^ 3 := Nat.pow_le_pow_right (by decide) (by omega)
      omega
    have e0 : ((n + 1 : Nat) : Int) - 1 = (n : Int) := by omega
    have e1 : wrap64 ((n : Int) - 1) = (n : Int) - 1 := wrap_id (by omega) (by omega)
    have ih := ev_num_loop t s b ht n pre' (x :: post) hp' h'
    refine Ev.step (fun k => by rw [crucibleref12_reader_num.l0]) ?_
    rw [e0, hb, or_high (unlow post) x.toNat x.toNat_lt hu, e1]
    refine ev_pos (by omega) (ev_pos (by omega) (ev_pos (by rw [str_size]; omega) ?_))
    rw [unlow] at ih
    exact ih
theorem ev_num (s : List UInt8) (b : Bool) (n : Nat) (hn : n ≤ 4) : Ev (fun k => crucibleref12_reader_num.f k (str s) b (n : Int)) (((unlow (rT n s b).1 : Nat) : Int), str (rT n s b).2.1, (rT n s b).2.2) := by
  have hl := (rT_len n s b).1
  have e1 : wrap64 (((rT n s b).1.length : Int) - 1) = ((rT n s b).1.length : Int) - 1 := wrap_id (by omega) (by omega)
  have h := ev_num_loop (rT n s b).1 (rT n s b).2.1 (rT n s b).2.2 (by omega) _ (rT n s b).1 [] rfl (by simp)
  refine Ev.congr (fun k => by rw [crucibleref12_reader_num.f]) (ev_bindc (rtake_is s b n) ?_)
  simp only [str_size, e1]
  exact h
def rL : Nat → List UInt8 → Bool → List (List UInt8) × List UInt8 × Bool
  | 0, s, b => ([], s, b)
  | n + 1, s, b => if b = true then ([], s, b) else
    ((rT (unlow (rT 1 s b).1) (rT 1 s b).2.1 (rT 1 s b).2.2).1 :: (rL n (rT (unlow (rT 1 s b).1) (rT 1 s b).2.1 (rT 1 s b).2.2).2.1 (rT (unlow (rT 1 s b).1) (rT 1 s b).2.1 (rT 1 s b).2.2).2.2).1,
      (rL n (rT (unlow (rT 1 s b).1) (rT 1 s b).2.1 (rT 1 s b).2.2).2.1 (rT (unlow (rT 1 s b).1) (rT 1 s b).2.1 (rT 1 s b).2.2).2.2).2)
def finG (s o : ByteArray) (t : Int) (ins : List ByteArray) (b : Bool) : ByteArray × Int × List ByteArray × Int :=
  if b = true then (str [], 0, [], 1500) else if (putF o t ins).2 = 0 then (if (putF o t ins).1.toList = s.toList then (o, t, ins, 0) else (str [], 0, [], 1500)) else (str [], 0, [], 1500)
theorem ev_finG (s o : ByteArray) (t : Int) (ins : List ByteArray) (b : Bool) (ho : o.size ≤ 4611686018427387904) (hi : ins.length ≤ 4611686018427387904) (hz : ∀ x ∈ ins, x.size ≤ 4611686018427387904) :
    Ev (fun k => (crucibleref12_PutFound.f k o t ins).bind fun bt266 => (if b = true then (some ((⟨#[]⟩ : ByteArray), 0, ([] : List ByteArray), 1500)) else (if bt266.2 = 0 then (if bt266.1.toList = s.toList then (some (o, t, ins, 0)) else (some ((⟨#[]⟩ : ByteArray), 0, ([] : List ByteArray), 1500))) else (some ((⟨#[]⟩ : ByteArray), 0, ([] : List ByteArray), 1500))))) (finG s o t ins b) := by
  refine ev_bind (ev_PutFound o t ins ho hi hz) (ev_const ?_)
  unfold finG
  rw [str_nil]
  repeat' split
  all_goals rfl
set_option maxHeartbeats 1000000 in
theorem ev_Get_loop12 (S o : List UInt8) (t : Int) (K M : Nat) (hK : K ≤ 255) (hM : M ≤ 4611686018427387904) (ho : o.length ≤ M) : ∀ (n i : Nat) (s : List UInt8) (b : Bool) (pre : List ByteArray), i + n = K → pre.length ≤ i → s.length ≤ M → (∀ x ∈ pre, x.size ≤ M) →
    Ev (fun k => crucibleref12_GetFound.l0 k (str S) (K : Int) (i : Int) (str s) b (str o) t pre) (finG (str S) (str o) t (pre ++ (rL n s b).1.map str) (rL n s b).2.2) := by
  have hoz : (str o).size ≤ 4611686018427387904 := by rw [str_size]; omega
  intro n
  induction n with
  | zero =>
    intro i s b pre h hp hs hx
    have hF := ev_finG (str S) (str o) t pre b hoz (by omega) (fun x hx' => Nat.le_trans (hx x hx') hM)
    refine Ev.step (fun k => by rw [crucibleref12_GetFound.l0]) (ev_neg (by omega) (Ev.step (fun k => by rw [crucibleref12_GetFound.j1]) (ev_neg (by decide) ?_)))
    rw [rL, List.map_nil, List.append_nil]
    exact hF
  | succ n ih =>
    intro i s b pre h hp hs hx
    have hF := ev_finG (str S) (str o) t pre b hoz (by omega) (fun x hx' => Nat.le_trans (hx x hx') hM)
    have hpl : pre.length < 8796093022208 := by omega
    have hpi : pre.length + 1 ≤ i + 1 := by omega
    have hin : i + 1 + n = K := by omega
    have hiK : (i : Int) < (K : Int) := by omega
    have e3 : wrap64 ((i : Int) + 1) = ((i + 1 : Nat) : Int) := wrap_nat (by omega)
    cases b with
    | true =>
      refine Ev.step (fun k => by rw [crucibleref12_GetFound.l0]) (ev_pos (by omega) (Ev.step (fun k => by rw [crucibleref12_GetFound.j1]) (ev_neg (by decide) ?_)))
      rw [rL, if_pos rfl, List.map_nil, List.append_nil]
      exact hF
    | false =>
      clear hF
      have hl1 := (rT_len 1 s false).2.2
      have hn : Ev (fun k => crucibleref12_reader_num.f k (str s) false 1) _ := ev_num s false 1 (by decide)
      rw [rL, if_neg (show ¬ (false = true) by decide)]
      obtain ⟨v, hv⟩ : ∃ v, unlow (rT 1 s false).1 = v := ⟨_, rfl⟩
      obtain ⟨s1, hs1⟩ : ∃ s1, (rT 1 s false).2.1 = s1 := ⟨_, rfl⟩
      obtain ⟨b1, hb1⟩ : ∃ b1, (rT 1 s false).2.2 = b1 := ⟨_, rfl⟩
      rw [hv, hs1, hb1] at hn ⊢
      rw [hs1] at hl1
      clear hv hs1 hb1
      have hl2 := (rT_len v s1 b1).2
      have ht := rtake_is s1 b1 v
      obtain ⟨x2, hx2⟩ : ∃ x, (rT v s1 b1).1 = x := ⟨_, rfl⟩
      obtain ⟨s2, hs2⟩ : ∃ x, (rT v s1 b1).2.1 = x := ⟨_, rfl⟩
      obtain ⟨b2, hb2⟩ : ∃ x, (rT v s1 b1).2.2 = x := ⟨_, rfl⟩
      rw [hx2, hs2, hb2] at ht ⊢
      rw [hx2, hs2] at hl2
      clear hx2 hs2 hb2
      have hs2 : s2.length ≤ M := Nat.le_trans hl2.2 (Nat.le_trans hl1 hs)
      have hx2 : x2.length ≤ M := Nat.le_trans hl2.1 (Nat.le_trans hl1 hs)
      have ih := ih (i + 1) s2 b2 (pre ++ [str x2]) hin (by rw [List.length_append]; exact hpi) hs2 (fun x hx' => by
        rcases List.mem_append.1 hx' with hx' | hx'
        · exact hx x hx'
        · obtain rfl := List.mem_singleton.1 hx'
          rw [str_size]; exact hx2)
      rw [List.append_assoc, List.singleton_append] at ih
      refine Ev.step (fun k => by rw [crucibleref12_GetFound.l0]) (ev_pos hiK (Ev.step (fun k => by rw [crucibleref12_GetFound.j1]) (ev_pos (by decide) ?_)))
      refine ev_bind hn (ev_bindc ht ?_)
      rw [e3]
      exact ev_pos hpl ih
theorem rL_txts : ∀ (ins : List (List UInt8)) (r : List UInt8), (∀ x ∈ ins, x.length < 256) → rL ins.length ((ins.map txtL).flatten ++ r) false = (ins, r, false)
  | [], r, _ => by simp [rL]
  | x :: ins, r, h => by
    have e1 : rT 1 (((x :: ins).map txtL).flatten ++ r) false = (lowL 1 x.length, x ++ ((ins.map txtL).flatten ++ r), false) := by
      rw [List.map_cons, List.flatten_cons, txtL, List.append_assoc, List.append_assoc]
      exact rT_app _ _ _ _ (lowL_len _ _)
    have e2 : rT x.length (x ++ ((ins.map txtL).flatten ++ r)) false = (x, (ins.map txtL).flatten ++ r, false) := rT_app _ _ _ _ rfl
    have e3 : unlow (lowL 1 x.length) = x.length := unlow_lowL 1 _ (by have := h x (by simp); omega)
    rw [List.length_cons, rL, if_neg (by decide), e1]
    simp only [e3, e2]
    rw [rL_txts ins r fun y hy => h y (by simp [hy])]
/-- the reference reads as the program does -/
theorem ev_GetFound (s : ByteArray) (hs : s.size ≤ 4611686018427387904) : Ev (fun k => crucibleref12_GetFound.f k s) (getF s) := by
  obtain ⟨S, rfl⟩ : ∃ S, s = str S := ⟨s.data.toList, (str_of s).symm⟩
  rw [str_size] at hs
  have g1 := (rT_len 2 S false).2.2
  obtain ⟨s1, hs1⟩ : ∃ x, (rT 2 S false).2.1 = x := ⟨_, rfl⟩
  obtain ⟨b1, hb1⟩ : ∃ x, (rT 2 S false).2.2 = x := ⟨_, rfl⟩
  rw [hs1] at g1
  have g2 := (rT_len 1 s1 b1).2.2
  obtain ⟨v, hv⟩ : ∃ x, unlow (rT 1 s1 b1).1 = x := ⟨_, rfl⟩
  obtain ⟨s2, hs2⟩ : ∃ x, (rT 1 s1 b1).2.1 = x := ⟨_, rfl⟩
  obtain ⟨b2, hb2⟩ : ∃ x, (rT 1 s1 b1).2.2 = x := ⟨_, rfl⟩
  rw [hs2] at g2
  have g3 := (rT_len v s2 b2).2
  obtain ⟨o, ho⟩ : ∃ x, (rT v s2 b2).1 = x := ⟨_, rfl⟩
  obtain ⟨s3, hs3⟩ : ∃ x, (rT v s2 b2).2.1 = x := ⟨_, rfl⟩
  obtain ⟨b3, hb3⟩ : ∃ x, (rT v s2 b2).2.2 = x := ⟨_, rfl⟩
  rw [ho, hs3] at g3
  have g4 := (rT_len 4 s3 b3).2.2
  obtain ⟨t, ht⟩ : ∃ x, unlow (rT 4 s3 b3).1 = x := ⟨_, rfl⟩
  obtain ⟨s4, hs4⟩ : ∃ x, (rT 4 s3 b3).2.1 = x := ⟨_, rfl⟩
  obtain ⟨b4, hb4⟩ : ∃ x, (rT 4 s3 b3).2.2 = x := ⟨_, rfl⟩
  rw [hs4] at g4
  have g5 := (rT_len 1 s4 b4).2.2
  have g6 : unlow (rT 1 s4 b4).1 ≤ 255 := by
    have h1 := unlow_lt (rT 1 s4 b4).1
    have h2 : (256 : Nat) ^ (rT 1 s4 b4).1.length ≤ 256 ^ 1 := Nat.pow_le_pow_right (by decide) (rT_len 1 s4 b4).1
    omega
  obtain ⟨K, hK⟩ : ∃ x, unlow (rT 1 s4 b4).1 = x := ⟨_, rfl⟩
  obtain ⟨s5, hs5⟩ : ∃ x, (rT 1 s4 b4).2.1 = x := ⟨_, rfl⟩
  obtain ⟨b5, hb5⟩ : ∃ x, (rT 1 s4 b4).2.2 = x := ⟨_, rfl⟩
  rw [hs5] at g5
  rw [hK] at g6
  have n1 : Ev (fun k => crucibleref12_reader_num.f k (str S) false 2) _ := ev_num S false 2 (by decide)
  have n2 : Ev (fun k => crucibleref12_reader_num.f k (str s1) b1 1) _ := ev_num s1 b1 1 (by decide)
  have n3 := rtake_is s2 b2 v
  have n4 : Ev (fun k => crucibleref12_reader_num.f k (str s3) b3 4) _ := ev_num s3 b3 4 (by decide)
  have n5 : Ev (fun k => crucibleref12_reader_num.f k (str s4) b4 1) _ := ev_num s4 b4 1 (by decide)
  have n6 : Ev (fun k => crucibleref12_GetFound.l0 k (str S) (K : Int) 0 (str s5) b5 (str o) (t : Int) []) _ := ev_Get_loop12 S o ((t : Nat) : Int) K S.length (by omega) hs (by omega) K 0 s5 b5 [] (by omega) (Nat.le_refl _) (by omega) (fun x hx => by cases hx)
  rw [hs1, hb1] at n1
  rw [hv, hs2, hb2] at n2
  rw [ho, hs3, hb3] at n3
  rw [ht, hs4, hb4] at n4
  rw [hK, hs5, hb5] at n5
  have all : Ev (fun k => crucibleref12_GetFound.f k (str S)) (finG (str S) (str o) ((t : Nat) : Int) ((rL K s5 b5).1.map str) (rL K s5 b5).2.2) :=
    Ev.congr (fun k => by rw [crucibleref12_GetFound.f]) (ev_bind n1 (ev_bind n2 (ev_bindc n3 (ev_bind n4 (ev_bind n5 n6)))))
  refine ev_eq all ?_
  by_cases h : (getF (str S)).2.2.2 = 0
  · obtain ⟨o', t', ins', e1, hm, e2⟩ := getF_ok h
    obtain ⟨hsm, _, _, _, ht1, ht2⟩ := mayD_small hm
    have e2' := str_inj e2
    have hout := hsm.out
    rw [e2', foundL_eq, rT_app _ _ _ _ (lowL_len _ _)] at hs1 hb1
    simp only [] at hs1 hb1
    subst hs1 hb1
    have q2 : rT 1 (txtL o'.data.toList ++ (lowL 4 t'.toNat ++ (lowL 1 (datas ins').length ++ ((datas ins').map txtL).flatten))) false = (lowL 1 o'.data.toList.length, o'.data.toList ++ (lowL 4 t'.toNat ++ (lowL 1 (datas ins').length ++ ((datas ins').map txtL).flatten)), false) := by
      rw [txtL, List.append_assoc]; exact rT_app _ _ _ _ (lowL_len _ _)
    rw [q2] at hv hs2 hb2
    simp only [] at hv hs2 hb2
    rw [unlow_lowL 1 _ (by omega)] at hv
    subst hv hs2 hb2
    rw [rT_app _ _ _ _ rfl] at ho hs3 hb3
    simp only [] at ho hs3 hb3
    subst ho hs3 hb3
    rw [rT_app _ _ _ _ (lowL_len _ _)] at ht hs4 hb4
    simp only [] at ht hs4 hb4
    rw [unlow_lowL 4 _ (by have := hsm.time; omega)] at ht
    subst ht hs4 hb4
    have hmany := hsm.many
    rw [rT_app _ _ _ _ (lowL_len _ _)] at hK hs5 hb5
    simp only [] at hK hs5 hb5
    rw [unlow_lowL 1 _ (by omega)] at hK
    subst hK hs5 hb5
    have q5 := rL_txts (datas ins') [] hsm.each
    rw [List.append_nil] at q5
    rw [q5, e1]
    have e4 : ((t'.toNat : Nat) : Int) = t' := by omega
    have e6 : (datas ins').map str = ins' := map_str_data ins'
    simp only [str_of, e4, e6]
    unfold finG
    have hp : putF o' t' ins' = (str S, 0) := by unfold putF; rw [if_pos hm, e2]
    rw [if_neg (by decide), hp, if_pos rfl, if_pos rfl]
  · rw [getF_no h]
    unfold finG
    split
    · rfl
    split
    · rename_i h2
      split
      · rename_i h3
        exfalso
        apply h
        have hm : mayD (str o) ((t : Nat) : Int) ((rL K s5 b5).1.map str) = true := by
          unfold putF at h2
          split at h2
          · rename_i hm; exact hm
          · exact absurd h2 (by decide)
        have e3 : (putF (str o) ((t : Nat) : Int) ((rL K s5 b5).1.map str)).1 = str S := by
          rw [toList_data, toList_data] at h3
          exact data_inj h3
        unfold putF at e3
        rw [if_pos hm] at e3
        rw [← e3, getF_found hm]
      · rfl
    · rfl
end Go.Proofs.YtaokgnhdagcepaaDoor.Spec
end

section
/- Chapter 16: what May, Text and Load compute. -/
namespace Go.Proofs.YtaokgnhdagcepaaDoor.Spec
open Go.RowKit Go.Proofs.YtaokgnhdagcepaaDoorW.PrintWords Go.Proofs.YtaokgnhdagcepaaDoorW.PrintMore Go.Proofs.YtaokgnhdagcepaaDoor.P

def mayF (f : P.S32) : Bool := mayD f.f0 f.f1 f.f2
def txF (f : P.S32) : List UInt8 := foundL f.f0.data.toList f.f1.toNat (datas f.f2)
def fsText (fs : List (P.S32)) : List UInt8 := (fs.map txF).flatten
def sizeL (s : List UInt8) : Nat := 2 + tN 2 s
def gF (s : List UInt8) : P.S32 := ⟨(getF (str s)).1, (getF (str s)).2.1, (getF (str s)).2.2.1⟩
def cutL (s : List UInt8) : Nat := min (sizeL s) s.length
def loadD : Nat → List UInt8 → List (P.S32)
  | 0, _ => []
  | n + 1, s => if s = [] then [] else if (getF (str (s.take (cutL s)))).2.2.2 = 0 then gF (s.take (cutL s)) :: loadD n (s.drop (cutL s)) else []
theorem fsText_nil : fsText [] = [] := rfl
theorem fsText_cons (f : P.S32) (fs : List (P.S32)) : fsText (f :: fs) = txF f ++ fsText fs := by simp [fsText]
theorem fsText_app (a b : List (P.S32)) : fsText (a ++ b) = fsText a ++ fsText b := by simp [fsText]
theorem txF_len {f : P.S32} (h : mayF f = true) : 8 ≤ (txF f).length ∧ (txF f).length ≤ 160 := by
  obtain ⟨hs, h1, h2, _⟩ := mayD_small h
  rw [txF, foundL_len, size_data]
  omega
theorem fsText_len : ∀ (fs : List (P.S32)), (∀ f ∈ fs, mayF f = true) → (fsText fs).length ≤ 160 * fs.length
  | [], _ => by simp [fsText]
  | f :: fs, h => by
    have h1 := (txF_len (h f (by simp))).2
    have h2 := fsText_len fs (fun g hg => h g (by simp [hg]))
    rw [fsText_cons, List.length_append, List.length_cons]
    omega
theorem sizeL_tx {f : P.S32} (h : mayF f = true) (r : List UInt8) : sizeL (txF f ++ r) = (txF f).length := by
  obtain ⟨hs, h1, h2, _⟩ := mayD_small h
  have e := bodyL_len f.f0.data.toList f.f1.toNat (datas f.f2)
  rw [size_data] at e
  rw [sizeL, txF, foundL, List.append_assoc, tN_low 2 _ _ (by omega), List.length_append, lowL_len]
theorem cutL_tx {f : P.S32} (h : mayF f = true) (r : List UInt8) : cutL (txF f ++ r) = (txF f).length := by
  have hA : (txF f ++ r).length = (txF f).length + r.length := List.length_append
  rw [cutL, sizeL_tx h, Nat.min_eq_left (by omega)]
theorem getF_tx {f : P.S32} (h : mayF f = true) : getF (str (txF f)) = (f.f0, f.f1, f.f2, 0) := getF_found h
theorem gF_tx {f : P.S32} (h : mayF f = true) : gF (txF f) = f := by rw [gF, getF_tx h]
theorem load_cons {f : P.S32} (h : mayF f = true) (n : Nat) (r : List UInt8) : loadD (n + 1) (txF f ++ r) = f :: loadD n r := by
  have hl := txF_len h
  have hne : txF f ++ r ≠ [] := by intro e; have := congrArg List.length e; rw [List.length_append, List.length_nil] at this; omega
  rw [loadD, if_neg hne, cutL_tx h, List.take_left' rfl, List.drop_left' rfl, getF_tx h, gF_tx h, if_pos rfl]
theorem load_put : ∀ (fs : List (P.S32)) (n : Nat) (r : List UInt8), (∀ f ∈ fs, mayF f = true) → fs.length ≤ n → loadD n (fsText fs ++ r) = fs ++ loadD (n - fs.length) r
  | [], n, r, _, _ => by simp [fsText]
  | f :: fs, 0, r, _, h => by simp at h
  | f :: fs, n + 1, r, hm, h => by
    rw [fsText_cons, List.append_assoc, load_cons (hm f (by simp)), load_put fs n r (fun g hg => hm g (by simp [hg])) (by simpa using h), List.length_cons, Nat.add_sub_add_right]
    rfl
theorem load_nil (n : Nat) : loadD n [] = [] := by cases n <;> simp [loadD]
theorem load_all (fs : List (P.S32)) (n : Nat) (hm : ∀ f ∈ fs, mayF f = true) (h : fs.length ≤ n) : loadD n (fsText fs) = fs := by
  have := load_put fs n [] hm h
  rwa [List.append_nil, load_nil, List.append_nil] at this
/-- what was got of a text is told as it -/
theorem gF_is {s : List UInt8} (h : (getF (str s)).2.2.2 = 0) : mayF (gF s) = true ∧ txF (gF s) = s := by
  obtain ⟨o, t, ins, e, hm, hs⟩ := getF_ok h
  unfold gF
  rw [e]
  exact ⟨hm, (str_inj hs).symm⟩
theorem tx_inj {f g : P.S32} (hf : mayF f = true) (hg : mayF g = true) {r r' : List UInt8} (e : txF f ++ r = txF g ++ r') : txF f = txF g := by
  obtain ⟨e1, e2, e3⟩ := found_inj (mayD_small hf).1 (mayD_small hg).1 e
  rw [txF, txF, e1, e2, e3]
theorem load_cut {f : P.S32} (h : mayF f = true) (n : Nat) (r r' : List UInt8) (hr : r ++ r' = txF f) (hne : r' ≠ []) : loadD n r = [] := by
  cases n with
  | zero => rfl
  | succ n =>
    rw [loadD]
    split
    · rfl
    · split
      · rename_i hg
        obtain ⟨hm, ht⟩ := gF_is hg
        exfalso
        have e : txF (gF (r.take (cutL r))) ++ (r.drop (cutL r) ++ r') = txF f ++ [] := by rw [ht, ← List.append_assoc, List.take_append_drop, hr, List.append_nil]
        have e2 := tx_inj hm h e
        have e4 := congrArg List.length e
        have : 0 < r'.length := List.length_pos_iff.2 hne
        rw [e2] at e4
        simp only [List.length_append, List.length_nil] at e4
        omega
      · rfl
theorem load_is : ∀ (n : Nat) (s : List UInt8), (∀ f ∈ loadD n s, mayF f = true) ∧ (loadD n s).length ≤ n ∧ ∃ r, fsText (loadD n s) ++ r = s
  | 0, s => ⟨by simp [loadD], Nat.le_refl _, s, rfl⟩
  | n + 1, s => by
    rw [loadD]
    split
    · exact ⟨by simp, by simp, s, rfl⟩
    · split
      · rename_i hg
        obtain ⟨hm, ht⟩ := gF_is hg
        obtain ⟨h1, h2, r, h3⟩ := load_is n (s.drop (cutL s))
        refine ⟨fun f hf => ?_, by simpa using h2, r, ?_⟩
        · rcases List.mem_cons.1 hf with rfl | hf
          · exact hm
          · exact h1 f hf
        · rw [fsText_cons, ht, List.append_assoc, h3, List.take_append_drop]
      · exact ⟨by simp, by simp, s, rfl⟩
def mayFs (fs : List (P.S32)) : Bool := decide (fs.length ≤ 256) && fs.all mayF
theorem mayFs_all {fs : List (P.S32)} (h : mayFs fs = true) : fs.length ≤ 256 ∧ ∀ f ∈ fs, mayF f = true := by
  simp only [mayFs, Bool.and_eq_true, decide_eq_true_eq] at h
  exact ⟨h.1, List.all_eq_true.1 h.2⟩
theorem mayFs_of {fs : List (P.S32)} (h : fs.length ≤ 256) (h2 : ∀ f ∈ fs, mayF f = true) : mayFs fs = true := by
  simp only [mayFs, Bool.and_eq_true, decide_eq_true_eq]
  exact ⟨h, List.all_eq_true.2 h2⟩
theorem Fd_ext {x y : P.S32} (h0 : x.f0 = y.f0) (h1 : x.f1 = y.f1) (h2 : x.f2 = y.f2) : x = y := by
  obtain ⟨a, b, c⟩ := x
  obtain ⟨a', b', c'⟩ := y
  cases h0; cases h1; cases h2; rfl
instance : DecidableEq P.S32 := fun x y =>
  if h : x.f0 = y.f0 ∧ x.f1 = y.f1 ∧ x.f2 = y.f2 then isTrue (Fd_ext h.1 h.2.1 h.2.2) else isFalse (fun e => h (by subst e; exact ⟨rfl, rfl, rfl⟩))
theorem fd_sum {fs : List (P.S32)} {x : P.S32} (h : x ∈ fs) (g : P.S32 → Nat) : g x ≤ (fs.map g).sum := by
  induction fs with
  | nil => cases h
  | cons y ys ih =>
    rw [List.map_cons, List.sum_cons]
    rcases List.mem_cons.1 h with rfl | h
    · omega
    · have := ih h; omega
theorem fd_mem {fs : List (P.S32)} {x : P.S32} (h : x ∈ fs) : (x.f0.size + 1) + 1 + ((x.f2.map fun s => s.size + 1).sum + 1) ≤ (fs.map fun x : P.S32 => (x.f0.size + 1) + 1 + ((x.f2.map fun s => s.size + 1).sum + 1)).sum := fd_sum h (fun x : P.S32 => (x.f0.size + 1) + 1 + ((x.f2.map fun s => s.size + 1).sum + 1))
theorem fd_ins (x : P.S32) : x.f2.length ≤ (x.f2.map fun s => s.size + 1).sum := by
  induction x.f2 with
  | nil => simp
  | cons y ys ih => simp; omega
theorem fd_len (fs : List (P.S32)) : fs.length ≤ (fs.map fun x : P.S32 => (x.f0.size + 1) + 1 + ((x.f2.map fun s => s.size + 1).sum + 1)).sum := by
  induction fs with
  | nil => simp
  | cons y ys ih => rw [List.map_cons, List.sum_cons, List.length_cons]; omega
theorem ev_all16 : ∀ (l : List (P.S32)), (∀ x ∈ l, x.f2.length ≤ 4611686018427387904) → Ev (fun k => deplog_all k l) (l.all mayF)
  | [], _ => Ev.now _
  | x :: xs, h => by
    refine Ev.congr (fun k => by rw [deplog_all]) (ev_bind (ev_May x.f0 x.f1 x.f2 (h x (by simp))) ?_)
    rw [List.all_cons, show mayD x.f0 x.f1 x.f2 = mayF x from rfl]
    cases hm : mayF x with
    | true => exact ev_pos rfl (ev_all16 xs (fun y hy => h y (by simp [hy])))
    | false => exact ev_neg (by simp) (Ev.now _)
theorem ev_May16 (l : List (P.S32)) (h : ∀ x ∈ l, x.f2.length ≤ 4611686018427387904) : Ev (fun k => deplog_May.f k l) (mayFs l) := by
  refine Ev.congr (fun k => by rw [deplog_May.f]) ?_
  unfold mayFs
  by_cases hl : l.length ≤ 256
  · refine ev_pos hl (ev_eq (ev_all16 l h) ?_)
    simp [hl]
  · exact ev_neg hl (ev_const (by simp [hl]))
theorem ev_texts : ∀ (l : List (P.S32)), (∀ x ∈ l, mayF x = true) → Ev (fun k => deplog_texts k l) (fsText l)
  | [], _ => Ev.now _
  | x :: xs, h => by
    have hx := h x (by simp)
    have hp : putF x.f0 x.f1 x.f2 = (str (txF x), 0) := by unfold putF; rw [if_pos (show mayD x.f0 x.f1 x.f2 = true from hx)]; rfl
    have hl := (mayD_small hx).2.2.2.1
    refine Ev.congr (fun k => by rw [deplog_texts]) (ev_bind (ev_Put x.f0 x.f1 x.f2 (by omega)) (ev_bind (ev_texts xs (fun y hy => h y (by simp [hy]))) ?_))
    rw [hp]
    exact ev_const (by rw [fsText_cons, str_data])
def textF (l : List (P.S32)) : ByteArray × Int := if mayFs l = true then (str (fsText l), 0) else (str [], 1600)
theorem ev_Text16 (l : List (P.S32)) (h : ∀ x ∈ l, x.f2.length ≤ 4611686018427387904) : Ev (fun k => deplog_Text.f k l) (textF l) := by
  refine Ev.congr (fun k => by rw [deplog_Text.f]) (ev_bind (ev_May16 l h) ?_)
  unfold textF
  cases hm : mayFs l with
  | false => exact ev_neg (by simp) (Ev.now _)
  | true =>
    obtain ⟨h1, h2⟩ := mayFs_all hm
    have h3 := fsText_len l h2
    exact ev_pos rfl (ev_bind (ev_texts l h2) (ev_pos ⟨h1, by omega⟩ (Ev.now _)))
theorem size_is (s : List UInt8) : deprec_Size.f (str s) = some ((sizeL s : Nat) : Int) := by
  have hlt : tN 2 s < 65536 := by
    have := unlow_lt (s.take 2)
    have h2 : (s.take 2).length ≤ 2 := by rw [List.length_take]; omega
    have h3 : 256 ^ (s.take 2).length ≤ 256 ^ 2 := Nat.pow_le_pow_right (by decide) h2
    unfold tN; omega
  unfold deprec_Size.f
  rw [show (2 : Int) = ((2 : Nat) : Int) from rfl, number_is s 2 (by decide)]
  simp only [Option.bind_some]
  rw [wrap_id (by omega) (by omega), sizeL]
  congr 1
theorem str_take (s : List UInt8) (m : Nat) : (str s).extract 0 m = str (s.take m) := str_eq _ _ (by rw [extract_data, str_data, List.drop_zero])
theorem str_drop (s : List UInt8) (m : Nat) : (str s).extract m (str s).size = str (s.drop m) := str_eq _ _ (by rw [extract_data, str_data, str_size, List.take_length])
theorem ev_Load_loop : ∀ (n : Nat) (s : List UInt8) (pre : List (P.S32)), pre.length + n = 256 → Ev (fun k => deplog_Load.l0 k (str s) pre) (pre ++ loadD n s) := by
  intro n
  induction n with
  | zero =>
    intro s pre h
    refine Ev.step (fun k => by rw [deplog_Load.l0]) ?_
    rw [str_toList]
    by_cases hs : s = []
    · exact ev_pos hs (Ev.step (fun k => by rw [deplog_Load.j1]) (ev_neg (by simp) (ev_const (by simp [loadD]))))
    · exact ev_neg hs (Ev.step (fun k => by rw [deplog_Load.j1]) (ev_neg (by simp; omega) (ev_const (by simp [loadD]))))
  | succ n ih =>
    intro s pre h
    refine Ev.step (fun k => by rw [deplog_Load.l0]) ?_
    rw [str_toList, loadD]
    by_cases hs : s = []
    · rw [if_pos hs]
      exact ev_pos hs (Ev.step (fun k => by rw [deplog_Load.j1]) (ev_neg (by simp) (ev_const (by simp))))
    · rw [if_neg hs]
      refine ev_neg hs (Ev.step (fun k => by rw [deplog_Load.j1]) (ev_pos (by simp; omega) (ev_bindc (size_is s) ?_)))
      have hm : mn ((sizeL s : Nat) : Int) ((str s).size : Int) = ((cutL s : Nat) : Int) := by rw [str_size]; unfold mn cutL; omega
      have hle : cutL s ≤ s.length := Nat.min_le_right _ _
      have hsz : (str s).size = s.length := str_size s
      simp only [hm, Int.toNat_natCast, str_take]
      refine ev_pos (by omega) (ev_pos (by omega) (ev_bind (ev_Get _) ?_))
      rw [str_drop]
      by_cases hg : (getF (str (s.take (cutL s)))).2.2.2 = 0
      · rw [if_pos hg]
        have := ih (s.drop (cutL s)) (pre ++ [gF (s.take (cutL s))]) (by simp; omega)
        rw [List.append_assoc] at this
        exact ev_pos hg (ev_pos (show pre.length < 2932031007402 by omega) this)
      · rw [if_neg hg]
        exact ev_neg hg (ev_const (by simp))
theorem ev_Load (s : ByteArray) : Ev (fun k => deplog_Load.f k s) (loadD 256 s.data.toList) := by
  have := ev_Load_loop 256 s.data.toList [] rfl
  rw [str_of] at this
  exact Ev.congr (fun k => by rw [deplog_Load.f]) this
theorem rdT_pre (pre : List (P.S32)) (x : P.S32) (rest : List (P.S32)) : rd_T32 (pre ++ x :: rest) (pre.length : Int) = x := by simp [rd_T32]
theorem ev_SameFounds_loop (xs ys : List (P.S32)) (hl : xs.length = ys.length) (hx : xs.length ≤ 4611686018427387904) (hi : ∀ x ∈ xs, x.f2.length ≤ 4611686018427387904) : ∀ rest resty pre prey : List (P.S32), xs = pre ++ rest → ys = prey ++ resty → pre = prey →
    Ev (fun k => cruciblelaw0_SameFounds.l0 k xs ys (pre.length : Int)) (decide (xs = ys)) := by
  intro rest
  induction rest with
  | nil =>
    intro resty pre prey h hy e
    subst e
    have : resty = [] := by
      rw [h, hy] at hl
      simp at hl
      exact hl
    subst this
    refine Ev.step (fun k => by rw [cruciblelaw0_SameFounds.l0]) (ev_neg (by rw [h]; simp) (ev_const ?_))
    simp [h, hy]
  | cons x rest ih =>
    intro resty pre prey h hy e
    subst e
    cases resty with
    | nil => rw [h, hy] at hl; simp at hl
    | cons y resty =>
      have hlen : xs.length = pre.length + (rest.length + 1) := by rw [h]; simp
      have r1 : rd_T32 xs (pre.length : Int) = x := by rw [h]; exact rdT_pre _ _ _
      have r2 : rd_T32 ys (pre.length : Int) = y := by rw [hy]; exact rdT_pre _ _ _
      have hw : wrap64 ((pre.length : Int) + 1) = ((pre ++ [x]).length : Int) := wrap_len pre x (by omega)
      refine Ev.step (fun k => by rw [cruciblelaw0_SameFounds.l0]) ?_
      simp only [r1, r2, hw]
      refine ev_pos (by omega) (ev_pos (by omega) (ev_pos (by omega) (ev_bind (ev_SameFound _ _ _ _ _ _ (hi x (by rw [h]; simp))) ?_)))
      by_cases hxy : x = y
      · subst hxy
        exact ev_pos (by simp) (ih resty (pre ++ [x]) (pre ++ [x]) (by simp [h]) (by simp [hy]) rfl)
      · refine ev_neg ?_ (ev_const ?_)
        · intro hc
          obtain ⟨e0, e1, e2⟩ := of_decide_eq_true hc
          exact hxy (Fd_ext e0 e1 e2)
        · rw [h, hy]
          simp [hxy]
theorem ev_SameFounds (xs ys : List (P.S32)) (hx : xs.length ≤ 4611686018427387904) (hi : ∀ x ∈ xs, x.f2.length ≤ 4611686018427387904) : Ev (fun k => cruciblelaw0_SameFounds.f k xs ys) (decide (xs = ys)) := by
  refine Ev.congr (fun k => by rw [cruciblelaw0_SameFounds.f]) ?_
  by_cases hl : xs.length = ys.length
  · exact ev_pos (by omega) (ev_SameFounds_loop xs ys hl hx hi xs ys [] [] rfl rfl rfl)
  · refine ev_neg (by omega) (ev_const ?_)
    have : xs ≠ ys := fun e => hl (by rw [e])
    simp [this]
end Go.Proofs.YtaokgnhdagcepaaDoor.Spec
end

section
/- Chapters 15, 16: may founds be, as the reference has it. -/
namespace Go.Proofs.YtaokgnhdagcepaaDoor.Spec
open Go.RowKit Go.Proofs.YtaokgnhdagcepaaDoorW.PrintWords Go.Proofs.YtaokgnhdagcepaaDoor.P

structure SmallFd (x : P.S32) : Prop where
  out : x.f0.size ≤ 4611686018427387904
  many : x.f2.length ≤ 4611686018427387904
  each : ∀ s ∈ x.f2, s.size ≤ 4611686018427387904
theorem ev_DepsMay_loop (xs : List (P.S32)) (hx : xs.length ≤ 4611686018427387904) (hs : ∀ x ∈ xs, SmallFd x) : ∀ rest pre : List (P.S32), xs = pre ++ rest → pre.all mayF = true →
    Ev (fun k => crucibleref12_DepsMay.l0 k xs (pre.length : Int)) (mayFs xs) := by
  intro rest
  induction rest with
  | nil =>
    intro pre h ha
    refine Ev.step (fun k => by rw [crucibleref12_DepsMay.l0]) (ev_neg (by rw [h]; simp) (ev_const ?_))
    rw [List.append_nil] at h
    subst h
    simp only [mayFs, ha, Bool.and_true, Option.some.injEq, decide_eq_decide]
    omega
  | cons x rest ih =>
    intro pre h ha
    have hl : xs.length = pre.length + (rest.length + 1) := by rw [h]; simp
    have hr : rd_T32 xs (pre.length : Int) = x := by rw [h]; exact rdT_pre _ _ _
    have hw : wrap64 ((pre.length : Int) + 1) = ((pre ++ [x]).length : Int) := wrap_len pre x (by omega)
    have hx' := hs x (by rw [h]; simp)
    refine Ev.step (fun k => by rw [crucibleref12_DepsMay.l0]) ?_
    simp only [hr, hw]
    refine ev_pos (by omega) (ev_pos (by omega) (ev_bind (ev_FoundMay x.f0 x.f1 x.f2 hx'.out hx'.many hx'.each) ?_))
    rw [show mayD x.f0 x.f1 x.f2 = mayF x from rfl]
    cases hm : mayF x with
    | true => exact ev_pos rfl (ih (pre ++ [x]) (by simp [h]) (by rw [List.all_append, ha, List.all_cons, hm]; rfl))
    | false =>
      refine ev_neg (by simp) (ev_const ?_)
      have : xs.all mayF = false := by rw [h, List.all_append, List.all_cons, hm]; simp
      rw [mayFs, this, Bool.and_false]
theorem ev_DepsMay (xs : List (P.S32)) (hx : xs.length ≤ 4611686018427387904) (hs : ∀ x ∈ xs, SmallFd x) : Ev (fun k => crucibleref12_DepsMay.f k xs) (mayFs xs) :=
  Ev.congr (fun k => by rw [crucibleref12_DepsMay.f]; rfl) (ev_DepsMay_loop xs hx hs xs [] rfl rfl)
theorem smallFd {fs : List (P.S32)} (hb : (fs.map fun x : P.S32 => (x.f0.size + 1) + 1 + ((x.f2.map fun s => s.size + 1).sum + 1)).sum ≤ 1048576) : ∀ x ∈ fs, SmallFd x := fun x hx => by
  have h1 := fd_mem hx
  have h2 := fd_ins x
  refine ⟨by omega, by omega, fun s hs => ?_⟩
  have h3 := sum_mem (fun s : ByteArray => s.size + 1) hs
  omega
end Go.Proofs.YtaokgnhdagcepaaDoor.Spec
end

section
/- Chapter 16: what Last and Compact compute (for Deplogs: the same as stands in XCompacts16). -/
namespace Go.Proofs.YtaokgnhdagcepaaDoor.Spec
open Go.RowKit Go.Proofs.YtaokgnhdagcepaaDoorW.PrintWords Go.Proofs.YtaokgnhdagcepaaDoorW.PrintMore Go.Proofs.YtaokgnhdagcepaaDoor.P

def lastO : List (P.S32) → ByteArray → Option P.S32
  | [], _ => none
  | x :: r, o => match lastO r o with
    | some y => some y
    | none => if x.f0 = o then some x else none
def keepS : List (P.S32) → List (P.S32)
  | [] => []
  | x :: r => if r.any (fun y => decide (y.f0 = x.f0)) = true then keepS r else x :: keepS r
theorem lastO_snoc (x : P.S32) (o : ByteArray) : ∀ l : List (P.S32), lastO (l ++ [x]) o = if x.f0 = o then some x else lastO l o
  | [] => by simp [lastO]
  | y :: l => by
    rw [List.cons_append, lastO, lastO_snoc x o l, lastO]
    by_cases h : x.f0 = o
    · rw [if_pos h, if_pos h]
    · rw [if_neg h, if_neg h]
theorem rd_lt (fs : List (P.S32)) (j : Nat) (h : j < fs.length) : rd_T32 fs (j : Int) = fs[j] := by
  simp [rd_T32, List.getD_eq_getElem?_getD, List.getElem?_eq_getElem h]
theorem lastUpto_cases (fs : List (P.S32)) (o : ByteArray) : ∀ n, n ≤ fs.length → (deplog_lastUpto fs o n = -1 ∧ lastO (fs.take n) o = none) ∨ ∃ j, j < n ∧ deplog_lastUpto fs o n = (j : Int) ∧ lastO (fs.take n) o = some (rd_T32 fs (j : Int))
  | 0, _ => .inl ⟨rfl, rfl⟩
  | n + 1, h => by
    have hn : n < fs.length := by omega
    have e : fs.take (n + 1) = fs.take n ++ [rd_T32 fs (n : Int)] := by rw [List.take_succ_eq_append_getElem hn, rd_lt fs n hn]
    rw [deplog_lastUpto, e, lastO_snoc]
    by_cases hc : (rd_T32 fs (n : Int)).f0 = o
    · rw [if_pos hc, if_pos hc]
      exact .inr ⟨n, by omega, rfl, rfl⟩
    · rw [if_neg hc, if_neg hc]
      rcases lastUpto_cases fs o n (by omega) with ⟨h1, h2⟩ | ⟨j, h1, h2, h3⟩
      · exact .inl ⟨h1, h2⟩
      · exact .inr ⟨j, by omega, h2, h3⟩
theorem lastUpto_ge (fs : List (P.S32)) (o : ByteArray) (j : Nat) (hj : (rd_T32 fs (j : Int)).f0 = o) : ∀ n, j < n → (j : Int) ≤ deplog_lastUpto fs o n
  | 0, h => by omega
  | n + 1, h => by
    rw [deplog_lastUpto]
    by_cases hc : (rd_T32 fs (n : Int)).f0 = o
    · rw [if_pos hc]; omega
    · rw [if_neg hc]
      by_cases e : j = n
      · subst e; exact absurd hj hc
      · exact lastUpto_ge fs o j hj n (by omega)
theorem lastUpto_at (fs pre rest : List (P.S32)) (x : P.S32) (h : fs = pre ++ x :: rest) : deplog_lastUpto fs x.f0 fs.length = (pre.length : Int) ↔ rest.any (fun y => decide (y.f0 = x.f0)) = false := by
  have hl : fs.length = pre.length + (rest.length + 1) := by rw [h]; simp
  have hx : rd_T32 fs (pre.length : Int) = x := by rw [h]; exact rdT_pre _ _ _
  have hr : ∀ (j : Nat) (hj : j < rest.length), rd_T32 fs ((pre.length + 1 + j : Nat) : Int) = rest[j] := fun j hj => by
    have hlt : pre.length + 1 + j < fs.length := by omega
    rw [rd_lt fs _ hlt]
    simp [h, List.getElem_append_right, Nat.add_assoc, Nat.add_comm 1 j]
  constructor
  · intro he
    rw [List.any_eq_false]
    intro y hy hc
    obtain ⟨j, hj, rfl⟩ := List.getElem_of_mem hy
    have h1 := lastUpto_ge fs x.f0 (pre.length + 1 + j) (by rw [hr j hj]; exact of_decide_eq_true hc) fs.length (by omega)
    omega
  · intro ha
    have hne : ∀ i, i < rest.length → (rd_T32 fs ((fs.length - 1 - i : Nat) : Int)).f0 ≠ x.f0 := fun i hi => by
      have e : fs.length - 1 - i = pre.length + 1 + (rest.length - 1 - i) := by omega
      rw [e, hr _ (by omega)]
      have := List.any_eq_false.1 ha _ (List.getElem_mem (by omega : rest.length - 1 - i < rest.length))
      simpa using this
    rw [lastUpto_pre fs x.f0 fs.length rest.length (pre.length + 1) (by omega) hne, deplog_lastUpto, if_pos (by rw [hx])]
def noF : ByteArray × Int × List ByteArray × Bool := (str [], 0, [], false)
def someF (x : P.S32) : ByteArray × Int × List ByteArray × Bool := (x.f0, x.f1, x.f2, true)
def lastF (fs : List (P.S32)) (o : ByteArray) : ByteArray × Int × List ByteArray × Bool :=
  match lastO fs o with
  | none => noF
  | some x => if mayFs fs = true then someF x else noF
theorem clone_is (l : List ByteArray) (h : l.length ≤ 8) : slices_Clone_string_string.f l = some l := by
  unfold slices_Clone_string_string.f
  rw [if_pos (by omega)]
theorem copy_is {x : P.S32} (h : mayF x = true) : deplog_Copy.f x.f0 x.f1 x.f2 = some (x.f0, x.f1, x.f2) := by
  unfold deplog_Copy.f
  rw [clone_is _ (mayD_small h).2.2.2.1]
  rfl
theorem ev_Last16 (fs : List (P.S32)) (o : ByteArray) (hl : fs.length ≤ 4294967296) (hi : ∀ x ∈ fs, x.f2.length ≤ 4611686018427387904) : Ev (fun k => deplog_Last.f k fs o) (lastF fs o) := by
  have hlast : deplog_last.f fs o = some (deplog_lastUpto fs o fs.length) := by unfold deplog_last.f; rw [if_pos hl]
  refine Ev.congr (fun k => by rw [deplog_Last.f]) (ev_bindc hlast ?_)
  unfold lastF
  rcases lastUpto_cases fs o fs.length (Nat.le_refl _) with ⟨h1, h2⟩ | ⟨j, h1, h2, h3⟩
  · rw [List.take_length] at h2
    rw [h1, h2]
    exact ev_pos (by decide) (Ev.now _)
  · rw [List.take_length] at h3
    rw [h2, h3]
    refine ev_neg (by omega) (ev_bind (ev_May16 fs hi) ?_)
    cases hm : mayFs fs with
    | false => exact ev_neg (by simp) (Ev.now _)
    | true =>
      have hx : mayF (rd_T32 fs (j : Int)) = true := by
        rw [rd_lt fs j h1]; exact (mayFs_all hm).2 _ (List.getElem_mem h1)
      exact ev_pos rfl (ev_pos (by omega) (ev_pos (by omega) (ev_bindc (copy_is hx) (Ev.now _))))
theorem ev_Compact_loop (fs : List (P.S32)) (hm : mayFs fs = true) : ∀ rest pre acc : List (P.S32), fs = pre ++ rest → acc.length ≤ pre.length →
    Ev (fun k => deplog_Compact.l0 k fs acc fs (fs.length : Int) (pre.length : Int)) (acc ++ keepS rest, 0) := by
  intro rest
  have g1 := (mayFs_all hm).1
  induction rest with
  | nil =>
    intro pre acc h ha
    refine Ev.step (fun k => by rw [deplog_Compact.l0]) (ev_neg (by rw [h]; simp) (ev_const ?_))
    simp [keepS]
  | cons x rest ih =>
    intro pre acc h ha
    have hlen : fs.length = pre.length + (rest.length + 1) := by rw [h]; simp
    have hr : rd_T32 fs (pre.length : Int) = x := by rw [h]; exact rdT_pre _ _ _
    have hw : wrap64 ((pre.length : Int) + 1) = ((pre ++ [x]).length : Int) := wrap_len pre x (by omega)
    have hx : mayF x = true := (mayFs_all hm).2 x (by rw [h]; simp)
    have hlast : deplog_last.f fs x.f0 = some (deplog_lastUpto fs x.f0 fs.length) := by unfold deplog_last.f; rw [if_pos (by omega)]
    have hat := lastUpto_at fs pre rest x h
    refine Ev.step (fun k => by rw [deplog_Compact.l0]) ?_
    simp only [hr, hw]
    refine ev_pos (by omega) (ev_pos (by omega) (ev_pos (by omega) (ev_bindc hlast ?_)))
    rw [keepS]
    cases hc : rest.any (fun y => decide (y.f0 = x.f0)) with
    | false =>
      rw [if_neg (by simp)]
      have ih2 := ih (pre ++ [x]) (acc ++ [x]) (by simp [h]) (by simp; omega)
      rw [List.append_assoc] at ih2
      exact ev_pos (hat.2 hc) (ev_bindc (copy_is hx) (ev_pos (show acc.length < 2932031007402 by omega) ih2))
    | true =>
      rw [if_pos rfl]
      have ih2 := ih (pre ++ [x]) acc (by simp [h]) (by simp; omega)
      exact ev_neg (fun e => by have := hat.1 e; rw [hc] at this; cases this) ih2
def compF (fs : List (P.S32)) : List (P.S32) × Int := if mayFs fs = true then (keepS fs, 0) else ([], 1600)
theorem ev_Compact (fs : List (P.S32)) (hi : ∀ x ∈ fs, x.f2.length ≤ 4611686018427387904) : Ev (fun k => deplog_Compact.f k fs) (compF fs) := by
  refine Ev.congr (fun k => by rw [deplog_Compact.f]) (ev_bind (ev_May16 fs hi) ?_)
  unfold compF
  cases hm : mayFs fs with
  | false => exact ev_neg (by simp) (Ev.now _)
  | true => exact ev_pos rfl (ev_Compact_loop fs hm fs [] [] rfl (Nat.le_refl _))
end Go.Proofs.YtaokgnhdagcepaaDoor.Spec
end

section
/- Chapter 16: what the reference's DepsText, LoadDeps, LastFound, CompactDeps compute. -/
namespace Go.Proofs.YtaokgnhdagcepaaDoor.Spec
open Go.RowKit Go.Proofs.YtaokgnhdagcepaaDoorW.PrintWords Go.Proofs.YtaokgnhdagcepaaDoorW.PrintMore Go.Proofs.YtaokgnhdagcepaaDoor.P

theorem putF_tx {x : P.S32} (h : mayF x = true) : putF x.f0 x.f1 x.f2 = (str (txF x), 0) := by
  unfold putF
  rw [if_pos (show mayD x.f0 x.f1 x.f2 = true from h)]
  rfl
theorem ev_PutF_tx {x : P.S32} (h : mayF x = true) (hs : SmallFd x) : Ev (fun k => crucibleref12_PutFound.f k x.f0 x.f1 x.f2) (str (txF x), 0) := by
  have := ev_PutFound x.f0 x.f1 x.f2 hs.out hs.many hs.each
  rwa [putF_tx h] at this
theorem ev_DepsText_loop (fs : List (P.S32)) (hm : mayFs fs = true) (hs : ∀ x ∈ fs, SmallFd x) : ∀ (rest pre : List (P.S32)) (acc : List UInt8), fs = pre ++ rest → acc.length + 160 * rest.length ≤ 100000 →
    Ev (fun k => crucibleref12_DepsText.l0 k fs (str acc) (pre.length : Int)) (str (acc ++ fsText rest), 0)
  | [], pre, acc, h, hb => by
    refine Ev.step (fun k => by rw [crucibleref12_DepsText.l0]) (ev_neg (by rw [h]; simp) (ev_const ?_))
    rw [fsText_nil, List.append_nil]
  | x :: rest, pre, acc, h, hb => by
    have hxm : x ∈ fs := by rw [h]; simp
    have hx := (mayFs_all hm).2 x hxm
    have hle := (mayFs_all hm).1
    have hlen : fs.length = pre.length + (rest.length + 1) := by rw [h]; simp
    have hr : rd_T32 fs (pre.length : Int) = x := by rw [h]; exact rdT_pre _ _ _
    have hw : wrap64 ((pre.length : Int) + 1) = ((pre ++ [x]).length : Int) := wrap_len pre x (by omega)
    have ht := (txF_len hx).2
    rw [List.length_cons] at hb
    have ih := ev_DepsText_loop fs hm hs rest (pre ++ [x]) (acc ++ txF x) (by simp [h]) (by rw [List.length_append]; omega)
    refine Ev.step (fun k => by rw [crucibleref12_DepsText.l0]) ?_
    simp only [hr, hw]
    refine ev_pos (by omega) (ev_pos (by omega) (ev_bind (ev_PutF_tx hx (hs x hxm)) (ev_pos ?_ ?_)))
    · rw [str_size, str_size]; omega
    · rw [str_append]
      refine ev_eq ih ?_
      rw [fsText_cons, List.append_assoc]
theorem ev_DepsText (fs : List (P.S32)) (hl : fs.length ≤ 4611686018427387904) (hs : ∀ x ∈ fs, SmallFd x) : Ev (fun k => crucibleref12_DepsText.f k fs) (textF fs) := by
  refine Ev.congr (fun k => by rw [crucibleref12_DepsText.f]) (ev_bind (ev_DepsMay fs hl hs) ?_)
  unfold textF
  cases hm : mayFs fs with
  | false => exact ev_neg (by simp) (Ev.now _)
  | true =>
    have h1 := (mayFs_all hm).1
    have := ev_DepsText_loop fs hm hs fs [] [] rfl (by simp; omega)
    exact ev_pos rfl this

/-! ### LoadDeps -/
theorem getF_whole {s : List UInt8} (h : (getF (str s)).2.2.2 = 0) : sizeL s = s.length := by
  obtain ⟨hm, ht⟩ := gF_is h
  have := sizeL_tx hm []
  rwa [List.append_nil, ht] at this
theorem load_short (n : Nat) (s : List UInt8) (h : s.length < sizeL s) : loadD n s = [] := by
  cases n with
  | zero => rfl
  | succ n =>
    rw [loadD]
    split
    · rfl
    · have hc : cutL s = s.length := by rw [cutL]; omega
      rw [hc, List.take_length]
      split
      · rename_i hg
        have := getF_whole hg
        omega
      · rfl
theorem sizeL_two (a b : UInt8) (r : List UInt8) : sizeL (a :: b :: r) = 2 + (a.toNat + 256 * b.toNat) := by
  simp [sizeL, tN, unlow]
theorem load_step (n : Nat) (a b : UInt8) (r : List UInt8) (h : sizeL (a :: b :: r) ≤ (a :: b :: r).length) : loadD (n + 1) (a :: b :: r) = if (getF (str ((a :: b :: r).take (sizeL (a :: b :: r))))).2.2.2 = 0 then gF ((a :: b :: r).take (sizeL (a :: b :: r))) :: loadD n ((a :: b :: r).drop (sizeL (a :: b :: r))) else [] := by
  have hc : cutL (a :: b :: r) = sizeL (a :: b :: r) := by rw [cutL]; omega
  rw [loadD, if_neg (by simp), hc]
theorem load_K (a b : Nat) (ha : a < 256) (hb : b < 256) : wrap64 ((wrap64 (2 + (wrap64 (a : Int)))) + (wrap64 (256 * (wrap64 (b : Int))))) = ((2 + (a + 256 * b) : Nat) : Int) := by
  have h1 : wrap64 (a : Int) = (a : Int) := wrap_id (by omega) (by omega)
  have h2 : wrap64 (b : Int) = (b : Int) := wrap_id (by omega) (by omega)
  have h3 : wrap64 (2 + (a : Int)) = 2 + (a : Int) := wrap_id (by omega) (by omega)
  have h4 : wrap64 (256 * (b : Int)) = 256 * (b : Int) := wrap_id (by omega) (by omega)
  rw [h1, h2, h3, h4, wrap_id (by omega) (by omega)]
  omega
theorem ld2_lt (s : ByteArray) (acc : List (P.S32)) (K : Nat) (g0 : 0 < (s.size : Int)) (g1 : 1 < (s.size : Int)) (eK : wrap64 ((wrap64 (2 + (wrap64 (bt s 0)))) + (wrap64 (256 * (wrap64 (bt s 1))))) = (K : Int)) (gc : (K : Int) > (s.size : Int)) :
    Ev (fun k => crucibleref12_LoadDeps.j1 k s acc true) acc := by
  refine Ev.step (fun k => by rw [crucibleref12_LoadDeps.j1]) (ev_pos rfl (ev_pos g0 (ev_pos g1 ?_)))
  rw [eK]
  exact ev_pos gc (ev_const rfl)
theorem ld2_ge (s : ByteArray) (acc R : List (P.S32)) (K : Nat) (g : ByteArray × Int × List ByteArray × Int) (g0 : 0 < (s.size : Int)) (g1 : 1 < (s.size : Int)) (eK : wrap64 ((wrap64 (2 + (wrap64 (bt s 0)))) + (wrap64 (256 * (wrap64 (bt s 1))))) = (K : Int)) (gc : ¬ (K : Int) > (s.size : Int)) (gK : (0 : Int) ≤ (K : Int)) (gc2 : (K : Int) ≤ (s.size : Int))
    (hp2 : acc.length < 2932031007402) (eG : Ev (fun k => crucibleref12_GetFound.f k (s.extract 0 K)) g)
    (e1 : g.2.2.2 = 0 → Ev (fun k => crucibleref12_LoadDeps.l0 k (s.extract K s.size) (acc ++ [(⟨g.1, g.2.1, g.2.2.1⟩ : P.S32)])) R) (e0 : ¬ g.2.2.2 = 0 → acc = R) :
    Ev (fun k => crucibleref12_LoadDeps.j1 k s acc true) R := by
  refine Ev.step (fun k => by rw [crucibleref12_LoadDeps.j1]) (ev_pos rfl (ev_pos g0 (ev_pos g1 ?_)))
  rw [eK, Int.toNat_natCast]
  refine ev_neg gc (ev_pos gK (ev_pos gc2 (ev_bind eG ?_)))
  by_cases hg : g.2.2.2 = 0
  · exact ev_pos hg (ev_pos hp2 (e1 hg))
  · exact ev_neg hg (ev_const (by rw [e0 hg]))
theorem ld2_two (a b : UInt8) (r : List UInt8) : (str (a :: b :: r)).size = r.length + 2 ∧ wrap64 ((wrap64 (2 + (wrap64 (bt (str (a :: b :: r)) 0)))) + (wrap64 (256 * (wrap64 (bt (str (a :: b :: r)) 1))))) = (sizeL (a :: b :: r) : Int) := by
  have b0 : bt (str (a :: b :: r)) 0 = (a.toNat : Int) := bt_pre _ [] a (b :: r) (by rw [str_data]; rfl)
  have b1 : bt (str (a :: b :: r)) 1 = (b.toNat : Int) := bt_pre _ [a] b r (by rw [str_data]; rfl)
  refine ⟨by rw [str_size]; rfl, ?_⟩
  rw [b0, b1, sizeL_two a b r]
  exact load_K _ _ a.toNat_lt b.toNat_lt
theorem ld2_cut (l : List UInt8) (K : Nat) : (str l).extract 0 K = str (l.take K) ∧ (str l).extract K (str l).size = str (l.drop K) := by
  refine ⟨str_eq _ _ (by rw [extract_data, str_data, List.drop_zero]), str_eq _ _ ?_⟩
  rw [extract_data, str_data, str_size, List.take_length]
theorem ld2_nums (n p : Nat) (h : p + (n + 1) = 256) : (p : Int) < 256 ∧ p < 2932031007402 ∧ p + 1 + n = 256 := by omega
theorem ld2_sz (z : Nat) (h : 2 ≤ z) : (0 : Int) < (z : Int) ∧ (1 : Int) < (z : Int) ∧ (z : Int) ≥ 2 := by omega
theorem ld2_gt (K z : Nat) (h : z < K) : (K : Int) > (z : Int) := by omega
theorem ld2_le (K z : Nat) (h : ¬ z < K) : ¬ (K : Int) > (z : Int) ∧ (0 : Int) ≤ (K : Int) ∧ (K : Int) ≤ (z : Int) ∧ K ≤ z := by omega
theorem ld2_small (l : List UInt8) (K : Nat) (h : l.length ≤ 4611686018427387904) : (l.take K).length ≤ 4611686018427387904 ∧ (l.drop K).length ≤ 4611686018427387904 := by
  rw [List.length_take, List.length_drop]; omega
theorem ld2_ends (n : Nat) (l : List UInt8) (hl : l.length < 2) : loadD n l = [] := by
  match l, hl with
  | [], _ => cases n <;> simp [loadD]
  | [a], _ => exact load_short _ _ (by simp [sizeL]; omega)
theorem ld2_one (s : List UInt8) (acc : List (P.S32)) (hs : s.length < 2) (hp : (acc.length : Int) < 256) : Ev (fun k => crucibleref12_LoadDeps.l0 k (str s) acc) acc := by
  refine Ev.step (fun k => by rw [crucibleref12_LoadDeps.l0]) (ev_pos hp (Ev.step (fun k => by rw [crucibleref12_LoadDeps.j1]) (ev_neg ?_ (ev_const rfl))))
  rw [str_size, decide_eq_true_eq]
  omega
theorem ev_LoadDeps_loop : ∀ (n : Nat) (s : List UInt8) (pre : List (P.S32)), pre.length + n = 256 → s.length ≤ 4611686018427387904 → Ev (fun k => crucibleref12_LoadDeps.l0 k (str s) pre) (pre ++ loadD n s) := by
  intro n
  induction n with
  | zero =>
    intro s pre h hs
    refine Ev.step (fun k => by rw [crucibleref12_LoadDeps.l0]) (ev_neg (by omega) (Ev.step (fun k => by rw [crucibleref12_LoadDeps.j1]) (ev_neg (by decide) (ev_const ?_))))
    simp [loadD]
  | succ n ih =>
    intro s pre h hs
    obtain ⟨hp, hp2, hp3⟩ := ld2_nums n pre.length h
    by_cases hl : s.length < 2
    · rw [ld2_ends _ _ hl, List.append_nil]
      exact ld2_one s pre hl hp
    · obtain ⟨a, b, r, rfl⟩ : ∃ a b r, s = a :: b :: r := by
        match s, hl with
        | [], hl => exact absurd (by simp) hl
        | [a], hl => exact absurd (by simp) hl
        | a :: b :: r, _ => exact ⟨a, b, r, rfl⟩
      clear hl
      obtain ⟨hz, eK⟩ := ld2_two a b r
      obtain ⟨c1, c2⟩ := ld2_cut (a :: b :: r) (sizeL (a :: b :: r))
      have hstep := load_step n a b r
      have hshort := load_short (n + 1) (a :: b :: r)
      have hlen : (a :: b :: r).length = r.length + 2 := rfl
      rw [hlen] at hstep hshort
      obtain ⟨K, hK⟩ : ∃ K, sizeL (a :: b :: r) = K := ⟨_, rfl⟩
      obtain ⟨s1, s2⟩ := ld2_small (a :: b :: r) K hs
      rw [hK] at eK c1 c2 hstep hshort
      clear hK hs hlen
      obtain ⟨z, hzz⟩ : ∃ z, r.length + 2 = z := ⟨_, rfl⟩
      have hz2 : 2 ≤ z := by rw [← hzz]; exact Nat.le_add_left 2 _
      rw [hzz] at hz hstep hshort
      clear hzz
      have eG := ev_GetFound (str ((a :: b :: r).take K)) (by rw [str_size]; exact s1)
      have ihn := ih ((a :: b :: r).drop K) (pre ++ [gF ((a :: b :: r).take K)]) (by rw [List.length_append, List.length_singleton]; exact hp3) s2
      generalize hl : a :: b :: r = l at *
      clear hl ih s1 s2
      obtain ⟨g0, g1, g2⟩ := ld2_sz z hz2
      refine Ev.step (fun k => by rw [crucibleref12_LoadDeps.l0]) (ev_pos hp ?_)
      rw [hz, decide_eq_true g2]
      by_cases hlt : z < K
      · rw [hshort hlt, List.append_nil]
        exact ld2_lt (str l) pre K (by rw [hz]; exact g0) (by rw [hz]; exact g1) eK (by rw [hz]; exact ld2_gt K z hlt)
      · obtain ⟨gc, gK, gc2, hle⟩ := ld2_le K z hlt
        rw [hstep hle]
        refine ld2_ge (str l) pre _ K (getF (str (l.take K))) (by rw [hz]; exact g0) (by rw [hz]; exact g1) eK (by rw [hz]; exact gc) gK (by rw [hz]; exact gc2) hp2 (by rw [c1]; exact eG) (fun hg => ?_) (fun hg => ?_)
        · rw [c2, if_pos hg]
          rw [List.append_assoc, List.singleton_append] at ihn
          exact ihn
        · rw [if_neg hg, List.append_nil]
theorem ev_LoadDeps (s : ByteArray) (hs : s.size ≤ 4611686018427387904) : Ev (fun k => crucibleref12_LoadDeps.f k s) (loadD 256 s.data.toList) := by
  have := ev_LoadDeps_loop 256 s.data.toList [] rfl (by rw [size_data]; exact hs)
  rw [str_of] at this
  exact Ev.congr (fun k => by rw [crucibleref12_LoadDeps.f]) this

/-! ### LastFound -/
theorem rcopy_is (o : ByteArray) (t : Int) (l : List ByteArray) (h : l.length < 8796093022208) : crucibleref12_copyFound.f o t l = some (o, t, l) := by
  unfold crucibleref12_copyFound.f
  simp only [Option.bind_some, List.length_nil, Nat.zero_add, List.nil_append]
  rw [if_pos h]
theorem ev_LastFound_no (fs : List (P.S32)) (o : ByteArray) (hl : fs.length ≤ 4611686018427387904) (hs : ∀ x ∈ fs, SmallFd x) (hm : mayFs fs = false) (i : Int) : Ev (fun k => crucibleref12_LastFound.l0 k fs o i) (str [], 0, [], false) := by
  have hD := ev_DepsMay fs hl hs
  rw [hm] at hD
  by_cases hi : i ≥ 0
  · refine Ev.step (fun k => by rw [crucibleref12_LastFound.l0]) (ev_pos hi (ev_bind hD (Ev.step (fun k => by rw [crucibleref12_LastFound.j1]) (ev_neg (show ¬ (false = true) from by decide) ?_))))
    exact ev_const rfl
  · refine Ev.step (fun k => by rw [crucibleref12_LastFound.l0]) (ev_neg hi (Ev.step (fun k => by rw [crucibleref12_LastFound.j1]) (ev_neg (show ¬ (false = true) from by decide) ?_)))
    exact ev_const rfl
theorem ev_LastFound_loop (fs : List (P.S32)) (o : ByteArray) (hs : ∀ x ∈ fs, SmallFd x) (hm : mayFs fs = true) : ∀ n, n ≤ fs.length → Ev (fun k => crucibleref12_LastFound.l0 k fs o ((n : Int) - 1)) (match lastO (fs.take n) o with | none => noF | some x => someF x)
  | 0, h => by
    refine Ev.step (fun k => by rw [crucibleref12_LastFound.l0]) (ev_neg (by omega) (Ev.step (fun k => by rw [crucibleref12_LastFound.j1]) (ev_neg (show ¬ (false = true) from by decide) ?_)))
    exact ev_const rfl
  | n + 1, h => by
    have h256 := (mayFs_all hm).1
    have hD := ev_DepsMay fs (by omega) hs
    rw [hm] at hD
    have hn : n < fs.length := by omega
    have e : fs.take (n + 1) = fs.take n ++ [rd_T32 fs (n : Int)] := by rw [List.take_succ_eq_append_getElem hn, rd_lt fs n hn]
    have e0 : ((n + 1 : Nat) : Int) - 1 = (n : Int) := by omega
    have e1 : wrap64 ((n : Int) - 1) = (n : Int) - 1 := wrap_id (by omega) (by omega)
    have hx : mayF (rd_T32 fs (n : Int)) = true := by rw [rd_lt fs n hn]; exact (mayFs_all hm).2 _ (List.getElem_mem hn)
    have h8 := (mayD_small hx).2.2.2.1
    have g1 : (n : Int) ≥ 0 := by omega
    have g2 : (n : Int) < (fs.length : Int) := by omega
    have g3 : (rd_T32 fs (n : Int)).f2.length < 8796093022208 := by omega
    have ih := ev_LastFound_loop fs o hs hm n (by omega)
    rw [e0, e, lastO_snoc]
    refine Ev.step (fun k => by rw [crucibleref12_LastFound.l0]) (ev_pos g1 (ev_bind hD (Ev.step (fun k => by rw [crucibleref12_LastFound.j1]) (ev_pos rfl (ev_pos g1 (ev_pos g2 ?_))))))
    by_cases hc : (rd_T32 fs (n : Int)).f0 = o
    · rw [if_pos hc]
      exact ev_pos (by rw [hc]) (ev_bindc (rcopy_is _ _ _ g3) (Ev.now _))
    · rw [if_neg hc, e1]
      refine ev_neg (fun he => hc ?_) ih
      rw [toList_data, toList_data] at he
      exact data_inj he
theorem ev_LastFound (fs : List (P.S32)) (o : ByteArray) (hl : fs.length ≤ 4611686018427387904) (hs : ∀ x ∈ fs, SmallFd x) : Ev (fun k => crucibleref12_LastFound.f k fs o) (lastF fs o) := by
  have e1 : wrap64 ((fs.length : Int) - 1) = (fs.length : Int) - 1 := wrap_id (by omega) (by omega)
  refine Ev.congr (fun k => by rw [crucibleref12_LastFound.f, e1]) ?_
  unfold lastF
  cases hm : mayFs fs with
  | false =>
    have := ev_LastFound_no fs o hl hs hm ((fs.length : Int) - 1)
    refine ev_eq this ?_
    cases lastO fs o with
    | none => rfl
    | some x => simp only []; rw [if_neg (by decide)]; rfl
  | true =>
    have := ev_LastFound_loop fs o hs hm fs.length (Nat.le_refl _)
    rw [List.take_length] at this
    refine ev_eq this ?_
    cases lastO fs o with
    | none => rfl
    | some x => simp

/-! ### CompactDeps -/
theorem bne_is (a b : ByteArray) : (a.toList != b.toList) = !decide (a = b) := by
  rw [toList_data, toList_data]
  by_cases h : a = b
  · subst h; simp
  · have : a.data.toList ≠ b.data.toList := fun e => h (data_inj e)
    simp [h, this]
theorem fd_eta (x : P.S32) : (⟨x.f0, x.f1, x.f2⟩ : P.S32) = x := rfl
theorem ev_CompactDeps_in (fs acc : List (P.S32)) (i : Nat) (x : P.S32) (hl : fs.length ≤ 256) (hi : i < fs.length) (hacc : acc.length ≤ 256) (hx : rd_T32 fs (i : Int) = x) (hx8 : x.f2.length ≤ 8) (R1 R0 : List (P.S32) × Int)
    (h1 : Ev (fun k => crucibleref12_CompactDeps.l0 k fs (acc ++ [x]) ((i + 1 : Nat) : Int)) R1) (h0 : Ev (fun k => crucibleref12_CompactDeps.l0 k fs acc ((i + 1 : Nat) : Int)) R0) :
    ∀ (rest pre : List (P.S32)) (b : Bool), fs = pre ++ rest → Ev (fun k => crucibleref12_CompactDeps.l1 k fs acc (i : Int) b (pre.length : Int)) (if (b && !(rest.any (fun y => decide (y.f0 = x.f0)))) = true then R1 else R0) := by
  have g0 : (0 : Int) ≤ (i : Int) := by omega
  have g1 : (i : Int) < (fs.length : Int) := by omega
  have g2 : acc.length < 2932031007402 := by omega
  have g3 : x.f2.length < 8796093022208 := by omega
  have ew : wrap64 ((i : Int) + 1) = ((i + 1 : Nat) : Int) := wrap_nat (by omega)
  intro rest
  induction rest with
  | nil =>
    intro pre b h
    rw [List.append_nil] at h
    have gn : ¬ (pre.length : Int) < (fs.length : Int) := by rw [h]; omega
    refine Ev.step (fun k => by rw [crucibleref12_CompactDeps.l1]) (ev_neg gn ?_)
    rw [hx, ew]
    cases b with
    | true => exact ev_pos rfl (ev_pos g0 (ev_pos g1 (ev_bindc (rcopy_is _ _ _ g3) (ev_pos g2 h1))))
    | false => exact ev_neg (by decide) h0
  | cons y rest ih =>
    intro pre b h
    have hlen : fs.length = pre.length + (rest.length + 1) := by rw [h]; simp
    have hr : rd_T32 fs (pre.length : Int) = y := by rw [h]; exact rdT_pre _ _ _
    have hw : wrap64 ((pre.length : Int) + 1) = ((pre ++ [y]).length : Int) := wrap_len pre y (by omega)
    have gp : (pre.length : Int) < (fs.length : Int) := by omega
    have gq : (0 : Int) ≤ (pre.length : Int) := by omega
    have ihn := fun b => ih (pre ++ [y]) b (by simp [h])
    refine Ev.step (fun k => by rw [crucibleref12_CompactDeps.l1]) (ev_pos gp ?_)
    rw [hr, hx, hw, bne_is]
    cases b with
    | true =>
      refine ev_pos rfl (ev_pos gq (ev_pos g0 (ev_pos g1 (ev_eq (ihn _) ?_))))
      rw [List.any_cons, Bool.not_or, Bool.true_and]
    | false =>
      refine ev_neg (by decide) (ev_eq (ihn false) ?_)
      rw [Bool.false_and, Bool.false_and]
theorem ev_CompactDeps_loop (fs : List (P.S32)) (hm : mayFs fs = true) : ∀ rest pre acc : List (P.S32), fs = pre ++ rest → acc.length ≤ pre.length →
    Ev (fun k => crucibleref12_CompactDeps.l0 k fs acc (pre.length : Int)) (acc ++ keepS rest, 0) := by
  have hl := (mayFs_all hm).1
  intro rest
  induction rest with
  | nil =>
    intro pre acc h ha
    refine Ev.step (fun k => by rw [crucibleref12_CompactDeps.l0]) (ev_neg (by rw [h]; simp) (ev_const ?_))
    rw [keepS, List.append_nil]
  | cons x rest ih =>
    intro pre acc h ha
    have hlen : fs.length = pre.length + (rest.length + 1) := by rw [h]; simp
    have hr : rd_T32 fs (pre.length : Int) = x := by rw [h]; exact rdT_pre _ _ _
    have hx8 := (mayD_small ((mayFs_all hm).2 x (by rw [h]; simp))).2.2.2.1
    have hw : wrap64 ((pre.length : Int) + 1) = ((pre ++ [x]).length : Int) := wrap_len pre x (by omega)
    have hpl : (pre ++ [x]).length = pre.length + 1 := by simp
    have gp : (pre.length : Int) < (fs.length : Int) := by omega
    have ga : acc.length ≤ 256 := by omega
    have gi : pre.length < fs.length := by omega
    have ga1 : (acc ++ [x]).length ≤ (pre ++ [x]).length := by rw [List.length_append, List.length_append]; exact Nat.add_le_add_right ha _
    have ga0 : acc.length ≤ (pre ++ [x]).length := by rw [hpl]; omega
    have i1 := ih (pre ++ [x]) (acc ++ [x]) (by simp [h]) ga1
    have i0 := ih (pre ++ [x]) acc (by simp [h]) ga0
    rw [hpl] at i1 i0
    have hin := ev_CompactDeps_in fs acc pre.length x hl gi ga hr hx8 _ _ i1 i0 rest (pre ++ [x]) true (by simp [h])
    refine Ev.step (fun k => by rw [crucibleref12_CompactDeps.l0]) (ev_pos gp ?_)
    rw [hw]
    refine ev_eq hin ?_
    rw [keepS, Bool.true_and]
    cases rest.any (fun y => decide (y.f0 = x.f0)) with
    | true => rw [if_neg (by decide), if_pos rfl]
    | false => rw [if_pos (by decide), if_neg (by decide), List.append_assoc, List.singleton_append]
theorem ev_CompactDeps (fs : List (P.S32)) (hl : fs.length ≤ 4611686018427387904) (hs : ∀ x ∈ fs, SmallFd x) : Ev (fun k => crucibleref12_CompactDeps.f k fs) (compF fs) := by
  refine Ev.congr (fun k => by rw [crucibleref12_CompactDeps.f]) (ev_bind (ev_DepsMay fs hl hs) ?_)
  unfold compF
  cases hm : mayFs fs with
  | false => exact ev_neg (by simp) (Ev.now _)
  | true => exact ev_pos rfl (ev_CompactDeps_loop fs hm fs [] [] rfl (Nat.le_refl _))
end Go.Proofs.YtaokgnhdagcepaaDoor.Spec
end

section
/- Texts written over: what SpoilTexts computes; premises from some number of rounds on. -/
namespace Go.Proofs.YtaokgnhdagcepaaDoor.Spec
open Go.RowKit Go.Proofs.YtaokgnhdagcepaaDoorW.PrintWords Go.Proofs.YtaokgnhdagcepaaDoor.P
def spoil (x : ByteArray) : ByteArray := (⟨#[126]⟩ : ByteArray) ++ x
theorem ev_Spoil_loop : ∀ (rest pre : List ByteArray), pre.length + rest.length ≤ 4611686018427387904 → (∀ x ∈ rest, x.size ≤ 4611686018427387904) → Ev (fun k => cruciblelaw0_SpoilTexts.l0 k (pre.map spoil ++ rest) (pre.length : Int)) ((pre ++ rest).map spoil)
  | [], pre, h, hs => Ev.step (fun k => by rw [cruciblelaw0_SpoilTexts.l0]) (ev_neg (by simp) (ev_const (by simp)))
  | x :: rest, pre, h, hs => by
    have hx := hs x (by simp)
    have hp : (pre.map spoil).length = pre.length := List.length_map _
    have hr : rdOf ByteArray.empty (pre.map spoil ++ x :: rest) (pre.length : Int) = x := by
      have := rdOf_pre ByteArray.empty (pre.map spoil) x rest
      rwa [hp] at this
    have hw : wrap64 ((pre.length : Int) + 1) = ((pre ++ [x]).length : Int) := wrap_len pre x (by omega)
    have hset : (pre.map spoil ++ x :: rest).set (pre.length : Int).toNat ((⟨#[126]⟩ : ByteArray) ++ x) = (pre ++ [x]).map spoil ++ rest := by
      rw [Int.toNat_natCast, ← hp]
      simp [spoil]
    have ih := ev_Spoil_loop rest (pre ++ [x]) (by rw [List.length_append, List.length_singleton]; rw [List.length_cons] at h; omega) (fun y hy => hs y (by simp [hy]))
    refine Ev.step (fun k => by rw [cruciblelaw0_SpoilTexts.l0]) ?_
    rw [hr, hset, hw]
    rw [List.append_assoc, List.singleton_append] at ih
    exact ev_pos (by rw [List.length_append, hp, List.length_cons]; omega) (ev_pos (by omega) (ev_pos (by omega) ih))
theorem ev_Spoil (l : List ByteArray) (h : l.length ≤ 4611686018427387904) (hs : ∀ x ∈ l, x.size ≤ 4611686018427387904) : Ev (fun k => cruciblelaw0_SpoilTexts.f k l) (l.map spoil) :=
  Ev.congr (fun k => by rw [cruciblelaw0_SpoilTexts.f]; rfl) (ev_Spoil_loop l [] (by simpa using h) hs)
theorem evt_and {p q : Nat → Prop} (hp : ∃ K, ∀ k, K ≤ k → p k) (hq : ∃ K, ∀ k, K ≤ k → q k) : ∃ K, ∀ k, K ≤ k → p k ∧ q k := by
  obtain ⟨K1, h1⟩ := hp
  obtain ⟨K2, h2⟩ := hq
  exact ⟨max K1 K2, fun k hk => ⟨h1 k (by omega), h2 k (by omega)⟩⟩
theorem evt_c {p : Prop} (h : p) : ∃ K : Nat, ∀ k, K ≤ k → p := ⟨0, fun _ _ => h⟩
theorem evt_if {α : Type} {g f : Nat → Option α} {r : α} {p : Nat → Prop} {inst : ∀ k, Decidable (p k)} (hp : ∃ K, ∀ k, K ≤ k → p k) (e : Ev g r) : Ev (fun k => if p k then g k else f k) r := by
  obtain ⟨K, hK⟩ := hp
  obtain ⟨K2, hK2⟩ := e
  exact ⟨max K K2, fun k hk => (if_pos (hK k (by omega))).trans (hK2 k (by omega))⟩
theorem evt_is {α : Type} {g : Nat → Option α} {r : α} (e : Ev g r) : ∃ K, ∀ k, K ≤ k → g k = some r := e
end Go.Proofs.YtaokgnhdagcepaaDoor.Spec
end

section
/- Chapter 16, any founds, any text, any name: the law Deplogs without the program. -/
namespace Go.Proofs.YtaokgnhdagcepaaDoor.Spec
open Go.RowKit Go.Proofs.YtaokgnhdagcepaaDoorW.PrintWords Go.Proofs.YtaokgnhdagcepaaDoorW.PrintMore Go.Proofs.YtaokgnhdagcepaaDoor.P

theorem ev_CopyF_loop (fs : List (P.S32)) (hl : fs.length ≤ 2000000) (hs : ∀ x ∈ fs, x.f2.length ≤ 2000000) : ∀ rest pre : List (P.S32), fs = pre ++ rest → Ev (fun k => cruciblelaw0_CopyFounds.l0 k fs pre (pre.length : Int)) fs := by
  intro rest
  induction rest with
  | nil =>
    intro pre h
    rw [List.append_nil] at h
    exact Ev.step (fun k => by rw [cruciblelaw0_CopyFounds.l0]) (ev_neg (by rw [h]; omega) (ev_const (by rw [h])))
  | cons x rest ih =>
    intro pre h
    have hlen : fs.length = pre.length + (rest.length + 1) := by rw [h]; simp
    have hr : rd_T32 fs (pre.length : Int) = x := by rw [h]; exact rdT_pre _ _ _
    have hx8 := hs x (by rw [h]; simp)
    have hw : wrap64 ((pre.length : Int) + 1) = ((pre ++ [x]).length : Int) := wrap_len pre x (by omega)
    have g1 : (pre.length : Int) < (fs.length : Int) := by omega
    have g2 : (0 : Int) ≤ (pre.length : Int) := by omega
    have g3 : ([] : List ByteArray).length + x.f2.length < 8796093022208 := by simp; omega
    have g4 : pre.length < 2932031007402 := by omega
    have ihn := ih (pre ++ [x]) (by simp [h])
    refine Ev.step (fun k => by rw [cruciblelaw0_CopyFounds.l0]) (ev_pos g1 (ev_pos g2 ?_))
    simp only [hr, hw, Option.bind_some]
    refine ev_pos g3 (ev_pos g4 ?_)
    exact ihn
theorem ev_CopyF (fs : List (P.S32)) (hl : fs.length ≤ 2000000) (hs : ∀ x ∈ fs, x.f2.length ≤ 2000000) : Ev (fun k => cruciblelaw0_CopyFounds.f k fs) fs :=
  Ev.congr (fun k => by rw [cruciblelaw0_CopyFounds.f]; rfl) (ev_CopyF_loop fs hl hs fs [] rfl)
theorem spoilAll_ev : ∀ (l : List (P.S32)), (∀ x ∈ l, x.f2.length ≤ 4611686018427387904 ∧ ∀ s ∈ x.f2, s.size ≤ 4611686018427387904) → ∃ K, ∀ k, K ≤ k → spoilAll k l = true
  | [], _ => ⟨0, fun _ _ => rfl⟩
  | x :: r, h => by
    obtain ⟨K, hK⟩ := spoilAll_ev r (fun y hy => h y (List.mem_cons_of_mem _ hy))
    obtain ⟨M, hM⟩ := ev_Spoil x.f2 (h x List.mem_cons_self).1 (h x List.mem_cons_self).2
    refine ⟨max K M, fun k hk => ?_⟩
    have hM2 : cruciblelaw0_SpoilTexts.f k x.f2 = some (x.f2.map spoil) := hM k (by omega)
    rw [spoilAll, hM2, hK k (by omega)]
    rfl
theorem ev_SpoilF (l : List (P.S32)) (hl : l.length ≤ 1000000) (h : ∀ x ∈ l, x.f2.length ≤ 4611686018427387904 ∧ ∀ s ∈ x.f2, s.size ≤ 4611686018427387904) : Ev (fun k => cruciblelaw0_SpoilFounds.f k l) true := by
  unfold cruciblelaw0_SpoilFounds.f
  exact evt_if (evt_and (spoilAll_ev l h) (evt_c hl)) (Ev.now _)
theorem may_small {x : P.S32} (h : mayF x = true) : x.f2.length ≤ 8 ∧ ∀ s ∈ x.f2, s.size ≤ 4611686018427387904 := by
  have h1 := mayD_small h
  refine ⟨h1.2.2.2.1, fun s hs => ?_⟩
  have h2 := h1.2.2.1
  have : ∀ (l : List ByteArray), s ∈ l → s.size + 1 ≤ bulk (datas l) := by
    intro l
    induction l with
    | nil => intro h; cases h
    | cons a l ih =>
      intro h
      rw [show datas (a :: l) = a.data.toList :: datas l from rfl, bulk_cons, size_data]
      rcases List.mem_cons.1 h with rfl | h
      · omega
      · have := ih h; omega
  have := this x.f2 hs
  omega
theorem keepS_mem16 : ∀ (l : List (P.S32)) (y : P.S32), y ∈ keepS l → y ∈ l
  | [], y, h => by simp [keepS] at h
  | x :: r, y, h => by
    rw [keepS] at h
    split at h
    · exact List.mem_cons_of_mem _ (keepS_mem16 r y h)
    · rcases List.mem_cons.1 h with rfl | h
      · exact List.mem_cons_self
      · exact List.mem_cons_of_mem _ (keepS_mem16 r y h)
theorem keepS_len16 : ∀ (l : List (P.S32)), (keepS l).length ≤ l.length
  | [] => Nat.le_refl _
  | x :: r => by
    have := keepS_len16 r
    rw [keepS]
    split
    · rw [List.length_cons]; omega
    · rw [List.length_cons, List.length_cons]; omega
theorem comp_small (fs : List (P.S32)) : (compF fs).1.length ≤ 256 ∧ ∀ x ∈ (compF fs).1, x.f2.length ≤ 8 ∧ ∀ s ∈ x.f2, s.size ≤ 4611686018427387904 := by
  unfold compF
  split
  · rename_i hm
    obtain ⟨h1, h2⟩ := mayFs_all hm
    have := keepS_len16 fs
    exact ⟨by simp only []; omega, fun x hx => may_small (h2 x (keepS_mem16 fs x hx))⟩
  · exact ⟨Nat.zero_le _, fun x hx => by cases hx⟩
theorem lastO_mem16 (o : ByteArray) (x : P.S32) : ∀ (n : Nat) (l : List (P.S32)), l.length = n → lastO l o = some x → x ∈ l
  | 0, l, hl, h => by
    rw [List.length_eq_zero_iff.1 hl] at h
    cases h
  | n + 1, l, hl, h => by
    rcases List.eq_nil_or_concat l with rfl | ⟨l', y, rfl⟩
    · cases hl
    · rw [List.concat_eq_append] at h hl ⊢
      rw [lastO_snoc] at h
      split at h
      · injection h with h; subst h; simp
      · exact List.mem_append_left _ (lastO_mem16 o x n l' (by simpa using hl) h)
theorem last_small (fs : List (P.S32)) (o : ByteArray) : (lastF fs o).2.2.1.length ≤ 8 ∧ ∀ s ∈ (lastF fs o).2.2.1, s.size ≤ 4611686018427387904 := by
  unfold lastF
  cases hl : lastO fs o with
  | none => exact ⟨Nat.zero_le _, fun s hs => by cases hs⟩
  | some x =>
    simp only []
    split
    · rename_i hm
      exact may_small ((mayFs_all hm).2 x (lastO_mem16 o x _ fs rfl hl))
    · exact ⟨Nat.zero_le _, fun s hs => by cases hs⟩
theorem ev_SameFs (l : List (P.S32)) (h : l.length ≤ 4611686018427387904) (hi : ∀ x ∈ l, x.f2.length ≤ 4611686018427387904) : Ev (fun k => cruciblelaw0_SameFounds.f k l l) true := ev_eq (ev_SameFounds l l h hi) (decide_eq_true rfl)
theorem Deplogs (fs : List (P.S32)) (s : ByteArray) (name : ByteArray)
    (hb : (fs.map fun x : P.S32 => (x.f0.size + 1) + 1 + ((x.f2.map fun s => s.size + 1).sum + 1)).sum + 1 + (s.size + 1) + (name.size + 1) ≤ 1048576)
    (_ : ∀ x ∈ fs, x.f0.size ≤ maxLen ∧ (Lit.int .i64 x.f1).wf = true ∧ ∀ s ∈ x.f2, s.size ≤ maxLen) (_ : s.size ≤ 140737488351232) (_ : name.size ≤ 140737488351232) : ∃ k, cruciblelaw16_Deplogs.f k fs s name = some true := by
  have hsm := smallFd (fs := fs) (by omega)
  have hlen := fd_len fs
  have h1 : fs.length ≤ 1048576 := by omega
  have h2 : ∀ x ∈ fs, x.f2.length ≤ 1048576 := fun x hx => by
    have q1 := fd_mem hx
    have q2 := fd_ins x
    omega
  have hs : s.size ≤ 1048576 := by omega
  have hi : ∀ x ∈ fs, x.f2.length ≤ 4611686018427387904 := fun x hx => (hsm x hx).many
  obtain ⟨L1, L2, _⟩ := load_is 256 s.data.toList
  have L3 : ∀ x ∈ loadD 256 s.data.toList, x.f2.length ≤ 8 ∧ ∀ s ∈ x.f2, s.size ≤ 4611686018427387904 := fun x hx => may_small (L1 x hx)
  obtain ⟨C1, C2⟩ := comp_small fs
  obtain ⟨D1, D2⟩ := last_small fs name
  have big : ∀ {n : Nat}, n ≤ 8 → n ≤ 4611686018427387904 := fun h => Nat.le_trans h (by decide)
  clear hb hlen L1
  refine Ev.rounds ?_
  unfold cruciblelaw16_Deplogs.f
  refine ev_bind (ev_Text16 fs hi) (ev_bind (ev_Load s) (ev_bind (ev_Last16 fs name (by omega) hi) (ev_bind (ev_Compact fs hi) (ev_bind (ev_May16 fs hi) (ev_bind (ev_SpoilF (loadD 256 s.data.toList) (by omega) (fun x hx => ⟨big (L3 x hx).1, (L3 x hx).2⟩)) (ev_bind (ev_SpoilF (compF fs).1 (by omega) (fun x hx => ⟨big (C2 x hx).1, (C2 x hx).2⟩)) (ev_bind (ev_Spoil _ (big D1) D2) ?_)))))))
  refine evt_if (evt_and (evt_and (evt_is (ev_CopyF fs (by omega) (fun x hx => by have := h2 x hx; omega))) (evt_and (evt_is (ev_DepsText fs (by omega) hsm)) (evt_and (evt_is (ev_LoadDeps s (by omega))) (evt_and (evt_is (ev_LastFound fs name (by omega) hsm)) (evt_and (evt_is (ev_CompactDeps fs (by omega) hsm)) (evt_is (ev_DepsMay fs (by omega) hsm)))))))
    (evt_and (evt_is (ev_SameFs _ (by omega) (fun x hx => big (L3 x hx).1))) (evt_and (evt_is (ev_SameFs _ (by omega) (fun x hx => big (C2 x hx).1))) (evt_and (evt_is (ev_SameFs fs (by omega) hi)) (evt_is ?_))))) (Ev.now _)
  exact ev_eq (ev_SameFound _ _ _ _ _ _ (big D1)) (by simp)
end Go.Proofs.YtaokgnhdagcepaaDoor.Spec
end
