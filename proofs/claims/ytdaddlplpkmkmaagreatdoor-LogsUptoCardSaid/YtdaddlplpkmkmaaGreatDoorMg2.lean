import Derived.Test.YtdaddlplpkmkmaaGreatDoorMg1
import Derived.Test.YtdaddlplpkmkmaaGreatDoorWMore
import Derived.Test.YtdaddlplpkmkmaaGreatDoorP3
import Derived.Test.YtdaddlplpkmkmaaGreatDoorP10
import Derived.Test.YtdaddlplpkmkmaaGreatDoorP9
import Derived.Test.YtdaddlplpkmkmaaGreatDoorP8
import Derived.Test.YtdaddlplpkmkmaaGreatDoorP2
import Derived.Test.YtdaddlplpkmkmaaGreatDoorP4
import Derived.Test.YtdaddlplpkmkmaaGreatDoorP11
import Derived.Test.YtdaddlplpkmkmaaGreatDoorP6
import Derived.Test.YtdaddlplpkmkmaaGreatDoorP15
import Derived.Test.YtdaddlplpkmkmaaGreatDoorP14
import Derived.Test.YtdaddlplpkmkmaaGreatDoorP22
import Derived.Test.YtdaddlplpkmkmaaGreatDoorP13
import Derived.Test.YtdaddlplpkmkmaaGreatDoorP5
import Derived.Test.YtdaddlplpkmkmaaGreatDoorP7
import Derived.Test.YtdaddlplpkmkmaaGreatDoorP16
import Derived.Test.YtdaddlplpkmkmaaGreatDoorP21
import Derived.Test.YtdaddlplpkmkmaaGreatDoorP12
section
/- Bytes as numbers. -/
namespace Go.Proofs.YtdaddlplpkmkmaaGreatDoor.Spec
open Go.RowKit Go.Proofs.YtdaddlplpkmkmaaGreatDoorW.PrintWords Go.Proofs.YtdaddlplpkmkmaaGreatDoorW.PrintMore

def nb (l : List UInt8) : List Int := l.map fun b => (b.toNat : Int)
theorem nb_str (l : List UInt8) : strOfNums (nb l) = str l := by
  refine str_eq _ _ ?_
  rw [strOfNums_data, nb, List.map_map]
  conv => rhs; rw [← List.map_id l]
  apply List.map_congr_left
  intro b _
  simp
theorem nb_app (a b : List UInt8) : nb a ++ nb b = nb (a ++ b) := by simp [nb]
theorem nb_len (a : List UInt8) : (nb a).length = a.length := by simp [nb]
theorem bytes_nb (s : ByteArray) : bytesOf s = nb s.data.toList := rfl
end Go.Proofs.YtdaddlplpkmkmaaGreatDoor.Spec
end

section
/- Chapter 2 without the program: what the printed functions on names and paths answer, in plain lists. -/
namespace Go.Proofs.YtdaddlplpkmkmaaGreatDoor.Spec
open Go.RowKit Go.Proofs.YtdaddlplpkmkmaaGreatDoorW.PrintWords Go.Proofs.YtdaddlplpkmkmaaGreatDoor.P

theorem ev_split {α : Type} {g f : Nat → Option α} {r : α} {c : Prop} [Decidable c] (h1 : c → Ev g r) (h2 : ¬ c → Ev f r) : Ev (fun k => if c then g k else f k) r := by
  by_cases h : c
  · exact ev_pos h (h1 h)
  · exact ev_neg h (h2 h)

/-! ### Names -/
theorem small_is (b : Nat) (h : b < 256) : crucibleref1_small.f (b : Int) = some ((decide (97 ≤ b) && decide (b ≤ 122)) || (decide (48 ≤ b) && decide (b ≤ 57))) := by
  have : ∀ b : Fin 256, crucibleref1_small.f (b.val : Int) = some ((decide (97 ≤ b.val) && decide (b.val ≤ 122)) || (decide (48 ≤ b.val) && decide (b.val ≤ 57))) := by decide +kernel
  exact this ⟨b, h⟩
theorem ev_NameMay_loop (s : ByteArray) (hs : s.size ≤ 4611686018427387904) : ∀ rest pre : List UInt8, s.data.toList = pre ++ rest → (pre.all fun b => nameByte b.toNat) = true →
    Ev (fun k => crucibleref1_NameMay.l0 k s (pre.length : Int)) (nameMay s.data.toList) := by
  intro rest
  induction rest with
  | nil =>
    intro pre h ha
    have hl : s.size = pre.length := by rw [size_le h]; simp
    refine Ev.step (fun k => by rw [crucibleref1_NameMay.l0]) ?_
    refine ev_neg (by omega) ?_
    have e : nameMay s.data.toList = if ((s.size : Int) ≥ 1) then decide ((s.size : Int) ≤ 16) else false := by
      rw [h]
      simp only [List.append_nil, nameMay, ha, Bool.true_and, hl]
      by_cases h1 : (pre.length : Int) ≥ 1
      · rw [if_pos h1]
        have : 1 ≤ pre.length := by omega
        simp only [this, decide_true, Bool.true_and, decide_eq_decide]
        omega
      · rw [if_neg h1]
        have : ¬ 1 ≤ pre.length := by omega
        simp [this]
    rw [e]
    exact ev_ite (fun _ => Ev.now _) (fun _ => Ev.now _)
  | cons b rest ih =>
    intro pre h ha
    have hlt := size_pre s pre b rest h
    have hb := bt_pre s pre b rest h
    have hw : wrap64 ((pre.length : Int) + 1) = ((pre ++ [b]).length : Int) := wrap_len pre b (by omega)
    refine Ev.step (fun k => by rw [crucibleref1_NameMay.l0]) ?_
    simp only [hb, hw]
    refine ev_pos (by omega) (ev_pos (by omega) (ev_bindc (small_is b.toNat b.toNat_lt) ?_))
    cases hn : nameByte b.toNat with
    | true =>
      have ih' := ih (pre ++ [b]) (by simp [h]) (by simp [ha, hn])
      refine ev_split (fun _ => ih') (fun h1 => ev_split (fun _ => ih') (fun h2 => ev_split (fun _ => ih') (fun h3 => ev_split (fun _ => ih') (fun h4 => ev_split (fun _ => ih') (fun h5 => ?_)))))
      exfalso
      simp [nameByte] at hn h1
      omega
    | false =>
      have hf : nameMay s.data.toList = false := by simp [nameMay, h, hn]
      rw [hf]
      simp [nameByte] at hn
      refine ev_split (fun h1 => ?_) (fun h1 => ev_split (fun h2 => ?_) (fun h2 => ev_split (fun h3 => ?_) (fun h3 => ev_split (fun h4 => ?_) (fun h4 => ev_split (fun h5 => ?_) (fun h5 => Ev.now _)))))
      · simp at h1; omega
      all_goals omega
theorem ev_NameMay (s : ByteArray) (hs : s.size ≤ 4611686018427387904) : Ev (fun k => crucibleref1_NameMay.f k s) (nameMay s.data.toList) :=
  Ev.congr (fun k => by rw [crucibleref1_NameMay.f]; rfl) (ev_NameMay_loop s hs s.data.toList [] rfl rfl)

/-! ### Texts joined -/
def joinS (sg : List UInt8) : List (List UInt8) → List UInt8
  | [] => []
  | x :: xs => x ++ (xs.map (sg ++ ·)).flatten
theorem joinS_lib (sg : List UInt8) (xs : List (List UInt8)) : Lib.join xs sg = joinS sg xs := by
  cases xs with
  | nil => rfl
  | cons x xs => rw [Lib.join_cons]; rfl
theorem joinS_snoc (sg : List UInt8) (pre : List (List UInt8)) (x : List UInt8) (h : pre ≠ []) : joinS sg (pre ++ [x]) = joinS sg pre ++ sg ++ x := by
  cases pre with
  | nil => exact absurd rfl h
  | cons y ys => simp [joinS]
theorem joinS_le (sg : List UInt8) (pre rest : List (List UInt8)) : (joinS sg pre).length ≤ (joinS sg (pre ++ rest)).length := by
  cases pre with
  | nil => simp [joinS]
  | cons y ys => simp [joinS]
abbrev datas (xs : List ByteArray) : List (List UInt8) := xs.map (·.data.toList)

theorem ev_Join_loop (sg : ByteArray) (xs : List ByteArray) (hx : xs.length ≤ 4611686018427387904) (ht : (joinS sg.data.toList (datas xs)).length ≤ 4611686018427387904) : ∀ rest pre : List ByteArray, xs = pre ++ rest →
    Ev (fun k => crucibleref1_Join.l0 k xs sg (str (joinS sg.data.toList (datas pre))) (pre.length : Int)) (str (joinS sg.data.toList (datas xs))) := by
  intro rest
  induction rest with
  | nil =>
    intro pre h
    refine Ev.step (fun k => by rw [crucibleref1_Join.l0]) ?_
    rw [List.append_nil] at h
    subst h
    exact ev_neg (by omega) (Ev.now _)
  | cons x rest ih =>
    intro pre h
    have hl : xs.length = pre.length + (rest.length + 1) := by rw [h]; simp
    have hr : rdOf ByteArray.empty xs (pre.length : Int) = x := by rw [h]; exact rdOf_pre _ _ _ _
    have hw : wrap64 ((pre.length : Int) + 1) = ((pre ++ [x]).length : Int) := wrap_len pre x (by omega)
    have ih' := ih (pre ++ [x]) (by simp [h])
    have hle : (joinS sg.data.toList (datas (pre ++ [x]))).length ≤ 4611686018427387904 := by
      have := joinS_le sg.data.toList (datas (pre ++ [x])) (datas rest)
      have e : datas (pre ++ [x]) ++ datas rest = datas xs := by simp [datas, h]
      rw [e] at this
      omega
    refine Ev.step (fun k => by rw [crucibleref1_Join.l0]) ?_
    simp only [hr, hw]
    refine ev_pos (by omega) ?_
    by_cases hp : pre = []
    · subst hp
      have e : str (joinS sg.data.toList (datas [])) ++ x = str (joinS sg.data.toList (datas ([] ++ [x]))) := by
        rw [str_eq x _ rfl, str_append]; simp [joinS, datas, str_data]
      have hz : (str (joinS sg.data.toList (datas []))).size + x.size ≤ 9223372036854775807 := by
        rw [← append_size, e, str_size]; omega
      refine ev_neg (by simp) (ev_pos (by simp) (ev_pos hz ?_))
      rw [e]
      exact ih'
    · have hpl : 0 < pre.length := List.length_pos_iff.2 hp
      have e0 := joinS_snoc sg.data.toList (datas pre) x.data.toList (by simpa [datas] using hp)
      have e : (str (joinS sg.data.toList (datas pre)) ++ sg) ++ x = str (joinS sg.data.toList (datas (pre ++ [x]))) := by
        have e1 : datas (pre ++ [x]) = datas pre ++ [x.data.toList] := by simp [datas]
        rw [e1, e0, str_eq x _ rfl, str_eq sg _ rfl, str_append, str_append]
        simp [str_data]
      have hz : (str (joinS sg.data.toList (datas pre)) ++ sg).size + x.size ≤ 9223372036854775807 := by
        rw [← append_size, e, str_size]; omega
      have hz1 : (str (joinS sg.data.toList (datas pre))).size + sg.size ≤ 9223372036854775807 := by
        rw [append_size] at hz; omega
      refine ev_pos (by omega) (ev_pos hz1 (ev_pos (by omega) (ev_pos hz ?_)))
      rw [e]
      exact ih'
theorem ev_Join (xs : List ByteArray) (sg : ByteArray) (hx : xs.length ≤ 4611686018427387904) (ht : (joinS sg.data.toList (datas xs)).length ≤ 4611686018427387904) :
    Ev (fun k => crucibleref1_Join.f k xs sg) (str (joinS sg.data.toList (datas xs))) :=
  Ev.congr (fun k => by rw [crucibleref1_Join.f]; rfl) (ev_Join_loop sg xs hx ht xs [] rfl)
theorem Join_is (xs : List ByteArray) (sg : ByteArray) (hx : xs.length ≤ 140737488355328) (ht : (joinS sg.data.toList (datas xs)).length ≤ 140737488355328) :
    strings_Join.f xs sg = some (str (joinS sg.data.toList (datas xs))) := by
  unfold strings_Join.f
  rw [joinS_lib]
  exact if_pos ⟨ht, hx⟩

/-! ### Texts cut -/
theorem split_hit (c : UInt8) : ∀ (cur rest : List UInt8), c ∉ cur → split c (cur ++ c :: rest) = cur :: split c rest
  | [], rest, _ => by simp [split]
  | b :: cur, rest, h => by
    have hb : b ≠ c := fun e => h (by rw [e]; exact List.mem_cons_self)
    rw [List.cons_append, split, if_neg hb, split_hit c cur rest (fun hm => h (List.mem_cons_of_mem _ hm))]
    rfl
theorem ev_split_loop (s : ByteArray) (c : UInt8) (hs : s.size ≤ 4398046511104) : ∀ (rest cur : List UInt8) (done : Nat) (acc : List ByteArray), s.data.toList.drop done = cur ++ rest → done ≤ s.size → acc.length ≤ done → c ∉ cur →
    Ev (fun k => crucibleref1_split.l0 k s (c.toNat : Int) acc (done : Int) ((done + cur.length : Nat) : Int)) (acc ++ (split c (cur ++ rest)).map str) := by
  intro rest
  induction rest with
  | nil =>
    intro cur done acc h hd ha hc
    rw [List.append_nil] at h ⊢
    have hl : s.size = done + cur.length := by
      have := congrArg List.length h
      rw [List.length_drop, size_data] at this
      omega
    have he : s.extract done (done + cur.length) = str cur := by
      apply str_eq
      rw [extract_data, ← hl, ← size_data, List.take_length, h]
    refine Ev.step (fun k => by rw [crucibleref1_split.l0]) ?_
    refine ev_pos (by omega) (ev_pos (by omega) (ev_pos (by omega) (ev_pos (by omega) (ev_pos (by omega) ?_))))
    simp only [Int.toNat_natCast, he, wrap_nat (n := done + cur.length) (by omega)]
    refine Ev.step (fun k => by rw [crucibleref1_split.l0]) ?_
    refine ev_neg (by omega) ?_
    rw [split_none c cur hc]
    exact Ev.now _
  | cons b rest ih =>
    intro cur done acc h hd ha hc
    have hl : s.size = done + (cur.length + (rest.length + 1)) := by
      have := congrArg List.length h
      rw [List.length_drop, size_data, List.length_append, List.length_cons] at this
      omega
    have hsplit : s.data.toList = (s.data.toList.take done ++ cur) ++ b :: rest := by
      rw [List.append_assoc, ← h, List.take_append_drop]
    have hpre : (s.data.toList.take done ++ cur).length = done + cur.length := by
      rw [List.length_append, List.length_take, size_data, Nat.min_eq_left hd]
    have hb : bt s ((done + cur.length : Nat) : Int) = b.toNat := by
      rw [← hpre]; exact bt_pre s _ b rest hsplit
    have hdrop : s.data.toList.drop (done + cur.length + 1) = rest := by
      have : s.data.toList.drop (done + cur.length + 1) = ((s.data.toList.take done ++ cur ++ [b]) ++ rest).drop ((s.data.toList.take done ++ cur ++ [b]).length) := by
        rw [List.length_append, hpre]
        congr 1
        rw [List.append_assoc, List.singleton_append]; exact hsplit
      rw [this, List.drop_left]
    refine Ev.step (fun k => by rw [crucibleref1_split.l0]) ?_
    simp only [hb, wrap_nat (n := done + cur.length) (by omega), Int.toNat_natCast]
    refine ev_pos (by omega) (ev_neg (by omega) (ev_pos (by omega) (ev_pos (by omega) ?_)))
    by_cases e : b = c
    · subst e
      have he : s.extract done (done + cur.length) = str cur := by
        apply str_eq
        rw [extract_data]
        have : s.data.toList.take (done + cur.length) = s.data.toList.take done ++ cur := by
          conv => lhs; rw [hsplit]
          rw [← hpre, List.take_left]
        have hld : (s.data.toList.take done).length = done := by rw [List.length_take, size_data, Nat.min_eq_left hd]
        rw [this]
        exact List.drop_left' hld
      refine ev_pos rfl (ev_pos (by omega) (ev_pos (by omega) (ev_pos (by omega) ?_)))
      rw [he, split_hit b cur rest hc]
      have ih' := ih [] (done + cur.length + 1) (acc ++ [str cur]) (by rw [hdrop]; rfl) (by omega) (by simp; omega) (by simp)
      simpa using ih'
    · have hne : ¬ ((b.toNat : Int) = (c.toNat : Int)) := fun h' => e (UInt8.toNat_inj.1 (by omega))
      refine ev_neg hne ?_
      have ih' := ih (cur ++ [b]) done acc (by simp [h]) hd ha (by simp [hc, Ne.symm e])
      simpa [Nat.add_assoc] using ih'
theorem ev_split1 (s : ByteArray) (c : UInt8) (hs : s.size ≤ 4398046511104) : Ev (fun k => crucibleref1_split.f k s (c.toNat : Int)) ((split c s.data.toList).map str) := by
  have := ev_split_loop s c hs s.data.toList [] 0 [] rfl (Nat.zero_le _) (Nat.zero_le _) (by simp)
  exact Ev.congr (fun k => by rw [crucibleref1_split.f]) (by simpa using this)
theorem Split_is (s : ByteArray) (c : UInt8) (hs : s.size < 4294967281) : strings_Split.f s (str [c]) = some ((split c s.data.toList).map str) := by
  unfold strings_Split.f
  rw [str_data]
  exact if_pos hs

/-! ### Paths -/
def cleanGo : List (List UInt8) → List (List UInt8) → Option (List (List UInt8))
  | kept, [] => if kept = [] then none else some kept
  | kept, p :: ps => if p = [] ∨ p = [46] then cleanGo kept ps else if p = [46, 46] then (if kept = [] then none else cleanGo kept.dropLast ps) else cleanGo (kept ++ [p]) ps
/-- a file's name as a path -/
def clean (l : List UInt8) : Option (List UInt8) := if nameMay l = true ∧ l.head? ≠ some 47 then (cleanGo [] (split 47 l)).map (joinS [47]) else none
def cleanR (o : Option (List UInt8)) : ByteArray × Int := match o with
  | some l => (str l, 0)
  | none => (str [], 200)
/-- letters and pieces -/
def bulk (xs : List (List UInt8)) : Nat := (xs.map fun x => x.length + 1).sum
theorem bulk_append (xs ys : List (List UInt8)) : bulk (xs ++ ys) = bulk xs + bulk ys := by simp [bulk]
theorem bulk_cons (x : List UInt8) (ys : List (List UInt8)) : bulk (x :: ys) = x.length + 1 + bulk ys := by simp [bulk]
theorem bulk_split (c : UInt8) : ∀ l : List UInt8, bulk (split c l) = l.length + 1
  | [] => rfl
  | b :: l => by
    have ih := bulk_split c l
    simp only [split]
    cases e : split c l with
    | nil => exact absurd e (split_ne c l)
    | cons x r =>
      rw [e, bulk_cons] at ih
      split
      · rw [bulk_cons, bulk_cons]; simp; omega
      · rw [bulk_cons]; simp; omega
theorem bulk_len (xs : List (List UInt8)) : xs.length ≤ bulk xs := by
  induction xs with
  | nil => simp [bulk]
  | cons x xs ih => rw [bulk_cons]; simp; omega
theorem bulk_dropLast (xs : List (List UInt8)) : bulk xs.dropLast ≤ bulk xs := by
  rcases List.eq_nil_or_concat xs with rfl | ⟨ys, y, rfl⟩
  · exact Nat.le_refl _
  · simp [bulk_append]
theorem joinS_bulk (c : UInt8) (xs : List (List UInt8)) : (joinS [c] xs).length ≤ bulk xs := by
  cases xs with
  | nil => simp [joinS]
  | cons x xs =>
    have : ∀ ys : List (List UInt8), ((ys.map ([c] ++ ·)).flatten).length = bulk ys := by
      intro ys
      induction ys with
      | nil => rfl
      | cons y ys ih => rw [bulk_cons, List.map_cons, List.flatten_cons, List.length_append, ih]; simp
    rw [joinS, List.length_append, this, bulk_cons]; omega

theorem datas_str (xs : List (List UInt8)) : datas (xs.map str) = xs := by
  unfold datas
  rw [List.map_map]
  have : ((fun x : ByteArray => x.data.toList) ∘ str) = id := by funext x; exact str_data x
  rw [this, List.map_id]
theorem map_dropLast {α β : Type} (f : α → β) (xs : List α) : (xs.map f).take (xs.length - 1) = xs.dropLast.map f := by
  rw [List.dropLast_eq_take, List.map_take]
theorem rdOf_map (pre : List (List UInt8)) (p : List UInt8) (ps : List (List UInt8)) : rdOf ByteArray.empty ((pre ++ p :: ps).map str) (pre.length : Int) = str p := by
  rw [List.map_append, List.map_cons]
  have := rdOf_pre ByteArray.empty (pre.map str) (str p) (ps.map str)
  rwa [List.length_map] at this

theorem ev_Clean_loop (all : List (List UInt8)) (hA : bulk all ≤ 1000) : ∀ (ps pre kept : List (List UInt8)), all = pre ++ ps → bulk kept + bulk ps ≤ 1000 →
    Ev (fun k => path_Clean.l0 k (kept.map str) (all.map str) (all.length : Int) (pre.length : Int)) (cleanR ((cleanGo kept ps).map (joinS [47]))) := by
  intro ps
  induction ps with
  | nil =>
    intro pre kept h hk
    rw [List.append_nil] at h
    subst h
    refine Ev.step (fun k => by rw [path_Clean.l0]) ?_
    refine ev_neg (by omega) ?_
    rw [cleanGo]
    by_cases hz : kept = []
    · subst hz
      exact ev_pos rfl (Ev.now _)
    · rw [if_neg hz]
      have hl : ¬ (((kept.map str).length : Int) = 0) := by
        have := List.length_pos_iff.2 hz
        rw [List.length_map]; omega
      refine ev_neg hl ?_
      have hjl := joinS_bulk 47 kept
      have hbl := bulk_len kept
      have hb0 : bulk [] = 0 := rfl
      have hj := Join_is (kept.map str) (str [47]) (by rw [List.length_map]; omega) (by rw [datas_str, str_data]; omega)
      rw [datas_str, str_data] at hj
      exact ev_bindc hj (Ev.now _)
  | cons p ps ih =>
    intro pre kept h hk
    have hl : all.length = pre.length + (ps.length + 1) := by rw [h]; simp
    have hr : rdOf ByteArray.empty (all.map str) (pre.length : Int) = str p := by rw [h]; exact rdOf_map _ _ _
    have hbl := bulk_len all
    have hw : wrap64 ((pre.length : Int) + 1) = ((pre ++ [p]).length : Int) := wrap_len pre p (by omega)
    rw [bulk_cons] at hk
    refine Ev.step (fun k => by rw [path_Clean.l0]) ?_
    simp only [hr, str_toList, List.length_map]
    refine ev_pos (by omega) (ev_pos (by omega) (ev_pos (by omega) ?_))
    rw [cleanGo]
    have skip : p = [] ∨ p = [46] → Ev (fun k => path_Clean.j2 k (kept.map str) (str p) (all.map str) (all.length : Int) (pre.length : Int) true) (cleanR ((cleanGo kept ps).map (joinS [47]))) := fun _ => by
      refine Ev.step (fun k => by rw [path_Clean.j2]) ?_
      simp only [hw]
      exact ev_pos (by simp) (ih (pre ++ [p]) kept (by simp [h]) (by omega))
    by_cases e0 : p = []
    · rw [if_pos (.inl e0)]
      exact ev_pos e0 (skip (.inl e0))
    · refine ev_neg e0 ?_
      by_cases e1 : p = [46]
      · rw [if_pos (.inr e1)]
        have : (p == [46]) = true := by simpa using e1
        rw [this]
        exact skip (.inr e1)
      · rw [if_neg (by simp [e0, e1])]
        have : (p == [46]) = false := by simpa using e1
        rw [this]
        refine Ev.step (fun k => by rw [path_Clean.j2]) ?_
        simp only [hw, str_toList, List.length_map]
        refine ev_neg (by simp) ?_
        by_cases e2 : p = [46, 46]
        · rw [if_pos e2]
          refine ev_pos e2 ?_
          by_cases hz : kept = []
          · subst hz
            exact ev_pos rfl (Ev.now _)
          · have hp := List.length_pos_iff.2 hz
            have hkl := bulk_len kept
            rw [if_neg hz]
            refine ev_neg (by omega) ?_
            simp only [wrap_pred hp (by omega), Int.toNat_natCast, map_dropLast]
            refine ev_pos (by omega) (ev_pos (by omega) (ih (pre ++ [p]) kept.dropLast (by simp [h]) ?_))
            have := bulk_dropLast kept
            omega
        · rw [if_neg e2]
          refine ev_neg e2 (ev_pos ?_ ?_)
          · have hkl := bulk_len kept
            omega
          · have := ih (pre ++ [p]) (kept ++ [p]) (by simp [h]) (by rw [bulk_append, bulk_cons]; simp [bulk] at hk ⊢; omega)
            simpa using this

theorem ev_CleanPath_loop (all : List (List UInt8)) (hA : bulk all ≤ 1000) : ∀ (ps pre kept : List (List UInt8)), all = pre ++ ps → bulk kept + bulk ps ≤ 1000 →
    Ev (fun k => crucibleref1_CleanPath.l0 k (all.map str) (kept.map str) (pre.length : Int)) (cleanR ((cleanGo kept ps).map (joinS [47]))) := by
  intro ps
  induction ps with
  | nil =>
    intro pre kept h hk
    rw [List.append_nil] at h
    subst h
    refine Ev.step (fun k => by rw [crucibleref1_CleanPath.l0]) ?_
    refine ev_neg (by simp) ?_
    rw [cleanGo]
    by_cases hz : kept = []
    · subst hz
      exact ev_pos rfl (Ev.now _)
    · rw [if_neg hz]
      have hl : ¬ (((kept.map str).length : Int) = 0) := by
        have := List.length_pos_iff.2 hz
        rw [List.length_map]; omega
      refine ev_neg hl ?_
      have hjl := joinS_bulk 47 kept
      have hbl := bulk_len kept
      have hb0 : bulk [] = 0 := rfl
      have hj := ev_Join (kept.map str) (str [47]) (by rw [List.length_map]; omega) (by rw [datas_str, str_data]; omega)
      rw [datas_str, str_data] at hj
      exact ev_bind hj (Ev.now _)
  | cons p ps ih =>
    intro pre kept h hk
    have hl : all.length = pre.length + (ps.length + 1) := by rw [h]; simp
    have hr : rdOf ByteArray.empty (all.map str) (pre.length : Int) = str p := by rw [h]; exact rdOf_map _ _ _
    have hbl := bulk_len all
    have hw : wrap64 ((pre.length : Int) + 1) = ((pre ++ [p]).length : Int) := wrap_len pre p (by omega)
    rw [bulk_cons] at hk
    refine Ev.step (fun k => by rw [crucibleref1_CleanPath.l0]) ?_
    simp only [hr, str_toList, List.length_map]
    refine ev_pos (by omega) (ev_pos (by omega) ?_)
    rw [cleanGo]
    have skip : p = [] ∨ p = [46] → Ev (fun k => crucibleref1_CleanPath.j2 k (all.map str) (kept.map str) (pre.length : Int) (str p) true) (cleanR ((cleanGo kept ps).map (joinS [47]))) := fun _ => by
      refine Ev.step (fun k => by rw [crucibleref1_CleanPath.j2]) ?_
      simp only [hw]
      exact ev_pos (by simp) (ih (pre ++ [p]) kept (by simp [h]) (by omega))
    by_cases e0 : p = []
    · rw [if_pos (.inl e0)]
      refine ev_pos e0 ?_
      have : (p == []) = true := by simpa using e0
      rw [this]
      exact skip (.inl e0)
    · refine ev_neg e0 ?_
      by_cases e1 : p = [46]
      · rw [if_pos (.inr e1)]
        have : (p == [46]) = true := by simpa using e1
        rw [this]
        exact skip (.inr e1)
      · rw [if_neg (by simp [e0, e1])]
        have : (p == [46]) = false := by simpa using e1
        rw [this]
        refine Ev.step (fun k => by rw [crucibleref1_CleanPath.j2]) ?_
        simp only [hw, hr, str_toList, List.length_map]
        refine ev_neg (by simp) ?_
        by_cases e2 : p = [46, 46]
        · rw [if_pos e2]
          refine ev_pos e2 ?_
          by_cases hz : kept = []
          · subst hz
            exact ev_pos rfl (Ev.now _)
          · have hp := List.length_pos_iff.2 hz
            have hkl := bulk_len kept
            rw [if_neg hz]
            refine ev_neg (by omega) ?_
            simp only [wrap_pred hp (by omega), Int.toNat_natCast, map_dropLast]
            refine ev_pos (by omega) (ev_pos (by omega) (ih (pre ++ [p]) kept.dropLast (by simp [h]) ?_))
            have := bulk_dropLast kept
            omega
        · rw [if_neg e2]
          have hkl := bulk_len kept
          refine ev_neg e2 (ev_pos (by omega) (ev_pos (by omega) (ev_pos (by omega) ?_)))
          have := ih (pre ++ [p]) (kept ++ [p]) (by simp [h]) (by rw [bulk_append, bulk_cons]; simp [bulk] at hk ⊢; omega)
          simpa using this

theorem nameMay_len {l : List UInt8} (h : nameMay l = true) : 1 ≤ l.length ∧ l.length ≤ 16 := by
  simp [nameMay] at h
  omega
theorem bt_zero (s : ByteArray) (h : 0 < s.size) : ∃ b rest, s.data.toList = b :: rest ∧ bt s 0 = b.toNat := by
  cases hd : s.data.toList with
  | nil => rw [← size_data, hd] at h; simp at h
  | cons b rest => exact ⟨b, rest, rfl, bt_pre s [] b rest hd⟩

theorem Clean_body {j : Nat → Bool → Option (ByteArray × Int)} (s : ByteArray) (hj : ∀ b, Ev (fun k => j k b) (if b = true then (str [], 200) else cleanR ((cleanGo [] (split 47 s.data.toList)).map (joinS [47])))) (t : Bool) (ht : t = nameMay s.data.toList) :
    Ev (fun k => if t = true then (if 0 < (s.size : Int) then j k (bt s 0 == 47) else none) else j k true) (cleanR (clean s.data.toList)) := by
  subst ht
  refine ev_split (fun h => ?_) (fun h => ?_)
  · have hl := nameMay_len h
    rw [size_data] at hl
    obtain ⟨b, rest, hd, hb⟩ := bt_zero s (by omega)
    refine ev_pos (by omega) ?_
    rw [hb]
    refine ev_eq (hj _) ?_
    unfold clean
    rw [h, hd]
    by_cases e : b = 47
    · subst e; rfl
    · have hne : ¬ ((b.toNat : Int) = 47) := fun h' => e (UInt8.toNat_inj.1 (by show b.toNat = 47; omega))
      simp [e, hne, beq_iff_eq]
  · refine ev_eq (hj true) ?_
    unfold clean
    rw [if_pos rfl, if_neg (by simp [h])]
    rfl
theorem ev_Clean (s : ByteArray) : Ev (fun k => path_Clean.f k s) (cleanR (clean s.data.toList)) := by
  refine Ev.congr (fun k => by rw [path_Clean.f]) ?_
  refine ev_bindc (x := nameMay s.data.toList) rfl ?_
  by_cases hm : nameMay s.data.toList = true
  · have hl := nameMay_len hm
    rw [size_data] at hl
    refine Clean_body s (j := fun k b => path_Clean.j0 k s b) (fun b => ?_) _ rfl
    refine Ev.step (fun k => by rw [path_Clean.j0]) ?_
    refine ev_ite (fun _ => Ev.now _) (fun _ => ev_bindc (Split_is s 47 (by omega)) ?_)
    have hb : bulk (split 47 s.data.toList) ≤ 1000 := by rw [bulk_split, size_data]; omega
    have := ev_Clean_loop (split 47 s.data.toList) hb (split 47 s.data.toList) [] [] rfl (by simpa [bulk] using hb)
    simpa using this
  · have hm' : nameMay s.data.toList = false := by simpa using hm
    rw [hm']
    refine ev_neg (by simp) (Ev.step (fun k => by rw [path_Clean.j0]) (ev_pos rfl (ev_const ?_)))
    unfold clean
    rw [if_neg (by simp [hm'])]
    rfl
theorem ev_CleanPath (s : ByteArray) (hs : s.size ≤ 4611686018427387904) : Ev (fun k => crucibleref1_CleanPath.f k s) (cleanR (clean s.data.toList)) := by
  refine Ev.congr (fun k => by rw [crucibleref1_CleanPath.f]) ?_
  refine ev_bind (ev_NameMay s hs) ?_
  by_cases hm : nameMay s.data.toList = true
  · have hl := nameMay_len hm
    rw [size_data] at hl
    refine Clean_body s (j := fun k b => crucibleref1_CleanPath.j0 k s b) (fun b => ?_) _ rfl
    refine Ev.step (fun k => by rw [crucibleref1_CleanPath.j0]) ?_
    refine ev_ite (fun _ => Ev.now _) (fun _ => ev_bind (ev_split1 s 47 (by omega)) ?_)
    have hb : bulk (split 47 s.data.toList) ≤ 1000 := by rw [bulk_split, size_data]; omega
    have := ev_CleanPath_loop (split 47 s.data.toList) hb (split 47 s.data.toList) [] [] rfl (by simpa [bulk] using hb)
    simpa using this
  · have hm' : nameMay s.data.toList = false := by simpa using hm
    rw [hm']
    refine ev_neg (by simp) (Ev.step (fun k => by rw [crucibleref1_CleanPath.j0]) (ev_pos rfl (ev_const ?_)))
    unfold clean
    rw [if_neg (by simp [hm'])]
    rfl

end Go.Proofs.YtdaddlplpkmkmaaGreatDoor.Spec
end

section
/- Chapter 2 without the program: a clean path is its own clean path; texts put together are cut where they were put together. -/
namespace Go.Proofs.YtdaddlplpkmkmaaGreatDoor.Spec

def stepC (o : Option (List (List UInt8))) (p : List UInt8) : Option (List (List UInt8)) := match o with
  | none => none
  | some kept => if p = [] ∨ p = [46] then some kept else if p = [46, 46] then (if kept = [] then none else some kept.dropLast) else some (kept ++ [p])
def endC (o : Option (List (List UInt8))) : Option (List (List UInt8)) := match o with
  | none => none
  | some kept => if kept = [] then none else some kept
theorem stepC_none (ps : List (List UInt8)) : ps.foldl stepC none = none := by
  induction ps with
  | nil => rfl
  | cons p ps ih => exact ih
theorem cleanGo_fold : ∀ (ps kept : List (List UInt8)), cleanGo kept ps = endC (ps.foldl stepC (some kept))
  | [], kept => rfl
  | p :: ps, kept => by
    rw [cleanGo, List.foldl_cons]
    simp only [stepC]
    split
    · exact cleanGo_fold ps kept
    · split
      · split
        · rw [stepC_none]; rfl
        · exact cleanGo_fold ps _
      · exact cleanGo_fold ps _

/-- a piece that stays -/
def Good (p : List UInt8) : Prop := p ≠ [] ∧ p ≠ [46] ∧ p ≠ [46, 46] ∧ 47 ∉ p
theorem fold_good : ∀ (ps kept : List (List UInt8)) (r : List (List UInt8)), ps.foldl stepC (some kept) = some r → (∀ p ∈ kept, Good p) → (∀ p ∈ ps, (47 : UInt8) ∉ p) →
    (∀ p ∈ r, Good p) ∧ bulk r ≤ bulk kept + bulk ps ∧ ∀ p ∈ r, p ∈ kept ∨ p ∈ ps
  | [], kept, r, h, hk, _ => by
    obtain rfl : kept = r := Option.some.inj h
    exact ⟨hk, by simp [bulk], fun p hp => .inl hp⟩
  | p :: ps, kept, r, h, hk, hp => by
    rw [List.foldl_cons] at h
    simp only [stepC] at h
    have hps : ∀ q ∈ ps, (47 : UInt8) ∉ q := fun q hq => hp q (List.mem_cons_of_mem _ hq)
    rw [bulk_cons]
    split at h
    · obtain ⟨h1, h2, h3⟩ := fold_good ps kept r h hk hps
      exact ⟨h1, by omega, fun q hq => (h3 q hq).imp_right (List.mem_cons_of_mem _)⟩
    · rename_i hn
      split at h
      · split at h
        · rw [stepC_none] at h; cases h
        · obtain ⟨h1, h2, h3⟩ := fold_good ps kept.dropLast r h (fun q hq => hk q ((List.dropLast_sublist _).subset hq)) hps
          have := bulk_dropLast kept
          exact ⟨h1, by omega, fun q hq => (h3 q hq).elim (fun h => .inl ((List.dropLast_sublist _).subset h)) (fun h => .inr (List.mem_cons_of_mem _ h))⟩
      · rename_i hd
        have hg : Good p := ⟨fun e => hn (.inl e), fun e => hn (.inr e), hd, hp p List.mem_cons_self⟩
        obtain ⟨h1, h2, h3⟩ := fold_good ps (kept ++ [p]) r h (fun q hq => by
          rcases List.mem_append.1 hq with hq | hq
          · exact hk q hq
          · rw [List.mem_singleton.1 hq]; exact hg) hps
        rw [bulk_append, bulk_cons] at h2
        have hb0 : bulk [] = 0 := rfl
        refine ⟨h1, by omega, fun q hq => ?_⟩
        rcases h3 q hq with h | h
        · rcases List.mem_append.1 h with h | h
          · exact .inl h
          · exact .inr (by rw [List.mem_singleton.1 h]; exact List.mem_cons_self)
        · exact .inr (List.mem_cons_of_mem _ h)
theorem fold_keeps : ∀ (ps kept : List (List UInt8)), (∀ p ∈ ps, Good p) → ps.foldl stepC (some kept) = some (kept ++ ps)
  | [], kept, _ => by simp
  | p :: ps, kept, h => by
    obtain ⟨h1, h2, h3, _⟩ := h p List.mem_cons_self
    rw [List.foldl_cons]
    simp only [stepC]
    rw [if_neg (by simp [h1, h2]), if_neg h3, fold_keeps ps (kept ++ [p]) (fun q hq => h q (List.mem_cons_of_mem _ hq))]
    simp

theorem split_append (c : UInt8) : ∀ u v : List UInt8, split c (u ++ c :: v) = split c u ++ split c v
  | [], v => by simp [split]
  | b :: u, v => by
    rw [List.cons_append, split, split_append c u v, split]
    split
    · rfl
    · cases e : split c u with
      | nil => exact absurd e (split_ne c u)
      | cons x r => simp
theorem joinS_cons2 (sg x y : List UInt8) (r : List (List UInt8)) : joinS sg (x :: y :: r) = x ++ sg ++ joinS sg (y :: r) := by simp [joinS]
theorem split_join (c : UInt8) : ∀ r : List (List UInt8), r ≠ [] → (∀ p ∈ r, c ∉ p) → split c (joinS [c] r) = r
  | [], h, _ => absurd rfl h
  | [x], _, h => by
    have : joinS [c] [x] = x := by simp [joinS]
    rw [this]; exact split_none c x (h x List.mem_cons_self)
  | x :: y :: r, _, h => by
    rw [joinS_cons2, List.append_assoc, List.singleton_append, split_append, split_none c x (h x List.mem_cons_self), split_join c (y :: r) (by simp) (fun p hp => h p (List.mem_cons_of_mem _ hp))]
    rfl
theorem joinS_len (c : UInt8) : ∀ r : List (List UInt8), r ≠ [] → (joinS [c] r).length + 1 = bulk r
  | [], h => absurd rfl h
  | [x], _ => by simp [joinS, bulk]
  | x :: y :: r, _ => by
    rw [joinS_cons2, bulk_cons, ← joinS_len c (y :: r) (by simp)]
    simp; omega
theorem split_mem (c : UInt8) : ∀ (l p : List UInt8), p ∈ split c l → c ∉ p ∧ ∀ b ∈ p, b ∈ l
  | [], p, h => by
    obtain rfl : p = [] := by simpa [split] using h
    exact ⟨by simp, fun b hb => by cases hb⟩
  | a :: l, p, h => by
    rw [split] at h
    split at h
    · rcases List.mem_cons.1 h with rfl | h
      · exact ⟨by simp, fun b hb => by cases hb⟩
      · obtain ⟨h1, h2⟩ := split_mem c l p h
        exact ⟨h1, fun b hb => List.mem_cons_of_mem _ (h2 b hb)⟩
    · rename_i hac
      cases e : split c l with
      | nil => exact absurd e (split_ne c l)
      | cons x r =>
        rw [e] at h
        simp only [List.headD_cons, List.tail_cons] at h
        rcases List.mem_cons.1 h with rfl | h
        · obtain ⟨h1, h2⟩ := split_mem c l x (by rw [e]; exact List.mem_cons_self)
          refine ⟨fun hm => ?_, fun b hb => ?_⟩
          · rcases List.mem_cons.1 hm with rfl | hm
            · exact hac rfl
            · exact h1 hm
          · rcases List.mem_cons.1 hb with rfl | hb
            · exact List.mem_cons_self
            · exact List.mem_cons_of_mem _ (h2 b hb)
        · obtain ⟨h1, h2⟩ := split_mem c l p (by rw [e]; exact List.mem_cons_of_mem _ h)
          exact ⟨h1, fun b hb => List.mem_cons_of_mem _ (h2 b hb)⟩
theorem mem_joinS (sg : List UInt8) (b : UInt8) : ∀ r : List (List UInt8), b ∈ joinS sg r → b ∈ sg ∨ ∃ p ∈ r, b ∈ p
  | [], h => by simp [joinS] at h
  | [x], h => .inr ⟨x, List.mem_cons_self, by simpa [joinS] using h⟩
  | x :: y :: r, h => by
    rw [joinS_cons2] at h
    simp only [List.mem_append] at h
    rcases h with (h | h) | h
    · exact .inr ⟨x, List.mem_cons_self, h⟩
    · exact .inl h
    · rcases mem_joinS sg b (y :: r) h with h | ⟨p, hp, hb⟩
      · exact .inl h
      · exact .inr ⟨p, List.mem_cons_of_mem _ hp, hb⟩

/-- what a clean path is -/
theorem clean_some {l m : List UInt8} (h : clean l = some m) : ∃ r : List (List UInt8), r ≠ [] ∧ (∀ p ∈ r, Good p) ∧ m = joinS [47] r ∧ (split 47 l).foldl stepC (some []) = some r ∧ nameMay m = true ∧ m.head? ≠ some 47 ∧ m.length ≤ l.length := by
  unfold clean at h
  split at h
  · rename_i hc
    obtain ⟨r, hr, rfl⟩ := Option.map_eq_some_iff.1 h
    rw [cleanGo_fold] at hr
    cases hf : (split 47 l).foldl stepC (some []) with
    | none => rw [hf] at hr; cases hr
    | some k =>
      rw [hf] at hr
      simp only [endC] at hr
      split at hr
      · cases hr
      · rename_i hk
        obtain rfl : k = r := Option.some.inj hr
        obtain ⟨h1, h2, h3⟩ := fold_good (split 47 l) [] k hf (fun p hp => by cases hp) (fun p hp => (split_mem 47 l p hp).1)
        have hb0 : bulk [] = 0 := rfl
        have hl := joinS_len 47 k hk
        rw [bulk_split] at h2
        have hnl := nameMay_len hc.1
        refine ⟨k, hk, h1, rfl, rfl, ?_, ?_, by omega⟩
        · have hall : (joinS [47] k).all (fun b => nameByte b.toNat) = true := by
            rw [List.all_eq_true]
            intro b hb
            rcases mem_joinS [47] b k hb with hb | ⟨p, hp, hb⟩
            · rw [List.mem_singleton.1 hb]; rfl
            · rcases h3 p hp with h | h
              · cases h
              · have := (split_mem 47 l p h).2 b hb
                have ha : l.all (fun b => nameByte b.toNat) = true := by
                  have := hc.1
                  simp only [nameMay, Bool.and_eq_true] at this
                  exact this.1.1
                exact List.all_eq_true.1 ha b this
          have hne : 1 ≤ (joinS [47] k).length := by
            cases k with
            | nil => exact absurd rfl hk
            | cons x r =>
              have := (h1 x List.mem_cons_self).1
              have := List.length_pos_iff.2 this
              simp [joinS]; omega
          simp only [nameMay, hall, Bool.true_and, Bool.and_eq_true, decide_eq_true_eq]
          omega
        · cases k with
          | nil => exact absurd rfl hk
          | cons x r =>
            obtain ⟨hx, _, _, h47⟩ := h1 x List.mem_cons_self
            cases x with
            | nil => exact absurd rfl hx
            | cons b x =>
              simp only [joinS, List.cons_append, List.head?_cons]
              intro e
              injection e with e
              exact h47 (by rw [e]; exact List.mem_cons_self)
  · cases h
/-- the pieces of a path are kept -/
theorem clean_of {r : List (List UInt8)} {ps : List (List UInt8)} (hr : r ≠ []) {l : List UInt8} (hs : split 47 l = ps) (hf : ps.foldl stepC (some []) = some r) (hn : nameMay l = true) (hh : l.head? ≠ some 47) : clean l = some (joinS [47] r) := by
  unfold clean
  rw [if_pos ⟨hn, hh⟩, cleanGo_fold, hs, hf]
  simp [endC, hr]
theorem clean_again {l m : List UInt8} (h : clean l = some m) : clean m = some m := by
  obtain ⟨r, hr, hg, rfl, _, hn, hh, _⟩ := clean_some h
  exact clean_of hr (split_join 47 r hr (fun p hp => (hg p hp).2.2.2)) (by simpa using fold_keeps r [] hg) hn hh
end Go.Proofs.YtdaddlplpkmkmaaGreatDoor.Spec
end

section
/- Paths, without the program. -/
namespace Go.Proofs.YtdaddlplpkmkmaaGreatDoor.Spec
open Go.RowKit Go.Proofs.YtdaddlplpkmkmaaGreatDoorW.PrintWords Go.Proofs.YtdaddlplpkmkmaaGreatDoor.P

/-- is it a path? -/
def isP (l : List UInt8) : Bool := decide (clean l = some l)
theorem isP_of {o : Option (List UInt8)} {l : List UInt8} : ((if (cleanR o).2 = 0 then some ((cleanR o).1.toList == l) else some false) : Option Bool) = some (decide (o = some l)) := by
  cases o with
  | none => rfl
  | some m =>
    simp only [cleanR, if_true, str_toList, Option.some.injEq]
    by_cases h : m = l <;> simp [h]
theorem ev_Is (s : ByteArray) : Ev (fun k => path_Is.f k s) (isP s.data.toList) := by
  refine Ev.congr (fun k => by rw [path_Is.f]) (ev_bind (ev_Clean s) ?_)
  refine ev_const ?_
  rw [toList_data s]
  exact isP_of
theorem isP_names {l : List UInt8} (h : isP l = true) : nameMay l = true ∧ l ≠ [] := by
  have := of_decide_eq_true h
  obtain ⟨r, _, _, _, _, hn, _, _⟩ := clean_some this
  have h1 := nameMay_len hn
  exact ⟨hn, fun e => by rw [e] at h1; simp at h1⟩
theorem nameMay_mem {l : List UInt8} (h : nameMay l = true) {b : UInt8} (hb : b ∈ l) : nameByte b.toNat = true := by
  simp only [nameMay, Bool.and_eq_true] at h
  exact List.all_eq_true.1 h.1.1 b hb
theorem isP_size {l : List UInt8} (h : isP l = true) : l.length ≤ 16 := (nameMay_len (isP_names h).1).2
end Go.Proofs.YtdaddlplpkmkmaaGreatDoor.Spec
end

section
/- Texts of bytes from 32 to 126, without the program. -/
namespace Go.Proofs.YtdaddlplpkmkmaaGreatDoor.Spec
open Go.RowKit Go.Proofs.YtdaddlplpkmkmaaGreatDoorW.PrintWords Go.Proofs.YtdaddlplpkmkmaaGreatDoor.P

def plainB (b : UInt8) : Bool := decide (32 ≤ b.toNat) && decide (b.toNat ≤ 126)
theorem plain_cases (b : UInt8) : (plainB b = true ∧ ¬ ((b.toNat : Int) < 32) ∧ ¬ ((b.toNat : Int) > 126)) ∨ (plainB b = false ∧ ((b.toNat : Int) < 32 ∨ (b.toNat : Int) > 126)) := by
  unfold plainB
  by_cases h1 : 32 ≤ b.toNat <;> by_cases h2 : b.toNat ≤ 126
  · left; simp [h1, h2]; omega
  · right; refine ⟨by simp [h2], by omega⟩
  · right; refine ⟨by simp [h1], by omega⟩
  · right; refine ⟨by simp [h1], by omega⟩
theorem ev_PlainA_loop (s : ByteArray) (most : Nat) (hs : s.size ≤ 4611686018427387904) : ∀ rest pre : List UInt8, s.data.toList = pre ++ rest → pre.all plainB = true →
    Ev (fun k => name_Plain.l0 k s (most : Int) (s.size : Int) (pre.length : Int)) (s.data.toList.all plainB && decide (s.size ≤ most)) := by
  intro rest
  induction rest with
  | nil =>
    intro pre h ha
    have hl : s.size = pre.length := by rw [size_le h]; simp
    refine Ev.step (fun k => by rw [name_Plain.l0]) (ev_neg (by omega) (ev_const ?_))
    rw [h, List.append_nil, ha]
    simp
  | cons b rest ih =>
    intro pre h ha
    have hlt := size_pre s pre b rest h
    have hb := bt_pre s pre b rest h
    have hw : wrap64 ((pre.length : Int) + 1) = ((pre ++ [b]).length : Int) := wrap_len pre b (by omega)
    refine Ev.step (fun k => by rw [name_Plain.l0]) ?_
    simp only [hb, hw]
    refine ev_pos (by omega) (ev_pos (by omega) (ev_pos (by omega) ?_))
    rcases plain_cases b with ⟨hp, h1, h2⟩ | ⟨hp, h12⟩
    · exact ev_neg h1 (ev_neg h2 (ih (pre ++ [b]) (by simp [h]) (by simp [ha, hp])))
    · have hf : (s.data.toList.all plainB && decide (s.size ≤ most)) = false := by rw [h]; simp [hp]
      rw [hf]
      exact ev_split (fun _ => Ev.now _) (fun h1 => ev_pos (by omega) (Ev.now _))
theorem ev_PlainA (s : ByteArray) (most : Nat) (hs : s.size ≤ 4611686018427387904) : Ev (fun k => name_Plain.f k s (most : Int)) (s.data.toList.all plainB && decide (s.size ≤ most)) :=
  Ev.congr (fun k => by rw [name_Plain.f]; rfl) (ev_PlainA_loop s most hs s.data.toList [] rfl rfl)
theorem ev_PlainR_loop (s : ByteArray) (least most : Nat) (hs : s.size ≤ 4611686018427387904) : ∀ rest pre : List UInt8, s.data.toList = pre ++ rest → pre.all plainB = true →
    Ev (fun k => crucibleref1_Plain.l0 k s (least : Int) (most : Int) (pre.length : Int)) (s.data.toList.all plainB && decide (least ≤ s.size) && decide (s.size ≤ most)) := by
  intro rest
  induction rest with
  | nil =>
    intro pre h ha
    have hl : s.size = pre.length := by rw [size_le h]; simp
    refine Ev.step (fun k => by rw [crucibleref1_Plain.l0]) (ev_neg (by omega) ?_)
    rw [h, List.append_nil, ha]
    refine ev_split (fun h1 => ev_const ?_) (fun h1 => ev_const ?_)
    · have : least ≤ s.size := by omega
      simp [this]
    · have : ¬ least ≤ s.size := by omega
      simp [this]
  | cons b rest ih =>
    intro pre h ha
    have hlt := size_pre s pre b rest h
    have hb := bt_pre s pre b rest h
    have hw : wrap64 ((pre.length : Int) + 1) = ((pre ++ [b]).length : Int) := wrap_len pre b (by omega)
    refine Ev.step (fun k => by rw [crucibleref1_Plain.l0]) ?_
    simp only [hb, hw]
    refine ev_pos (by omega) (ev_pos (by omega) ?_)
    rcases plain_cases b with ⟨hp, h1, h2⟩ | ⟨hp, h12⟩
    · exact ev_neg h1 (ev_neg h2 (ih (pre ++ [b]) (by simp [h]) (by simp [ha, hp])))
    · have hf : (s.data.toList.all plainB && decide (least ≤ s.size) && decide (s.size ≤ most)) = false := by rw [h]; simp [hp]
      rw [hf]
      exact ev_split (fun _ => Ev.now _) (fun h1 => ev_pos (by omega) (Ev.now _))
theorem ev_PlainR (s : ByteArray) (least most : Nat) (hs : s.size ≤ 4611686018427387904) : Ev (fun k => crucibleref1_Plain.f k s (least : Int) (most : Int)) (s.data.toList.all plainB && decide (least ≤ s.size) && decide (s.size ≤ most)) :=
  Ev.congr (fun k => by rw [crucibleref1_Plain.f]; rfl) (ev_PlainR_loop s least most hs s.data.toList [] rfl rfl)
end Go.Proofs.YtdaddlplpkmkmaaGreatDoor.Spec
end

section
/- Chapter 13: records that may be, their lines told and read again; the reference's reading of a line. No program in sight. -/
namespace Go.Proofs.YtdaddlplpkmkmaaGreatDoor.Spec
open Go.RowKit

/-- may a record be? -/
def mayR (o : ByteArray) (t : Int) (g : ByteArray) : Bool := isP o.data.toList && ((decide (1 ≤ t) && decide (t ≤ 1048576)) && (decide (g.data.toList ≠ []) && (g.data.toList.all plainB && decide (g.size ≤ 2048))))
theorem plainB_no {l : List UInt8} (h : l.all plainB = true) (c : UInt8) (hc : c.toNat < 32) : c ∉ l := fun hm => by
  have := List.all_eq_true.1 h c hm
  simp only [plainB, Bool.and_eq_true, decide_eq_true_eq] at this
  omega
theorem isP_no {l : List UInt8} (h : isP l = true) (c : UInt8) (hc : nameByte c.toNat = false) : c ∉ l := fun hm => by
  have := nameMay_mem (isP_names h).1 hm
  rw [hc] at this
  cases this
structure MayR (o : ByteArray) (t : Int) (g : ByteArray) : Prop where
  parts : Parts o.data.toList t.toNat g.data.toList
  path : isP o.data.toList = true
  t1 : 1 ≤ t
  tM : t ≤ 1048576
  gne : g.data.toList ≠ []
  plain : g.data.toList.all plainB = true
  gs : g.size ≤ 2048
  os : o.size ≤ 16
theorem mayR_is {o : ByteArray} {t : Int} {g : ByteArray} (h : mayR o t g = true) : MayR o t g := by
  simp only [mayR, Bool.and_eq_true, decide_eq_true_eq] at h
  obtain ⟨h1, ⟨h2, h3⟩, h4, h5, h6⟩ := h
  have hs := isP_size h1
  have hg : g.data.toList.length ≤ 2048 := by rw [size_data]; exact h6
  exact ⟨⟨isP_no h1 9 (by decide), isP_no h1 10 (by decide), plainB_no h5 9 (by decide), plainB_no h5 10 (by decide), by omega, by omega, hs, hg⟩, h1, h2, h3, h4, h5, h6, by rw [← size_data]; exact hs⟩
/-- a record's line -/
def txR (o : ByteArray) (t : Int) (g : ByteArray) : List UInt8 := lineL o.data.toList t.toNat g.data.toList
def putR (o : ByteArray) (t : Int) (g : ByteArray) : ByteArray × Int := if mayR o t g = true then (str (txR o t g), 0) else (str [], 1300)
/-- what a reading gives, told again as it was -/
def backR (s o : ByteArray) (t : Int) (g : ByteArray) : ByteArray × Int × ByteArray × Int :=
  if mayR o t g = true ∧ txR o t g = s.data.toList then (o, t, g, 0) else (str [], 0, str [], 1300)
def getR (s : ByteArray) : ByteArray × Int × ByteArray × Int := backR s (str (pO s.data.toList)) (pT s.data.toList) (str (pG s.data.toList))
theorem get_put {o : ByteArray} {t : Int} {g : ByteArray} (h : mayR o t g = true) : getR (str (txR o t g)) = (o, t, g, 0) := by
  have hm := mayR_is h
  obtain ⟨h1, h2, h3⟩ := p_line hm.parts
  have ht : ((t.toNat : Nat) : Int) = t := by have := hm.t1; omega
  unfold getR
  rw [str_data, txR, h1, h2, h3, str_of, str_of, ht]
  unfold backR
  rw [if_pos ⟨h, by rw [str_data, txR]⟩]
theorem back_cases (s o : ByteArray) (t : Int) (g : ByteArray) : (backR s o t g = (o, t, g, 0) ∧ mayR o t g = true ∧ s = str (txR o t g)) ∨ backR s o t g = (str [], 0, str [], 1300) := by
  unfold backR
  by_cases h : mayR o t g = true ∧ txR o t g = s.data.toList
  · rw [if_pos h]
    exact .inl ⟨rfl, h.1, by rw [h.2, str_of]⟩
  · rw [if_neg h]
    exact .inr rfl
theorem get_ok {s : ByteArray} (h : (getR s).2.2.2 = 0) : ∃ o t g, getR s = (o, t, g, 0) ∧ mayR o t g = true ∧ s = str (txR o t g) := by
  rcases back_cases s (str (pO s.data.toList)) (pT s.data.toList) (str (pG s.data.toList)) with ⟨h1, h2, h3⟩ | h1
  · exact ⟨_, _, _, h1, h2, h3⟩
  · unfold getR at h
    rw [h1] at h
    exact absurd h (by decide)
theorem get_no {s : ByteArray} (h : (getR s).2.2.2 ≠ 0) : getR s = (str [], 0, str [], 1300) := by
  rcases back_cases s (str (pO s.data.toList)) (pT s.data.toList) (str (pG s.data.toList)) with ⟨h1, h2, h3⟩ | h1
  · unfold getR at h
    rw [h1] at h
    exact absurd rfl h
  · exact h1
/-- any reading that gives back a line's parts reads as the program does -/
theorem back_same (s o : ByteArray) (t : Int) (g : ByteArray) (hr : ∀ o' t' g', mayR o' t' g' = true → s = str (txR o' t' g') → o = o' ∧ t = t' ∧ g = g') : backR s o t g = getR s := by
  rcases back_cases s o t g with ⟨h1, h2, h3⟩ | h1
  · rw [h1, h3, get_put h2]
  · rw [h1]
    symm
    apply get_no
    intro h
    obtain ⟨o', t', g', e, hm, hs⟩ := get_ok h
    obtain ⟨rfl, rfl, rfl⟩ := hr o' t' g' hm hs
    unfold backR at h1
    rw [if_pos ⟨hm, by rw [hs, str_data]⟩] at h1
    have h2 : (0 : Int) = 1300 := congrArg (fun x : ByteArray × Int × ByteArray × Int => x.2.2.2) h1
    exact absurd h2 (by decide)

/-! ### The reference's reading -/
structure RS where
  p : Nat
  o : List UInt8
  t : Nat
  g : List UInt8
def stepR (s : RS) (c : UInt8) : RS :=
  if c = 9 then ⟨s.p + 1, s.o, s.t, s.g⟩
  else if s.p = 0 then ⟨s.p, s.o ++ [c], s.t, s.g⟩
  else if s.p = 1 ∧ 48 ≤ c.toNat ∧ c.toNat ≤ 57 ∧ s.t ≤ 1048576 then ⟨s.p, s.o, 10 * s.t + (c.toNat - 48), s.g⟩
  else if s.p = 2 ∧ c ≠ 10 then ⟨s.p, s.o, s.t, s.g ++ [c]⟩
  else s
def readR (s : List UInt8) : RS := s.foldl stepR ⟨0, [], 0, []⟩
theorem fold_o : ∀ (o o0 : List UInt8) (t : Nat) (g : List UInt8), (9 : UInt8) ∉ o → o.foldl stepR ⟨0, o0, t, g⟩ = ⟨0, o0 ++ o, t, g⟩
  | [], o0, t, g, _ => by simp
  | c :: o, o0, t, g, h => by
    have hc : c ≠ 9 := fun e => h (by rw [e]; exact List.mem_cons_self)
    rw [List.foldl_cons, stepR, if_neg hc, if_pos rfl, fold_o o _ t g (fun hm => h (List.mem_cons_of_mem _ hm))]
    simp
theorem fold_g (o : List UInt8) (t : Nat) : ∀ (g g0 : List UInt8), (9 : UInt8) ∉ g → (10 : UInt8) ∉ g → g.foldl stepR ⟨2, o, t, g0⟩ = ⟨2, o, t, g0 ++ g⟩
  | [], g0, _, _ => by simp
  | c :: g, g0, h, h' => by
    have hc : c ≠ 9 := fun e => h (by rw [e]; exact List.mem_cons_self)
    have hc' : c ≠ 10 := fun e => h' (by rw [e]; exact List.mem_cons_self)
    rw [List.foldl_cons, stepR, if_neg hc, if_neg (show ¬ ((2 : Nat) = 0) by decide), if_neg (fun e => absurd (show (2 : Nat) = 1 from e.1) (by decide)), if_pos ⟨rfl, hc'⟩, fold_g o t g _ (fun hm => h (List.mem_cons_of_mem _ hm)) (fun hm => h' (List.mem_cons_of_mem _ hm))]
    simp
theorem fold_d (o g : List UInt8) : ∀ u : Nat, u ≤ 1048576 → (Lib.decDigits u).foldl stepR ⟨1, o, 0, g⟩ = ⟨1, o, u, g⟩ := by
  intro u
  induction u using Nat.strongRecOn with
  | _ u ih =>
    intro hu
    have one : ∀ d, d < 10 → (UInt8.ofNat (48 + d)).toNat = 48 + d := fun d hd => by
      rw [UInt8.toNat_ofNat']; omega
    have step : ∀ d t, d < 10 → t ≤ 1048576 → stepR ⟨1, o, t, g⟩ (UInt8.ofNat (48 + d)) = ⟨1, o, 10 * t + d, g⟩ := fun d t hd ht => by
      have h1 := one d hd
      have hne : UInt8.ofNat (48 + d) ≠ 9 := fun e => by rw [e] at h1; have : (9 : UInt8).toNat = 9 := rfl; omega
      rw [stepR, if_neg hne, if_neg (by simp), if_pos ⟨rfl, by omega, by omega, ht⟩, h1]
      simp
    rw [Lib.decDigits]
    split
    · rename_i h
      rw [List.foldl_cons, List.foldl_nil, step u 0 h (by omega)]
      simp
    · rw [List.foldl_append, ih (u / 10) (by omega) (by omega), List.foldl_cons, List.foldl_nil, step (u % 10) _ (by omega) (by omega)]
      congr 1
      omega
theorem read_line {o : List UInt8} {t : Nat} {g : List UInt8} (h : Parts o t g) : readR (lineL o t g) = ⟨2, o, t, g⟩ := by
  unfold readR lineL
  have s9 : ∀ p o t g, stepR ⟨p, o, t, g⟩ 9 = ⟨p + 1, o, t, g⟩ := fun p o t g => by rw [stepR, if_pos rfl]
  have s10 : ∀ o t g, stepR ⟨2, o, t, g⟩ 10 = ⟨2, o, t, g⟩ := fun o t g => by simp [stepR]
  rw [List.foldl_append, fold_o o [] 0 [] h.o9, List.foldl_cons, s9, List.foldl_append, List.nil_append, fold_d o [] t h.tM, List.foldl_cons, s9, List.foldl_append, fold_g o t g [] h.g9 h.g10, List.foldl_cons, List.foldl_nil, s10, List.nil_append]
theorem step_t (s : RS) (c : UInt8) (h : s.t ≤ 10485769) : (stepR s c).t ≤ 10485769 := by
  unfold stepR
  split
  · exact h
  · split
    · exact h
    · split
      · rename_i h1
        show 10 * s.t + (c.toNat - 48) ≤ 10485769
        omega
      · split <;> exact h
theorem ref_same (s : ByteArray) : backR s (str (readR s.data.toList).o) ((readR s.data.toList).t : Int) (str (readR s.data.toList).g) = getR s := by
  apply back_same
  intro o' t' g' hm hs
  have h := mayR_is hm
  rw [hs, str_data, txR, read_line h.parts]
  exact ⟨str_of _, by have := h.t1; show ((t'.toNat : Nat) : Int) = t'; omega, str_of _⟩
end Go.Proofs.YtdaddlplpkmkmaaGreatDoor.Spec
end

section
/- May a time be? -/
namespace Go.Proofs.YtdaddlplpkmkmaaGreatDoor.Spec
open Go.RowKit Go.Proofs.YtdaddlplpkmkmaaGreatDoorW.PrintWords Go.Proofs.YtdaddlplpkmkmaaGreatDoor.P

theorem time_is (t : Int) : logline_Time.f t = some (decide (1 ≤ t) && decide (t ≤ 1048576)) := by
  unfold logline_Time.f
  by_cases h : 1 ≤ t
  · rw [if_pos h]; simp [h]
  · rw [if_neg h]; simp [h]
end Go.Proofs.YtdaddlplpkmkmaaGreatDoor.Spec
end

section
/- The reference's bounds. -/
namespace Go.Proofs.YtdaddlplpkmkmaaGreatDoor.Spec
open Go.RowKit Go.Proofs.YtdaddlplpkmkmaaGreatDoorW.PrintWords Go.Proofs.YtdaddlplpkmkmaaGreatDoor.P

theorem upTo_is (t : Int) : crucibleref12_upTo.f t 1 1048576 = some (decide (1 ≤ t) && decide (t ≤ 1048576)) := by
  unfold crucibleref12_upTo.f
  by_cases h : 1 ≤ t
  · rw [if_pos h]; simp [h]
  · rw [if_neg h]; simp [h]
end Go.Proofs.YtdaddlplpkmkmaaGreatDoor.Spec
end

section
/- The reference's path, without the program. -/
namespace Go.Proofs.YtdaddlplpkmkmaaGreatDoor.Spec
open Go.RowKit Go.Proofs.YtdaddlplpkmkmaaGreatDoorW.PrintWords Go.Proofs.YtdaddlplpkmkmaaGreatDoor.P

theorem ev_PathMay (s : ByteArray) (hs : s.size ≤ 4611686018427387904) : Ev (fun k => crucibleref1_PathMay.f k s) (isP s.data.toList) := by
  refine Ev.congr (fun k => by rw [crucibleref1_PathMay.f]) (ev_bind (ev_CleanPath s hs) ?_)
  refine ev_const ?_
  rw [toList_data s]
  exact isP_of
end Go.Proofs.YtdaddlplpkmkmaaGreatDoor.Spec
end

section
/- Chapter 13: what the program's and the reference's functions over lines compute. -/
namespace Go.Proofs.YtdaddlplpkmkmaaGreatDoor.Spec
open Go.RowKit Go.Proofs.YtdaddlplpkmkmaaGreatDoorW.PrintWords Go.Proofs.YtdaddlplpkmkmaaGreatDoorW.PrintMore Go.Proofs.YtdaddlplpkmkmaaGreatDoor.P

theorem ev_LMay (o : ByteArray) (t : Int) (g : ByteArray) (hg : g.size ≤ 4611686018427387904) : Ev (fun k => logline_May.f k o t g) (mayR o t g) := by
  refine Ev.congr (fun k => by rw [logline_May.f]) (ev_bind (ev_Is o) ?_)
  unfold mayR
  cases h1 : isP o.data.toList with
  | false => exact ev_neg (by simp) (Ev.now _)
  | true =>
    refine ev_pos rfl (ev_bindc (time_is t) ?_)
    cases h2 : (decide (1 ≤ t) && decide (t ≤ 1048576)) with
    | false => exact ev_neg (by simp) (Ev.now _)
    | true =>
      refine ev_pos rfl ?_
      rw [toList_data]
      by_cases h3 : g.data.toList = []
      · exact ev_pos h3 (ev_const (by simp [h3]))
      · refine ev_neg h3 (ev_bind (ev_PlainA g 2048 hg) (ev_const ?_))
        simp [h3]
theorem itoa_is (t : Int) (h1 : 1 ≤ t) (h2 : t ≤ 1048576) : strconv_Itoa.f t = some (str (Lib.decDigits t.toNat)) := by
  unfold strconv_Itoa.f
  rw [if_pos (by omega)]
  obtain ⟨n, rfl⟩ := Int.eq_ofNat_of_zero_le (show 0 ≤ t by omega)
  rw [Lib.itoa_nonneg]
  rfl
theorem line_cat (o : ByteArray) (d : List UInt8) (g : ByteArray) : ((((o ++ (⟨#[9]⟩ : ByteArray)) ++ str d) ++ (⟨#[9]⟩ : ByteArray)) ++ g) ++ (⟨#[10]⟩ : ByteArray) = str (o.data.toList ++ 9 :: (d ++ 9 :: (g.data.toList ++ [10]))) := by
  apply data_inj
  simp [str_data]
theorem ev_LPut (o : ByteArray) (t : Int) (g : ByteArray) (hg : g.size ≤ 4611686018427387904) : Ev (fun k => logline_Put.f k o t g) (putR o t g) := by
  refine Ev.congr (fun k => by rw [logline_Put.f]) (ev_bind (ev_LMay o t g hg) ?_)
  unfold putR
  cases hm : mayR o t g with
  | false => exact ev_neg (by simp) (Ev.now _)
  | true =>
    have h := mayR_is hm
    have hos := h.os
    have hgs := h.gs
    have hd := dec_len t.toNat h.parts.tM
    have hz : (str (Lib.decDigits t.toNat)).size = (Lib.decDigits t.toNat).length := str_size _
    have e1 : (⟨#[9]⟩ : ByteArray).size = 1 := rfl
    refine ev_pos rfl (ev_pos (by omega) (ev_bindc (itoa_is t h.t1 h.tM) (ev_pos ?_ (ev_pos ?_ (ev_pos ?_ (ev_pos ?_ (ev_const ?_)))))))
    · simp only [ByteArray.size_append, hz, e1]; omega
    · simp only [ByteArray.size_append, hz, e1]; omega
    · simp only [ByteArray.size_append, hz, e1]; omega
    · simp only [ByteArray.size_append, hz, e1]; omega
    · rw [line_cat, if_pos rfl]; rfl
theorem back_is (s o : ByteArray) (t : Int) (g : ByteArray) : logline_back s o t g (putR o t g) = backR s o t g := by
  unfold logline_back putR backR
  cases hm : mayR o t g with
  | false => simp; rfl
  | true =>
    simp only [if_true, true_and, toList_data]
    rfl
theorem pG_len (s : List UInt8) : (pG s).length ≤ s.length := by
  have h1 := (cutAt_len 9 s).2
  have h2 := (cutAt_len 9 (cutAt 9 s).2).2
  have h3 := trimE_len (cutAt 9 (cutAt 9 s).2).2
  unfold pG
  omega
theorem ev_LGet (s : ByteArray) (hs : s.size < 4294967281) : Ev (fun k => logline_Get.f k s) (getR s) := by
  have hl := pG_len s.data.toList
  rw [size_data] at hl
  refine Ev.congr (fun k => by rw [logline_Get.f]) (ev_pos hs (ev_bind (ev_LPut _ _ _ (by rw [str_size]; omega)) (ev_const ?_)))
  rw [back_is]
  rfl

/-! ### The reference -/
theorem ev_RecordMay (o : ByteArray) (t : Int) (g : ByteArray) (ho : o.size ≤ 4611686018427387904) (hg : g.size ≤ 4611686018427387904) : Ev (fun k => crucibleref12_RecordMay.f k o t g) (mayR o t g) := by
  refine Ev.congr (fun k => by rw [crucibleref12_RecordMay.f]) (ev_bind (ev_PathMay o ho) ?_)
  unfold mayR
  cases h1 : isP o.data.toList with
  | false => exact ev_neg (by simp) (Ev.now _)
  | true =>
    refine ev_pos rfl (ev_bindc (upTo_is t) ?_)
    cases h2 : (decide (1 ≤ t) && decide (t ≤ 1048576)) with
    | false => exact ev_neg (by simp) (Ev.now _)
    | true =>
      refine ev_pos rfl (ev_bind (ev_PlainR g 1 2048 hg) (ev_const ?_))
      have hz := size_data g
      have e : decide (1 ≤ g.size) = decide (g.data.toList ≠ []) := by
        rw [decide_eq_decide, ← List.length_pos_iff, hz]
        omega
      rw [e]
      simp only [Bool.true_and, Option.some.injEq]
      rw [Bool.and_assoc, Bool.and_left_comm]
theorem digit_is (u : Nat) (hu : u ≤ 1048576) : (IntKind.u64.wrap (48 + Int.tmod (u : Int) 10)) % 256 = ((UInt8.ofNat (48 + u % 10)).toNat : Int) := by
  rw [u64_wrap, Int.tmod_eq_emod_of_nonneg (by omega), UInt8.toNat_ofNat']
  omega
theorem tenth_is (u : Nat) (hu : u ≤ 1048576) : IntKind.u64.wrap (Int.tdiv (u : Int) 10) = ((u / 10 : Nat) : Int) := by
  rw [u64_wrap, Int.tdiv_eq_ediv_of_nonneg (by omega)]
  omega
theorem ev_Decimal_loop (t : Nat) : ∀ (u : Nat) (acc : List UInt8), u ≤ 1048576 → acc.length + u ≤ 2000000 → (u ≠ 0 ∨ acc ≠ []) →
    Ev (fun k => crucibleref0_Decimal.l0 k (t : Int) (u : Int) (nb acc)) (str (if u = 0 then acc else Lib.decDigits u ++ acc)) := by
  intro u
  induction u using Nat.strongRecOn with
  | _ u ih =>
    intro acc hu hl hne
    refine Ev.step (fun k => by rw [crucibleref0_Decimal.l0]) ?_
    by_cases h0 : u = 0
    · subst h0
      have hacc : acc ≠ [] := hne.resolve_left (by simp)
      have : 0 < acc.length := List.length_pos_iff.2 hacc
      refine ev_neg (by omega) (ev_neg (by rw [nb_len]; omega) (ev_neg (by omega) (ev_const ?_)))
      rw [nb_str, if_pos rfl]
    · refine ev_pos (by omega) (ev_bindc rfl (ev_pos (by simp only [List.length_singleton, nb_len]; omega) ?_))
      rw [digit_is u hu, tenth_is u hu]
      have e : [((UInt8.ofNat (48 + u % 10)).toNat : Int)] ++ nb acc = nb (UInt8.ofNat (48 + u % 10) :: acc) := rfl
      rw [e]
      refine ev_eq (ih (u / 10) (by omega) (UInt8.ofNat (48 + u % 10) :: acc) (by omega) (by rw [List.length_cons]; omega) (.inr (by simp))) ?_
      rw [if_neg h0]
      by_cases h10 : u < 10
      · rw [if_pos (by omega), Lib.decDigits, dif_pos h10, Nat.mod_eq_of_lt h10]
        rfl
      · rw [if_neg (by omega)]
        conv => rhs; rw [Lib.decDigits, dif_neg h10]
        rw [List.append_assoc]
        rfl
theorem ev_Decimal (t : Int) (h1 : 1 ≤ t) (h2 : t ≤ 1048576) : Ev (fun k => crucibleref0_Decimal.f k t) (str (Lib.decDigits t.toNat)) := by
  obtain ⟨n, rfl⟩ := Int.eq_ofNat_of_zero_le (show 0 ≤ t by omega)
  have hw : IntKind.u64.wrap (n : Int) = (n : Int) := by rw [u64_wrap]; omega
  refine Ev.congr (fun k => by rw [crucibleref0_Decimal.f]) (ev_neg (by omega) ?_)
  rw [hw]
  refine Ev.step (fun k => by rw [crucibleref0_Decimal.j0]) ?_
  refine ev_eq (ev_Decimal_loop n n [] (by omega) (by simp; omega) (.inl (by omega))) ?_
  rw [if_neg (by omega), List.append_nil]
  rfl
theorem ev_RPut (o : ByteArray) (t : Int) (g : ByteArray) (ho : o.size ≤ 4611686018427387904) (hg : g.size ≤ 4611686018427387904) : Ev (fun k => crucibleref12_PutLine.f k o t g) (putR o t g) := by
  refine Ev.congr (fun k => by rw [crucibleref12_PutLine.f]) (ev_bind (ev_RecordMay o t g ho hg) ?_)
  unfold putR
  cases hm : mayR o t g with
  | false => exact ev_neg (by simp) (Ev.now _)
  | true =>
    have h := mayR_is hm
    have hos := h.os
    have hgs := h.gs
    have hd := dec_len t.toNat h.parts.tM
    have hz : (str (Lib.decDigits t.toNat)).size = (Lib.decDigits t.toNat).length := str_size _
    have e1 : (⟨#[9]⟩ : ByteArray).size = 1 := rfl
    refine ev_pos rfl (ev_pos (by omega) (ev_bind (ev_Decimal t h.t1 h.tM) (ev_pos ?_ (ev_pos ?_ (ev_pos ?_ (ev_pos ?_ (ev_const ?_)))))))
    · simp only [ByteArray.size_append, hz, e1]; omega
    · simp only [ByteArray.size_append, hz, e1]; omega
    · simp only [ByteArray.size_append, hz, e1]; omega
    · simp only [ByteArray.size_append, hz, e1]; omega
    · rw [line_cat, if_pos rfl]; rfl
theorem one_byte (s : ByteArray) (pre : List UInt8) (c : UInt8) (rest : List UInt8) (h : s.data.toList = pre ++ c :: rest) : s.extract pre.length (pre.length + 1) = str [c] := by
  apply data_inj
  rw [extract_data, str_data, h, List.take_append, List.take_of_length_le (by omega), Nat.add_sub_cancel_left]
  simp
structure InvR (n : Nat) (s : RS) : Prop where
  p : s.p ≤ n
  o : s.o.length ≤ n
  t : s.t ≤ 10485769
  g : s.g.length ≤ n
theorem InvR.step {n : Nat} {s : RS} (h : InvR n s) (c : UInt8) : InvR (n + 1) (stepR s c) := by
  have ht := step_t s c h.t
  obtain ⟨h1, h2, h3, h4⟩ := h
  refine ⟨?_, ?_, ht, ?_⟩
  all_goals
    unfold stepR
    repeat' split
    all_goals (try simp only [List.length_append, List.length_singleton])
    all_goals omega
theorem ev_RGet_loop (s : ByteArray) (hs : s.size ≤ 4611686018427387904) : ∀ (rest pre : List UInt8) (x : RS), s.data.toList = pre ++ rest → InvR pre.length x →
    Ev (fun k => crucibleref12_GetLine.l0 k s (x.p : Int) (pre.length : Int) (str x.o) (x.t : Int) (str x.g)) (backR s (str (rest.foldl stepR x).o) ((rest.foldl stepR x).t : Int) (str (rest.foldl stepR x).g)) := by
  intro rest
  induction rest with
  | nil =>
    intro pre x h hi
    have hl : s.size = pre.length := by rw [size_le h]; simp
    obtain ⟨h1, h2, h3, h4⟩ := hi
    refine Ev.step (fun k => by rw [crucibleref12_GetLine.l0]) (ev_neg (by omega) (ev_bind (ev_RPut _ _ _ (by rw [str_size]; omega) (by rw [str_size]; omega)) ?_))
    rw [List.foldl_nil, ← back_is]
    unfold logline_back
    exact ev_ite (fun _ => ev_ite (fun _ => Ev.now _) (fun _ => Ev.now _)) (fun _ => Ev.now _)
  | cons c rest ih =>
    intro pre x h hi
    have hlt := size_pre s pre c rest h
    have hb := bt_pre s pre c rest h
    have hx := one_byte s pre c rest h
    have hw : wrap64 ((pre.length : Int) + 1) = ((pre.length + 1 : Nat) : Int) := wrap_nat (by omega)
    have ih' := ih (pre ++ [c]) (stepR x c) (by simp [h]) (by rw [List.length_append, List.length_singleton]; exact hi.step c)
    rw [List.length_append, List.length_singleton] at ih'
    rw [List.foldl_cons]
    have hc := c.toNat_lt
    obtain ⟨h1, h2, h3, h4⟩ := hi
    have hwp : wrap64 ((x.p : Int) + 1) = ((x.p + 1 : Nat) : Int) := wrap_nat (by omega)
    have hz : (str [c]).size = 1 := str_size [c]
    refine Ev.step (fun k => by rw [crucibleref12_GetLine.l0]) ?_
    simp only [hb, hw, hwp, Int.toNat_natCast, hx, hz, str_append]
    refine ev_pos (by omega) (ev_pos (by omega) ?_)
    have hc9 : (c.toNat : Int) = 9 ↔ c = 9 := by
      constructor
      · intro e; exact UInt8.toNat_inj.1 (show c.toNat = (9 : UInt8).toNat by have : (9 : UInt8).toNat = 9 := rfl; omega)
      · rintro rfl; rfl
    have hc10 : (c.toNat : Int) = 10 ↔ c = 10 := by
      constructor
      · intro e; exact UInt8.toNat_inj.1 (show c.toNat = (10 : UInt8).toNat by have : (10 : UInt8).toNat = 10 := rfl; omega)
      · rintro rfl; rfl
    by_cases e9 : c = 9
    · refine ev_pos (hc9.2 e9) ?_
      have e : stepR x c = ⟨x.p + 1, x.o, x.t, x.g⟩ := by rw [stepR, if_pos e9]
      rw [e] at ih' ⊢
      exact ih'
    · refine ev_neg (fun h => e9 (hc9.1 h)) ?_
      by_cases e0 : x.p = 0
      · have e : stepR x c = ⟨x.p, x.o ++ [c], x.t, x.g⟩ := by rw [stepR, if_neg e9, if_pos e0]
        rw [e] at ih' ⊢
        refine ev_pos (by omega) (ev_pos (by omega) (ev_pos (by omega) (ev_pos (by rw [str_size]; omega) ih')))
      · refine ev_neg (by omega) ?_
        have hj : ∀ b : Bool, (b = true ↔ (x.p = 1 ∧ 48 ≤ c.toNat ∧ c.toNat ≤ 57 ∧ x.t ≤ 1048576)) → Ev (fun k => crucibleref12_GetLine.j1 k s (x.p : Int) (pre.length : Int) (c.toNat : Int) b (str x.o) (x.t : Int) (str x.g)) (backR s (str (rest.foldl stepR (stepR x c)).o) ((rest.foldl stepR (stepR x c)).t : Int) (str (rest.foldl stepR (stepR x c)).g)) := by
          intro b hb'
          refine Ev.step (fun k => by rw [crucibleref12_GetLine.j1]) ?_
          simp only [hw, Int.toNat_natCast, hx, hz, str_append]
          by_cases hd : x.p = 1 ∧ 48 ≤ c.toNat ∧ c.toNat ≤ 57 ∧ x.t ≤ 1048576
          · have e : stepR x c = ⟨x.p, x.o, 10 * x.t + (c.toNat - 48), x.g⟩ := by rw [stepR, if_neg e9, if_neg e0, if_pos hd]
            have hn : wrap64 (wrap64 (10 * (x.t : Int)) + ((c.toNat : Int) - 48) % 256) = ((10 * x.t + (c.toNat - 48) : Nat) : Int) := by
              obtain ⟨d1, d2, d3, d4⟩ := hd
              rw [wrap_id (n := 10 * (x.t : Int)) (by omega) (by omega), wrap_id (by omega) (by omega)]
              omega
            rw [e] at ih' ⊢
            rw [hn]
            exact ev_pos (hb'.2 hd) ih'
          · refine ev_neg (fun h => hd (hb'.1 h)) ?_
            by_cases e2 : x.p = 2
            · refine ev_pos (by omega) ?_
              by_cases e10 : c = 10
              · have e : stepR x c = x := by rw [stepR, if_neg e9, if_neg e0, if_neg hd, if_neg (fun h => h.2 e10)]
                rw [e] at ih' ⊢
                exact ev_pos (hc10.2 e10) ih'
              · have e : stepR x c = ⟨x.p, x.o, x.t, x.g ++ [c]⟩ := by rw [stepR, if_neg e9, if_neg e0, if_neg hd, if_pos ⟨e2, e10⟩]
                rw [e] at ih' ⊢
                refine ev_neg (fun h => e10 (hc10.1 h)) (ev_pos (by omega) (ev_pos (by omega) (ev_pos (by omega) (ev_pos (by rw [str_size]; omega) ih'))))
            · have e : stepR x c = x := by rw [stepR, if_neg e9, if_neg e0, if_neg hd, if_neg (fun h => e2 h.1)]
              rw [e] at ih' ⊢
              exact ev_neg (by omega) ih'
        refine ev_split (fun p1 => ?_) (fun p1 => hj false (by simp; omega))
        refine ev_split (fun p2 => ?_) (fun p2 => hj false (by simp; omega))
        refine ev_split (fun p3 => ?_) (fun p3 => hj false (by simp; omega))
        exact hj _ (by rw [decide_eq_true_eq]; omega)
theorem ev_RGet (s : ByteArray) (hs : s.size ≤ 4611686018427387904) : Ev (fun k => crucibleref12_GetLine.f k s) (getR s) := by
  refine Ev.congr (fun k => by rw [crucibleref12_GetLine.f]) ?_
  rw [← ref_same s]
  exact ev_RGet_loop s hs s.data.toList [] ⟨0, [], 0, []⟩ rfl ⟨Nat.le_refl _, Nat.le_refl _, by decide, Nat.le_refl _⟩
end Go.Proofs.YtdaddlplpkmkmaaGreatDoor.Spec
end

section
/- Chapter 14: what May, Text and Load compute. -/
namespace Go.Proofs.YtdaddlplpkmkmaaGreatDoor.Spec
open Go.RowKit Go.Proofs.YtdaddlplpkmkmaaGreatDoorW.PrintWords Go.Proofs.YtdaddlplpkmkmaaGreatDoorW.PrintMore Go.Proofs.YtdaddlplpkmkmaaGreatDoor.P

def mayF (f : P.S31) : Bool := mayR f.f0 f.f1 f.f2
def txF (f : P.S31) : List UInt8 := txR f.f0 f.f1 f.f2
def fsText (fs : List (P.S31)) : List UInt8 := (fs.map txF).flatten
def gF (s : List UInt8) : P.S31 := ⟨(getR (str s)).1, (getR (str s)).2.1, (getR (str s)).2.2.1⟩
def lineOf (s : List UInt8) : List UInt8 := (cutAt 10 s).1 ++ [10]
def loadD : Nat → List UInt8 → List (P.S31)
  | 0, _ => []
  | n + 1, s => if (10 : UInt8) ∈ s ∧ (getR (str (lineOf s))).2.2.2 = 0 then gF (lineOf s) :: loadD n (cutAt 10 s).2 else []
theorem fsText_nil : fsText [] = [] := rfl
theorem fsText_cons (f : P.S31) (fs : List (P.S31)) : fsText (f :: fs) = txF f ++ fsText fs := by simp [fsText]
theorem fsText_app (a b : List (P.S31)) : fsText (a ++ b) = fsText a ++ fsText b := by simp [fsText]
theorem txF_body {f : P.S31} (h : mayF f = true) : ∃ b, txF f = b ++ [10] ∧ (10 : UInt8) ∉ b := line_body (mayR_is h).parts
theorem txF_len {f : P.S31} (h : mayF f = true) : 1 ≤ (txF f).length ∧ (txF f).length ≤ 2074 := by
  obtain ⟨b, hb, _⟩ := txF_body h
  have h2 : (txF f).length ≤ 2074 := (line_len (mayR_is h).parts).1
  rw [hb, List.length_append, List.length_singleton] at h2 ⊢
  omega
theorem fsText_len : ∀ (fs : List (P.S31)), (∀ f ∈ fs, mayF f = true) → (fsText fs).length ≤ 2074 * fs.length
  | [], _ => by simp [fsText]
  | f :: fs, h => by
    have h1 := (txF_len (h f (by simp))).2
    have h2 := fsText_len fs (fun g hg => h g (by simp [hg]))
    rw [fsText_cons, List.length_append, List.length_cons]
    omega
theorem may_small {f : P.S31} (h : mayF f = true) : f.f2.size ≤ 2048 := (mayR_is h).gs
theorem cut_tx {f : P.S31} (h : mayF f = true) (r : List UInt8) : (10 : UInt8) ∈ txF f ++ r ∧ lineOf (txF f ++ r) = txF f ∧ (cutAt 10 (txF f ++ r)).2 = r := by
  obtain ⟨b, hb, hn⟩ := txF_body h
  have e : cutAt 10 (txF f ++ r) = (b, r) := by rw [hb, List.append_assoc, List.singleton_append]; exact cutAt_hit 10 b r hn
  refine ⟨by rw [hb]; simp, ?_, by rw [e]⟩
  unfold lineOf
  rw [e, hb]
theorem getF_tx {f : P.S31} (h : mayF f = true) : getR (str (txF f)) = (f.f0, f.f1, f.f2, 0) := get_put h
theorem gF_tx {f : P.S31} (h : mayF f = true) : gF (txF f) = f := by rw [gF, getF_tx h]
theorem load_cons {f : P.S31} (h : mayF f = true) (n : Nat) (r : List UInt8) : loadD (n + 1) (txF f ++ r) = f :: loadD n r := by
  obtain ⟨h1, h2, h3⟩ := cut_tx h r
  rw [loadD, h2, h3, gF_tx h, if_pos ⟨h1, by rw [getF_tx h]⟩]
theorem load_put : ∀ (fs : List (P.S31)) (n : Nat) (r : List UInt8), (∀ f ∈ fs, mayF f = true) → fs.length ≤ n → loadD n (fsText fs ++ r) = fs ++ loadD (n - fs.length) r
  | [], n, r, _, _ => by simp [fsText]
  | f :: fs, 0, r, _, h => by simp at h
  | f :: fs, n + 1, r, hm, h => by
    rw [fsText_cons, List.append_assoc, load_cons (hm f (by simp)), load_put fs n r (fun g hg => hm g (by simp [hg])) (by simpa using h), List.length_cons, Nat.add_sub_add_right]
    rfl
theorem load_nil (n : Nat) : loadD n [] = [] := by cases n <;> simp [loadD]
theorem load_all (fs : List (P.S31)) (n : Nat) (hm : ∀ f ∈ fs, mayF f = true) (h : fs.length ≤ n) : loadD n (fsText fs) = fs := by
  have := load_put fs n [] hm h
  rwa [List.append_nil, load_nil, List.append_nil] at this
/-- what was got of a text is told as it -/
theorem gF_is {s : List UInt8} (h : (getR (str s)).2.2.2 = 0) : mayF (gF s) = true ∧ txF (gF s) = s := by
  obtain ⟨o, t, g, e, hm, hs⟩ := get_ok h
  unfold gF
  rw [e]
  exact ⟨hm, (str_inj hs).symm⟩
theorem get_ten {s : List UInt8} (h : (getR (str s)).2.2.2 = 0) : (10 : UInt8) ∈ s := by
  obtain ⟨hm, hs⟩ := gF_is h
  obtain ⟨b, hb, _⟩ := txF_body hm
  rw [← hs, hb]
  simp
theorem load_cut {f : P.S31} (h : mayF f = true) (n : Nat) (r r' : List UInt8) (hr : r ++ r' = txF f) (hne : r' ≠ []) : loadD n r = [] := by
  cases n with
  | zero => rfl
  | succ n =>
    obtain ⟨b, hb, hn⟩ := txF_body h
    have hno : (10 : UInt8) ∉ r := by
      intro hm
      obtain ⟨c, z, hz⟩ : ∃ c z, r' = c ++ [z] := ⟨r'.dropLast, r'.getLast hne, (List.dropLast_concat_getLast hne).symm⟩
      rw [hb, hz, ← List.append_assoc] at hr
      have e := List.append_inj_left' hr rfl
      exact hn (by rw [← e]; exact List.mem_append_left _ hm)
    rw [loadD, if_neg (fun hc => hno hc.1)]
theorem load_is : ∀ (n : Nat) (s : List UInt8), (∀ f ∈ loadD n s, mayF f = true) ∧ (loadD n s).length ≤ n ∧ ∃ r, fsText (loadD n s) ++ r = s
  | 0, s => ⟨by simp [loadD], Nat.le_refl _, s, rfl⟩
  | n + 1, s => by
    rw [loadD]
    split
    · rename_i hc
      obtain ⟨hten, hg⟩ := hc
      obtain ⟨hm, ht⟩ := gF_is hg
      obtain ⟨h1, h2, r, h3⟩ := load_is n (cutAt 10 s).2
      refine ⟨fun f hf => ?_, by simpa using h2, r, ?_⟩
      · rcases List.mem_cons.1 hf with rfl | hf
        · exact hm
        · exact h1 f hf
      · rw [fsText_cons, ht, List.append_assoc, h3, lineOf, List.append_assoc, List.singleton_append]
        exact (cutAt_split 10 s hten).1.symm
    · exact ⟨by simp, by simp, s, rfl⟩
def mayFs (fs : List (P.S31)) : Bool := decide (fs.length ≤ 256) && fs.all mayF
theorem mayFs_all {fs : List (P.S31)} (h : mayFs fs = true) : fs.length ≤ 256 ∧ ∀ f ∈ fs, mayF f = true := by
  simp only [mayFs, Bool.and_eq_true, decide_eq_true_eq] at h
  exact ⟨h.1, List.all_eq_true.1 h.2⟩
theorem mayFs_of {fs : List (P.S31)} (h : fs.length ≤ 256) (h2 : ∀ f ∈ fs, mayF f = true) : mayFs fs = true := by
  simp only [mayFs, Bool.and_eq_true, decide_eq_true_eq]
  exact ⟨h, List.all_eq_true.2 h2⟩
theorem Fd_ext {x y : P.S31} (h0 : x.f0 = y.f0) (h1 : x.f1 = y.f1) (h2 : x.f2 = y.f2) : x = y := by
  obtain ⟨a, b, c⟩ := x
  obtain ⟨a', b', c'⟩ := y
  cases h0; cases h1; cases h2; rfl
instance : DecidableEq P.S31 := fun x y =>
  if h : x.f0 = y.f0 ∧ x.f1 = y.f1 ∧ x.f2 = y.f2 then isTrue (Fd_ext h.1 h.2.1 h.2.2) else isFalse (fun e => h (by subst e; exact ⟨rfl, rfl, rfl⟩))
theorem fd_sum {fs : List (P.S31)} {x : P.S31} (h : x ∈ fs) (g : P.S31 → Nat) : g x ≤ (fs.map g).sum := by
  induction fs with
  | nil => cases h
  | cons y ys ih =>
    rw [List.map_cons, List.sum_cons]
    rcases List.mem_cons.1 h with rfl | h
    · omega
    · have := ih h; omega
theorem fd_mem {fs : List (P.S31)} {x : P.S31} (h : x ∈ fs) : (x.f0.size + 1) + 1 + (x.f2.size + 1) ≤ (fs.map fun x : P.S31 => (x.f0.size + 1) + 1 + (x.f2.size + 1)).sum := fd_sum h (fun x : P.S31 => (x.f0.size + 1) + 1 + (x.f2.size + 1))
theorem fd_len (fs : List (P.S31)) : fs.length ≤ (fs.map fun x : P.S31 => (x.f0.size + 1) + 1 + (x.f2.size + 1)).sum := by
  induction fs with
  | nil => simp
  | cons y ys ih => rw [List.map_cons, List.sum_cons, List.length_cons]; omega
theorem ev_all14 : ∀ (l : List (P.S31)), (∀ x ∈ l, x.f2.size ≤ 4611686018427387904) → Ev (fun k => log_all k l) (l.all mayF)
  | [], _ => Ev.now _
  | x :: xs, h => by
    refine Ev.congr (fun k => by rw [log_all]) (ev_bind (ev_LMay x.f0 x.f1 x.f2 (h x (by simp))) ?_)
    rw [List.all_cons, show mayR x.f0 x.f1 x.f2 = mayF x from rfl]
    cases hm : mayF x with
    | true => exact ev_pos rfl (ev_all14 xs (fun y hy => h y (by simp [hy])))
    | false => exact ev_neg (by simp) (Ev.now _)
theorem ev_May14 (l : List (P.S31)) (h : ∀ x ∈ l, x.f2.size ≤ 4611686018427387904) : Ev (fun k => log_May.f k l) (mayFs l) := by
  refine Ev.congr (fun k => by rw [log_May.f]) ?_
  unfold mayFs
  by_cases hl : l.length ≤ 256
  · refine ev_pos hl (ev_eq (ev_all14 l h) ?_)
    simp [hl]
  · exact ev_neg hl (ev_const (by simp [hl]))
theorem ev_texts : ∀ (l : List (P.S31)), (∀ x ∈ l, mayF x = true) → Ev (fun k => log_texts k l) (fsText l)
  | [], _ => Ev.now _
  | x :: xs, h => by
    have hx := h x (by simp)
    have hp : putR x.f0 x.f1 x.f2 = (str (txF x), 0) := by unfold putR; rw [if_pos (show mayR x.f0 x.f1 x.f2 = true from hx)]; rfl
    have hl := may_small hx
    refine Ev.congr (fun k => by rw [log_texts]) (ev_bind (ev_LPut x.f0 x.f1 x.f2 (by omega)) (ev_bind (ev_texts xs (fun y hy => h y (by simp [hy]))) ?_))
    rw [hp]
    exact ev_const (by rw [fsText_cons, str_data])
def textF (l : List (P.S31)) : ByteArray × Int := if mayFs l = true then (str (fsText l), 0) else (str [], 1400)
theorem ev_Text14 (l : List (P.S31)) (h : ∀ x ∈ l, x.f2.size ≤ 4611686018427387904) : Ev (fun k => log_Text.f k l) (textF l) := by
  refine Ev.congr (fun k => by rw [log_Text.f]) (ev_bind (ev_May14 l h) ?_)
  unfold textF
  cases hm : mayFs l with
  | false => exact ev_neg (by simp) (Ev.now _)
  | true =>
    obtain ⟨h1, h2⟩ := mayFs_all hm
    have h3 := fsText_len l h2
    exact ev_pos rfl (ev_bind (ev_texts l h2) (ev_pos ⟨h1, by omega⟩ (Ev.now _)))
theorem str_take (s : List UInt8) (m : Nat) : (str s).extract 0 m = str (s.take m) := str_eq _ _ (by rw [extract_data, str_data, List.drop_zero])
theorem str_drop (s : List UInt8) (m : Nat) : (str s).extract m (str s).size = str (s.drop m) := str_eq _ _ (by rw [extract_data, str_data, str_size, List.take_length])
theorem ev_take : ∀ (n : Nat) (s : List UInt8), s.length < 4294967281 → Ev (fun k => log_take k n ((after 10 s).map str)) (loadD n s) := by
  intro n
  induction n with
  | zero =>
    intro s hs
    by_cases hten : (10 : UInt8) ∈ s
    · obtain ⟨_, _, h3⟩ := cut_take 10 s hten
      have hz : (str ((cutAt 10 s).1 ++ [10])).size = (cutAt 10 s).1.length + 1 := by rw [str_size]; simp
      rw [after_step 10 s hten]
      refine Ev.congr (fun k => by rw [List.map_cons, log_take]) (ev_bind (ev_LGet _ (by omega)) ?_)
      exact ev_neg (by simp) (Ev.now _)
    · have hz : (str s).size = s.length := str_size s
      rw [after_none 10 s hten]
      refine Ev.congr (fun k => by rw [List.map_cons, log_take]) (ev_bind (ev_LGet _ (by omega)) ?_)
      exact ev_neg (by simp) (Ev.now _)
  | succ n ih =>
    intro s hs
    by_cases hten : (10 : UInt8) ∈ s
    · obtain ⟨_, _, h3⟩ := cut_take 10 s hten
      have hz : (str (lineOf s)).size = (cutAt 10 s).1.length + 1 := by rw [str_size]; simp [lineOf]
      have hl := (cutAt_len 10 s).2
      have ih2 := ih (cutAt 10 s).2 (by omega)
      rw [after_step 10 s hten, ← lineOf]
      refine Ev.congr (fun k => by rw [List.map_cons, log_take]) (ev_bind (ev_LGet _ (by omega)) ?_)
      rw [loadD]
      by_cases hg : (getR (str (lineOf s))).2.2.2 = 0
      · rw [if_pos ⟨hten, hg⟩]
        exact ev_pos ⟨hg, Nat.succ_pos n⟩ (ev_bind ih2 (Ev.now _))
      · rw [if_neg (fun hc => hg hc.2)]
        exact ev_neg (fun hc => hg hc.1) (Ev.now _)
    · have hz : (str s).size = s.length := str_size s
      rw [after_none 10 s hten, loadD, if_neg (fun hc => hten hc.1)]
      refine Ev.congr (fun k => by rw [List.map_cons, log_take]) (ev_bind (ev_LGet _ (by omega)) ?_)
      exact ev_neg (by rintro ⟨hc, _⟩; exact hten (get_ten hc)) (Ev.now _)
theorem ev_Load (s : ByteArray) (hs : s.size < 4294967281) : Ev (fun k => log_Load.f k s) (loadD 256 s.data.toList) := by
  have hz : s.data.toList.length = s.size := size_data s
  exact Ev.congr (fun k => by rw [log_Load.f]) (ev_pos hs (ev_take 256 s.data.toList (by omega)))
theorem rdT_pre (pre : List (P.S31)) (x : P.S31) (rest : List (P.S31)) : rd_T31 (pre ++ x :: rest) (pre.length : Int) = x := by simp [rd_T31]
theorem ev_SameRecords_loop (xs ys : List (P.S31)) (hl : xs.length = ys.length) (hx : xs.length ≤ 4611686018427387904) : ∀ rest resty pre prey : List (P.S31), xs = pre ++ rest → ys = prey ++ resty → pre = prey →
    Ev (fun k => cruciblelaw0_SameRecords.l0 k xs ys (pre.length : Int)) (decide (xs = ys)) := by
  intro rest
  induction rest with
  | nil =>
    intro resty pre prey h hy e
    subst e
    have : resty = [] := by
      rw [h, hy] at hl
      simp at hl
      exact hl
    subst this
    refine Ev.step (fun k => by rw [cruciblelaw0_SameRecords.l0]) (ev_neg (by rw [h]; simp) (ev_const ?_))
    simp [h, hy]
  | cons x rest ih =>
    intro resty pre prey h hy e
    subst e
    cases resty with
    | nil => rw [h, hy] at hl; simp at hl
    | cons y resty =>
      have hlen : xs.length = pre.length + (rest.length + 1) := by rw [h]; simp
      have r1 : rd_T31 xs (pre.length : Int) = x := by rw [h]; exact rdT_pre _ _ _
      have r2 : rd_T31 ys (pre.length : Int) = y := by rw [hy]; exact rdT_pre _ _ _
      have hw : wrap64 ((pre.length : Int) + 1) = ((pre ++ [x]).length : Int) := wrap_len pre x (by omega)
      refine Ev.step (fun k => by rw [cruciblelaw0_SameRecords.l0]) ?_
      simp only [r1, r2, hw]
      refine ev_pos (by omega) (ev_pos (by omega) (ev_pos (by omega) ?_))
      by_cases hxy : x = y
      · subst hxy
        exact ev_neg (by simp) (ih resty (pre ++ [x]) (pre ++ [x]) (by simp [h]) (by simp [hy]) rfl)
      · refine ev_pos ?_ (ev_const ?_)
        · by_cases e0 : x.f0.toList = y.f0.toList
          · by_cases e1 : x.f1 = y.f1
            · by_cases e2 : x.f2.toList = y.f2.toList
              · exact absurd (Fd_ext (data_inj (by rw [← toList_data, ← toList_data]; exact e0)) e1 (data_inj (by rw [← toList_data, ← toList_data]; exact e2))) hxy
              · simp [e2]
            · simp [e1]
          · simp [e0]
        · rw [h, hy]
          simp [hxy]
theorem ev_SameRecords (xs ys : List (P.S31)) (hx : xs.length ≤ 4611686018427387904) : Ev (fun k => cruciblelaw0_SameRecords.f k xs ys) (decide (xs = ys)) := by
  refine Ev.congr (fun k => by rw [cruciblelaw0_SameRecords.f]) ?_
  by_cases hl : xs.length = ys.length
  · exact ev_pos (by omega) (ev_SameRecords_loop xs ys hl hx xs ys [] [] rfl rfl rfl)
  · refine ev_neg (by omega) (ev_const ?_)
    have : xs ≠ ys := fun e => hl (by rw [e])
    simp [this]
end Go.Proofs.YtdaddlplpkmkmaaGreatDoor.Spec
end

section
/- Chapter 14: may founds be, as the reference has it. -/
namespace Go.Proofs.YtdaddlplpkmkmaaGreatDoor.Spec
open Go.RowKit Go.Proofs.YtdaddlplpkmkmaaGreatDoorW.PrintWords Go.Proofs.YtdaddlplpkmkmaaGreatDoor.P

structure SmallFd (x : P.S31) : Prop where
  out : x.f0.size ≤ 4611686018427387904
  many : x.f2.size ≤ 4611686018427387904
theorem ev_LogMay_loop (xs : List (P.S31)) (hx : xs.length ≤ 4611686018427387904) (hs : ∀ x ∈ xs, SmallFd x) : ∀ rest pre : List (P.S31), xs = pre ++ rest → pre.all mayF = true →
    Ev (fun k => crucibleref12_LogMay.l0 k xs (pre.length : Int)) (mayFs xs) := by
  intro rest
  induction rest with
  | nil =>
    intro pre h ha
    refine Ev.step (fun k => by rw [crucibleref12_LogMay.l0]) (ev_neg (by rw [h]; simp) (ev_const ?_))
    rw [List.append_nil] at h
    subst h
    simp only [mayFs, ha, Bool.and_true, Option.some.injEq, decide_eq_decide]
    omega
  | cons x rest ih =>
    intro pre h ha
    have hl : xs.length = pre.length + (rest.length + 1) := by rw [h]; simp
    have hr : rd_T31 xs (pre.length : Int) = x := by rw [h]; exact rdT_pre _ _ _
    have hw : wrap64 ((pre.length : Int) + 1) = ((pre ++ [x]).length : Int) := wrap_len pre x (by omega)
    have hx' := hs x (by rw [h]; simp)
    refine Ev.step (fun k => by rw [crucibleref12_LogMay.l0]) ?_
    simp only [hr, hw]
    refine ev_pos (by omega) (ev_pos (by omega) (ev_bind (ev_RecordMay x.f0 x.f1 x.f2 hx'.out hx'.many) ?_))
    rw [show mayR x.f0 x.f1 x.f2 = mayF x from rfl]
    cases hm : mayF x with
    | true => exact ev_pos rfl (ih (pre ++ [x]) (by simp [h]) (by rw [List.all_append, ha, List.all_cons, hm]; rfl))
    | false =>
      refine ev_neg (by simp) (ev_const ?_)
      have : xs.all mayF = false := by rw [h, List.all_append, List.all_cons, hm]; simp
      rw [mayFs, this, Bool.and_false]
theorem ev_LogMay (xs : List (P.S31)) (hx : xs.length ≤ 4611686018427387904) (hs : ∀ x ∈ xs, SmallFd x) : Ev (fun k => crucibleref12_LogMay.f k xs) (mayFs xs) :=
  Ev.congr (fun k => by rw [crucibleref12_LogMay.f]; rfl) (ev_LogMay_loop xs hx hs xs [] rfl rfl)
theorem smallFd {fs : List (P.S31)} (hb : (fs.map fun x : P.S31 => (x.f0.size + 1) + 1 + (x.f2.size + 1)).sum ≤ 1048576) : ∀ x ∈ fs, SmallFd x := fun x hx => by
  have h1 := fd_mem hx
  exact ⟨by omega, by omega⟩
end Go.Proofs.YtdaddlplpkmkmaaGreatDoor.Spec
end
