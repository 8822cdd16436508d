/- Chapter 2: the law PathPieces without the program. -/
import Derived.Test.YtncbloieejeifaaDoorLaw2
import Derived.Test.YtncbloieejeifaaDoorP9
namespace Go.Proofs.YtncbloieejeifaaDoor.Spec
open Go.RowKit Go.Proofs.YtncbloieejeifaaDoorW.PrintWords Go.Proofs.YtncbloieejeifaaDoor.P

/-- the five pieces -/
def five : List (List UInt8) := [[97], [98], [46], [46, 46], []]
def stepP (o : Bool × List (List UInt8)) (p : List UInt8) : Bool × List (List UInt8) :=
  if p = [97] ∨ p = [98] then (o.1, o.2 ++ [p]) else if p = [46, 46] then (if o.2 = [] then (false, o.2) else if o.1 = true then (o.1, o.2.dropLast) else o) else o
/-- kept and ok tell the pieces' fold -/
def Tells (ps : List (List UInt8)) (o : Bool × List (List UInt8)) : Prop := ps.foldl stepC (some []) = if o.1 = true then some o.2 else none
theorem five_mem {p : List UInt8} (h : p ∈ five) : p = [97] ∨ p = [98] ∨ p = [46] ∨ p = [46, 46] ∨ p = [] := by simpa [five] using h
theorem Tells.step {ps : List (List UInt8)} {o : Bool × List (List UInt8)} (h : Tells ps o) {p : List UInt8} (hp : p ∈ five) : Tells (ps ++ [p]) (stepP o p) := by
  obtain ⟨ok, kept⟩ := o
  unfold Tells at h ⊢
  rw [List.foldl_append, h]
  rcases five_mem hp with rfl | rfl | rfl | rfl | rfl <;> cases ok <;> by_cases hk : kept = [] <;> simp [stepC, stepP, hk]

theorem all_five {ps : List (List UInt8)} (h : ∀ p ∈ ps, p ∈ five) : (∀ p ∈ ps, (47 : UInt8) ∉ p) ∧ (joinS [47] ps).all (fun b => nameByte b.toNat) = true := by
  refine ⟨fun p hp => ?_, List.all_eq_true.2 fun b hb => ?_⟩
  · rcases five_mem (h p hp) with rfl | rfl | rfl | rfl | rfl <;> decide
  · rcases mem_joinS [47] b ps hb with hb | ⟨p, hp, hb⟩
    · rw [List.mem_singleton.1 hb]; rfl
    · rcases five_mem (h p hp) with rfl | rfl | rfl | rfl | rfl <;> simp at hb <;> subst hb <;> rfl
theorem head_ok {ps : List (List UInt8)} (h : ∀ p ∈ ps, p ∈ five) (hh : ps.head? ≠ some []) (hne : ps ≠ []) : 1 ≤ (joinS [47] ps).length ∧ (joinS [47] ps).head? ≠ some 47 := by
  cases ps with
  | nil => exact absurd rfl hne
  | cons p ps =>
    cases p with
    | nil => exact absurd rfl hh
    | cons b p =>
      refine ⟨by simp [joinS], ?_⟩
      simp only [joinS, List.cons_append, List.head?_cons]
      intro e
      injection e with e
      have := (all_five h).1 (b :: p) List.mem_cons_self
      exact this (by rw [e]; exact List.mem_cons_self)
theorem pieces_clean {ps : List (List UInt8)} {o : Bool × List (List UInt8)} (h : ∀ p ∈ ps, p ∈ five) (hh : ps.head? ≠ some []) (ht : Tells ps o) :
    clean (joinS [47] ps) = if o.1 = true ∧ o.2 ≠ [] ∧ (joinS [47] ps).length ≤ 16 then some (joinS [47] o.2) else none := by
  obtain ⟨ok, kept⟩ := o
  by_cases hne : ps = []
  · subst hne
    have : ok = true ∧ kept = [] := by
      unfold Tells at ht
      cases ok <;> simp at ht ⊢
      exact ht
    simp [this, joinS, clean, nameMay]
  · obtain ⟨h1, h47⟩ := head_ok h hh hne
    obtain ⟨hn, hall⟩ := all_five h
    have hs := split_join 47 ps hne hn
    unfold Tells at ht
    unfold clean
    by_cases hl : (joinS [47] ps).length ≤ 16
    · have hm : nameMay (joinS [47] ps) = true := by simp [nameMay, hall, h1, hl]
      rw [if_pos ⟨hm, h47⟩, hs, cleanGo_fold, ht]
      cases ok <;> by_cases hk : kept = [] <;> simp [endC, hk, hl]
    · have hm : nameMay (joinS [47] ps) = false := by simp [nameMay, hl]
      rw [if_neg (by simp [hm]), if_neg (by simp [hl])]

theorem ev_pieces_end (ps : List (List UInt8)) (o : Bool × List (List UInt8)) (h : ∀ p ∈ ps, p ∈ five) (hh : ps.head? ≠ some []) (ht : Tells ps o) (hb : bulk o.2 ≤ 1000) : ∀ rest pre : List (List UInt8), o.2 = pre ++ rest →
    Ev (fun k => cruciblelaw2_PathPieces.l1 k (str (joinS [47] ps)) (o.2.map str) o.1 (str (joinS [47] pre)) (pre.length : Int)) true := by
  obtain ⟨ok, kept⟩ := o
  simp only [] at hb ⊢
  intro rest
  induction rest with
  | nil =>
    intro pre hp
    rw [List.append_nil] at hp
    subst hp
    refine Ev.step (fun k => by rw [cruciblelaw2_PathPieces.l1]) (ev_neg (by simp) (ev_bind (ev_Clean _) ?_))
    rw [str_data, pieces_clean h hh ht]
    have bad : Ev (fun k => cruciblelaw2_PathPieces.j6 k (str (joinS [47] kept)) (cleanR none).1 (cleanR none).2 true) true := by
      refine Ev.step (fun k => by rw [cruciblelaw2_PathPieces.j6]) (ev_pos rfl ?_)
      simp only [cleanR, str_toList]
      exact ev_pos trivial (Ev.now _)
    cases ok with
    | false => exact ev_neg (by simp) bad
    | true =>
      refine ev_pos rfl ?_
      by_cases hk : kept = []
      · subst hk
        exact ev_pos rfl bad
      · have hl : ¬ (((kept.map str).length : Int) = 0) := by
          have := List.length_pos_iff.2 hk
          rw [List.length_map]; omega
        refine ev_neg hl ?_
        by_cases h16 : (joinS [47] ps).length ≤ 16
        · rw [if_pos ⟨rfl, hk, h16⟩]
          have hd : decide (((str (joinS [47] ps)).size : Int) > 16) = false := by rw [str_size]; simp; omega
          rw [hd]
          refine Ev.step (fun k => by rw [cruciblelaw2_PathPieces.j6]) (ev_neg (by simp) ?_)
          exact ev_pos rfl (Ev.now _)
        · rw [if_neg (by simp [h16])]
          have hd : decide (((str (joinS [47] ps)).size : Int) > 16) = true := by rw [str_size]; simp; omega
          rw [hd]
          exact bad
  | cons x rest ih =>
    intro pre hp
    have ih' := ih (pre ++ [x]) (by simp [hp])
    have hl : kept.length = pre.length + (rest.length + 1) := by rw [hp]; simp
    have hbl := bulk_len kept
    have hr : rdOf ByteArray.empty (kept.map str) (pre.length : Int) = str x := by rw [hp]; exact rdOf_map _ _ _
    have hw : wrap64 ((pre.length : Int) + 1) = ((pre ++ [x]).length : Int) := wrap_len pre x (by omega)
    have hjl := joinS_bulk 47 (pre ++ [x])
    have hb2 : bulk (pre ++ [x]) ≤ bulk kept := by rw [hp, show pre ++ x :: rest = (pre ++ [x]) ++ rest by simp, bulk_append (pre ++ [x]) rest]; omega
    refine Ev.step (fun k => by rw [cruciblelaw2_PathPieces.l1]) ?_
    simp only [hr, hw, List.length_map]
    refine ev_pos (by omega) ?_
    by_cases hpe : pre = []
    · subst hpe
      have e : str (joinS [47] []) ++ str x = str (joinS [47] ([] ++ [x])) := by rw [str_append]; simp [joinS]
      have hz : (str (joinS [47] [])).size + (str x).size ≤ 9223372036854775807 := by rw [← append_size, e, str_size]; omega
      refine ev_neg (by simp) (ev_pos (by simp) (ev_pos hz ?_))
      rw [e]; exact ih'
    · have hpl : 0 < pre.length := List.length_pos_iff.2 hpe
      have e : (str (joinS [47] pre) ++ (⟨#[47]⟩ : ByteArray)) ++ str x = str (joinS [47] (pre ++ [x])) := by
        rw [joinS_snoc [47] pre x hpe, show (⟨#[47]⟩ : ByteArray) = str [47] from rfl, str_append, str_append]
      have hz : (str (joinS [47] pre) ++ (⟨#[47]⟩ : ByteArray)).size + (str x).size ≤ 9223372036854775807 := by rw [← append_size, e, str_size]; omega
      have hz1 : (str (joinS [47] pre)).size + 1 ≤ 9223372036854775807 := by
        rw [append_size] at hz
        have : (⟨#[47]⟩ : ByteArray).size = 1 := rfl
        omega
      refine ev_pos (by omega) (ev_pos hz1 (ev_pos (by omega) (ev_pos hz ?_)))
      rw [e]; exact ih'

theorem behind (zs : List Int) (n i : Nat) (hi : i ≤ 100) (kept : List (List UInt8)) (ok : Bool) (hkl : kept.length ≤ 100) (p : List UInt8) (hp : p ∈ five) (s : ByteArray) (l : List UInt8) (hl : l.length ≤ 1000) (hs : s ++ str p = str l)
    (ih : Ev (fun k => cruciblelaw2_PathPieces.l0 k zs (str l) ((stepP (ok, kept) p).2.map str) (stepP (ok, kept) p).1 (n : Int) ((i + 1 : Nat) : Int)) true) :
    Ev (fun k => cruciblelaw2_PathPieces.j3 k zs s (kept.map str) ok (n : Int) (i : Int) (str p)) true := by
  have hz : s.size + (str p).size ≤ 9223372036854775807 := by
    rw [← append_size, hs, str_size]
    exact Nat.le_trans hl (by decide)
  have hw : wrap64 ((i : Int) + 1) = ((i + 1 : Nat) : Int) := wrap_nat (Nat.le_trans hi (by decide))
  have hk8 : kept.length < 8796093022208 := Nat.lt_of_le_of_lt hkl (by decide)
  refine Ev.step (fun k => by rw [cruciblelaw2_PathPieces.j3]) (ev_pos hz ?_)
  rw [hs]
  have fin : ∀ b : Bool, b = (p == [97] || p == [98]) → Ev (fun k => cruciblelaw2_PathPieces.j4 k zs (str l) (kept.map str) ok (n : Int) (i : Int) (str p) (str p) b) true := by
    intro b hbv
    subst hbv
    refine Ev.step (fun k => by rw [cruciblelaw2_PathPieces.j4]) ?_
    simp only [hw, str_toList, List.length_map]
    clear hw hz hs
    rcases five_mem hp with rfl | rfl | rfl | rfl | rfl
    · refine ev_pos rfl (ev_pos hk8 ?_)
      simpa [stepP] using ih
    · refine ev_pos rfl (ev_pos hk8 ?_)
      simpa [stepP] using ih
    · refine ev_neg (by decide) (ev_neg (by decide) ?_)
      simpa [stepP] using ih
    · refine ev_neg (by decide) (ev_pos rfl ?_)
      by_cases hk : kept = []
      · subst hk
        refine ev_pos (by simp) ?_
        simpa [stepP] using ih
      · have hkp := List.length_pos_iff.2 hk
        have hkn : ¬ ((kept.length : Int) = 0) := by omega
        refine ev_neg hkn ?_
        cases ok with
        | false =>
          refine ev_neg (by simp) ?_
          simpa [stepP, hk] using ih
        | true =>
          have hwp : wrap64 ((kept.length : Int) - 1) = ((kept.length - 1 : Nat) : Int) := wrap_pred hkp (Nat.le_trans hkl (by decide))
          simp only [hwp, Int.toNat_natCast, map_dropLast]
          have h1 : (0 : Int) ≤ ((kept.length - 1 : Nat) : Int) := by omega
          have h2 : ((kept.length - 1 : Nat) : Int) ≤ (kept.length : Int) := by omega
          refine ev_pos (by simp) (ev_pos h1 (ev_pos h2 ?_))
          simpa [stepP, hk] using ih
    · refine ev_neg (by decide) (ev_neg (by decide) ?_)
      simpa [stepP] using ih
  simp only [str_toList]
  by_cases ha : p = [97]
  · exact ev_pos ha (fin _ (by simp [ha]))
  · exact ev_neg ha (fin _ (by simp [ha]))
theorem pick (zs : List Int) (n i : Nat) (hi : i < zs.length) (kept : List ByteArray) (ok : Bool) (s : ByteArray)
    (next : ∀ p ∈ five, (i = 0 → p ≠ []) → Ev (fun k => cruciblelaw2_PathPieces.j3 k zs s kept ok (n : Int) (i : Int) (str p)) true) :
    Ev (fun k => cruciblelaw2_PathPieces.j1 k zs s kept ok (n : Int) (i : Int)) true := by
  refine Ev.step (fun k => by rw [cruciblelaw2_PathPieces.j1]) ?_
  refine ev_bindc rfl ?_
  refine ev_pos (show (0 : Int) ≤ i by omega) ?_
  refine ev_pos (show (i : Int) < zs.length by omega) ?_
  obtain ⟨j, hj, e⟩ := umod (rd zs i) 5 (by omega) (by omega)
  have e : wrap64 (Int.tmod (IntKind.u64.wrap (rd zs i)) 5) = j := e
  rw [e]
  refine ev_pos (by omega) (ev_pos (by show (j : Int) < 5; omega) ?_)
  obtain ⟨p, hp, hr⟩ : ∃ p ∈ five, rdOf ByteArray.empty [(⟨#[97]⟩ : ByteArray), (⟨#[98]⟩ : ByteArray), (⟨#[46]⟩ : ByteArray), (⟨#[46, 46]⟩ : ByteArray), (⟨#[]⟩ : ByteArray)] (j : Int) = str p := by
    rcases (show j = 0 ∨ j = 1 ∨ j = 2 ∨ j = 3 ∨ j = 4 by omega) with rfl | rfl | rfl | rfl | rfl
    · exact ⟨[97], by decide, rfl⟩
    · exact ⟨[98], by decide, rfl⟩
    · exact ⟨[46], by decide, rfl⟩
    · exact ⟨[46, 46], by decide, rfl⟩
    · exact ⟨[], by decide, rfl⟩
  rw [hr, str_toList]
  by_cases h0 : i = 0
  · refine ev_pos (by omega) ?_
    by_cases hpn : p = []
    · refine Ev.step (fun k => by rw [cruciblelaw2_PathPieces.j2]) (ev_pos (by simp [hpn]) ?_)
      exact next [97] (by decide) (fun _ => by decide)
    · refine Ev.step (fun k => by rw [cruciblelaw2_PathPieces.j2]) (ev_neg (by simp [hpn]) ?_)
      exact next p hp (fun _ => hpn)
  · refine ev_neg (by omega) (Ev.step (fun k => by rw [cruciblelaw2_PathPieces.j2]) (ev_neg (by simp) ?_))
    exact next p hp (fun h => absurd h h0)
theorem five_len {p : List UInt8} (h : p ∈ five) : p.length ≤ 2 := by rcases five_mem h with rfl | rfl | rfl | rfl | rfl <;> decide
theorem step_bulk (ok : Bool) (kept : List (List UInt8)) (p : List UInt8) (hp : p.length ≤ 2) (m : Nat) (h : bulk kept ≤ 10 * m) : bulk (stepP (ok, kept) p).2 ≤ 10 * (m + 1) := by
  have hb0 : bulk [] = 0 := rfl
  have hbd := bulk_dropLast kept
  unfold stepP
  simp only []
  split
  · simp only [bulk_append, bulk_cons, hb0]; omega
  · split
    · split
      · simp only []; omega
      · split <;> simp only [] <;> omega
    · simp only []; omega
theorem snoc_bulk (ps : List (List UInt8)) (p : List UInt8) (hp : p.length ≤ 2) (m : Nat) (h : bulk ps ≤ 10 * m) : bulk (ps ++ [p]) ≤ 10 * (m + 1) := by
  have hb0 : bulk [] = 0 := rfl
  rw [bulk_append, bulk_cons]; omega
theorem snoc_head (ps : List (List UInt8)) (p : List UInt8) (hh : ps.head? ≠ some []) (h0 : ps.length = 0 → p ≠ []) : (ps ++ [p]).head? ≠ some [] := by
  cases ps with
  | nil => simpa using h0 rfl
  | cons q ps => simpa using hh
theorem ev_pieces (zs : List Int) (n : Nat) (hn : n ≤ zs.length) (h6 : n ≤ 6) : ∀ (d i : Nat) (ps : List (List UInt8)) (o : Bool × List (List UInt8)), i + d = n → ps.length = i → (∀ p ∈ ps, p ∈ five) → ps.head? ≠ some [] → Tells ps o → bulk o.2 ≤ 10 * i → bulk ps ≤ 10 * i →
    Ev (fun k => cruciblelaw2_PathPieces.l0 k zs (str (joinS [47] ps)) (o.2.map str) o.1 (n : Int) (i : Int)) true := by
  intro d
  induction d with
  | zero =>
    intro i ps o hi hl h5 hh ht hb hbp
    refine Ev.step (fun k => by rw [cruciblelaw2_PathPieces.l0]) (ev_neg (by omega) ?_)
    have := ev_pieces_end ps o h5 hh ht (by omega) o.2 [] rfl
    exact this
  | succ d ih =>
    intro i ps o hi hl h5 hh ht hb hbp
    obtain ⟨ok, kept⟩ := o
    simp only [] at hb ⊢
    have hkl := Nat.le_trans (bulk_len kept) hb
    have next : ∀ p ∈ five, (i = 0 → p ≠ []) → ∀ s : ByteArray, s ++ str p = str (joinS [47] (ps ++ [p])) →
        Ev (fun k => cruciblelaw2_PathPieces.j3 k zs s (kept.map str) ok (n : Int) (i : Int) (str p)) true := by
      intro p hp h0 s hs
      have hpl := five_len hp
      have hsb := snoc_bulk ps p hpl i hbp
      refine behind zs n i (by omega) kept ok (by omega) p hp s _ (Nat.le_trans (joinS_bulk 47 _) (by omega)) hs ?_
      refine ih (i + 1) (ps ++ [p]) (stepP (ok, kept) p) (by omega) (by simp [hl]) (fun q hq => ?_) (snoc_head ps p hh (fun h => h0 (by omega))) (ht.step hp) (step_bulk ok kept p hpl i hb) hsb
      rcases List.mem_append.1 hq with hq | hq
      · exact h5 q hq
      · rw [List.mem_singleton.1 hq]; exact hp
    have hL : (joinS [47] ps).length ≤ 1000 := Nat.le_trans (joinS_bulk 47 _) (by omega)
    refine Ev.step (fun k => by rw [cruciblelaw2_PathPieces.l0]) (ev_pos (by omega) ?_)
    by_cases h0 : i = 0
    · have hps : ps = [] := List.length_eq_zero_iff.1 (by omega)
      refine ev_neg (by omega) (pick zs n i (by omega) _ ok _ fun p hp hp0 => next p hp hp0 _ ?_)
      subst hps
      rw [str_append]; simp [joinS]
    · have hps : ps ≠ [] := fun e => h0 (by rw [e] at hl; simpa using hl.symm)
      have hz : (str (joinS [47] ps)).size + 1 ≤ 9223372036854775807 := by
        rw [str_size]; exact Nat.le_trans (Nat.add_le_add_right hL 1) (by decide)
      refine ev_pos (by omega) (ev_pos hz (pick zs n i (by omega) _ ok _ fun p hp hp0 => next p hp hp0 _ ?_))
      rw [joinS_snoc [47] ps p hps, show (⟨#[47]⟩ : ByteArray) = str [47] from rfl, str_append, str_append]

theorem PathPieces (zs : List Int) (_ : ∀ x ∈ zs, (Lit.int .i64 x).wf = true) : ∃ k, cruciblelaw2_PathPieces.f k zs = some true := by
  refine Ev.rounds ?_
  refine Ev.congr (fun k => by rw [cruciblelaw2_PathPieces.f]) (ev_bind ev_awake2 (ev_pos rfl ?_))
  obtain ⟨n, hn, e⟩ : ∃ n : Nat, (n ≤ zs.length ∧ n ≤ 6) ∧ mn (zs.length : Int) 6 = n := ⟨min zs.length 6, by omega, by unfold mn; split <;> omega⟩
  rw [e]
  have := ev_pieces zs n hn.1 hn.2 n 0 [] (true, []) (by omega) rfl (fun p hp => by cases hp) (by simp) rfl (by simp [bulk]) (by simp [bulk])
  exact this
end Go.Proofs.YtncbloieejeifaaDoor.Spec
