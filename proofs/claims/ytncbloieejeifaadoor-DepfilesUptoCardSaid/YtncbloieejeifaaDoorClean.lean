/- Chapter 2 without the program: a clean path is its own clean path; texts put together are cut where they were put together. -/
import Derived.Test.YtncbloieejeifaaDoorPath
namespace Go.Proofs.YtncbloieejeifaaDoor.Spec

def stepC (o : Option (List (List UInt8))) (p : List UInt8) : Option (List (List UInt8)) := match o with
  | none => none
  | some kept => if p = [] ∨ p = [46] then some kept else if p = [46, 46] then (if kept = [] then none else some kept.dropLast) else some (kept ++ [p])
def endC (o : Option (List (List UInt8))) : Option (List (List UInt8)) := match o with
  | none => none
  | some kept => if kept = [] then none else some kept
theorem stepC_none (ps : List (List UInt8)) : ps.foldl stepC none = none := by
  induction ps with
  | nil => rfl
  | cons p ps ih => exact ih
theorem cleanGo_fold : ∀ (ps kept : List (List UInt8)), cleanGo kept ps = endC (ps.foldl stepC (some kept))
  | [], kept => rfl
  | p :: ps, kept => by
    rw [cleanGo, List.foldl_cons]
    simp only [stepC]
    split
    · exact cleanGo_fold ps kept
    · split
      · split
        · rw [stepC_none]; rfl
        · exact cleanGo_fold ps _
      · exact cleanGo_fold ps _

/-- a piece that stays -/
def Good (p : List UInt8) : Prop := p ≠ [] ∧ p ≠ [46] ∧ p ≠ [46, 46] ∧ 47 ∉ p
theorem fold_good : ∀ (ps kept : List (List UInt8)) (r : List (List UInt8)), ps.foldl stepC (some kept) = some r → (∀ p ∈ kept, Good p) → (∀ p ∈ ps, (47 : UInt8) ∉ p) →
    (∀ p ∈ r, Good p) ∧ bulk r ≤ bulk kept + bulk ps ∧ ∀ p ∈ r, p ∈ kept ∨ p ∈ ps
  | [], kept, r, h, hk, _ => by
    obtain rfl : kept = r := Option.some.inj h
    exact ⟨hk, by simp [bulk], fun p hp => .inl hp⟩
  | p :: ps, kept, r, h, hk, hp => by
    rw [List.foldl_cons] at h
    simp only [stepC] at h
    have hps : ∀ q ∈ ps, (47 : UInt8) ∉ q := fun q hq => hp q (List.mem_cons_of_mem _ hq)
    rw [bulk_cons]
    split at h
    · obtain ⟨h1, h2, h3⟩ := fold_good ps kept r h hk hps
      exact ⟨h1, by omega, fun q hq => (h3 q hq).imp_right (List.mem_cons_of_mem _)⟩
    · rename_i hn
      split at h
      · split at h
        · rw [stepC_none] at h; cases h
        · obtain ⟨h1, h2, h3⟩ := fold_good ps kept.dropLast r h (fun q hq => hk q ((List.dropLast_sublist _).subset hq)) hps
          have := bulk_dropLast kept
          exact ⟨h1, by omega, fun q hq => (h3 q hq).elim (fun h => .inl ((List.dropLast_sublist _).subset h)) (fun h => .inr (List.mem_cons_of_mem _ h))⟩
      · rename_i hd
        have hg : Good p := ⟨fun e => hn (.inl e), fun e => hn (.inr e), hd, hp p List.mem_cons_self⟩
        obtain ⟨h1, h2, h3⟩ := fold_good ps (kept ++ [p]) r h (fun q hq => by
          rcases List.mem_append.1 hq with hq | hq
          · exact hk q hq
          · rw [List.mem_singleton.1 hq]; exact hg) hps
        rw [bulk_append, bulk_cons] at h2
        have hb0 : bulk [] = 0 := rfl
        refine ⟨h1, by omega, fun q hq => ?_⟩
        rcases h3 q hq with h | h
        · rcases List.mem_append.1 h with h | h
          · exact .inl h
          · exact .inr (by rw [List.mem_singleton.1 h]; exact List.mem_cons_self)
        · exact .inr (List.mem_cons_of_mem _ h)
theorem fold_keeps : ∀ (ps kept : List (List UInt8)), (∀ p ∈ ps, Good p) → ps.foldl stepC (some kept) = some (kept ++ ps)
  | [], kept, _ => by simp
  | p :: ps, kept, h => by
    obtain ⟨h1, h2, h3, _⟩ := h p List.mem_cons_self
    rw [List.foldl_cons]
    simp only [stepC]
    rw [if_neg (by simp [h1, h2]), if_neg h3, fold_keeps ps (kept ++ [p]) (fun q hq => h q (List.mem_cons_of_mem _ hq))]
    simp

theorem split_append (c : UInt8) : ∀ u v : List UInt8, split c (u ++ c :: v) = split c u ++ split c v
  | [], v => by simp [split]
  | b :: u, v => by
    rw [List.cons_append, split, split_append c u v, split]
    split
    · rfl
    · cases e : split c u with
      | nil => exact absurd e (split_ne c u)
      | cons x r => simp
theorem joinS_cons2 (sg x y : List UInt8) (r : List (List UInt8)) : joinS sg (x :: y :: r) = x ++ sg ++ joinS sg (y :: r) := by simp [joinS]
theorem split_join (c : UInt8) : ∀ r : List (List UInt8), r ≠ [] → (∀ p ∈ r, c ∉ p) → split c (joinS [c] r) = r
  | [], h, _ => absurd rfl h
  | [x], _, h => by
    have : joinS [c] [x] = x := by simp [joinS]
    rw [this]; exact split_none c x (h x List.mem_cons_self)
  | x :: y :: r, _, h => by
    rw [joinS_cons2, List.append_assoc, List.singleton_append, split_append, split_none c x (h x List.mem_cons_self), split_join c (y :: r) (by simp) (fun p hp => h p (List.mem_cons_of_mem _ hp))]
    rfl
theorem joinS_len (c : UInt8) : ∀ r : List (List UInt8), r ≠ [] → (joinS [c] r).length + 1 = bulk r
  | [], h => absurd rfl h
  | [x], _ => by simp [joinS, bulk]
  | x :: y :: r, _ => by
    rw [joinS_cons2, bulk_cons, ← joinS_len c (y :: r) (by simp)]
    simp; omega
theorem split_mem (c : UInt8) : ∀ (l p : List UInt8), p ∈ split c l → c ∉ p ∧ ∀ b ∈ p, b ∈ l
  | [], p, h => by
    obtain rfl : p = [] := by simpa [split] using h
    exact ⟨by simp, fun b hb => by cases hb⟩
  | a :: l, p, h => by
    rw [split] at h
    split at h
    · rcases List.mem_cons.1 h with rfl | h
      · exact ⟨by simp, fun b hb => by cases hb⟩
      · obtain ⟨h1, h2⟩ := split_mem c l p h
        exact ⟨h1, fun b hb => List.mem_cons_of_mem _ (h2 b hb)⟩
    · rename_i hac
      cases e : split c l with
      | nil => exact absurd e (split_ne c l)
      | cons x r =>
        rw [e] at h
        simp only [List.headD_cons, List.tail_cons] at h
        rcases List.mem_cons.1 h with rfl | h
        · obtain ⟨h1, h2⟩ := split_mem c l x (by rw [e]; exact List.mem_cons_self)
          refine ⟨fun hm => ?_, fun b hb => ?_⟩
          · rcases List.mem_cons.1 hm with rfl | hm
            · exact hac rfl
            · exact h1 hm
          · rcases List.mem_cons.1 hb with rfl | hb
            · exact List.mem_cons_self
            · exact List.mem_cons_of_mem _ (h2 b hb)
        · obtain ⟨h1, h2⟩ := split_mem c l p (by rw [e]; exact List.mem_cons_of_mem _ h)
          exact ⟨h1, fun b hb => List.mem_cons_of_mem _ (h2 b hb)⟩
theorem mem_joinS (sg : List UInt8) (b : UInt8) : ∀ r : List (List UInt8), b ∈ joinS sg r → b ∈ sg ∨ ∃ p ∈ r, b ∈ p
  | [], h => by simp [joinS] at h
  | [x], h => .inr ⟨x, List.mem_cons_self, by simpa [joinS] using h⟩
  | x :: y :: r, h => by
    rw [joinS_cons2] at h
    simp only [List.mem_append] at h
    rcases h with (h | h) | h
    · exact .inr ⟨x, List.mem_cons_self, h⟩
    · exact .inl h
    · rcases mem_joinS sg b (y :: r) h with h | ⟨p, hp, hb⟩
      · exact .inl h
      · exact .inr ⟨p, List.mem_cons_of_mem _ hp, hb⟩

/-- what a clean path is -/
theorem clean_some {l m : List UInt8} (h : clean l = some m) : ∃ r : List (List UInt8), r ≠ [] ∧ (∀ p ∈ r, Good p) ∧ m = joinS [47] r ∧ (split 47 l).foldl stepC (some []) = some r ∧ nameMay m = true ∧ m.head? ≠ some 47 ∧ m.length ≤ l.length := by
  unfold clean at h
  split at h
  · rename_i hc
    obtain ⟨r, hr, rfl⟩ := Option.map_eq_some_iff.1 h
    rw [cleanGo_fold] at hr
    cases hf : (split 47 l).foldl stepC (some []) with
    | none => rw [hf] at hr; cases hr
    | some k =>
      rw [hf] at hr
      simp only [endC] at hr
      split at hr
      · cases hr
      · rename_i hk
        obtain rfl : k = r := Option.some.inj hr
        obtain ⟨h1, h2, h3⟩ := fold_good (split 47 l) [] k hf (fun p hp => by cases hp) (fun p hp => (split_mem 47 l p hp).1)
        have hb0 : bulk [] = 0 := rfl
        have hl := joinS_len 47 k hk
        rw [bulk_split] at h2
        have hnl := nameMay_len hc.1
        refine ⟨k, hk, h1, rfl, rfl, ?_, ?_, by omega⟩
        · have hall : (joinS [47] k).all (fun b => nameByte b.toNat) = true := by
            rw [List.all_eq_true]
            intro b hb
            rcases mem_joinS [47] b k hb with hb | ⟨p, hp, hb⟩
            · rw [List.mem_singleton.1 hb]; rfl
            · rcases h3 p hp with h | h
              · cases h
              · have := (split_mem 47 l p h).2 b hb
                have ha : l.all (fun b => nameByte b.toNat) = true := by
                  have := hc.1
                  simp only [nameMay, Bool.and_eq_true] at this
                  exact this.1.1
                exact List.all_eq_true.1 ha b this
          have hne : 1 ≤ (joinS [47] k).length := by
            cases k with
            | nil => exact absurd rfl hk
            | cons x r =>
              have := (h1 x List.mem_cons_self).1
              have := List.length_pos_iff.2 this
              simp [joinS]; omega
          simp only [nameMay, hall, Bool.true_and, Bool.and_eq_true, decide_eq_true_eq]
          omega
        · cases k with
          | nil => exact absurd rfl hk
          | cons x r =>
            obtain ⟨hx, _, _, h47⟩ := h1 x List.mem_cons_self
            cases x with
            | nil => exact absurd rfl hx
            | cons b x =>
              simp only [joinS, List.cons_append, List.head?_cons]
              intro e
              injection e with e
              exact h47 (by rw [e]; exact List.mem_cons_self)
  · cases h
/-- the pieces of a path are kept -/
theorem clean_of {r : List (List UInt8)} {ps : List (List UInt8)} (hr : r ≠ []) {l : List UInt8} (hs : split 47 l = ps) (hf : ps.foldl stepC (some []) = some r) (hn : nameMay l = true) (hh : l.head? ≠ some 47) : clean l = some (joinS [47] r) := by
  unfold clean
  rw [if_pos ⟨hn, hh⟩, cleanGo_fold, hs, hf]
  simp [endC, hr]
theorem clean_again {l m : List UInt8} (h : clean l = some m) : clean m = some m := by
  obtain ⟨r, hr, hg, rfl, _, hn, hh, _⟩ := clean_some h
  exact clean_of hr (split_join 47 r hr (fun p hp => (hg p hp).2.2.2)) (by simpa using fold_keeps r [] hg) hn hh
end Go.Proofs.YtncbloieejeifaaDoor.Spec
