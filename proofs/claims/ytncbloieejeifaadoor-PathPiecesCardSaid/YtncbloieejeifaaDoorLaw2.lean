/- Chapter 2: the laws Paths, PathForms, PathDots without the program: what the printed functions compute answers true. -/
import Derived.Test.YtncbloieejeifaaDoorClean
import Derived.Test.YtncbloieejeifaaDoorP8
import Derived.Test.YtncbloieejeifaaDoorP10
import Derived.Test.YtncbloieejeifaaDoorP4
namespace Go.Proofs.YtncbloieejeifaaDoor.Spec
open Go.RowKit Go.Proofs.YtncbloieejeifaaDoorW.PrintWords Go.Proofs.YtncbloieejeifaaDoor.P

theorem ev_awake2 : Ev (fun k => cruciblelaw2_awake.f k) true := by
  refine Ev.congr (fun k => by rw [cruciblelaw2_awake.f]) ?_
  refine ev_bind (ev_Clean _) (ev_bind (ev_Clean _) (ev_bind (ev_Clean _) (ev_bind (ev_Clean _) ?_)))
  simp only [toList_data]
  exact ev_const (by decide +kernel)

theorem cleanR_again {l : List UInt8} : (cleanR (clean l)).2 = 0 → cleanR (clean (cleanR (clean l)).1.data.toList) = cleanR (clean l) := by
  intro h
  cases hc : clean l with
  | none => rw [hc] at h; cases h
  | some m =>
    have := clean_again hc
    simp only [cleanR, str_data, this]

theorem Paths : cruciblelaw2_Paths.Pure := by
  intro s hs
  refine Ev.rounds ?_
  refine Ev.congr (fun k => by rw [cruciblelaw2_Paths.f]) ?_
  refine ev_bind (ev_Clean s) (ev_bind (ev_CleanPath s (by omega)) (ev_pos rfl (ev_bindc rfl ?_)))
  rw [show ((cleanR (clean s.data.toList)).2 != (cleanR (clean s.data.toList)).2) = false by simp]
  refine Ev.step (fun k => by rw [cruciblelaw2_Paths.j0]) (ev_neg (by simp) (ev_bind (ev_Clean _) (ev_bindc rfl ?_)))
  refine ev_split (fun h => ?_) (fun _ => ev_bind ev_awake2 (Ev.now _))
  rw [cleanR_again h]
  exact ev_pos rfl (ev_bindc rfl (ev_pos h (ev_bind ev_awake2 (Ev.now _))))

theorem PathForms : cruciblelaw2_PathForms.Pure := by
  intro n hn
  refine Ev.rounds ?_
  refine Ev.congr (fun k => by rw [cruciblelaw2_PathForms.f]) ?_
  refine ev_bind ev_awake2 (ev_pos rfl (ev_bindc rfl ?_))
  obtain ⟨m, hm⟩ := bits15 n
  rw [hm]
  refine ev_pos (by omega) (ev_pos (by have := m.isLt; show (m.val : Int) < (16 : Int); omega) (ev_bind (ev_Clean _) ?_))
  simp only [toList_data]
  clear hm hn n
  exact ev_const (by revert m; decide +kernel)

theorem clean_dot {r : List (List UInt8)} (hr : r ≠ []) (hg : ∀ p ∈ r, Good p) : (split 47 (joinS [47] r)).foldl stepC (some []) = some r := by
  rw [split_join 47 r hr (fun p hp => (hg p hp).2.2.2)]
  simpa using fold_keeps r [] hg

theorem dots (l m : List UInt8) (h : clean l = some m) (hl : m.length ≤ 9) (i : Nat) (hi : i < 6) :
    clean ([[46, 47] ++ m, m ++ [47, 46], m ++ [47], [120, 47, 46, 46, 47] ++ m, m ++ [47, 120, 47, 46, 46], m ++ [47, 47, 46]].getD i []) = some m := by
  obtain ⟨r, hr, hg, rfl, _, hn, hh, _⟩ := clean_some h
  have hs := split_join 47 r hr (fun p hp => (hg p hp).2.2.2)
  have hk : ∀ kept, r.foldl stepC (some kept) = some (kept ++ r) := fun kept => fold_keeps r kept hg
  have hall : (joinS [47] r).all (fun b => nameByte b.toNat) = true := by
    simp only [nameMay, Bool.and_eq_true] at hn
    exact hn.1.1
  have h1 := nameMay_len hn
  have hh2 : ∀ v, (joinS [47] r ++ v).head? ≠ some 47 := by
    intro v
    cases hj : joinS [47] r with
    | nil => rw [hj] at h1; simp at h1
    | cons b x => rw [hj] at hh; simpa using hh
  have may : ∀ u v : List UInt8, (u.all fun b => nameByte b.toNat) = true → (v.all fun b => nameByte b.toNat) = true → u.length + v.length ≤ 7 → nameMay (u ++ joinS [47] r ++ v) = true := by
    intro u v hu hv hz
    simp only [nameMay, List.all_append, hu, hv, hall, Bool.true_and, Bool.and_eq_true, decide_eq_true_eq, List.length_append]
    omega
  rcases (show i = 0 ∨ i = 1 ∨ i = 2 ∨ i = 3 ∨ i = 4 ∨ i = 5 by omega) with rfl | rfl | rfl | rfl | rfl | rfl
  · refine clean_of hr (ps := [46] :: r) ?_ (by simpa [stepC] using hk []) (by simpa using may [46, 47] [] rfl rfl (by simp)) (by simp)
    show split 47 ([46] ++ 47 :: joinS [47] r) = _
    rw [split_append, hs]; rfl
  · refine clean_of hr (ps := r ++ [[46]]) ?_ (by rw [List.foldl_append, hk]; simp [stepC]) (by simpa using may [] [47, 46] rfl rfl (by simp)) (hh2 _)
    show split 47 (joinS [47] r ++ 47 :: [46]) = _
    rw [split_append, hs]; rfl
  · refine clean_of hr (ps := r ++ [[]]) ?_ (by rw [List.foldl_append, hk]; simp [stepC]) (by simpa using may [] [47] rfl rfl (by simp)) (hh2 _)
    show split 47 (joinS [47] r ++ 47 :: []) = _
    rw [split_append, hs]; rfl
  · refine clean_of hr (ps := [120] :: [46, 46] :: r) ?_ (by simpa [stepC] using hk []) (by simpa using may [120, 47, 46, 46, 47] [] rfl rfl (by simp)) (by simp)
    show split 47 ([120] ++ 47 :: ([46, 46] ++ 47 :: joinS [47] r)) = _
    rw [split_append, split_append, hs]; rfl
  · refine clean_of hr (ps := r ++ [[120], [46, 46]]) ?_ (by rw [List.foldl_append, hk]; simp [stepC]) (by simpa using may [] [47, 120, 47, 46, 46] rfl rfl (by simp)) (hh2 _)
    show split 47 (joinS [47] r ++ 47 :: [120, 47, 46, 46]) = _
    rw [split_append, hs]; rfl
  · refine clean_of hr (ps := r ++ [[], [46]]) ?_ (by rw [List.foldl_append, hk]; simp [stepC]) (by simpa using may [] [47, 47, 46] rfl rfl (by simp)) (hh2 _)
    show split 47 (joinS [47] r ++ 47 :: [47, 46]) = _
    rw [split_append, hs]; rfl

theorem PathDots : cruciblelaw2_PathDots.Pure := by
  intro s n hs hn
  refine Ev.rounds ?_
  refine Ev.congr (fun k => by rw [cruciblelaw2_PathDots.f]) ?_
  refine ev_bind ev_awake2 (ev_pos rfl (ev_bind (ev_Clean s) (ev_bindc rfl ?_)))
  cases hc : clean s.data.toList with
  | none =>
    refine ev_neg (by simp [cleanR]) (Ev.step (fun k => by rw [cruciblelaw2_PathDots.j0]) (ev_pos rfl ?_))
    simp only [toList_data]
    exact ev_pos rfl (Ev.now _)
  | some m =>
    refine ev_pos rfl ?_
    show Ev (fun k => cruciblelaw2_PathDots.j0 k n (str m) (decide (((str m).size : Int) > 9))) true
    by_cases h9 : m.length > 9
    · have hd : decide (((str m).size : Int) > 9) = true := by rw [str_size]; simp; omega
      rw [hd]
      refine Ev.step (fun k => by rw [cruciblelaw2_PathDots.j0]) (ev_pos rfl ?_)
      rw [hd]
      exact ev_split (fun _ => Ev.now _) (fun _ => Ev.now _)
    · have hd : decide (((str m).size : Int) > 9) = false := by rw [str_size]; simp; omega
      rw [hd]
      have hz := str_size m
      refine Ev.step (fun k => by rw [cruciblelaw2_PathDots.j0]) (ev_neg (by simp) (ev_pos (by omega) (ev_pos (by omega) (ev_pos (by omega) (ev_pos (by omega) (ev_pos (by omega) (ev_pos (by omega) (ev_bindc rfl ?_))))))))
      obtain ⟨i, hi, e⟩ := umod n 6 (by omega) (by omega)
      have e : wrap64 (Int.tmod (IntKind.u64.wrap n) 6) = i := e
      rw [e]
      refine ev_pos (by omega) (ev_pos (by show (i : Int) < 6; omega) ?_)
      have hr : ∃ x : ByteArray, rdOf ByteArray.empty [(⟨#[46, 47]⟩ : ByteArray) ++ str m, str m ++ (⟨#[47, 46]⟩ : ByteArray), str m ++ (⟨#[47]⟩ : ByteArray), (⟨#[120, 47, 46, 46, 47]⟩ : ByteArray) ++ str m, str m ++ (⟨#[47, 120, 47, 46, 46]⟩ : ByteArray), str m ++ (⟨#[47, 47, 46]⟩ : ByteArray)] (i : Int) = x ∧ clean x.data.toList = some m := by
        have hdots := dots _ m hc (by omega) i hi
        refine ⟨_, rfl, ?_⟩
        rw [← hdots]
        congr 1
        rcases (show i = 0 ∨ i = 1 ∨ i = 2 ∨ i = 3 ∨ i = 4 ∨ i = 5 by omega) with rfl | rfl | rfl | rfl | rfl | rfl <;> simp [rdOf, str_data]
      obtain ⟨x, hx, hcx⟩ := hr
      rw [hx]
      refine ev_bind (ev_Clean x) ?_
      rw [hcx]
      exact ev_pos rfl (ev_bindc rfl (Ev.now _))
end Go.Proofs.YtncbloieejeifaaDoor.Spec
