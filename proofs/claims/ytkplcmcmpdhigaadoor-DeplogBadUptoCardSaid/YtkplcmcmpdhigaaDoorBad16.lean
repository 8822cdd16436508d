/- Chapter 16: the law DeplogBad without the program. -/
import Derived.Test.YtkplcmcmpdhigaaDoorDepsMay
import Derived.Test.YtkplcmcmpdhigaaDoorP24
namespace Go.Proofs.YtkplcmcmpdhigaaDoor.Spec
open Go.RowKit Go.Proofs.YtkplcmcmpdhigaaDoorW.PrintWords Go.Proofs.YtkplcmcmpdhigaaDoorW.PrintMore Go.Proofs.YtkplcmcmpdhigaaDoor.P

/-- nothing is loaded of what begins so -/
def badL : List (List UInt8) := [[0, 0], [1, 0, 120], [255, 255], [7, 0, 1, 97, 0, 0, 0, 0, 0], [8, 0, 1, 97, 1, 0, 0, 0, 0, 120]]
theorem getF_len {t : List UInt8} (h : (getF (str t)).2.2.2 = 0) : sizeL t = t.length ∧ t.length ≤ 160 := by
  obtain ⟨hm, ht⟩ := gF_is h
  have h1 := sizeL_tx hm []
  rw [List.append_nil, ht] at h1
  have h2 := (txF_len hm).2
  rw [ht] at h2
  exact ⟨h1, h2⟩
theorem bad_short (y : List UInt8) (hz : sizeL y = y.length) (h2 : 2 ≤ y.length) (he : (getL y).2.2.2 ≠ 0) (n : Nat) (B : List UInt8) : loadD n (y ++ B) = [] := by
  cases n with
  | zero => rfl
  | succ n =>
    have hs : sizeL (y ++ B) = y.length := by
      have : tN 2 (y ++ B) = tN 2 y := by rw [tN, tN, List.take_append_of_le_length h2]
      rw [sizeL, this, ← sizeL, hz]
    have hc : cutL (y ++ B) = y.length := by rw [cutL, hs, List.length_append]; omega
    rw [loadD]
    split
    · rfl
    · rw [hc, List.take_left' rfl, getF_eval, if_neg he]
theorem tN_ff (l : List UInt8) : tN 2 (255 :: 255 :: l) = 65535 := by simp [tN, unlow]
theorem sizeL_ff (l : List UInt8) : sizeL (255 :: 255 :: l) = 65537 := by rw [sizeL, tN_ff]
theorem bad_long (n : Nat) (B : List UInt8) : loadD n ([255, 255] ++ B) = [] := by
  cases n with
  | zero => rfl
  | succ n =>
    rw [loadD]
    split
    · rfl
    · rw [if_neg ?_]
      intro h
      obtain ⟨h1, h2⟩ := getF_len h
      have hs : sizeL ([255, 255] ++ B) = 65537 := sizeL_ff B
      have ht : 2 ≤ ((([255, 255] : List UInt8) ++ B).take (cutL ([255, 255] ++ B))).length := by
        rw [List.length_take, cutL, hs, List.length_append]; simp; omega
      have hs2 : sizeL ((([255, 255] : List UInt8) ++ B).take (cutL ([255, 255] ++ B))) = 65537 := by
        have hc : 2 ≤ cutL ([255, 255] ++ B) := by rw [cutL, hs, List.length_append]; simp; omega
        obtain ⟨c, hc'⟩ : ∃ c, cutL ([255, 255] ++ B) = c + 2 := ⟨cutL ([255, 255] ++ B) - 2, by omega⟩
        rw [hc']
        exact sizeL_ff (B.take c)
      omega
theorem bad_none (j : Nat) (hj : j < 5) (n : Nat) (B : List UInt8) : loadD n (badL.getD j [] ++ B) = [] := by
  rcases (show j = 0 ∨ j = 1 ∨ j = 2 ∨ j = 3 ∨ j = 4 by omega) with rfl | rfl | rfl | rfl | rfl
  · exact bad_short [0, 0] (by decide +kernel) (by decide) (by decide +kernel) n B
  · exact bad_short [1, 0, 120] (by decide +kernel) (by decide) (by decide +kernel) n B
  · exact bad_long n B
  · exact bad_short [7, 0, 1, 97, 0, 0, 0, 0, 0] (by decide +kernel) (by decide) (by decide +kernel) n B
  · exact bad_short [8, 0, 1, 97, 1, 0, 0, 0, 0, 120] (by decide +kernel) (by decide) (by decide +kernel) n B
theorem DeplogBad (fs : List (P.S41)) (n m : Int)
    (hb : (fs.map fun x : P.S41 => (x.f0.size + 1) + 1 + ((x.f2.map fun s => s.size + 1).sum + 1)).sum + 1 + 1 + 1 ≤ 1048576)
    (_ : ∀ x ∈ fs, x.f0.size ≤ maxLen ∧ (Lit.int .i64 x.f1).wf = true ∧ ∀ s ∈ x.f2, s.size ≤ maxLen) (_ : (Lit.int .i64 n).wf = true) (_ : (Lit.int .i64 m).wf = true) : ∃ k, cruciblelaw16_DeplogBad.f k fs n m = some true := by
  have hsm := smallFd (fs := fs) (by omega)
  have hlen := fd_len fs
  have hi : ∀ x ∈ fs, x.f2.length ≤ 4611686018427387904 := fun x hx => (hsm x hx).many
  refine Ev.rounds (Ev.congr (fun k => by rw [cruciblelaw16_DeplogBad.f]) (ev_bindc (show cruciblelaw16_awake.f = some true from rfl) (ev_pos rfl (ev_bind (ev_May16 fs hi) ?_))))
  cases hm : mayFs fs with
  | false =>
    refine ev_neg (by simp) (Ev.step (fun k => by rw [cruciblelaw16_DeplogBad.j0]) (ev_pos rfl (ev_bind (ev_DepsMay fs (by omega) hsm) ?_)))
    rw [hm]
    exact ev_neg (by simp) (Ev.now _)
  | true =>
    obtain ⟨g1, g2⟩ := mayFs_all hm
    refine ev_pos rfl (Ev.step (fun k => by rw [cruciblelaw16_DeplogBad.j0]) ?_)
    by_cases h20 : fs.length > 20
    · refine ev_pos (by simp; omega) (ev_bind (ev_DepsMay fs (by omega) hsm) ?_)
      rw [hm]
      exact ev_pos rfl (ev_const (by simp; omega))
    · have hw : IntKind.u64.wrap (wrap64 ((fs.length : Int) + 1)) = ((fs.length + 1 : Nat) : Int) := by
        rw [wrap_id (by omega) (by omega), u64_wrap]; omega
      obtain ⟨i, hi1, hi2⟩ := umod n (fs.length + 1) (by omega) (by omega)
      obtain ⟨j, hj1, hj2⟩ := umod m 5 (by decide) (by decide)
      have hj3 : wrap64 (Int.tmod (IntKind.u64.wrap m) 5) = (j : Int) := hj2
      have hA : mayFs (fs.take i) = true := mayFs_of (by rw [List.length_take]; omega) (fun f hf => g2 f (List.mem_of_mem_take hf))
      have hB : mayFs (fs.drop i) = true := mayFs_of (by rw [List.length_drop]; omega) (fun f hf => g2 f (List.mem_of_mem_drop hf))
      have hsA : ∀ x ∈ fs.take i, x.f2.length ≤ 4611686018427387904 := fun x hx => hi x (List.mem_of_mem_take hx)
      have hsB : ∀ x ∈ fs.drop i, x.f2.length ≤ 4611686018427387904 := fun x hx => hi x (List.mem_of_mem_drop hx)
      have lA := fsText_len _ (mayFs_all hA).2
      have lB := fsText_len _ (mayFs_all hB).2
      rw [List.length_take] at lA
      rw [List.length_drop] at lB
      have hpick : rdOf ByteArray.empty [(⟨#[0, 0]⟩ : ByteArray), (⟨#[1, 0, 120]⟩ : ByteArray), (⟨#[255, 255]⟩ : ByteArray), (⟨#[7, 0, 1, 97, 0, 0, 0, 0, 0]⟩ : ByteArray), (⟨#[8, 0, 1, 97, 1, 0, 0, 0, 0, 120]⟩ : ByteArray)] (j : Int) = str (badL.getD j []) := by
        rcases (show j = 0 ∨ j = 1 ∨ j = 2 ∨ j = 3 ∨ j = 4 by omega) with rfl | rfl | rfl | rfl | rfl <;> rfl
      have hyl : (badL.getD j []).length ≤ 10 := by
        rcases (show j = 0 ∨ j = 1 ∨ j = 2 ∨ j = 3 ∨ j = 4 by omega) with rfl | rfl | rfl | rfl | rfl <;> decide
      have hnone := bad_none j hj1
      obtain ⟨y, hy⟩ : ∃ y, badL.getD j [] = y := ⟨_, rfl⟩
      rw [hy] at hpick hyl hnone
      refine ev_neg (by simp; omega) ?_
      simp only [hw, hi2, hj3, Int.toNat_natCast]
      refine ev_neg (by omega) (ev_pos (by omega) (ev_pos (by omega) (ev_bind (ev_Text16 _ hsA) (ev_bind (ev_Text16 _ hsB) ?_))))
      rw [textF, if_pos hA, textF, if_pos hB]
      refine ev_bindc rfl (ev_pos (by omega) (ev_pos (show (j : Int) < 5 by omega) ?_))
      rw [hpick]
      have z1 : (str (fsText (fs.take i))).size = (fsText (fs.take i)).length := str_size _
      have z2 : (str y).size = y.length := str_size _
      have z3 : (str (fsText (fs.take i)) ++ str y).size = (fsText (fs.take i)).length + y.length := by rw [append_size, z1, z2]
      have z4 : (str (fsText (fs.drop i))).size = (fsText (fs.drop i)).length := str_size _
      refine ev_pos (show (str (fsText (fs.take i))).size + (str y).size ≤ 9223372036854775807 by omega) (ev_pos (show (str (fsText (fs.take i)) ++ str y).size + (str (fsText (fs.drop i))).size ≤ 9223372036854775807 by omega) (ev_bindc rfl (ev_pos rfl (ev_bindc rfl (ev_pos rfl (ev_bind (ev_Load _) ?_))))))
      rw [str_append, str_append, str_data, List.append_assoc, load_put _ 256 _ (mayFs_all hA).2 (mayFs_all hA).1, hnone, List.append_nil]
      exact ev_bind (ev_SameFounds _ _ (by rw [List.length_take]; omega) hsA) (ev_const (by simp))
end Go.Proofs.YtkplcmcmpdhigaaDoor.Spec
