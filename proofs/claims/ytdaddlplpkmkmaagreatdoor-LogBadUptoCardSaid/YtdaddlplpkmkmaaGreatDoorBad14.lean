/- Chapter 14: the law LogBad without the program. -/
import Derived.Test.YtdaddlplpkmkmaaGreatDoorMg2
import Derived.Test.YtdaddlplpkmkmaaGreatDoorP28
namespace Go.Proofs.YtdaddlplpkmkmaaGreatDoor.Spec
open Go.RowKit Go.Proofs.YtdaddlplpkmkmaaGreatDoorW.PrintWords Go.Proofs.YtdaddlplpkmkmaaGreatDoorW.PrintMore Go.Proofs.YtdaddlplpkmkmaaGreatDoor.P

/-- nothing is loaded of what begins so; the last one is told where the text ends, or is followed by a line -/
def badL : List (List UInt8) := [[10], [120, 10], [97, 9, 48, 9, 120, 10], [0, 10], [97, 9, 49, 9, 120, 9, 10], [63]]
theorem bad_line (b : List UInt8) (hn : (10 : UInt8) ∉ b) (he : (getR (str (b ++ [10]))).2.2.2 ≠ 0) (n : Nat) (B : List UInt8) : loadD n (b ++ [10] ++ B) = [] := by
  cases n with
  | zero => rfl
  | succ n =>
    have e : cutAt 10 (b ++ [10] ++ B) = (b, B) := by rw [List.append_assoc, List.singleton_append]; exact cutAt_hit 10 b B hn
    have e2 : lineOf (b ++ [10] ++ B) = b ++ [10] := by rw [lineOf, e]
    rw [loadD, if_neg (fun hc => he (by rw [← e2]; exact hc.2))]
theorem getR_why {s : ByteArray} (h : (getR s).2.2.2 = 0) : ∃ o t g, MayR o t g ∧ s.data.toList = txR o t g := by
  obtain ⟨o, t, g, -, hm, hs⟩ := get_ok h
  exact ⟨o, t, g, mayR_is hm, by rw [hs, str_data]⟩
/-- what begins with a question mark is no line -/
theorem bad_mark (l : List UInt8) : (getR (str (63 :: l))).2.2.2 ≠ 0 := fun h => by
  obtain ⟨o, t, g, hm, hs⟩ := getR_why h
  rw [str_data, txR, lineL] at hs
  have hp := isP_no hm.path 63 (by decide)
  cases ho : o.data.toList with
  | nil => rw [ho] at hs; exact absurd (List.cons.inj hs).1 (by decide)
  | cons c r =>
    rw [ho] at hs hp
    rw [List.cons_append] at hs
    exact hp (by rw [← (List.cons.inj hs).1]; exact List.mem_cons_self)
theorem bad_none (j : Nat) (hj : j < 6) (n : Nat) (B : List UInt8) : loadD n (badL.getD j [] ++ B) = [] := by
  rcases (show j = 0 ∨ j = 1 ∨ j = 2 ∨ j = 3 ∨ j = 4 ∨ j = 5 by omega) with rfl | rfl | rfl | rfl | rfl | rfl
  · exact bad_line [] (by decide) (by decide +kernel) n B
  · exact bad_line [120] (by decide) (by decide +kernel) n B
  · exact bad_line [97, 9, 48, 9, 120] (by decide) (by decide +kernel) n B
  · exact bad_line [0] (by decide) (by decide +kernel) n B
  · exact bad_line [97, 9, 49, 9, 120, 9] (by decide) (by decide +kernel) n B
  · cases n with
    | zero => rfl
    | succ n =>
      rw [loadD, if_neg ?_]
      rintro ⟨hm, hg⟩
      have e : lineOf ([63] ++ B) = 63 :: (lineOf B) := by
        unfold lineOf
        rw [List.singleton_append, cutAt, if_neg (by decide)]
        rfl
      rw [show badL.getD 5 [] = [63] from rfl, e] at hg
      exact bad_mark _ hg
theorem LogBad (fs : List (P.S31)) (n m : Int)
    (hb : (fs.map fun x : P.S31 => (x.f0.size + 1) + 1 + (x.f2.size + 1)).sum + 1 + 1 + 1 ≤ 1048576)
    (_ : ∀ x ∈ fs, x.f0.size ≤ maxLen ∧ (Lit.int .i64 x.f1).wf = true ∧ x.f2.size ≤ maxLen) (_ : (Lit.int .i64 n).wf = true) (_ : (Lit.int .i64 m).wf = true) : ∃ k, cruciblelaw14_LogBad.f k fs n m = some true := by
  have hsm := smallFd (fs := fs) (by omega)
  have hlen := fd_len fs
  have hi : ∀ x ∈ fs, x.f2.size ≤ 4611686018427387904 := fun x hx => (hsm x hx).many
  refine Ev.rounds (Ev.congr (fun k => by rw [cruciblelaw14_LogBad.f]) (ev_bindc (show cruciblelaw14_awake.f = some true from rfl) (ev_pos rfl (ev_bind (ev_May14 fs hi) ?_))))
  cases hm : mayFs fs with
  | false =>
    refine ev_neg (by simp) (Ev.step (fun k => by rw [cruciblelaw14_LogBad.j0]) (ev_pos rfl (ev_bind (ev_LogMay fs (by omega) hsm) ?_)))
    rw [hm]
    exact ev_neg (by simp) (Ev.now _)
  | true =>
    obtain ⟨g1, g2⟩ := mayFs_all hm
    refine ev_pos rfl (Ev.step (fun k => by rw [cruciblelaw14_LogBad.j0]) ?_)
    by_cases h20 : fs.length > 20
    · refine ev_pos (by simp; omega) (ev_bind (ev_LogMay fs (by omega) hsm) ?_)
      rw [hm]
      exact ev_pos rfl (ev_const (by simp; omega))
    · have hw : IntKind.u64.wrap (wrap64 ((fs.length : Int) + 1)) = ((fs.length + 1 : Nat) : Int) := by
        rw [wrap_id (by omega) (by omega), u64_wrap]; omega
      obtain ⟨i, hi1, hi2⟩ := umod n (fs.length + 1) (by omega) (by omega)
      obtain ⟨j, hj1, hj2⟩ := umod m 6 (by decide) (by decide)
      have hj3 : wrap64 (Int.tmod (IntKind.u64.wrap m) 6) = (j : Int) := hj2
      have hA : mayFs (fs.take i) = true := mayFs_of (by rw [List.length_take]; omega) (fun f hf => g2 f (List.mem_of_mem_take hf))
      have hB : mayFs (fs.drop i) = true := mayFs_of (by rw [List.length_drop]; omega) (fun f hf => g2 f (List.mem_of_mem_drop hf))
      have hsA : ∀ x ∈ fs.take i, x.f2.size ≤ 4611686018427387904 := fun x hx => hi x (List.mem_of_mem_take hx)
      have hsB : ∀ x ∈ fs.drop i, x.f2.size ≤ 4611686018427387904 := fun x hx => hi x (List.mem_of_mem_drop hx)
      have lA := fsText_len _ (mayFs_all hA).2
      have lB := fsText_len _ (mayFs_all hB).2
      rw [List.length_take] at lA
      rw [List.length_drop] at lB
      have hpick : rdOf ByteArray.empty [(⟨#[10]⟩ : ByteArray), (⟨#[120, 10]⟩ : ByteArray), (⟨#[97, 9, 48, 9, 120, 10]⟩ : ByteArray), (⟨#[0, 10]⟩ : ByteArray), (⟨#[97, 9, 49, 9, 120, 9, 10]⟩ : ByteArray), (⟨#[63]⟩ : ByteArray)] (j : Int) = str (badL.getD j []) := by
        rcases (show j = 0 ∨ j = 1 ∨ j = 2 ∨ j = 3 ∨ j = 4 ∨ j = 5 by omega) with rfl | rfl | rfl | rfl | rfl | rfl <;> rfl
      have hyl : (badL.getD j []).length ≤ 10 := by
        rcases (show j = 0 ∨ j = 1 ∨ j = 2 ∨ j = 3 ∨ j = 4 ∨ j = 5 by omega) with rfl | rfl | rfl | rfl | rfl | rfl <;> decide
      have hnone := bad_none j hj1
      obtain ⟨y, hy⟩ : ∃ y, badL.getD j [] = y := ⟨_, rfl⟩
      rw [hy] at hpick hyl hnone
      refine ev_neg (by simp; omega) ?_
      simp only [hw, hi2, hj3, Int.toNat_natCast]
      refine ev_neg (by omega) (ev_pos (by omega) (ev_pos (by omega) (ev_bind (ev_Text14 _ hsA) (ev_bind (ev_Text14 _ hsB) ?_))))
      rw [textF, if_pos hA, textF, if_pos hB]
      refine ev_bindc rfl (ev_pos (by omega) (ev_pos (show (j : Int) < 6 by omega) ?_))
      rw [hpick]
      have z1 : (str (fsText (fs.take i))).size = (fsText (fs.take i)).length := str_size _
      have z2 : (str y).size = y.length := str_size _
      have z3 : (str (fsText (fs.take i)) ++ str y).size = (fsText (fs.take i)).length + y.length := by rw [append_size, z1, z2]
      have z4 : (str (fsText (fs.drop i))).size = (fsText (fs.drop i)).length := str_size _
      refine ev_pos (show (str (fsText (fs.take i))).size + (str y).size ≤ 9223372036854775807 by omega) (ev_pos (show (str (fsText (fs.take i)) ++ str y).size + (str (fsText (fs.drop i))).size ≤ 9223372036854775807 by omega) (ev_bindc rfl (ev_pos rfl (ev_bindc rfl (ev_pos rfl (ev_bind (ev_Load _ ?_) ?_))))))
      · rw [append_size, z3, z4]; omega
      rw [str_append, str_append, str_data, List.append_assoc, load_put _ 256 _ (mayFs_all hA).2 (mayFs_all hA).1, hnone, List.append_nil]
      exact ev_bind (ev_SameRecords _ _ (by rw [List.length_take]; omega)) (ev_const (by simp))
end Go.Proofs.YtdaddlplpkmkmaaGreatDoor.Spec
