/- Chapter 13: the law LoglineForms without the program. -/
import Derived.Test.YtdaddlplpkmkmaaDoorAw13
import Derived.Test.YtdaddlplpkmkmaaDoorP16
namespace Go.Proofs.YtdaddlplpkmkmaaDoor.Spec
open Go.RowKit Go.Proofs.YtdaddlplpkmkmaaDoorW.PrintWords Go.Proofs.YtdaddlplpkmkmaaDoorW.PrintMore Go.Proofs.YtdaddlplpkmkmaaDoor.P

def bads (d : Int) : List (P.S23) := [⟨⟨#[]⟩, 1, ⟨#[120]⟩⟩, ⟨⟨#[46, 47, 97]⟩, 1, ⟨#[120]⟩⟩, ⟨⟨#[97]⟩, wrap64 (1 - d), ⟨#[120]⟩⟩, ⟨⟨#[97]⟩, wrap64 (1048576 + d), ⟨#[120]⟩⟩, ⟨⟨#[97]⟩, 1, ⟨#[]⟩⟩, ⟨⟨#[97]⟩, 1, ⟨#[120, 10]⟩⟩, ⟨⟨#[97]⟩, 1, ⟨#[9]⟩⟩, ⟨⟨#[97]⟩, 1, strOfNums (List.replicate (wrap64 (2048 + d)).toNat 0)⟩]
def badTexts : List ByteArray := [⟨#[]⟩, ⟨#[10]⟩, ⟨#[97, 9, 49, 9, 120]⟩, ⟨#[97, 9, 48, 49, 9, 120, 10]⟩, ⟨#[97, 9, 48, 9, 120, 10]⟩, ⟨#[97, 9, 45, 49, 9, 120, 10]⟩, ⟨#[97, 9, 49, 9, 10]⟩, ⟨#[97, 9, 49, 9, 120, 9, 121, 10]⟩, ⟨#[97, 9, 49, 9, 120, 10, 10]⟩, ⟨#[97, 9, 49, 9, 120, 10, 98]⟩, ⟨#[46, 47, 97, 9, 49, 9, 120, 10]⟩, ⟨#[97, 9, 49, 48, 52, 56, 53, 55, 55, 9, 120, 10]⟩, ⟨#[97, 9, 57, 57, 57, 57, 57, 57, 57, 57, 57, 57, 57, 57, 57, 57, 57, 57, 57, 57, 57, 57, 9, 120, 10]⟩, ⟨#[97, 32, 49, 32, 120, 10]⟩, ⟨#[97, 9, 49, 32, 9, 120, 10]⟩, ⟨#[97, 9, 9, 120, 10]⟩]
theorem nums_size (l : List Int) : (strOfNums l).size = l.length := by
  rw [← size_data, strOfNums_data, List.length_map]
theorem may_time {o g : ByteArray} {t : Int} (h : ¬ (1 ≤ t ∧ t ≤ 1048576)) : mayR o t g = false := by
  unfold mayR
  have : (decide (1 ≤ t) && decide (t ≤ 1048576)) = false := by
    rw [Bool.eq_false_iff]
    intro hc
    simp only [Bool.and_eq_true, decide_eq_true_eq] at hc
    exact h hc
  rw [this]
  simp
theorem may_long {o g : ByteArray} {t : Int} (h : ¬ g.size ≤ 2048) : mayR o t g = false := by
  unfold mayR
  have : decide (g.size ≤ 2048) = false := decide_eq_false h
  rw [this]
  simp
theorem bad_rec (d : Nat) (h1 : 1 ≤ d) (h2 : d ≤ 1024) (i : Nat) (hi : i < 8) : mayR (rd_T23 (bads d) (i : Int)).f0 (rd_T23 (bads d) (i : Int)).f1 (rd_T23 (bads d) (i : Int)).f2 = false ∧ (rd_T23 (bads d) (i : Int)).f2.size ≤ 10000 := by
  have w1 : wrap64 (1 - (d : Int)) = 1 - d := wrap_id (by omega) (by omega)
  have w2 : wrap64 (1048576 + (d : Int)) = 1048576 + d := wrap_id (by omega) (by omega)
  have w3 : wrap64 (2048 + (d : Int)) = ((2048 + d : Nat) : Int) := by rw [wrap_id (by omega) (by omega)]; omega
  rcases (show i = 0 ∨ i = 1 ∨ i = 2 ∨ i = 3 ∨ i = 4 ∨ i = 5 ∨ i = 6 ∨ i = 7 by omega) with rfl | rfl | rfl | rfl | rfl | rfl | rfl | rfl
  · exact ⟨show mayR ⟨#[]⟩ 1 ⟨#[120]⟩ = false by decide +kernel, show (⟨#[120]⟩ : ByteArray).size ≤ 10000 by decide⟩
  · exact ⟨show mayR ⟨#[46, 47, 97]⟩ 1 ⟨#[120]⟩ = false by decide +kernel, show (⟨#[120]⟩ : ByteArray).size ≤ 10000 by decide⟩
  · exact ⟨show mayR ⟨#[97]⟩ (wrap64 (1 - (d : Int))) ⟨#[120]⟩ = false by rw [w1]; exact may_time (by omega), show (⟨#[120]⟩ : ByteArray).size ≤ 10000 by decide⟩
  · exact ⟨show mayR ⟨#[97]⟩ (wrap64 (1048576 + (d : Int))) ⟨#[120]⟩ = false by rw [w2]; exact may_time (by omega), show (⟨#[120]⟩ : ByteArray).size ≤ 10000 by decide⟩
  · exact ⟨show mayR ⟨#[97]⟩ 1 ⟨#[]⟩ = false by decide +kernel, show (⟨#[]⟩ : ByteArray).size ≤ 10000 by decide⟩
  · exact ⟨show mayR ⟨#[97]⟩ 1 ⟨#[120, 10]⟩ = false by decide +kernel, show (⟨#[120, 10]⟩ : ByteArray).size ≤ 10000 by decide⟩
  · exact ⟨show mayR ⟨#[97]⟩ 1 ⟨#[9]⟩ = false by decide +kernel, show (⟨#[9]⟩ : ByteArray).size ≤ 10000 by decide⟩
  · have hz : (strOfNums (List.replicate (wrap64 (2048 + (d : Int))).toNat 0)).size = 2048 + d := by rw [nums_size, w3, List.length_replicate, Int.toNat_natCast]
    exact ⟨show mayR ⟨#[97]⟩ 1 (strOfNums (List.replicate (wrap64 (2048 + (d : Int))).toNat 0)) = false from may_long (by rw [hz]; omega), show (strOfNums (List.replicate (wrap64 (2048 + (d : Int))).toNat 0)).size ≤ 10000 by rw [hz]; omega⟩
theorem dec1 : Lib.decDigits 1 = [49] := by rw [Lib.decDigits_one (by decide)]; rfl
theorem bad_text (j : Nat) (hj : j < 16) : getR (rdOf ByteArray.empty badTexts (j : Int)) = noR ∧ (rdOf ByteArray.empty badTexts (j : Int)).size ≤ 100 := by
  rcases (show j = 0 ∨ j = 1 ∨ j = 2 ∨ j = 3 ∨ j = 4 ∨ j = 5 ∨ j = 6 ∨ j = 7 ∨ j = 8 ∨ j = 9 ∨ j = 10 ∨ j = 11 ∨ j = 12 ∨ j = 13 ∨ j = 14 ∨ j = 15 by omega) with rfl | rfl | rfl | rfl | rfl | rfl | rfl | rfl | rfl | rfl | rfl | rfl | rfl | rfl | rfl | rfl
  case inr.inr.inl =>
    refine ⟨?_, by decide⟩
    have e : rdOf ByteArray.empty badTexts ((2 : Nat) : Int) = (⟨#[97, 9, 49, 9, 120]⟩ : ByteArray) := rfl
    rw [e]
    apply getR_tx
    have h1 : (str (pO (⟨#[97, 9, 49, 9, 120]⟩ : ByteArray).data.toList)).data.toList = [97] := by decide +kernel
    have h2 : pT (⟨#[97, 9, 49, 9, 120]⟩ : ByteArray).data.toList = 1 := by decide +kernel
    have h3 : (str (pG (⟨#[97, 9, 49, 9, 120]⟩ : ByteArray).data.toList)).data.toList = [120] := by decide +kernel
    unfold txR lineL
    rw [h1, h2, h3, show ((1 : Int).toNat) = 1 from rfl, dec1]
    decide
  case inr.inr.inr.inl =>
    refine ⟨?_, by decide⟩
    have e : rdOf ByteArray.empty badTexts ((3 : Nat) : Int) = (⟨#[97, 9, 48, 49, 9, 120, 10]⟩ : ByteArray) := rfl
    rw [e]
    apply getR_tx
    have h1 : (str (pO (⟨#[97, 9, 48, 49, 9, 120, 10]⟩ : ByteArray).data.toList)).data.toList = [97] := by decide +kernel
    have h2 : pT (⟨#[97, 9, 48, 49, 9, 120, 10]⟩ : ByteArray).data.toList = 1 := by decide +kernel
    have h3 : (str (pG (⟨#[97, 9, 48, 49, 9, 120, 10]⟩ : ByteArray).data.toList)).data.toList = [120] := by decide +kernel
    unfold txR lineL
    rw [h1, h2, h3, show ((1 : Int).toNat) = 1 from rfl, dec1]
    decide
  all_goals exact ⟨getR_may (by decide +kernel), by decide⟩
theorem LoglineForms : cruciblelaw13_LoglineForms.Pure := by
  intro n x _ _
  obtain ⟨d, hd1, hd2, hd⟩ : ∃ d : Nat, 1 ≤ d ∧ d ≤ 1024 ∧ wrap64 (1 + Go.bits .and .i64 x 1023) = (d : Int) := by
    have h := bits_low 10 (by omega) x
    have h' : Go.bits .and .i64 x 1023 = x % 1024 := h
    have h0 : 0 ≤ x % 1024 := Int.emod_nonneg _ (by decide)
    have h1 : x % 1024 < 1024 := Int.emod_lt_of_pos _ (by decide)
    exact ⟨(x % 1024).toNat + 1, by omega, by omega, by rw [h', wrap_id (by omega) (by omega)]; omega⟩
  obtain ⟨i, hi, hi'⟩ : ∃ i : Nat, i < 8 ∧ Go.bits .and .i64 n 7 = (i : Int) := by
    have h := bits_low 3 (by omega) n
    have h' : Go.bits .and .i64 n 7 = n % 8 := h
    exact ⟨(n % 8).toNat, by omega, by rw [h']; omega⟩
  obtain ⟨j, hj⟩ := bits15 (n / 8)
  have w3 : wrap64 (2048 + (d : Int)) = ((2048 + d : Nat) : Int) := by rw [wrap_id (by omega) (by omega)]; omega
  obtain ⟨b1, b2⟩ := bad_rec d hd1 hd2 i hi
  obtain ⟨t1, t2⟩ := bad_text j.val j.isLt
  have eP := ev_LPut (rd_T23 (bads d) (i : Int)).f0 (rd_T23 (bads d) (i : Int)).f1 (rd_T23 (bads d) (i : Int)).f2 (by omega)
  have eG := ev_LGet (rdOf ByteArray.empty badTexts (j.val : Int)) (by omega)
  rw [putR_no b1] at eP
  rw [t1] at eG
  refine Ev.rounds (Ev.congr (fun k => by rw [cruciblelaw13_LoglineForms.f]) (ev_bind ev_awake13 (ev_pos rfl ?_)))
  simp only [hd, hi', hj]
  refine ev_pos (by rw [w3]; omega) (ev_pos (by rw [w3, Int.toNat_natCast]; omega) (ev_bindc rfl (ev_pos (by omega) (ev_pos (show (i : Int) < 8 by omega) (ev_bind eP (ev_bindc rfl (ev_pos (by omega) (ev_pos (show (j.val : Int) < 16 by have := j.isLt; omega) (ev_bind eG ?_)))))))))
  exact ev_const (by decide +kernel)
end Go.Proofs.YtdaddlplpkmkmaaDoor.Spec
