/- Chapter 14: the law LogForms without the program. -/
import Derived.Test.YtdaddlplpkmkmaaDoorLC14
import Derived.Test.YtdaddlplpkmkmaaDoorP23
namespace Go.Proofs.YtdaddlplpkmkmaaDoor.Spec
open Go.RowKit Go.Proofs.YtdaddlplpkmkmaaDoorW.PrintWords Go.Proofs.YtdaddlplpkmkmaaDoorW.PrintMore Go.Proofs.YtdaddlplpkmkmaaDoor.P

def okR : P.S23 := ⟨⟨#[97]⟩, 1, ⟨#[120]⟩⟩
def bads (d : Int) : List (P.S23) := [⟨⟨#[65]⟩, 1, ⟨#[120]⟩⟩, ⟨⟨#[97]⟩, wrap64 (1 - d), ⟨#[120]⟩⟩, ⟨⟨#[97]⟩, 1, ⟨#[]⟩⟩, ⟨⟨#[]⟩, 0, ⟨#[]⟩⟩]
theorem may_time {o g : ByteArray} {t : Int} (h : ¬ (1 ≤ t ∧ t ≤ 1048576)) : mayR o t g = false := by
  unfold mayR
  have : (decide (1 ≤ t) && decide (t ≤ 1048576)) = false := by
    rw [Bool.eq_false_iff]
    intro hc
    simp only [Bool.and_eq_true, decide_eq_true_eq] at hc
    exact h hc
  rw [this]
  simp
theorem bad_rec (d : Nat) (h1 : 1 ≤ d) (h2 : d ≤ 64) (i : Nat) (hi : i < 4) : mayF (rd_T23 (bads d) (i : Int)) = false ∧ (rd_T23 (bads d) (i : Int)).f2.size ≤ 10 := by
  have w1 : wrap64 (1 - (d : Int)) = 1 - d := wrap_id (by omega) (by omega)
  rcases (show i = 0 ∨ i = 1 ∨ i = 2 ∨ i = 3 by omega) with rfl | rfl | rfl | rfl
  · exact ⟨show mayR ⟨#[65]⟩ 1 ⟨#[120]⟩ = false by decide +kernel, show (⟨#[120]⟩ : ByteArray).size ≤ 10 by decide⟩
  · exact ⟨show mayR ⟨#[97]⟩ (wrap64 (1 - (d : Int))) ⟨#[120]⟩ = false by rw [w1]; exact may_time (by omega), show (⟨#[120]⟩ : ByteArray).size ≤ 10 by decide⟩
  · exact ⟨show mayR ⟨#[97]⟩ 1 ⟨#[]⟩ = false by decide +kernel, show (⟨#[]⟩ : ByteArray).size ≤ 10 by decide⟩
  · exact ⟨show mayR ⟨#[]⟩ 0 ⟨#[]⟩ = false by decide +kernel, show (⟨#[]⟩ : ByteArray).size ≤ 10 by decide⟩
theorem dec1 : Lib.decDigits 1 = [49] := by rw [Lib.decDigits_one (by decide)]; rfl
theorem ok_may : mayF okR = true := by decide +kernel
theorem ok_tx : txF okR = [97, 9, 49, 9, 120, 10] := by
  show lineL [97] ((1 : Int).toNat) [120] = _
  unfold lineL
  rw [show ((1 : Int).toNat) = 1 from rfl, dec1]
  rfl
theorem oks_may (n : Nat) : ∀ f ∈ List.replicate n okR, mayF f = true := fun f hf => by rw [(List.mem_replicate.1 hf).2]; exact ok_may
theorem oks_hi (n : Nat) : ∀ x ∈ List.replicate n okR, x.f2.size ≤ 4611686018427387904 := fun x hx => by have := may_small (oks_may n x hx); omega
theorem oks_txt (i : Nat) : str (fsText (List.replicate i okR)) ++ (⟨#[97, 9, 49, 9, 120, 10]⟩ : ByteArray) = str (fsText (List.replicate (i + 1) okR)) := by
  rw [List.replicate_succ', fsText_app, ← str_append]
  have e : fsText [okR] = [97, 9, 49, 9, 120, 10] := by rw [fsText_cons, ok_tx]; rfl
  rw [e]
  rfl
structure BadY (Y : List (P.S23)) : Prop where
  no : mayFs Y = false
  hi : ∀ x ∈ Y, x.f2.size ≤ 4611686018427387904
  len : Y.length = 3
theorem ev_Forms_l1 (d : Nat) (Y : List (P.S23)) (hY : BadY Y) (hd1 : 1 ≤ d) (hd2 : d ≤ 64) : ∀ (r i : Nat), i + r = 256 + d →
    Ev (fun k => cruciblelaw14_LogForms.l1 k (d : Int) Y 1400 false 1400 (List.replicate (256 + d) okR) 1400 (str (fsText (List.replicate i okR))) (i : Int)) true
  | 0, i, h => by
    obtain rfl : i = 256 + d := by omega
    have hw : wrap64 (256 + (d : Int)) = ((256 + d : Nat) : Int) := by rw [wrap_id (by omega) (by omega)]; omega
    have hM := ev_May14 Y hY.hi
    rw [hY.no] at hM
    have hN := ev_May14 _ (oks_hi (256 + d))
    rw [show mayFs (List.replicate (256 + d) okR) = false by unfold mayFs; rw [List.length_replicate, decide_eq_false (by omega), Bool.false_and]] at hN
    have hk : (List.replicate (256 + d) okR).take 256 = List.replicate 256 okR := by rw [List.take_replicate]; congr 1; omega
    have hO := ev_May14 _ (oks_hi 256)
    rw [show mayFs (List.replicate 256 okR) = true from mayFs_of (by rw [List.length_replicate]; omega) (oks_may 256)] at hO
    have hl := fsText_len _ (oks_may (256 + d))
    rw [List.length_replicate] at hl
    have hL := ev_Load (str (fsText (List.replicate (256 + d) okR))) (by rw [str_size]; omega)
    have e4 : loadD 256 (fsText (List.replicate (256 + d) okR)) = List.replicate 256 okR := by
      rw [← List.replicate_append_replicate, fsText_app, load_put _ 256 _ (oks_may 256) (by rw [List.length_replicate]; omega), List.length_replicate, Nat.sub_self, loadD, List.append_nil]
    rw [str_data, e4] at hL
    refine Ev.step (fun k => by rw [cruciblelaw14_LogForms.l1]) ?_
    rw [hw, hk]
    refine ev_neg (by omega) (ev_bind hM (ev_neg (by simp) (ev_bind hN (ev_neg (by simp) (ev_pos (by rw [List.length_replicate]; omega) (ev_bind hO (ev_pos rfl ?_)))))))
    exact ev_bindc rfl (ev_pos rfl (ev_neg (by simp) (ev_bindc rfl (ev_pos rfl (ev_bindc rfl (ev_pos rfl (ev_bind hL (ev_const (by rw [List.length_replicate]; rfl)))))))))
  | r + 1, i, h => by
    have hw : wrap64 (256 + (d : Int)) = ((256 + d : Nat) : Int) := by rw [wrap_id (by omega) (by omega)]; omega
    have hw2 : wrap64 ((i : Int) + 1) = ((i + 1 : Nat) : Int) := wrap_nat (by omega)
    have hl := fsText_len _ (oks_may i)
    rw [List.length_replicate] at hl
    have hz : (str (fsText (List.replicate i okR))).size = (fsText (List.replicate i okR)).length := str_size _
    refine Ev.step (fun k => by rw [cruciblelaw14_LogForms.l1]) ?_
    rw [hw, hw2, oks_txt]
    exact ev_pos (by omega) (ev_pos (by omega) (ev_Forms_l1 d Y hY hd1 hd2 r (i + 1) (by omega)))
theorem set_ok (i r : Nat) (z x : P.S23) : (List.replicate i x ++ List.replicate (r + 1) z).set i x = List.replicate (i + 1) x ++ List.replicate r z := by
  rw [List.set_append_right _ _ (by rw [List.length_replicate]; exact Nat.le_refl _), List.length_replicate, Nat.sub_self, List.replicate_succ, List.set_cons_zero, List.replicate_succ', List.append_assoc]
  rfl
theorem ev_Forms_l0 (d : Nat) (Y : List (P.S23)) (hY : BadY Y) (hd1 : 1 ≤ d) (hd2 : d ≤ 64) : ∀ (r i : Nat), i + r = 256 + d →
    Ev (fun k => cruciblelaw14_LogForms.l0 k (d : Int) Y 1400 false 1400 (List.replicate i okR ++ List.replicate r z23) (i : Int) ⟨#[97]⟩ 1 ⟨#[120]⟩) true
  | 0, i, h => by
    obtain rfl : i = 256 + d := by omega
    rw [List.replicate_zero, List.append_nil]
    have hT := ev_Text14 _ (oks_hi (256 + d))
    have e : textF (List.replicate (256 + d) okR) = (str [], 1400) := by
      unfold textF
      rw [if_neg (by unfold mayFs; rw [List.length_replicate, decide_eq_false (by omega), Bool.false_and]; simp)]
    rw [e] at hT
    exact Ev.step (fun k => by rw [cruciblelaw14_LogForms.l0]) (ev_neg (by rw [List.length_replicate]; omega) (ev_bind hT (ev_Forms_l1 d Y hY hd1 hd2 (256 + d) 0 (by omega))))
  | r + 1, i, h => by
    have hw2 : wrap64 ((i : Int) + 1) = ((i + 1 : Nat) : Int) := wrap_nat (by omega)
    have hs := set_ok i r z23 okR
    have ih := ev_Forms_l0 d Y hY hd1 hd2 r (i + 1) (by omega)
    rw [← hs] at ih
    refine Ev.step (fun k => by rw [cruciblelaw14_LogForms.l0]) (ev_pos (by rw [List.length_append, List.length_replicate, List.length_replicate]; omega) (ev_pos (by omega) ?_))
    rw [hw2, Int.toNat_natCast]
    exact ih
theorem LogForms : cruciblelaw14_LogForms.Pure := by
  intro n x _ _
  obtain ⟨d, hd1, hd2, hd⟩ : ∃ d : Nat, 1 ≤ d ∧ d ≤ 64 ∧ wrap64 (1 + Go.bits .and .i64 x 63) = (d : Int) := by
    have h := bits_low 6 (by omega) x
    have h' : Go.bits .and .i64 x 63 = x % 64 := h
    have h0 : 0 ≤ x % 64 := Int.emod_nonneg _ (by decide)
    have h1 : x % 64 < 64 := Int.emod_lt_of_pos _ (by decide)
    exact ⟨(x % 64).toNat + 1, by omega, by omega, by rw [h', wrap_id (by omega) (by omega)]; omega⟩
  obtain ⟨i, hi, hi'⟩ : ∃ i : Nat, i < 4 ∧ Go.bits .and .i64 n 3 = (i : Int) := by
    have h := bits_low 2 (by omega) n
    have h' : Go.bits .and .i64 n 3 = n % 4 := h
    exact ⟨(n % 4).toNat, by omega, by rw [h']; omega⟩
  have hw : wrap64 (256 + (d : Int)) = ((256 + d : Nat) : Int) := by rw [wrap_id (by omega) (by omega)]; omega
  obtain ⟨b1, b2⟩ := bad_rec d hd1 hd2 i hi
  obtain ⟨b, hb⟩ : ∃ b, rd_T23 (bads d) (i : Int) = b := ⟨_, rfl⟩
  rw [hb] at b1 b2
  have hY : BadY [okR, b, okR] := by
    refine ⟨?_, ?_, rfl⟩
    · unfold mayFs
      rw [List.all_cons, List.all_cons, b1]
      simp
    · intro y hy
      have h10 : okR.f2.size = 1 := rfl
      simp only [List.mem_cons, List.not_mem_nil, or_false] at hy
      rcases hy with rfl | rfl | rfl <;> omega
  refine Ev.rounds (Ev.congr (fun k => by rw [cruciblelaw14_LogForms.f]) (ev_bindc (show cruciblelaw14_awake.f = some true from rfl) (ev_pos rfl ?_)))
  rw [hd, hi', hw]
  refine ev_bindc rfl (ev_pos (by omega) (ev_pos (show (i : Int) < 4 by omega) (ev_bindc rfl ?_)))
  have e1 : textF [okR, b, okR] = (str [], 1400) := by unfold textF; rw [if_neg (by simp [hY.no])]
  have e2 : lastF [okR, b, okR] ⟨#[97]⟩ = noF := by
    unfold lastF
    cases lastO [okR, b, okR] ⟨#[97]⟩ with
    | none => rfl
    | some y => simp only []; rw [if_neg (by simp [hY.no])]
  have e3 : compF [okR, b, okR] = ([], 1400) := by unfold compF; rw [if_neg (by simp [hY.no])]
  have hT := ev_Text14 _ hY.hi
  have hA := ev_Last14 [okR, b, okR] ⟨#[97]⟩ (by rw [hY.len]; omega) hY.hi
  have hC := ev_Compact _ hY.hi
  rw [e1] at hT
  rw [e2] at hA
  rw [e3] at hC
  have key : [(⟨⟨#[97]⟩, 1, ⟨#[120]⟩⟩ : P.S23), ⟨(rd_T23 (bads d) (i : Int)).f0, (rd_T23 (bads d) (i : Int)).f1, (rd_T23 (bads d) (i : Int)).f2⟩, ⟨⟨#[97]⟩, 1, ⟨#[120]⟩⟩] = [okR, b, okR] := by rw [hb]; rfl
  unfold bads at key
  rw [key]
  refine ev_bind hT (ev_bind hA (ev_bind hC (ev_pos (by omega) (ev_pos (by rw [Int.toNat_natCast]; omega) ?_))))
  rw [Int.toNat_natCast]
  exact ev_Forms_l0 d _ hY hd1 hd2 (256 + d) 0 (by omega)
end Go.Proofs.YtdaddlplpkmkmaaDoor.Spec
