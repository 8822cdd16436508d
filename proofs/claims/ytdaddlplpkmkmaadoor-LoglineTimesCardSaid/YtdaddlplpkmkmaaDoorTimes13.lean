/- Chapter 13: the law LoglineTimes without the program. -/
import Derived.Test.YtdaddlplpkmkmaaDoorAw13
import Derived.Test.YtdaddlplpkmkmaaDoorP18
namespace Go.Proofs.YtdaddlplpkmkmaaDoor.Spec
open Go.RowKit Go.Proofs.YtdaddlplpkmkmaaDoorW.PrintWords Go.Proofs.YtdaddlplpkmkmaaDoorW.PrintMore Go.Proofs.YtdaddlplpkmkmaaDoor.P

def valD (l : List UInt8) : Nat := l.foldl (fun a b => 10 * a + (b.toNat - 48)) 0
theorem valD_snoc (l : List UInt8) (b : UInt8) : valD (l ++ [b]) = 10 * valD l + (b.toNat - 48) := by simp [valD]
theorem valD_dec : ∀ u : Nat, valD (Lib.decDigits u) = u := by
  intro u
  induction u using Nat.strongRecOn with
  | _ u ih =>
    have one : ∀ d, d < 10 → (UInt8.ofNat (48 + d)).toNat = 48 + d := fun d hd => by
      rw [UInt8.toNat_ofNat']; omega
    rw [Lib.decDigits]
    split
    · rename_i h
      have := one u h
      simp only [valD, List.foldl_cons, List.foldl_nil, this]
      omega
    · rw [valD_snoc, ih (u / 10) (by omega), one (u % 10) (by omega)]
      omega
theorem valD_lt : ∀ (l : List UInt8), (∀ b ∈ l, 48 ≤ b.toNat ∧ b.toNat ≤ 57) → valD l < 10 ^ l.length := by
  intro l
  have key : ∀ (l : List UInt8) (a : Nat), (∀ b ∈ l, 48 ≤ b.toNat ∧ b.toNat ≤ 57) → l.foldl (fun a b => 10 * a + (b.toNat - 48)) a < (a + 1) * 10 ^ l.length := by
    intro l
    induction l with
    | nil => intro a _; simp
    | cons b l ih =>
      intro a h
      have hb := h b (by simp)
      have := ih (10 * a + (b.toNat - 48)) (fun c hc => h c (by simp [hc]))
      rw [List.foldl_cons, List.length_cons, Nat.pow_succ, Nat.mul_comm (10 ^ l.length) 10, ← Nat.mul_assoc]
      refine Nat.lt_of_lt_of_le this (Nat.mul_le_mul_right _ (by omega))
  intro h
  have := key l 0 h
  simpa [valD] using this
theorem dec_head : ∀ u : Nat, 1 ≤ u → ∃ b r, Lib.decDigits u = b :: r ∧ b ≠ 48 := by
  intro u
  induction u using Nat.strongRecOn with
  | _ u ih =>
    intro h1
    rw [Lib.decDigits]
    split
    · rename_i h
      refine ⟨_, [], rfl, fun e => ?_⟩
      have : (UInt8.ofNat (48 + u)).toNat = 48 + u := by rw [UInt8.toNat_ofNat']; omega
      rw [e] at this
      have h48 : (48 : UInt8).toNat = 48 := rfl
      omega
    · obtain ⟨b, r, e, hb⟩ := ih (u / 10) (by omega) (by omega)
      exact ⟨b, r ++ [UInt8.ofNat (48 + u % 10)], by rw [e]; rfl, hb⟩
theorem ev_Times_loop (T : Nat) (s : ByteArray) (D : List UInt8) (hs : s.data.toList = [111, 9] ++ (D ++ [9, 120, 10])) (hD : ∀ b ∈ D, 48 ≤ b.toNat ∧ b.toNat ≤ 57) (hl : D.length ≤ 7) (hT : valD D = T) : ∀ (rest pre : List UInt8), D = pre ++ rest →
    Ev (fun k => cruciblelaw13_LoglineTimes.l0 k (T : Int) s (valD pre : Int) ((2 + pre.length : Nat) : Int)) true := by
  have hz : s.size = D.length + 5 := by rw [← size_data, hs]; simp
  have hw0 : wrap64 ((s.size : Int) - 3) = ((D.length + 2 : Nat) : Int) := by rw [wrap_id (by omega) (by omega)]; omega
  intro rest
  induction rest with
  | nil =>
    intro pre h
    rw [List.append_nil] at h
    subst h
    refine Ev.step (fun k => by rw [cruciblelaw13_LoglineTimes.l0]) ?_
    rw [hw0]
    refine ev_neg (by omega) (ev_const ?_)
    rw [hT]
    simp
  | cons b rest ih =>
    intro pre h
    have hlen : D.length = pre.length + (rest.length + 1) := by rw [h]; simp
    have hb := hD b (by rw [h]; simp)
    have hbt : bt s ((2 + pre.length : Nat) : Int) = b.toNat := by
      have := bt_pre s ([111, 9] ++ pre) b (rest ++ [9, 120, 10]) (by rw [hs, h]; simp)
      rw [List.length_append] at this
      exact this
    have hlt := valD_lt pre (fun c hc => hD c (by rw [h]; simp [hc]))
    have hp : 10 ^ pre.length ≤ 10 ^ 7 := Nat.pow_le_pow_right (by decide) (by omega)
    have hw1 : wrap64 (((2 + pre.length : Nat) : Int) + 1) = ((2 + (pre ++ [b]).length : Nat) : Int) := by rw [wrap_id (by omega) (by omega), List.length_append, List.length_singleton]; omega
    have hw2 : wrap64 (wrap64 (10 * (valD pre : Int)) + ((b.toNat : Int) - 48) % 256) = (valD (pre ++ [b]) : Int) := by
      rw [valD_snoc, wrap_id (n := 10 * (valD pre : Int)) (by omega) (by omega), wrap_id (by omega) (by omega)]
      omega
    refine Ev.step (fun k => by rw [cruciblelaw13_LoglineTimes.l0]) ?_
    simp only [hw0, hbt, hw1, hw2]
    exact ev_pos (by omega) (ev_pos (by omega) (ev_pos (by omega) (ev_neg (by omega) (ev_neg (by omega) (ih (pre ++ [b]) (by simp [h]))))))
theorem LoglineTimes : cruciblelaw13_LoglineTimes.Pure := by
  intro n _
  obtain ⟨i, hi, hi'⟩ := umod n 1048576 (by decide) (by decide)
  have hi2 : wrap64 (Int.tmod (IntKind.u64.wrap n) 1048576) = (i : Int) := hi'
  have hw : wrap64 (1 + (i : Int)) = ((i + 1 : Nat) : Int) := by rw [wrap_id (by omega) (by omega)]; omega
  obtain ⟨t, ht⟩ : ∃ t, t = i + 1 := ⟨_, rfl⟩
  rw [← ht] at hw
  have m1 : mayR (⟨#[111]⟩ : ByteArray) (t : Int) (⟨#[120]⟩ : ByteArray) = true := by
    unfold mayR
    have h1 : isP (⟨#[111]⟩ : ByteArray).data.toList = true := by decide +kernel
    have h2 : (decide (1 ≤ (t : Int)) && decide ((t : Int) ≤ 1048576)) = true := by
      simp only [Bool.and_eq_true, decide_eq_true_eq]; omega
    rw [h1, h2]
    decide +kernel
  have e1 := ev_LPut (⟨#[111]⟩ : ByteArray) (t : Int) (⟨#[120]⟩ : ByteArray) (by decide)
  have g1 := get_put m1
  rw [putR_ok m1] at e1
  obtain ⟨s, hs⟩ : ∃ s, str (txR (⟨#[111]⟩ : ByteArray) (t : Int) (⟨#[120]⟩ : ByteArray)) = s := ⟨_, rfl⟩
  rw [hs] at e1 g1
  have hsd : s.data.toList = [111, 9] ++ (Lib.decDigits t ++ [9, 120, 10]) := by
    rw [← hs, str_data, txR, lineL, Int.toNat_natCast]
    rfl
  have hdl := dec_len t (by omega)
  have hdn := List.length_pos_iff.2 (dec_ne t)
  have hz : s.size = (Lib.decDigits t).length + 5 := by rw [← size_data, hsd]; simp
  have e2 := ev_LGet s (by omega)
  rw [g1] at e2
  have x1 : (s.extract 0 2).toList = [111, 9] := by rw [toList_data, extract_data, hsd]; simp
  have hw0 : wrap64 ((s.size : Int) - 3) = (((Lib.decDigits t).length + 2 : Nat) : Int) := by rw [wrap_id (by omega) (by omega)]; omega
  have x2 : (s.extract ((Lib.decDigits t).length + 2) s.size).toList = [9, 120, 10] := by
    rw [toList_data, extract_data, List.take_of_length_le (by rw [size_data]; omega), hsd, ← List.append_assoc, List.drop_left' (by simp)]
  obtain ⟨b, r, hbr, hb48⟩ := dec_head t (by omega)
  have x3 : bt s 2 = b.toNat := bt_pre s [111, 9] b (r ++ [9, 120, 10]) (by rw [hsd, hbr]; simp)
  have x4 : ((b.toNat : Int) == 48) = false := by
    rw [beq_eq_false_iff_ne]
    intro e
    exact hb48 (UInt8.toNat_inj.1 (show b.toNat = (48 : UInt8).toNat by have : (48 : UInt8).toNat = 48 := rfl; omega))
  have hloop := ev_Times_loop t s (Lib.decDigits t) hsd (dec_digit t) hdl (valD_dec t) (Lib.decDigits t) [] rfl
  refine Ev.rounds (Ev.congr (fun k => by rw [cruciblelaw13_LoglineTimes.f]) (ev_bind ev_awake13 (ev_pos rfl ?_)))
  simp only [hi2, hw]
  refine ev_bind e1 (ev_bind e2 (ev_bindc rfl (ev_pos rfl (ev_bindc rfl (ev_pos rfl (ev_pos rfl ?_))))))
  simp only [hw0, Int.toNat_natCast, x1, x2, x3, x4]
  refine ev_neg (by omega) (ev_pos (by decide) (ev_pos (by omega) (ev_pos (by trivial) (ev_pos (by omega) (ev_pos (by omega) (ev_pos (by trivial) (ev_pos (by omega) ?_)))))))
  refine Ev.step (fun k => by rw [cruciblelaw13_LoglineTimes.j0]) ?_
  exact ev_neg (by simp) hloop
end Go.Proofs.YtdaddlplpkmkmaaDoor.Spec
