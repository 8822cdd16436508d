/- Chapter 13: what the program's and the reference's functions over lines compute. -/
import Derived.Test.YtdaddlplpkmkmaaDoorLine2
import Derived.Test.YtdaddlplpkmkmaaDoorRefP
import Derived.Test.YtdaddlplpkmkmaaDoorNb
import Derived.Test.YtdaddlplpkmkmaaDoorTime
import Derived.Test.YtdaddlplpkmkmaaDoorUpTo
import Derived.Test.YtdaddlplpkmkmaaDoorP5
import Derived.Test.YtdaddlplpkmkmaaDoorP12
import Derived.Test.YtdaddlplpkmkmaaDoorP11
import Derived.Test.YtdaddlplpkmkmaaDoorP13
import Derived.Test.YtdaddlplpkmkmaaDoorP10
import Derived.Test.YtdaddlplpkmkmaaDoorP9
import Derived.Test.YtdaddlplpkmkmaaDoorP4
namespace Go.Proofs.YtdaddlplpkmkmaaDoor.Spec
open Go.RowKit Go.Proofs.YtdaddlplpkmkmaaDoorW.PrintWords Go.Proofs.YtdaddlplpkmkmaaDoorW.PrintMore Go.Proofs.YtdaddlplpkmkmaaDoor.P

theorem ev_LMay (o : ByteArray) (t : Int) (g : ByteArray) (hg : g.size ≤ 4611686018427387904) : Ev (fun k => logline_May.f k o t g) (mayR o t g) := by
  refine Ev.congr (fun k => by rw [logline_May.f]) (ev_bind (ev_Is o) ?_)
  unfold mayR
  cases h1 : isP o.data.toList with
  | false => exact ev_neg (by simp) (Ev.now _)
  | true =>
    refine ev_pos rfl (ev_bindc (time_is t) ?_)
    cases h2 : (decide (1 ≤ t) && decide (t ≤ 1048576)) with
    | false => exact ev_neg (by simp) (Ev.now _)
    | true =>
      refine ev_pos rfl ?_
      rw [toList_data]
      by_cases h3 : g.data.toList = []
      · exact ev_pos h3 (ev_const (by simp [h3]))
      · refine ev_neg h3 (ev_bind (ev_PlainA g 2048 hg) (ev_const ?_))
        simp [h3]
theorem itoa_is (t : Int) (h1 : 1 ≤ t) (h2 : t ≤ 1048576) : strconv_Itoa.f t = some (str (Lib.decDigits t.toNat)) := by
  unfold strconv_Itoa.f
  rw [if_pos (by omega)]
  obtain ⟨n, rfl⟩ := Int.eq_ofNat_of_zero_le (show 0 ≤ t by omega)
  rw [Lib.itoa_nonneg]
  rfl
theorem line_cat (o : ByteArray) (d : List UInt8) (g : ByteArray) : ((((o ++ (⟨#[9]⟩ : ByteArray)) ++ str d) ++ (⟨#[9]⟩ : ByteArray)) ++ g) ++ (⟨#[10]⟩ : ByteArray) = str (o.data.toList ++ 9 :: (d ++ 9 :: (g.data.toList ++ [10]))) := by
  apply data_inj
  simp [str_data]
theorem ev_LPut (o : ByteArray) (t : Int) (g : ByteArray) (hg : g.size ≤ 4611686018427387904) : Ev (fun k => logline_Put.f k o t g) (putR o t g) := by
  refine Ev.congr (fun k => by rw [logline_Put.f]) (ev_bind (ev_LMay o t g hg) ?_)
  unfold putR
  cases hm : mayR o t g with
  | false => exact ev_neg (by simp) (Ev.now _)
  | true =>
    have h := mayR_is hm
    have hos := h.os
    have hgs := h.gs
    have hd := dec_len t.toNat h.parts.tM
    have hz : (str (Lib.decDigits t.toNat)).size = (Lib.decDigits t.toNat).length := str_size _
    have e1 : (⟨#[9]⟩ : ByteArray).size = 1 := rfl
    refine ev_pos rfl (ev_pos (by omega) (ev_bindc (itoa_is t h.t1 h.tM) (ev_pos ?_ (ev_pos ?_ (ev_pos ?_ (ev_pos ?_ (ev_const ?_)))))))
    · simp only [ByteArray.size_append, hz, e1]; omega
    · simp only [ByteArray.size_append, hz, e1]; omega
    · simp only [ByteArray.size_append, hz, e1]; omega
    · simp only [ByteArray.size_append, hz, e1]; omega
    · rw [line_cat, if_pos rfl]; rfl
theorem back_is (s o : ByteArray) (t : Int) (g : ByteArray) : logline_back s o t g (putR o t g) = backR s o t g := by
  unfold logline_back putR backR
  cases hm : mayR o t g with
  | false => simp; rfl
  | true =>
    simp only [if_true, true_and, toList_data]
    rfl
theorem pG_len (s : List UInt8) : (pG s).length ≤ s.length := by
  have h1 := (cutAt_len 9 s).2
  have h2 := (cutAt_len 9 (cutAt 9 s).2).2
  have h3 := trimE_len (cutAt 9 (cutAt 9 s).2).2
  unfold pG
  omega
theorem ev_LGet (s : ByteArray) (hs : s.size < 4294967281) : Ev (fun k => logline_Get.f k s) (getR s) := by
  have hl := pG_len s.data.toList
  rw [size_data] at hl
  refine Ev.congr (fun k => by rw [logline_Get.f]) (ev_pos hs (ev_bind (ev_LPut _ _ _ (by rw [str_size]; omega)) (ev_const ?_)))
  rw [back_is]
  rfl

/-! ### The reference -/
theorem ev_RecordMay (o : ByteArray) (t : Int) (g : ByteArray) (ho : o.size ≤ 4611686018427387904) (hg : g.size ≤ 4611686018427387904) : Ev (fun k => crucibleref12_RecordMay.f k o t g) (mayR o t g) := by
  refine Ev.congr (fun k => by rw [crucibleref12_RecordMay.f]) (ev_bind (ev_PathMay o ho) ?_)
  unfold mayR
  cases h1 : isP o.data.toList with
  | false => exact ev_neg (by simp) (Ev.now _)
  | true =>
    refine ev_pos rfl (ev_bindc (upTo_is t) ?_)
    cases h2 : (decide (1 ≤ t) && decide (t ≤ 1048576)) with
    | false => exact ev_neg (by simp) (Ev.now _)
    | true =>
      refine ev_pos rfl (ev_bind (ev_PlainR g 1 2048 hg) (ev_const ?_))
      have hz := size_data g
      have e : decide (1 ≤ g.size) = decide (g.data.toList ≠ []) := by
        rw [decide_eq_decide, ← List.length_pos_iff, hz]
        omega
      rw [e]
      simp only [Bool.true_and, Option.some.injEq]
      rw [Bool.and_assoc, Bool.and_left_comm]
theorem digit_is (u : Nat) (hu : u ≤ 1048576) : (IntKind.u64.wrap (48 + Int.tmod (u : Int) 10)) % 256 = ((UInt8.ofNat (48 + u % 10)).toNat : Int) := by
  rw [u64_wrap, Int.tmod_eq_emod_of_nonneg (by omega), UInt8.toNat_ofNat']
  omega
theorem tenth_is (u : Nat) (hu : u ≤ 1048576) : IntKind.u64.wrap (Int.tdiv (u : Int) 10) = ((u / 10 : Nat) : Int) := by
  rw [u64_wrap, Int.tdiv_eq_ediv_of_nonneg (by omega)]
  omega
theorem ev_Decimal_loop (t : Nat) : ∀ (u : Nat) (acc : List UInt8), u ≤ 1048576 → acc.length + u ≤ 2000000 → (u ≠ 0 ∨ acc ≠ []) →
    Ev (fun k => crucibleref0_Decimal.l0 k (t : Int) (u : Int) (nb acc)) (str (if u = 0 then acc else Lib.decDigits u ++ acc)) := by
  intro u
  induction u using Nat.strongRecOn with
  | _ u ih =>
    intro acc hu hl hne
    refine Ev.step (fun k => by rw [crucibleref0_Decimal.l0]) ?_
    by_cases h0 : u = 0
    · subst h0
      have hacc : acc ≠ [] := hne.resolve_left (by simp)
      have : 0 < acc.length := List.length_pos_iff.2 hacc
      refine ev_neg (by omega) (ev_neg (by rw [nb_len]; omega) (ev_neg (by omega) (ev_const ?_)))
      rw [nb_str, if_pos rfl]
    · refine ev_pos (by omega) (ev_bindc rfl (ev_pos (by simp only [List.length_singleton, nb_len]; omega) ?_))
      rw [digit_is u hu, tenth_is u hu]
      have e : [((UInt8.ofNat (48 + u % 10)).toNat : Int)] ++ nb acc = nb (UInt8.ofNat (48 + u % 10) :: acc) := rfl
      rw [e]
      refine ev_eq (ih (u / 10) (by omega) (UInt8.ofNat (48 + u % 10) :: acc) (by omega) (by rw [List.length_cons]; omega) (.inr (by simp))) ?_
      rw [if_neg h0]
      by_cases h10 : u < 10
      · rw [if_pos (by omega), Lib.decDigits, dif_pos h10, Nat.mod_eq_of_lt h10]
        rfl
      · rw [if_neg (by omega)]
        conv => rhs; rw [Lib.decDigits, dif_neg h10]
        rw [List.append_assoc]
        rfl
theorem ev_Decimal (t : Int) (h1 : 1 ≤ t) (h2 : t ≤ 1048576) : Ev (fun k => crucibleref0_Decimal.f k t) (str (Lib.decDigits t.toNat)) := by
  obtain ⟨n, rfl⟩ := Int.eq_ofNat_of_zero_le (show 0 ≤ t by omega)
  have hw : IntKind.u64.wrap (n : Int) = (n : Int) := by rw [u64_wrap]; omega
  refine Ev.congr (fun k => by rw [crucibleref0_Decimal.f]) (ev_neg (by omega) ?_)
  rw [hw]
  refine Ev.step (fun k => by rw [crucibleref0_Decimal.j0]) ?_
  refine ev_eq (ev_Decimal_loop n n [] (by omega) (by simp; omega) (.inl (by omega))) ?_
  rw [if_neg (by omega), List.append_nil]
  rfl
theorem ev_RPut (o : ByteArray) (t : Int) (g : ByteArray) (ho : o.size ≤ 4611686018427387904) (hg : g.size ≤ 4611686018427387904) : Ev (fun k => crucibleref12_PutLine.f k o t g) (putR o t g) := by
  refine Ev.congr (fun k => by rw [crucibleref12_PutLine.f]) (ev_bind (ev_RecordMay o t g ho hg) ?_)
  unfold putR
  cases hm : mayR o t g with
  | false => exact ev_neg (by simp) (Ev.now _)
  | true =>
    have h := mayR_is hm
    have hos := h.os
    have hgs := h.gs
    have hd := dec_len t.toNat h.parts.tM
    have hz : (str (Lib.decDigits t.toNat)).size = (Lib.decDigits t.toNat).length := str_size _
    have e1 : (⟨#[9]⟩ : ByteArray).size = 1 := rfl
    refine ev_pos rfl (ev_pos (by omega) (ev_bind (ev_Decimal t h.t1 h.tM) (ev_pos ?_ (ev_pos ?_ (ev_pos ?_ (ev_pos ?_ (ev_const ?_)))))))
    · simp only [ByteArray.size_append, hz, e1]; omega
    · simp only [ByteArray.size_append, hz, e1]; omega
    · simp only [ByteArray.size_append, hz, e1]; omega
    · simp only [ByteArray.size_append, hz, e1]; omega
    · rw [line_cat, if_pos rfl]; rfl
theorem one_byte (s : ByteArray) (pre : List UInt8) (c : UInt8) (rest : List UInt8) (h : s.data.toList = pre ++ c :: rest) : s.extract pre.length (pre.length + 1) = str [c] := by
  apply data_inj
  rw [extract_data, str_data, h, List.take_append, List.take_of_length_le (by omega), Nat.add_sub_cancel_left]
  simp
structure InvR (n : Nat) (s : RS) : Prop where
  p : s.p ≤ n
  o : s.o.length ≤ n
  t : s.t ≤ 10485769
  g : s.g.length ≤ n
theorem InvR.step {n : Nat} {s : RS} (h : InvR n s) (c : UInt8) : InvR (n + 1) (stepR s c) := by
  have ht := step_t s c h.t
  obtain ⟨h1, h2, h3, h4⟩ := h
  refine ⟨?_, ?_, ht, ?_⟩
  all_goals
    unfold stepR
    repeat' split
    all_goals (try simp only [List.length_append, List.length_singleton])
    all_goals omega
theorem ev_RGet_loop (s : ByteArray) (hs : s.size ≤ 4611686018427387904) : ∀ (rest pre : List UInt8) (x : RS), s.data.toList = pre ++ rest → InvR pre.length x →
    Ev (fun k => crucibleref12_GetLine.l0 k s (x.p : Int) (pre.length : Int) (str x.o) (x.t : Int) (str x.g)) (backR s (str (rest.foldl stepR x).o) ((rest.foldl stepR x).t : Int) (str (rest.foldl stepR x).g)) := by
  intro rest
  induction rest with
  | nil =>
    intro pre x h hi
    have hl : s.size = pre.length := by rw [size_le h]; simp
    obtain ⟨h1, h2, h3, h4⟩ := hi
    refine Ev.step (fun k => by rw [crucibleref12_GetLine.l0]) (ev_neg (by omega) (ev_bind (ev_RPut _ _ _ (by rw [str_size]; omega) (by rw [str_size]; omega)) ?_))
    rw [List.foldl_nil, ← back_is]
    unfold logline_back
    exact ev_ite (fun _ => ev_ite (fun _ => Ev.now _) (fun _ => Ev.now _)) (fun _ => Ev.now _)
  | cons c rest ih =>
    intro pre x h hi
    have hlt := size_pre s pre c rest h
    have hb := bt_pre s pre c rest h
    have hx := one_byte s pre c rest h
    have hw : wrap64 ((pre.length : Int) + 1) = ((pre.length + 1 : Nat) : Int) := wrap_nat (by omega)
    have ih' := ih (pre ++ [c]) (stepR x c) (by simp [h]) (by rw [List.length_append, List.length_singleton]; exact hi.step c)
    rw [List.length_append, List.length_singleton] at ih'
    rw [List.foldl_cons]
    have hc := c.toNat_lt
    obtain ⟨h1, h2, h3, h4⟩ := hi
    have hwp : wrap64 ((x.p : Int) + 1) = ((x.p + 1 : Nat) : Int) := wrap_nat (by omega)
    have hz : (str [c]).size = 1 := str_size [c]
    refine Ev.step (fun k => by rw [crucibleref12_GetLine.l0]) ?_
    simp only [hb, hw, hwp, Int.toNat_natCast, hx, hz, str_append]
    refine ev_pos (by omega) (ev_pos (by omega) ?_)
    have hc9 : (c.toNat : Int) = 9 ↔ c = 9 := by
      constructor
      · intro e; exact UInt8.toNat_inj.1 (show c.toNat = (9 : UInt8).toNat by have : (9 : UInt8).toNat = 9 := rfl; omega)
      · rintro rfl; rfl
    have hc10 : (c.toNat : Int) = 10 ↔ c = 10 := by
      constructor
      · intro e; exact UInt8.toNat_inj.1 (show c.toNat = (10 : UInt8).toNat by have : (10 : UInt8).toNat = 10 := rfl; omega)
      · rintro rfl; rfl
    by_cases e9 : c = 9
    · refine ev_pos (hc9.2 e9) ?_
      have e : stepR x c = ⟨x.p + 1, x.o, x.t, x.g⟩ := by rw [stepR, if_pos e9]
      rw [e] at ih' ⊢
      exact ih'
    · refine ev_neg (fun h => e9 (hc9.1 h)) ?_
      by_cases e0 : x.p = 0
      · have e : stepR x c = ⟨x.p, x.o ++ [c], x.t, x.g⟩ := by rw [stepR, if_neg e9, if_pos e0]
        rw [e] at ih' ⊢
        refine ev_pos (by omega) (ev_pos (by omega) (ev_pos (by omega) (ev_pos (by rw [str_size]; omega) ih')))
      · refine ev_neg (by omega) ?_
        have hj : ∀ b : Bool, (b = true ↔ (x.p = 1 ∧ 48 ≤ c.toNat ∧ c.toNat ≤ 57 ∧ x.t ≤ 1048576)) → Ev (fun k => crucibleref12_GetLine.j1 k s (x.p : Int) (pre.length : Int) (c.toNat : Int) b (str x.o) (x.t : Int) (str x.g)) (backR s (str (rest.foldl stepR (stepR x c)).o) ((rest.foldl stepR (stepR x c)).t : Int) (str (rest.foldl stepR (stepR x c)).g)) := by
          intro b hb'
          refine Ev.step (fun k => by rw [crucibleref12_GetLine.j1]) ?_
          simp only [hw, Int.toNat_natCast, hx, hz, str_append]
          by_cases hd : x.p = 1 ∧ 48 ≤ c.toNat ∧ c.toNat ≤ 57 ∧ x.t ≤ 1048576
          · have e : stepR x c = ⟨x.p, x.o, 10 * x.t + (c.toNat - 48), x.g⟩ := by rw [stepR, if_neg e9, if_neg e0, if_pos hd]
            have hn : wrap64 (wrap64 (10 * (x.t : Int)) + ((c.toNat : Int) - 48) % 256) = ((10 * x.t + (c.toNat - 48) : Nat) : Int) := by
              obtain ⟨d1, d2, d3, d4⟩ := hd
              rw [wrap_id (n := 10 * (x.t : Int)) (by omega) (by omega), wrap_id (by omega) (by omega)]
              omega
            rw [e] at ih' ⊢
            rw [hn]
            exact ev_pos (hb'.2 hd) ih'
          · refine ev_neg (fun h => hd (hb'.1 h)) ?_
            by_cases e2 : x.p = 2
            · refine ev_pos (by omega) ?_
              by_cases e10 : c = 10
              · have e : stepR x c = x := by rw [stepR, if_neg e9, if_neg e0, if_neg hd, if_neg (fun h => h.2 e10)]
                rw [e] at ih' ⊢
                exact ev_pos (hc10.2 e10) ih'
              · have e : stepR x c = ⟨x.p, x.o, x.t, x.g ++ [c]⟩ := by rw [stepR, if_neg e9, if_neg e0, if_neg hd, if_pos ⟨e2, e10⟩]
                rw [e] at ih' ⊢
                refine ev_neg (fun h => e10 (hc10.1 h)) (ev_pos (by omega) (ev_pos (by omega) (ev_pos (by omega) (ev_pos (by rw [str_size]; omega) ih'))))
            · have e : stepR x c = x := by rw [stepR, if_neg e9, if_neg e0, if_neg hd, if_neg (fun h => e2 h.1)]
              rw [e] at ih' ⊢
              exact ev_neg (by omega) ih'
        refine ev_split (fun p1 => ?_) (fun p1 => hj false (by simp; omega))
        refine ev_split (fun p2 => ?_) (fun p2 => hj false (by simp; omega))
        refine ev_split (fun p3 => ?_) (fun p3 => hj false (by simp; omega))
        exact hj _ (by rw [decide_eq_true_eq]; omega)
theorem ev_RGet (s : ByteArray) (hs : s.size ≤ 4611686018427387904) : Ev (fun k => crucibleref12_GetLine.f k s) (getR s) := by
  refine Ev.congr (fun k => by rw [crucibleref12_GetLine.f]) ?_
  rw [← ref_same s]
  exact ev_RGet_loop s hs s.data.toList [] ⟨0, [], 0, []⟩ rfl ⟨Nat.le_refl _, Nat.le_refl _, by decide, Nat.le_refl _⟩
end Go.Proofs.YtdaddlplpkmkmaaDoor.Spec
