/- The law CommandOrder without the program. -/
import Derived.Test.YtilnamobmjngbaaDoorMix18
import Derived.Test.YtilnamobmjngbaaDoorP38
namespace Go.Proofs.YtilnamobmjngbaaDoor.Spec
open Go.RowKit Go.Proofs.YtilnamobmjngbaaDoorW.PrintWords Go.Proofs.YtilnamobmjngbaaDoor.P

theorem ev_plain18_loop (s : ByteArray) (hs : s.size ≤ 4611686018427387904) : ∀ rest pre : List UInt8, s.data.toList = pre ++ rest →
    Ev (fun k => cruciblelaw18_plain.l0 k s (pre.length : Int)) (rest.all plainB && decide (1 ≤ s.size) && decide (s.size ≤ 256)) := by
  intro rest
  induction rest with
  | nil =>
    intro pre h
    have hz := size_le h
    simp only [List.append_nil] at hz
    refine Ev.step (fun k => by rw [cruciblelaw18_plain.l0]) ?_
    refine ev_neg (by omega) ?_
    by_cases h1 : 1 ≤ s.size
    · refine ev_pos (by omega) (ev_const ?_)
      simp [h1]
      omega
    · refine ev_neg (by omega) (ev_const ?_)
      simp [h1]
  | cons x rest ih =>
    intro pre h
    have hz := size_pre s pre x rest h
    have hb := bt_pre s pre x rest h
    have hw : wrap64 ((pre.length : Int) + 1) = ((pre ++ [x]).length : Int) := wrap_len pre x (by omega)
    refine Ev.step (fun k => by rw [cruciblelaw18_plain.l0, hb, hw]) ?_
    refine ev_pos (by omega) (ev_pos (by omega) ?_)
    rw [List.all_cons]
    rcases plain_cases x with ⟨h0, h1, h2⟩ | ⟨h0, h1⟩
    · rw [h0]
      exact ev_neg h1 (ev_neg h2 (ih (pre ++ [x]) (by simp [h])))
    · rw [h0]
      by_cases h3 : (x.toNat : Int) < 32
      · exact ev_pos h3 (ev_const (by simp))
      · exact ev_neg h3 (ev_pos (by omega) (ev_const (by simp)))
theorem ev_plain18 (s : ByteArray) (hs : s.size ≤ 4611686018427387904) : Ev (fun k => cruciblelaw18_plain.f k s) (cmdOk s.data.toList) := by
  refine Ev.congr (fun k => by rw [cruciblelaw18_plain.f]; rfl) (ev_eq (ev_plain18_loop s hs s.data.toList [] rfl) ?_)
  unfold cmdOk
  rw [size_data]
theorem or_paths : isP [112] = true ∧ isP [113] = true ∧ isP [111] = true ∧ isP [110, 111, 110, 101] = true := by decide +kernel
abbrev orF (x y : Int) : List (P.S72) := [⟨⟨#[112]⟩, x, 1⟩, ⟨⟨#[113]⟩, y, 2⟩]
theorem orP : (⟨#[112]⟩ : ByteArray).toList = [112] := by rw [toList_data]
theorem orQ : (⟨#[113]⟩ : ByteArray).toList = [113] := by rw [toList_data]
theorem or_may {x y : Int} (hx : 0 ≤ x ∧ x ≤ 65535) (hy : 0 ≤ y ∧ y ≤ 65535) : mayD 2 (orF x y) = true := by
  refine ok_mayD ⟨by omega, by omega, by simp, fun z hz => ?_, ?_, ?_⟩
  · simp only [List.mem_cons, List.not_mem_nil, or_false] at hz
    rcases hz with rfl | rfl
    · simp only [fileOk, Bool.and_eq_true, decide_eq_true_eq]
      exact ⟨or_paths.1, ⟨by omega, by omega⟩, by omega, by omega⟩
    · simp only [fileOk, Bool.and_eq_true, decide_eq_true_eq]
      exact ⟨or_paths.2.1, ⟨by omega, by omega⟩, by omega, by omega⟩
  · simp
  · simp only [List.pairwise_cons, List.mem_cons, List.not_mem_nil, or_false, forall_eq, List.Pairwise.nil, and_true, false_implies, implies_true]
    rw [orP, orQ]
    decide
theorem lookP (x y : Int) : lookF ⟨#[112]⟩ (orF x y) = some ⟨⟨#[112]⟩, x, 1⟩ := by
  rw [lookF, if_pos rfl]
theorem lookQ (x y : Int) : lookF ⟨#[113]⟩ (orF x y) = some ⟨⟨#[113]⟩, y, 2⟩ := by
  rw [lookF, if_neg (by rw [orP, orQ]; decide), lookF, if_pos rfl]
theorem allP_list (xs : List ByteArray) (h : xs.all (fun x => isP x.data.toList) = true) (hl : xs.length ≤ 8) : allP xs 8 = true := by
  unfold allP
  rw [h, decide_eq_true hl]
  rfl
/-- a run with no actions, of an edge whose lists are paths -/
theorem run_plain {o i m r : List ByteArray} {cmd : ByteArray} {t : Int} {fs : List (P.S72)} (ho : allP o 8 = true) (h0 : 0 < o.length) (hi : allP i 8 = true) (hm : allP m 8 = true) (hr : allP r 8 = true) (hc : cmdOk cmd.data.toList = true) (hd : mayD t fs = true) :
    runD [] o i m r cmd false ⟨#[]⟩ t fs = endD [] cmd o.length (lookAll fs (crn_bytes 0 (bytesOf cmd)) (i ++ m)) := by
  have he : edgeOk o i m r cmd ⟨#[]⟩ = true := by
    unfold edgeOk
    rw [ho, hi, hm, hr, hc, decide_eq_true h0]
    rfl
  have hrd : readsD [] o i m r cmd false ⟨#[]⟩ = ([], 0) := by
    unfold readsD
    rw [he]
    rfl
  unfold runD
  rw [hrd, hd, if_pos ⟨rfl, rfl⟩, List.append_nil]
theorem end_nil (cmd : ByteArray) (n : Nat) (h : Int) : endD [] cmd n (some h) = (crn_outs h n, 0) := rfl
theorem or_num1 {a b : Int} (a0 : 0 ≤ a) (a1 : a < 2147483647) (b0 : 0 ≤ b) (b1 : b < 2147483647) (e : (31 * a + 0) % 2147483647 = (31 * b + 0) % 2147483647) : a = b := by omega
theorem or_mod (a y : Int) : (31 * (a % 2147483647) + y) % 2147483647 = (31 * a + y) % 2147483647 := by omega
theorem or_num2 {h x y : Int} (x0 : 0 ≤ x) (x1 : x ≤ 65535) (y0 : 0 ≤ y) (y1 : y ≤ 65535) (e : (31 * ((31 * h + x) % 2147483647) + y) % 2147483647 = (31 * ((31 * h + y) % 2147483647) + x) % 2147483647) : x = y := by
  rw [or_mod, or_mod] at e
  omega
theorem commandOrder_true (a0 a1 : Int) (s : ByteArray) {p q : Prop} (_ : p) (_ : q) (hs : s.size ≤ 140737488351232) : ∃ k, cruciblelaw18_CommandOrder.f k a0 a1 s = some true := by
  have b0 : Go.bits .and .i64 a0 65535 = a0 % 65536 := bits_low 16 (by omega) a0
  have b1 : Go.bits .and .i64 a1 65535 = a1 % 65536 := bits_low 16 (by omega) a1
  refine Ev.rounds (Ev.congr (fun k => by rw [cruciblelaw18_CommandOrder.f, b0, b1]) ?_)
  obtain ⟨x, hx, hx0⟩ : ∃ x, a0 % 65536 = x ∧ 0 ≤ x ∧ x ≤ 65535 := ⟨_, rfl, by omega, by omega⟩
  obtain ⟨y, hy, hy0⟩ : ∃ y, a1 % 65536 = y ∧ 0 ≤ y ∧ y ≤ 65535 := ⟨_, rfl, by omega, by omega⟩
  rw [hx, hy]
  refine ev_bindc (x := true) rfl (ev_pos rfl (ev_bind (ev_plain18 s (by omega)) ?_))
  cases hc : cmdOk s.data.toList with
  | false => exact ev_neg (by simp) (Ev.now _)
  | true =>
    have hd := or_may hx0 hy0
    have hS : SmallA [] := fun x h => by cases h
    have l1 : ∀ c : UInt8, isP [c] = true → allP [⟨#[c]⟩] 8 = true := fun c h => allP_list _ (by simpa using h) (by simp)
    have po := l1 111 or_paths.2.2.1
    have pp := l1 112 or_paths.1
    have pq := l1 113 or_paths.2.1
    have ppq : allP [⟨#[112]⟩, ⟨#[113]⟩] 8 = true := allP_list _ (by simp [or_paths.1, or_paths.2.1]) (by simp)
    have pn : allP [⟨#[110, 111, 110, 101]⟩] 8 = true := allP_list _ (by simp [or_paths.2.2.2]) (by simp)
    have pe : allP [] 8 = true := rfl
    have sE : ∀ o i m r : List ByteArray, o.length ≤ 8 → i.length ≤ 8 → m.length ≤ 8 → r.length ≤ 8 → SmallE o i m r s ⟨#[]⟩ := fun o i m r h1 h2 h3 h4 => ⟨by omega, by omega, by omega, by omega, by omega⟩
    have H := hash_in s
    generalize hH : crn_bytes 0 (bytesOf s) = h at H
    obtain ⟨g0, g1⟩ := H
    have e1 := ev_Run [] [⟨#[111]⟩] [⟨#[112]⟩, ⟨#[113]⟩] [] [] s false ⟨#[]⟩ 2 (orF x y) hS (by simp) (sE _ _ _ _ (by simp) (by simp) (by simp) (by simp)) (by simp) (by omega)
    rw [run_plain po (by simp) ppq pe pe hc hd, hH] at e1
    have e2 := ev_Run [] [⟨#[111]⟩] [⟨#[113]⟩] [⟨#[112]⟩] [] s false ⟨#[]⟩ 2 (orF x y) hS (by simp) (sE _ _ _ _ (by simp) (by simp) (by simp) (by simp)) (by simp) (by omega)
    rw [run_plain po (by simp) pq pp pe hc hd, hH] at e2
    have e3 := ev_Run [] [⟨#[111]⟩] [⟨#[112]⟩] [⟨#[113]⟩] [⟨#[110, 111, 110, 101]⟩] s false ⟨#[]⟩ 2 (orF x y) hS (by simp) (sE _ _ _ _ (by simp) (by simp) (by simp) (by simp)) (by simp) (by omega)
    rw [run_plain po (by simp) pp pq pn hc hd, hH] at e3
    have m1 := mix_in g0 g1 hx0.1 (by omega : x ≤ 2147483648)
    have m2 := mix_in g0 g1 hy0.1 (by omega : y ≤ 2147483648)
    have n1 := mix_in m1.1 m1.2 hy0.1 (by omega : y ≤ 2147483648)
    have n2 := mix_in m2.1 m2.2 hx0.1 (by omega : x ≤ 2147483648)
    have k1 : lookAll (orF x y) h [⟨#[112]⟩, ⟨#[113]⟩] = some (crn_mix (crn_mix h x) y) := by
      simp only [lookAll, lookP, lookQ]
    have k2 : lookAll (orF x y) h [⟨#[113]⟩, ⟨#[112]⟩] = some (crn_mix (crn_mix h y) x) := by
      simp only [lookAll, lookP, lookQ]
    simp only [List.append_nil, List.cons_append, List.nil_append, k1, k2, end_nil, List.length_cons, List.length_nil, Nat.zero_add] at e1 e2 e3
    have hq : (crn_mix (crn_mix (crn_mix h x) y) 0 = crn_mix (crn_mix (crn_mix h y) x) 0) ↔ x = y := by
      rw [mix_is n1.1 n1.2 (by omega) (by omega), mix_is n2.1 n2.2 (by omega) (by omega)]
      constructor
      · intro e
        have e4 : crn_mix (crn_mix h x) y = crn_mix (crn_mix h y) x := or_num1 n1.1 n1.2 n2.1 n2.2 e
        rw [mix_is m1.1 m1.2 hy0.1 (by omega), mix_is m2.1 m2.2 hx0.1 (by omega), mix_is g0 g1 hx0.1 (by omega), mix_is g0 g1 hy0.1 (by omega)] at e4
        exact or_num2 hx0.1 hx0.2 hy0.1 hy0.2 e4
      · intro e
        rw [e]
    refine ev_pos rfl (ev_bindc (x := orF x y) rfl (ev_bind e1 (ev_bind e2 (ev_bind e3 ?_))))
    refine ev_bindc (x := 0) rfl (ev_pos rfl (ev_bindc (x := 0) rfl (ev_pos rfl (ev_bindc (x := 0) rfl (ev_pos rfl ?_)))))
    have o1 : ∀ v : Int, crn_outs v 1 = [crn_mix v 0] := fun v => rfl
    simp only [o1]
    refine ev_pos rfl (ev_pos rfl (ev_pos rfl (ev_pos (by simp) (ev_pos (by simp) (ev_pos trivial (ev_pos (by simp) (ev_pos ?_ ?_)))))))
    · show ((crn_mix (crn_mix (crn_mix h x) y) 0 == crn_mix (crn_mix (crn_mix h y) x) 0) == (x == y)) = true
      rw [beq_iff_eq, Bool.eq_iff_iff, beq_iff_eq, beq_iff_eq]
      exact hq
    · refine ev_bind (ev_DiskMay 2 (orF x y) (by simp) (fun z hz => ?_)) ?_
      · simp only [List.mem_cons, List.not_mem_nil, or_false] at hz
        rcases hz with rfl | rfl
        · show (1 : Nat) ≤ _; omega
        · show (1 : Nat) ≤ _; omega
      · rw [hd]
        exact Ev.now _
end Go.Proofs.YtilnamobmjngbaaDoor.Spec
