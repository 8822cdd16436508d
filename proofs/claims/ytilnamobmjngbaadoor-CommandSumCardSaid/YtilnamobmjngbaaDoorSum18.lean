/- The law CommandSum without the program. -/
import Derived.Test.YtilnamobmjngbaaDoorMix18
import Derived.Test.YtilnamobmjngbaaDoorP36
namespace Go.Proofs.YtilnamobmjngbaaDoor.Spec
open Go.RowKit Go.Proofs.YtilnamobmjngbaaDoorW.PrintWords Go.Proofs.YtilnamobmjngbaaDoor.P

def nmO (i : Nat) : ByteArray := (⟨#[111]⟩ : ByteArray) ++ strOfNums [97 + (i : Int)]
def nmOL (i : Nat) : List UInt8 := [111, UInt8.ofNat (97 + i)]
theorem nmOL_may : ∀ i : Fin 8, isP (nmOL i) = true := by decide +kernel
theorem nmO_is (i : Nat) : (nmO i).data.toList = nmOL i := by
  unfold nmO
  rw [append_data, strOfNums_data]
  unfold nmOL
  rw [List.map_cons, List.map_nil, show (97 + (i : Int)).toNat = 97 + i by omega]
  rfl
def outsO (n : Nat) : List ByteArray := (List.range n).map nmO
theorem outsO_succ (n : Nat) : outsO (n + 1) = outsO n ++ [nmO n] := by
  unfold outsO
  rw [List.range_succ, List.map_append, List.map_cons, List.map_nil]
theorem outsO_len (n : Nat) : (outsO n).length = n := by simp [outsO]
theorem outsO_may (n : Nat) (h : n ≤ 8) : allP (outsO n) 8 = true := by
  unfold allP
  rw [outsO_len, decide_eq_true h, Bool.and_true, List.all_eq_true]
  intro x hx
  obtain ⟨j, hj, rfl⟩ := List.mem_map.1 hx
  have := List.mem_range.1 hj
  rw [nmO_is]
  exact nmOL_may ⟨j, by omega⟩
theorem sq_path : isP [113] = true := by decide +kernel
theorem sq_list : (⟨#[113]⟩ : ByteArray).toList = [113] := by rw [toList_data]
abbrev sqF (c : Int) : List (P.S72) := [⟨⟨#[113]⟩, c, 1⟩]
theorem sq_may {c : Int} (h : 0 ≤ c ∧ c ≤ 2147483647) : mayD 1 (sqF c) = true := by
  refine ok_mayD ⟨by omega, by omega, by simp, fun z hz => ?_, List.pairwise_singleton _ _, List.pairwise_singleton _ _⟩
  simp only [List.mem_cons, List.not_mem_nil, or_false] at hz
  subst hz
  simp only [fileOk, Bool.and_eq_true, decide_eq_true_eq]
  exact ⟨sq_path, h, by omega, by omega⟩
theorem ev_sum_l2 (h : Int) (n : Nat) (hn : n ≤ 100) : ∀ m i, i + m = n → Ev (fun k => cruciblelaw18_CommandSum.l2 k (crn_outs h n) h (i : Int)) true
  | 0, i, e => by
    refine Ev.step (fun k => by rw [cruciblelaw18_CommandSum.l2]) ?_
    exact ev_neg (by rw [crn_outs_len]; omega) (Ev.now _)
  | m + 1, i, e => by
    have hw : wrap64 ((i : Int) + 1) = ((i + 1 : Nat) : Int) := wrap_nat (by omega)
    have hr : rd (crn_outs h n) (i : Int) = crn_mix h (i : Int) := by
      unfold rd crn_outs
      rw [Int.toNat_natCast, List.getD_eq_getElem?_getD, List.getElem?_map, List.getElem?_range (by omega)]
      rfl
    refine Ev.step (fun k => by rw [cruciblelaw18_CommandSum.l2, hr, hw]) ?_
    refine ev_pos (by rw [crn_outs_len]; omega) (ev_pos (by omega) (ev_pos rfl ?_))
    exact ev_sum_l2 h n hn m (i + 1) (by omega)
theorem ev_sum_bad (s : ByteArray) (x2 c : Int) (hs : s.size ≤ 1000) : ∀ (rest pre : List UInt8) (h : Int), s.data.toList = pre ++ rest → rest.all plainB = false → Ev (fun k => cruciblelaw18_CommandSum.l1 k s x2 c [] 1800 h (pre.length : Int)) true
  | [], pre, h, e, ha => by simp at ha
  | x :: rest, pre, h, e, ha => by
    have hz := size_pre s pre x rest e
    have hb := bt_pre s pre x rest e
    have hw : wrap64 ((pre.length : Int) + 1) = ((pre ++ [x]).length : Int) := wrap_len pre x (by omega)
    refine Ev.step (fun k => by rw [cruciblelaw18_CommandSum.l1, hb, hw]) ?_
    refine ev_pos (by omega) (ev_pos (by omega) ?_)
    rcases plain_cases x with ⟨h0, h1, h2⟩ | ⟨h0, h1⟩
    · rw [List.all_cons, h0, Bool.true_and] at ha
      exact ev_neg h1 (ev_neg h2 (ev_sum_bad s x2 c hs rest (pre ++ [x]) _ (by simp [e]) ha))
    · by_cases h3 : (x.toNat : Int) < 32
      · exact ev_pos h3 (ev_pos (by simp) (ev_bindc (x := 1800) rfl (ev_const rfl)))
      · exact ev_neg h3 (ev_pos (by omega) (ev_pos (by simp) (ev_bindc (x := 1800) rfl (ev_const rfl))))
theorem ev_sum_good (s : ByteArray) (x2 c H : Int) (n : Nat) (hs : s.size ≤ 1000) (hn : n ≤ 100) (hN : wrap64 (1 + Go.bits .and .i64 x2 7) = (n : Int)) : ∀ (rest pre : List UInt8) (h : Int), s.data.toList = pre ++ rest → rest.all plainB = true → crn_bytes h ((bytesOf s).drop pre.length) = H →
    Ev (fun k => cruciblelaw18_CommandSum.l1 k s x2 c (crn_outs (crn_mix H c) n) 0 h (pre.length : Int)) true
  | [], pre, h, e, _, hH => by
    have hz := size_le e
    simp only [List.append_nil] at hz
    rw [List.drop_of_length_le (by rw [bytesOf_length]; omega)] at hH
    obtain rfl : h = H := hH
    refine Ev.step (fun k => by rw [cruciblelaw18_CommandSum.l1, hN]) ?_
    refine ev_neg (by omega) (ev_bindc (x := 0) rfl (ev_pos rfl ?_))
    refine Ev.step (fun k => by rw [cruciblelaw18_CommandSum.j3]) ?_
    refine ev_neg (by rw [crn_outs_len]; simp) ?_
    exact ev_sum_l2 (crn_mix h c) n hn n 0 (by omega)
  | x :: rest, pre, h, e, ha, hH => by
    have hz := size_pre s pre x rest e
    have hb := bt_pre s pre x rest e
    have hw : wrap64 ((pre.length : Int) + 1) = ((pre ++ [x]).length : Int) := wrap_len pre x (by omega)
    have hx := x.toNat_lt
    have hwb : wrap64 (x.toNat : Int) = (x.toNat : Int) := wrap_id (by omega) (by omega)
    rw [bt_drop s pre.length hz, hb] at hH
    refine Ev.step (fun k => by rw [cruciblelaw18_CommandSum.l1, hb, hw, hwb]) ?_
    refine ev_pos (by omega) (ev_pos (by omega) ?_)
    rw [List.all_cons, Bool.and_eq_true] at ha
    rcases plain_cases x with ⟨h0, h1, h2⟩ | ⟨h0, h1⟩
    · exact ev_neg h1 (ev_neg h2 (ev_sum_good s x2 c H n hs hn hN rest (pre ++ [x]) _ (by simp [e]) ha.2 (by rw [List.length_append, List.length_singleton]; exact hH)))
    · rw [ha.1] at h0; exact absurd h0 (by decide)
theorem ev_sum_l0 (s : ByteArray) (x2 c : Int) (m : Nat) (hm : m ≤ 7) (hb : Go.bits .and .i64 x2 7 = (m : Int)) (F : Ev (fun k => (command_Run.f k ([] : List (P.S33)) (outsO (m + 1)) [⟨#[113]⟩] ([] : List ByteArray) ([] : List ByteArray) s false ⟨#[]⟩ 1 (sqF c)).bind fun bt => cruciblelaw18_CommandSum.l1 k s x2 c bt.1 bt.2 0 0) true) :
    ∀ d i, i + d = m + 1 → Ev (fun k => cruciblelaw18_CommandSum.l0 k s x2 c (i : Int) (outsO i) [⟨#[113]⟩] s false ⟨#[]⟩) true
  | 0, i, e => by
    obtain rfl : i = m + 1 := by omega
    refine Ev.step (fun k => by rw [cruciblelaw18_CommandSum.l0, hb]) ?_
    exact ev_neg (by omega) F
  | d + 1, i, e => by
    have hw : wrap64 ((i : Int) + 1) = ((i + 1 : Nat) : Int) := wrap_nat (by omega)
    have hv : wrap64 (97 + (i : Int)) % 256 = 97 + (i : Int) := by rw [wrap_id (by omega) (by omega)]; omega
    refine Ev.step (fun k => by rw [cruciblelaw18_CommandSum.l0, hb, hw, hv]) ?_
    refine ev_pos (by omega) (ev_bindc (x := [97 + (i : Int)]) rfl (ev_pos ?_ (ev_pos (by rw [outsO_len]; omega) ?_)))
    · rw [strOfNums_size]; simp
    · have := ev_sum_l0 s x2 c m hm hb F d (i + 1) (by omega)
      rw [outsO_succ] at this
      exact this
theorem commandSum_true (a0 : Int) (s : ByteArray) (a2 : Int) {p q : Prop} (_ : p) (hs : s.size ≤ 140737488351232) (_ : q) : ∃ k, cruciblelaw18_CommandSum.f k a0 s a2 = some true := by
  have b0 : Go.bits .and .i64 a0 2147483647 = a0 % 2147483648 := bits_low 31 (by omega) a0
  have b2 : Go.bits .and .i64 a2 7 = a2 % 8 := bits_low 3 (by omega) a2
  obtain ⟨m, hm, hm7⟩ : ∃ m : Nat, a2 % 8 = (m : Int) ∧ m ≤ 7 := ⟨(a2 % 8).toNat, by omega, by omega⟩
  rw [hm] at b2
  obtain ⟨c, hc, hc0⟩ : ∃ c, a0 % 2147483648 = c ∧ 0 ≤ c ∧ c ≤ 2147483647 := ⟨_, rfl, by omega, by omega⟩
  refine Ev.rounds (Ev.congr (fun k => by rw [cruciblelaw18_CommandSum.f, b0, hc]) ?_)
  refine ev_bindc (x := true) rfl (ev_pos rfl ?_)
  have done : Ev (fun k => cruciblelaw18_CommandSum.j0 k s a2 c true) true := Ev.step (fun k => by rw [cruciblelaw18_CommandSum.j0]) (ev_pos rfl (Ev.now _))
  by_cases h1 : (s.size : Int) < 1
  · exact ev_pos h1 done
  refine ev_neg h1 ?_
  by_cases h2 : (s.size : Int) > 100
  · rw [decide_eq_true h2]
    exact done
  rw [decide_eq_false h2]
  refine Ev.step (fun k => by rw [cruciblelaw18_CommandSum.j0]) ?_
  refine ev_neg (by simp) ?_
  have hE : SmallE (outsO (m + 1)) [⟨#[113]⟩] [] [] s ⟨#[]⟩ := ⟨by rw [outsO_len]; omega, by simp, by simp, by simp, by omega⟩
  have eR := ev_Run [] (outsO (m + 1)) [⟨#[113]⟩] [] [] s false ⟨#[]⟩ 1 (sqF c) (fun x h => by cases h) (by simp) hE (by simp) (by omega)
  have hwn : wrap64 (1 + Go.bits .and .i64 a2 7) = ((m + 1 : Nat) : Int) := by rw [b2, wrap_id (by omega) (by omega)]; omega
  refine ev_sum_l0 s a2 c m hm7 b2 (ev_bind eR ?_) (m + 1) 0 (by omega)
  have pq : allP [⟨#[113]⟩] 8 = true := by unfold allP; simp [sq_path]
  have hl := size_data s
  cases ha : s.data.toList.all plainB with
  | false =>
    have hco : cmdOk s.data.toList = false := by unfold cmdOk; rw [ha]; rfl
    have hr : runD [] (outsO (m + 1)) [⟨#[113]⟩] [] [] s false ⟨#[]⟩ 1 (sqF c) = ([], 1800) := by
      unfold runD readsD edgeOk
      rw [hco]
      simp
    rw [hr]
    exact ev_sum_bad s a2 c (by omega) s.data.toList [] 0 rfl ha
  | true =>
    have hco : cmdOk s.data.toList = true := by
      unfold cmdOk
      rw [ha, decide_eq_true (by omega), decide_eq_true (by omega)]
      rfl
    have he : edgeOk (outsO (m + 1)) [⟨#[113]⟩] [] [] s ⟨#[]⟩ = true := by
      unfold edgeOk
      rw [outsO_may (m + 1) (by omega), pq, hco, outsO_len, decide_eq_true (by omega)]
      rfl
    have hrd : readsD [] (outsO (m + 1)) [⟨#[113]⟩] [] [] s false ⟨#[]⟩ = ([], 0) := by
      unfold readsD
      rw [he]
      rfl
    have hr : runD [] (outsO (m + 1)) [⟨#[113]⟩] [] [] s false ⟨#[]⟩ 1 (sqF c) = (crn_outs (crn_mix (crn_bytes 0 (bytesOf s)) c) (m + 1), 0) := by
      unfold runD
      rw [hrd, sq_may hc0, if_pos ⟨rfl, rfl⟩, outsO_len]
      have : lookF ⟨#[113]⟩ (sqF c) = some ⟨⟨#[113]⟩, c, 1⟩ := by rw [lookF, if_pos rfl]
      simp only [List.append_nil, lookAll, this]
      rfl
    rw [hr]
    exact ev_sum_good s a2 c _ (m + 1) (by omega) (by omega) hwn s.data.toList [] 0 rfl ha rfl
end Go.Proofs.YtilnamobmjngbaaDoor.Spec
