/- Chapter 15: the law DeprecSizes without the program. -/
import Derived.Test.YtkplcmcmpdhigaaDoorAw15
import Derived.Test.YtkplcmcmpdhigaaDoorP50
namespace Go.Proofs.YtkplcmcmpdhigaaDoor.Spec
open Go.RowKit Go.Proofs.YtkplcmcmpdhigaaDoorW.PrintWords Go.Proofs.YtkplcmcmpdhigaaDoor.P

theorem bt_is {s : ByteArray} {l : List UInt8} (i : Nat) (pre : List UInt8) (x : UInt8) (rest : List UInt8) (h : s.data.toList = l) (e : l = pre ++ x :: rest) (hi : pre.length = i) : bt s (i : Int) = (x.toNat : Int) := by
  subst hi; exact bt_pre s pre x rest (by rw [h, e])
theorem lowL1 (x : Nat) : lowL 1 x = [x.toUInt8] := rfl
theorem lowL2 (x : Nat) : lowL 2 x = [x.toUInt8, (x / 256).toUInt8] := rfl
theorem lowL4 (x : Nat) : lowL 4 x = [x.toUInt8, (x / 256).toUInt8, (x / 256 / 256).toUInt8, (x / 256 / 256 / 256).toUInt8] := rfl
/-- a found's bytes, read -/
theorem found_reads (o : List UInt8) (t : Nat) (ins : List (List UInt8)) (s : ByteArray) (hs : s = str (foundL o t ins)) (ho : o.length ≤ 16) (hb : bulk ins ≤ 136) (hl : ins.length ≤ 8) (ht : t ≤ 1048576) :
    s.size = o.length + 8 + bulk ins ∧ bt s 0 = ((o.length + 6 + bulk ins : Nat) : Int) ∧ bt s 1 = 0 ∧ bt s 2 = (o.length : Int) ∧ (s.data.toList.take (3 + o.length)).drop 3 = o ∧
    bt s ((3 + o.length : Nat) : Int) = ((t % 256 : Nat) : Int) ∧ bt s ((4 + o.length : Nat) : Int) = ((t / 256 % 256 : Nat) : Int) ∧ bt s ((5 + o.length : Nat) : Int) = ((t / 256 / 256 : Nat) : Int) ∧ bt s ((6 + o.length : Nat) : Int) = 0 ∧ bt s ((7 + o.length : Nat) : Int) = (ins.length : Int) := by
  have hd : s.data.toList = foundL o t ins := by rw [hs, str_data]
  obtain ⟨T, hT⟩ : ∃ T, (ins.map txtL).flatten = T := ⟨_, rfl⟩
  have hB := bodyL_len o t ins
  have e : foundL o t ins = (o.length + 6 + bulk ins).toUInt8 :: ((o.length + 6 + bulk ins) / 256).toUInt8 :: o.length.toUInt8 :: (o ++ t.toUInt8 :: (t / 256).toUInt8 :: (t / 256 / 256).toUInt8 :: (t / 256 / 256 / 256).toUInt8 :: ins.length.toUInt8 :: T) := by
    rw [foundL, hB, bodyL, txtL, lowL1, lowL2, lowL4, lowL1, hT]; simp
  have hz : s.size = o.length + 8 + bulk ins := by rw [hs, str_size, foundL_len]
  refine ⟨hz, ?_, ?_, ?_, ?_, ?_, ?_, ?_, ?_, ?_⟩
  · have := bt_is 0 [] _ _ hd e rfl
    rw [byte_nat, Nat.mod_eq_of_lt (by omega)] at this
    exact this
  · have := bt_is 1 [(o.length + 6 + bulk ins).toUInt8] _ _ hd e rfl
    rw [byte_nat, show (o.length + 6 + bulk ins) / 256 = 0 by omega] at this
    exact this
  · have := bt_is 2 [(o.length + 6 + bulk ins).toUInt8, ((o.length + 6 + bulk ins) / 256).toUInt8] _ _ hd e rfl
    rw [byte_nat, Nat.mod_eq_of_lt (by omega)] at this
    exact this
  · rw [hd, e, Nat.add_comm 3]
    simp
  · have := bt_is (3 + o.length) ((o.length + 6 + bulk ins).toUInt8 :: ((o.length + 6 + bulk ins) / 256).toUInt8 :: o.length.toUInt8 :: o) _ _ hd (by rw [e]; rfl) (by simp; omega)
    rw [byte_nat] at this
    exact this
  · have := bt_is (4 + o.length) ((o.length + 6 + bulk ins).toUInt8 :: ((o.length + 6 + bulk ins) / 256).toUInt8 :: o.length.toUInt8 :: (o ++ [t.toUInt8])) (t / 256).toUInt8 ((t / 256 / 256).toUInt8 :: (t / 256 / 256 / 256).toUInt8 :: ins.length.toUInt8 :: T) hd (by rw [e]; simp) (by simp; omega)
    rw [byte_nat] at this
    exact this
  · have := bt_is (5 + o.length) ((o.length + 6 + bulk ins).toUInt8 :: ((o.length + 6 + bulk ins) / 256).toUInt8 :: o.length.toUInt8 :: (o ++ [t.toUInt8, (t / 256).toUInt8])) (t / 256 / 256).toUInt8 ((t / 256 / 256 / 256).toUInt8 :: ins.length.toUInt8 :: T) hd (by rw [e]; simp) (by simp; omega)
    rw [byte_nat, Nat.mod_eq_of_lt (by omega)] at this
    exact this
  · have := bt_is (6 + o.length) ((o.length + 6 + bulk ins).toUInt8 :: ((o.length + 6 + bulk ins) / 256).toUInt8 :: o.length.toUInt8 :: (o ++ [t.toUInt8, (t / 256).toUInt8, (t / 256 / 256).toUInt8])) (t / 256 / 256 / 256).toUInt8 (ins.length.toUInt8 :: T) hd (by rw [e]; simp) (by simp; omega)
    rw [byte_nat, show t / 256 / 256 / 256 = 0 by omega] at this
    exact this
  · have := bt_is (7 + o.length) ((o.length + 6 + bulk ins).toUInt8 :: ((o.length + 6 + bulk ins) / 256).toUInt8 :: o.length.toUInt8 :: (o ++ [t.toUInt8, (t / 256).toUInt8, (t / 256 / 256).toUInt8, (t / 256 / 256 / 256).toUInt8])) ins.length.toUInt8 T hd (by rw [e]; simp) (by simp; omega)
    rw [byte_nat, Nat.mod_eq_of_lt (by omega)] at this
    exact this
theorem wid (n : Nat) (h : n ≤ 1000000000) : wrap64 (n : Int) = (n : Int) := wrap_id (by omega) (by omega)
theorem two_bytes (p q : Nat) (hp : p ≤ 1000) (hq : q ≤ 1000) : wrap64 (wrap64 (p : Int) + wrap64 (256 * wrap64 (q : Int))) = ((p + 256 * q : Nat) : Int) := by
  rw [wid p (by omega), wid q (by omega), show (256 * (q : Int)) = ((256 * q : Nat) : Int) by omega, wid (256 * q) (by omega), show ((p : Int) + ((256 * q : Nat) : Int)) = ((p + 256 * q : Nat) : Int) by omega, wid _ (by omega)]
theorem three_bytes (p q r : Nat) (hp : p ≤ 1000) (hq : q ≤ 1000) (hr : r ≤ 1000) : wrap64 (wrap64 (wrap64 (p : Int) + wrap64 (256 * wrap64 (q : Int))) + wrap64 (65536 * wrap64 (r : Int))) = ((p + 256 * q + 65536 * r : Nat) : Int) := by
  rw [two_bytes p q hp hq, wid r (by omega), show (65536 * (r : Int)) = ((65536 * r : Nat) : Int) by omega, wid (65536 * r) (by omega), show (((p + 256 * q : Nat) : Int) + ((65536 * r : Nat) : Int)) = ((p + 256 * q + 65536 * r : Nat) : Int) by omega, wid _ (by omega)]
theorem wadd (n c : Nat) (h : n ≤ 100000) (hc : c ≤ 1000) : wrap64 ((n : Int) + (c : Int)) = ((n + c : Nat) : Int) := by
  rw [show ((n : Int) + (c : Int)) = ((n + c : Nat) : Int) by omega, wid _ (by omega)]
theorem time_bytes (t : Nat) : t % 256 + 256 * (t / 256 % 256) + 65536 * (t / 256 / 256) = t := by omega
theorem small17 {a : Nat} (h : a ≤ 16) : a ≤ 1000 := by omega
theorem small20 {a : Nat} (h : a ≤ 16) : 3 + a ≤ 100000 := by omega
theorem three_up (a c d : Nat) (h : 3 + c = d) : 3 + a + c = d + a := by omega
theorem small_mod (t : Nat) : t % 256 ≤ 1000 := by omega
theorem small_div {t : Nat} (h : t ≤ 1048576) : t / 256 / 256 ≤ 1000 := by omega
theorem small_sum {a B : Nat} (h : a ≤ 16) (h2 : B ≤ 136) : a + 6 + B ≤ 1000 := by omega
theorem big_of {n : Nat} (h : n ≤ 1000) : n ≤ 1000000000 := by omega
theorem sub_two {x a B : Nat} (h : x = a + 8 + B) : ((x : Int) - 2) = ((a + 6 + B : Nat) : Int) := by omega
theorem sizes_chain (a : Nat) (s o : ByteArray) (ins : List ByteArray) (t x B : Nat) (ha : a ≤ 16) (hn8 : ins.length ≤ 8) (hB8 : B ≤ 136) (hoa : o.size = a) (ht : t ≤ 1048576) (hx : x = a + 8 + B) (f1 : s.size = a + 8 + B) (f2 : bt s 0 = ((a + 6 + B : Nat) : Int)) (f3 : bt s 1 = 0) (f4 : bt s 2 = (a : Int)) (f5 : (s.extract 3 (3 + a)).toList = o.toList)
    (f6 : bt s ((3 + a : Nat) : Int) = ((t % 256 : Nat) : Int)) (f7 : bt s ((4 + a : Nat) : Int) = ((t / 256 % 256 : Nat) : Int)) (f8 : bt s ((5 + a : Nat) : Int) = ((t / 256 / 256 : Nat) : Int)) (f9 : bt s ((6 + a : Nat) : Int) = 0) (f10 : bt s ((7 + a : Nat) : Int) = (ins.length : Int)) : ((if (s.size : Int) = (x : Int) then (if 0 < (s.size : Int) then (if 1 < (s.size : Int) then (if (wrap64 ((wrap64 (bt s 0)) + (wrap64 (256 * (wrap64 (bt s 1)))))) = (wrap64 ((x : Int) - 2)) then (if 2 < (s.size : Int) then (if (wrap64 (bt s 2)) = (o.size : Int) then (if 3 ≤ (wrap64 (3 + (o.size : Int))) then (if (wrap64 (3 + (o.size : Int))) ≤ (s.size : Int) then (if (s.extract 3 ((wrap64 (3 + (o.size : Int))) : Int).toNat).toList = o.toList then (if 0 ≤ (wrap64 (3 + (o.size : Int))) then (if (wrap64 (3 + (o.size : Int))) < (s.size : Int) then (if 0 ≤ (wrap64 ((wrap64 (3 + (o.size : Int))) + 1)) then (if (wrap64 ((wrap64 (3 + (o.size : Int))) + 1)) < (s.size : Int) then (if 0 ≤ (wrap64 ((wrap64 (3 + (o.size : Int))) + 2)) then (if (wrap64 ((wrap64 (3 + (o.size : Int))) + 2)) < (s.size : Int) then (if (wrap64 ((wrap64 ((wrap64 (bt s (wrap64 (3 + (o.size : Int))))) + (wrap64 (256 * (wrap64 (bt s (wrap64 ((wrap64 (3 + (o.size : Int))) + 1)))))))) + (wrap64 (65536 * (wrap64 (bt s (wrap64 ((wrap64 (3 + (o.size : Int))) + 2)))))))) = (t : Int) then (if 0 ≤ (wrap64 ((wrap64 (3 + (o.size : Int))) + 3)) then (if (wrap64 ((wrap64 (3 + (o.size : Int))) + 3)) < (s.size : Int) then (if (bt s (wrap64 ((wrap64 (3 + (o.size : Int))) + 3))) = 0 then (if 0 ≤ (wrap64 ((wrap64 (3 + (o.size : Int))) + 4)) then (if (wrap64 ((wrap64 (3 + (o.size : Int))) + 4)) < (s.size : Int) then (some ((wrap64 (bt s (wrap64 ((wrap64 (3 + (o.size : Int))) + 4)))) == (ins.length : Int))) else (none)) else (none)) else (some false)) else (none)) else (none)) else (some false)) else (none)) else (none)) else (none)) else (none)) else (none)) else (none)) else (some false)) else (none)) else (none)) else (some false)) else (none)) else (some false)) else (none)) else (none)) else (some false)) : Option Bool) = some true := by
  have ho : (o.size : Int) = (a : Int) := by rw [hoa]
  have w0 : wrap64 (3 + (a : Int)) = ((3 + a : Nat) : Int) := by
    have := wadd 3 a (by decide) (small17 ha)
    exact this
  have w1 : wrap64 (((3 + a : Nat) : Int) + 1) = ((4 + a : Nat) : Int) := by
    have := wadd (3 + a) 1 (small20 ha) (by decide)
    rw [three_up a 1 4 rfl] at this
    exact this
  have w2 : wrap64 (((3 + a : Nat) : Int) + 2) = ((5 + a : Nat) : Int) := by
    have := wadd (3 + a) 2 (small20 ha) (by decide)
    rw [three_up a 2 5 rfl] at this
    exact this
  have w3 : wrap64 (((3 + a : Nat) : Int) + 3) = ((6 + a : Nat) : Int) := by
    have := wadd (3 + a) 3 (small20 ha) (by decide)
    rw [three_up a 3 6 rfl] at this
    exact this
  have w4 : wrap64 (((3 + a : Nat) : Int) + 4) = ((7 + a : Nat) : Int) := by
    have := wadd (3 + a) 4 (small20 ha) (by decide)
    rw [three_up a 4 7 rfl] at this
    exact this
  have ht3 : wrap64 (wrap64 (wrap64 ((t % 256 : Nat) : Int) + wrap64 (256 * wrap64 ((t / 256 % 256 : Nat) : Int))) + wrap64 (65536 * wrap64 ((t / 256 / 256 : Nat) : Int))) = (t : Int) := by
    rw [three_bytes _ _ _ (small_mod _) (small_mod _) (small_div ht), time_bytes]
  have hs2 : wrap64 (wrap64 ((a + 6 + B : Nat) : Int) + wrap64 (256 * wrap64 0)) = wrap64 ((x : Int) - 2) := by
    have h1 := two_bytes (a + 6 + B) 0 (small_sum ha hB8) (by decide)
    rw [show ((x : Int) - 2) = ((a + 6 + B : Nat) : Int) from sub_two hx, wid (a + 6 + B) (big_of (small_sum ha hB8))]
    rw [Nat.mul_zero, Nat.add_zero] at h1
    rw [wid (a + 6 + B) (big_of (small_sum ha hB8))] at h1
    exact h1
  have hs3 : wrap64 (a : Int) = (a : Int) := wid a (big_of (small17 ha))
  have hs4 : wrap64 (ins.length : Int) = (ins.length : Int) := wid _ (big_of (Nat.le_trans hn8 (by decide)))
  have hz : (s.size : Int) = ((a + 8 + B : Nat) : Int) := by rw [f1]
  rw [ho, w0, w1, w2, w3, w4, f2, f3, f4, f6, f7, f8, f9, f10, ht3, hs2, hs3, hs4, hz, Int.toNat_natCast, f5]
  clear f1 f2 f3 f4 f5 f6 f7 f8 f9 f10 w0 w1 w2 w3 w4 ht3 hs2 hs3 hs4 hz ho hoa
  rw [if_pos (by omega), if_pos (by omega), if_pos (by omega), if_pos rfl, if_pos (by omega), if_pos rfl, if_pos (by omega), if_pos (by omega), if_pos rfl, if_pos (by omega), if_pos (by omega), if_pos (by omega), if_pos (by omega), if_pos (by omega), if_pos (by omega), if_pos rfl, if_pos (by omega), if_pos (by omega), if_pos rfl, if_pos (by omega), if_pos (by omega)]
  simp
theorem cells_step {x y R T : Nat} (hx : x + (y + 1 + R) = T) (hT : T ≤ 1000) : wrap64 (wrap64 ((x : Int) + 1) + (y : Int)) = ((x + 1 + y : Nat) : Int) ∧ (x + 1 + y) + R = T := by
  refine ⟨?_, by omega⟩
  have h1 := wadd x 1 (by omega) (by decide)
  have e1 : ((x : Int) + ((1 : Nat) : Int)) = (x : Int) + 1 := rfl
  rw [e1] at h1
  rw [h1, wadd (x + 1) y (by omega) (by omega)]
theorem sum_small {o b : Nat} (h : o ≤ 16) (h2 : b ≤ 136) : o + 8 + b ≤ 1000 := by omega
theorem not_lt_end {α : Type} {ins pre : List α} (h : ins = pre ++ []) : ¬ ((pre.length : Int) < (ins.length : Int)) := by rw [h]; simp
theorem lt_mid {α : Type} {ins pre rest : List α} {y : α} (h : ins = pre ++ y :: rest) : (pre.length : Int) < (ins.length : Int) := by rw [h]; simp; omega
theorem ev_Sizes_loop (o : ByteArray) (ins : List ByteArray) (t B : Nat) (ho : o.size ≤ 16) (hB : bulk (datas ins) = B) (hb : B ≤ 136) (hl : ins.length ≤ 8) (ht : t ≤ 1048576) (s : ByteArray) (hs : s = str (foundL o.data.toList t (datas ins))) :
    ∀ (rest pre : List ByteArray) (x R : Nat), ins = pre ++ rest → bulk (datas rest) = R → x + R = o.size + 8 + B → Ev (fun k => cruciblelaw15_DeprecSizes.l0 k o ins (t : Int) s (x : Int) (pre.length : Int)) true
  | [], pre, x, R, h, hR, hx => by
    obtain ⟨f1, f2, f3, f4, f5, f6, f7, f8, f9, f10⟩ := found_reads o.data.toList t (datas ins) s hs (by rw [size_data]; exact ho) (by rw [hB]; exact hb) (by rw [datas, List.length_map]; exact hl) ht
    rw [size_data, hB] at f1 f2
    rw [size_data] at f4 f5 f6 f7 f8 f9 f10
    have hnil : R = 0 := hR.symm
    subst hnil
    rw [Nat.add_zero] at hx
    have hlen : (datas ins).length = ins.length := by rw [datas, List.length_map]
    rw [hlen] at f10
    have x5 : (s.extract 3 (3 + o.size)).toList = o.toList := by rw [toList_data, toList_data, extract_data]; exact f5
    refine Ev.step (fun k => by rw [cruciblelaw15_DeprecSizes.l0]) (ev_neg (not_lt_end h) ?_)
    exact ev_const (sizes_chain o.size s o ins t x B ho hl hb rfl ht hx f1 f2 f3 f4 x5 f6 f7 f8 f9 f10)
  | y :: rest, pre, x, R, h, hR, hx => by
    have hr : rdOf ByteArray.empty ins (pre.length : Int) = y := by rw [h]; exact rdOf_pre _ _ _ _
    have hlp : pre.length ≤ 4611686018427387904 := by
      have : ins.length = pre.length + (rest.length + 1) := by rw [h]; simp
      omega
    have hw : wrap64 ((pre.length : Int) + 1) = ((pre ++ [y]).length : Int) := wrap_len pre y hlp
    obtain ⟨R', hR'⟩ : ∃ R', bulk (datas rest) = R' := ⟨_, rfl⟩
    have hy : y.size + 1 + R' = R := by
      rw [← hR, ← hR', ← size_data]; exact (bulk_cons _ _).symm
    subst hy
    obtain ⟨hz, hx'⟩ := cells_step hx (sum_small ho hb)
    have ih := ev_Sizes_loop o ins t B ho hB hb hl ht s hs rest (pre ++ [y]) (x + 1 + y.size) R' (by simp [h]) hR' hx'
    refine Ev.step (fun k => by rw [cruciblelaw15_DeprecSizes.l0]) (ev_pos (lt_mid h) (ev_pos (Int.natCast_nonneg _) ?_))
    rw [hr, hw, hz]
    exact ih
theorem start_is {a : Nat} (h : a ≤ 16) : wrap64 (wrap64 (wrap64 (3 + (a : Int)) + 4) + 1) = ((a + 8 : Nat) : Int) := by
  have h1 : wrap64 (3 + (a : Int)) = ((3 + a : Nat) : Int) := wadd 3 a (by decide) (by omega)
  have h2 : wrap64 (((3 + a : Nat) : Int) + 4) = ((3 + a + 4 : Nat) : Int) := wadd (3 + a) 4 (by omega) (by decide)
  have h3 : wrap64 (((3 + a + 4 : Nat) : Int) + 1) = ((3 + a + 4 + 1 : Nat) : Int) := wadd (3 + a + 4) 1 (by omega) (by decide)
  rw [h1, h2, h3]
  congr 1
  omega
theorem DeprecSizes (o : ByteArray) (ins : List ByteArray) (n : Int)
    (hb : (o.size + 1) + (((ins.map fun s => s.size + 1).sum + 1) + 1) ≤ 1048576)
    (_ : o.size ≤ 140737488351232) (_ : ∀ x ∈ ins, x.size ≤ maxLen) (_ : (Lit.int .i64 n).wf = true) : ∃ k, cruciblelaw15_DeprecSizes.f k o ins n = some true := by
  have hl : ∀ l : List ByteArray, l.length ≤ (l.map fun s => s.size + 1).sum := by
    intro l
    induction l with
    | nil => simp
    | cons x xs ih => simp; omega
  have hla := hl ins
  clear hl
  obtain ⟨i, hi, he⟩ := umod n 1048576 (by omega) (by omega)
  have ht : wrap64 (1 + wrap64 (Int.tmod (IntKind.u64.wrap n) 1048576)) = ((i + 1 : Nat) : Int) := by
    rw [show (1048576 : Int) = ((1048576 : Nat) : Int) from rfl, he]; unfold wrap64; omega
  refine Ev.rounds ?_
  refine Ev.congr (fun k => by rw [cruciblelaw15_DeprecSizes.f]) (ev_bind ev_awake15 (ev_pos rfl ?_))
  rw [ht]
  refine ev_bind (ev_Put o _ ins (by omega)) (ev_bindc rfl ?_)
  unfold putF
  cases hm : mayD o ((i + 1 : Nat) : Int) ins with
  | false =>
    rw [if_neg (by simp)]
    exact ev_neg (by simp) (ev_const (by simp [str_toList]))
  | true =>
    rw [if_pos rfl]
    obtain ⟨hs, h1, h2, h3, h4, h5⟩ := mayD_small hm
    refine ev_pos rfl ?_
    rw [start_is h1]
    exact ev_Sizes_loop o ins (i + 1) _ h1 rfl h2 h3 (by omega) _ rfl ins [] (o.size + 8) _ rfl rfl rfl
end Go.Proofs.YtkplcmcmpdhigaaDoor.Spec
