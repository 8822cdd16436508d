/- Chapter 15: what the reference's PutFound and GetFound compute. -/
import Derived.Test.YtkplcmcmpdhigaaDoorFoundMay
import Derived.Test.YtkplcmcmpdhigaaDoorP8
import Derived.Test.YtkplcmcmpdhigaaDoorP9
import Derived.Test.YtkplcmcmpdhigaaDoorP13
namespace Go.Proofs.YtkplcmcmpdhigaaDoor.Spec
open Go.RowKit Go.Proofs.YtkplcmcmpdhigaaDoorW.PrintWords Go.Proofs.YtkplcmcmpdhigaaDoorW.PrintMore Go.Proofs.YtkplcmcmpdhigaaDoor.P

/-! ### A number in so many bytes -/
theorem lowL_snoc : ∀ (k x : Nat), lowL (k + 1) x = lowL k x ++ [(x / 256 ^ k).toUInt8]
  | 0, x => by simp [lowL]
  | k + 1, x => by
    rw [lowL, lowL_snoc k (x / 256), lowL, List.cons_append, Nat.div_div_eq_div_mul, Nat.pow_succ, Nat.mul_comm 256]
theorem set_mid (pre : List Int) (a b : Int) (post : List Int) : (pre ++ a :: post).set pre.length b = pre ++ b :: post := by simp
theorem shr_low (x i : Nat) (hi : i ≤ 7) : (shr .i64 (x : Int) (wrap64 (8 * (i : Int)))) % 256 = (((x / 256 ^ i).toUInt8.toNat : Nat) : Int) := by
  have e : wrap64 (8 * (i : Int)) = ((8 * i : Nat) : Int) := by unfold wrap64; omega
  rw [e, byte_nat]
  unfold shr
  have h1 : min ((8 * i : Nat) : Int).toNat IntKind.i64.bits = 8 * i := by
    rw [Int.toNat_natCast]; exact Nat.min_eq_left (show 8 * i ≤ 64 by omega)
  rw [h1]
  have h2 : (2 : Int) ^ (8 * i) = ((256 ^ i : Nat) : Int) := by rw [Int.pow_mul]; simp
  rw [h2]
  omega
theorem ev_rlow_loop (x n : Nat) (hn : n ≤ 7) : ∀ (d i : Nat), i + d = n → Ev (fun k => crucibleref12_low.l0 k (x : Int) (n : Int) (nb (lowL i x) ++ List.replicate d 0) (i : Int)) (str (lowL n x))
  | 0, i, h => by
    refine Ev.step (fun k => by rw [crucibleref12_low.l0]) (ev_neg (by omega) (ev_const ?_))
    have : i = n := by omega
    rw [List.replicate_zero, List.append_nil, nb_str, this]
  | d + 1, i, h => by
    refine Ev.step (fun k => by rw [crucibleref12_low.l0]) ?_
    have hl : (nb (lowL i x) ++ List.replicate (d + 1) 0).length = n := by rw [List.length_append, nb_len, lowL_len, List.length_replicate]; omega
    have e3 : wrap64 ((i : Int) + 1) = ((i + 1 : Nat) : Int) := wrap_nat (by omega)
    have e4 : (0 : Int) ≤ wrap64 (8 * (i : Int)) := by unfold wrap64; omega
    rw [hl, e3, shr_low x i (by omega)]
    have ih := ev_rlow_loop x n hn d (i + 1) (by omega)
    have e5 : (nb (lowL i x) ++ List.replicate (d + 1) 0).set ((i : Int).toNat) (((x / 256 ^ i).toUInt8.toNat : Nat) : Int) = nb (lowL (i + 1) x) ++ List.replicate d 0 := by
      have hp : (nb (lowL i x)).length = i := by rw [nb_len, lowL_len]
      rw [Int.toNat_natCast, List.replicate_succ]
      have := set_mid (nb (lowL i x)) 0 (((x / 256 ^ i).toUInt8.toNat : Nat) : Int) (List.replicate d 0)
      rw [hp] at this
      rw [this, lowL_snoc, ← nb_app, List.append_assoc]
      rfl
    rw [e5]
    exact ev_pos (by omega) (ev_pos e4 (ev_pos (by omega) (ev_pos (by omega) ih)))
theorem ev_rlow (x n : Nat) (hn : n ≤ 7) : Ev (fun k => crucibleref12_low.f k (x : Int) (n : Int)) (str (lowL n x)) := by
  have := ev_rlow_loop x n hn n 0 (by omega)
  refine Ev.congr (fun k => by rw [crucibleref12_low.f]) (ev_pos (by omega) (ev_pos (by omega) ?_))
  exact this
theorem ev_rlow1 (x : Nat) : Ev (fun k => crucibleref12_low.f k (x : Int) 1) (str (lowL 1 x)) := ev_rlow x 1 (by omega)
theorem ev_rlow2 (x : Nat) : Ev (fun k => crucibleref12_low.f k (x : Int) 2) (str (lowL 2 x)) := ev_rlow x 2 (by omega)
theorem ev_rlow4 (x : Nat) : Ev (fun k => crucibleref12_low.f k (x : Int) 4) (str (lowL 4 x)) := ev_rlow x 4 (by omega)

/-! ### PutFound -/
theorem str_of' (s : ByteArray) : s = str s.data.toList := (str_of s).symm
theorem ev_PutFound_loop (o : ByteArray) (t : Int) (ins : List ByteArray) (hl : ins.length ≤ 8) (hs : ∀ x ∈ ins, x.size ≤ 16) : ∀ (rest pre : List ByteArray) (acc : List UInt8), ins = pre ++ rest → acc.length + 17 * rest.length ≤ 100000 →
    Ev (fun k => crucibleref12_PutFound.l0 k (str acc) (pre.length : Int) o t ins) (str (lowL 2 (acc ++ ((datas rest).map txtL).flatten).length ++ (acc ++ ((datas rest).map txtL).flatten)), 0)
  | [], pre, acc, h, hb => by
    refine Ev.step (fun k => by rw [crucibleref12_PutFound.l0]) (ev_neg (by rw [h]; simp) ?_)
    rw [str_size]
    refine ev_bind (ev_rlow2 acc.length) (ev_pos ?_ (ev_const ?_))
    · rw [str_size, lowL_len]; simp at hb; omega
    · rw [str_append]; simp [datas]
  | x :: rest, pre, acc, h, hb => by
    have hx := hs x (by rw [h]; simp)
    have hlen : ins.length = pre.length + (rest.length + 1) := by rw [h]; simp
    have hr : rdOf ByteArray.empty ins (pre.length : Int) = x := by rw [h]; exact rdOf_pre _ _ _ _
    have hw : wrap64 ((pre.length : Int) + 1) = ((pre ++ [x]).length : Int) := wrap_len pre x (by omega)
    have ht : (txtL x.data.toList).length ≤ 17 := by rw [txtL_len, size_data]; omega
    rw [List.length_cons] at hb
    have ih := ev_PutFound_loop o t ins hl hs rest (pre ++ [x]) (acc ++ txtL x.data.toList) (by simp [h]) (by rw [List.length_append]; omega)
    refine Ev.step (fun k => by rw [crucibleref12_PutFound.l0]) ?_
    simp only [hr, hw]
    have e1 : str acc ++ str (lowL 1 x.size) ++ x = str (acc ++ txtL x.data.toList) := by
      rw [str_append, str_eq x x.data.toList rfl, str_append, txtL, str_data, List.append_assoc, str_size]
    refine ev_pos (by omega) (ev_pos (by omega) (ev_bind (ev_rlow1 x.size) (ev_pos ?_ (ev_pos ?_ ?_))))
    · rw [str_size, str_size, lowL_len]; omega
    · rw [append_size, str_size, str_size, lowL_len]; omega
    · rw [e1]
      refine ev_eq ih ?_
      simp [datas]
theorem ev_PutFound (o : ByteArray) (t : Int) (ins : List ByteArray) (ho : o.size ≤ 4611686018427387904) (hi : ins.length ≤ 4611686018427387904) (hz : ∀ x ∈ ins, x.size ≤ 4611686018427387904) : Ev (fun k => crucibleref12_PutFound.f k o t ins) (putF o t ins) := by
  refine Ev.congr (fun k => by rw [crucibleref12_PutFound.f]) (ev_bind (ev_FoundMay o t ins ho hi hz) ?_)
  unfold putF
  cases hm : mayD o t ins with
  | false => exact ev_neg (by simp) (Ev.now _)
  | true =>
    obtain ⟨hs, ho, hb, hl, h1, h2⟩ := mayD_small hm
    have e4 : t = ((t.toNat : Nat) : Int) := by omega
    have hx : ∀ x ∈ ins, x.size ≤ 16 := fun x hx => by
      have ha : allP ins 8 = true := by simp only [mayD, Bool.and_eq_true] at hm; exact hm.2
      have := isP_size ((allP_all ha).1 x hx)
      rwa [size_data] at this
    have hlow : Ev (fun k => crucibleref12_low.f k t 4) (str (lowL 4 t.toNat)) := by
      have := ev_rlow4 t.toNat
      rwa [← e4] at this
    have e1 : str (lowL 1 o.size) ++ o ++ str (lowL 4 t.toNat) ++ str (lowL 1 ins.length) = str (txtL o.data.toList ++ lowL 4 t.toNat ++ lowL 1 ins.length) := by
      rw [str_eq o o.data.toList rfl, str_append, str_append, str_append, txtL, str_data, str_size]
    refine ev_pos rfl (ev_bind (ev_rlow1 o.size) (ev_pos ?_ (ev_bind hlow (ev_pos ?_ (ev_bind (ev_rlow1 ins.length) (ev_pos ?_ ?_))))))
    · rw [str_size, lowL_len]; omega
    · rw [append_size, str_size, str_size, lowL_len, lowL_len]; omega
    · rw [append_size, append_size, str_size, str_size, str_size, lowL_len, lowL_len, lowL_len]; omega
    · rw [e1]
      have := ev_PutFound_loop o t ins hl hx ins [] (txtL o.data.toList ++ lowL 4 t.toNat ++ lowL 1 ins.length) rfl (by simp only [List.length_append, txtL_len, lowL_len, size_data]; omega)
      refine ev_eq this ?_
      rw [if_pos rfl, foundL, bodyL]
      simp [datas, List.append_assoc]

/-! ### The reader -/
def rT (n : Nat) (s : List UInt8) (b : Bool) : List UInt8 × List UInt8 × Bool := if s.length < n then ([], s, true) else (s.take n, s.drop n, b)
theorem rT_len (n : Nat) (s : List UInt8) (b : Bool) : (rT n s b).1.length ≤ n ∧ (rT n s b).1.length ≤ s.length ∧ (rT n s b).2.1.length ≤ s.length := by
  unfold rT
  split
  · exact ⟨Nat.zero_le _, Nat.zero_le _, Nat.le_refl _⟩
  · refine ⟨?_, ?_, ?_⟩ <;> simp <;> omega
theorem rT_app (a r : List UInt8) (b : Bool) (n : Nat) (h : a.length = n) : rT n (a ++ r) b = (a, r, b) := by
  unfold rT
  rw [if_neg (by rw [List.length_append]; omega), List.take_left' h, List.drop_left' h]
theorem rtake_is (s : List UInt8) (b : Bool) (n : Nat) : crucibleref12_reader_take.f (str s) b (n : Int) = some (str (rT n s b).1, str (rT n s b).2.1, (rT n s b).2.2) := by
  unfold crucibleref12_reader_take.f rT
  rw [str_size]
  by_cases h : s.length < n
  · rw [if_pos (by omega), if_pos h]; rfl
  · rw [if_neg (by omega), if_neg h, if_pos (by omega), if_pos (by omega), Int.toNat_natCast]
    have e1 : (str s).extract 0 n = str (s.take n) := str_eq _ _ (by rw [extract_data, str_data, List.drop_zero])
    have e2 : (str s).extract n s.length = str (s.drop n) := str_eq _ _ (by rw [extract_data, str_data, List.take_length])
    rw [e1, e2]
theorem or_high (x b : Nat) (hb : b < 256) (hx : x < 16777216) : Go.bits .or .i64 (wrap64 ((x : Int) * 256)) (wrap64 (b : Int)) = ((b + 256 * x : Nat) : Int) := by
  have e1 : wrap64 ((x : Int) * 256) = ((x * 2 ^ 8 : Nat) : Int) := by unfold wrap64; omega
  have e2 : wrap64 (b : Int) = ((b : Nat) : Int) := by unfold wrap64; omega
  rw [e1, e2]
  have e : (BitVec.ofInt 64 ((x * 2 ^ 8 : Nat) : Int) ||| BitVec.ofInt 64 (b : Int)).toNat = x * 2 ^ 8 + b := by
    rw [BitVec.toNat_or, BitVec.ofInt_natCast, BitVec.ofInt_natCast, BitVec.toNat_ofNat, BitVec.toNat_ofNat, Nat.mod_eq_of_lt (by omega), Nat.mod_eq_of_lt (by omega), Nat.mul_comm x, ← Nat.two_pow_add_eq_or_of_lt (show b < 2 ^ 8 by omega)]
  show IntKind.i64.wrap (((BitVec.ofInt 64 ((x * 2 ^ 8 : Nat) : Int)) ||| (BitVec.ofInt 64 (b : Int))).toNat : Int) = _
  rw [e, IntKind.wrap_i64]
  omega
theorem ev_num_loop (t s : List UInt8) (b : Bool) (ht : t.length ≤ 4) : ∀ (n : Nat) (pre post : List UInt8), pre.length = n → t = pre ++ post → Ev (fun k => crucibleref12_reader_num.l0 k (str t) ((unlow post : Nat) : Int) ((n : Int) - 1) (str s) b) (((unlow t : Nat) : Int), str s, b)
  | 0, pre, post, hp, h => by
    obtain rfl := List.eq_nil_of_length_eq_zero hp
    rw [List.nil_append] at h
    subst h
    exact Ev.step (fun k => by rw [crucibleref12_reader_num.l0]) (ev_neg (by omega) (Ev.now _))
  | n + 1, pre, post, hp, h => by
    obtain ⟨pre', x, rfl⟩ : ∃ pre' x, pre = pre' ++ [x] := by
      rcases List.eq_nil_or_concat pre with e | ⟨p, x, e⟩
      · rw [e] at hp; simp at hp
      · exact ⟨p, x, by rw [e, List.concat_eq_append]⟩
    have hp' : pre'.length = n := by simpa using hp
    have h' : t = pre' ++ x :: post := by rw [h]; simp
    have hlen : t.length = n + (post.length + 1) := by rw [h', List.length_append, List.length_cons, hp']
    have hb : bt (str t) (n : Int) = x.toNat := by rw [← hp']; exact bt_pre _ _ _ _ (by rw [str_data]; exact h')
    have hu : unlow post < 16777216 := by
      have h1 := unlow_lt post
      have h2 : (256 : Nat) ^ post.length ≤ 256 ^ 3 := Nat.pow_le_pow_right (by decide) (by omega)
      omega
    have e0 : ((n + 1 : Nat) : Int) - 1 = (n : Int) := by omega
    have e1 : wrap64 ((n : Int) - 1) = (n : Int) - 1 := wrap_id (by omega) (by omega)
    have ih := ev_num_loop t s b ht n pre' (x :: post) hp' h'
    refine Ev.step (fun k => by rw [crucibleref12_reader_num.l0]) ?_
    rw [e0, hb, or_high (unlow post) x.toNat x.toNat_lt hu, e1]
    refine ev_pos (by omega) (ev_pos (by omega) (ev_pos (by rw [str_size]; omega) ?_))
    rw [unlow] at ih
    exact ih
theorem ev_num (s : List UInt8) (b : Bool) (n : Nat) (hn : n ≤ 4) : Ev (fun k => crucibleref12_reader_num.f k (str s) b (n : Int)) (((unlow (rT n s b).1 : Nat) : Int), str (rT n s b).2.1, (rT n s b).2.2) := by
  have hl := (rT_len n s b).1
  have e1 : wrap64 (((rT n s b).1.length : Int) - 1) = ((rT n s b).1.length : Int) - 1 := wrap_id (by omega) (by omega)
  have h := ev_num_loop (rT n s b).1 (rT n s b).2.1 (rT n s b).2.2 (by omega) _ (rT n s b).1 [] rfl (by simp)
  refine Ev.congr (fun k => by rw [crucibleref12_reader_num.f]) (ev_bindc (rtake_is s b n) ?_)
  simp only [str_size, e1]
  exact h
def rL : Nat → List UInt8 → Bool → List (List UInt8) × List UInt8 × Bool
  | 0, s, b => ([], s, b)
  | n + 1, s, b => if b = true then ([], s, b) else
    ((rT (unlow (rT 1 s b).1) (rT 1 s b).2.1 (rT 1 s b).2.2).1 :: (rL n (rT (unlow (rT 1 s b).1) (rT 1 s b).2.1 (rT 1 s b).2.2).2.1 (rT (unlow (rT 1 s b).1) (rT 1 s b).2.1 (rT 1 s b).2.2).2.2).1,
      (rL n (rT (unlow (rT 1 s b).1) (rT 1 s b).2.1 (rT 1 s b).2.2).2.1 (rT (unlow (rT 1 s b).1) (rT 1 s b).2.1 (rT 1 s b).2.2).2.2).2)
def finG (s o : ByteArray) (t : Int) (ins : List ByteArray) (b : Bool) : ByteArray × Int × List ByteArray × Int :=
  if b = true then (str [], 0, [], 1500) else if (putF o t ins).2 = 0 then (if (putF o t ins).1.toList = s.toList then (o, t, ins, 0) else (str [], 0, [], 1500)) else (str [], 0, [], 1500)
theorem ev_finG (s o : ByteArray) (t : Int) (ins : List ByteArray) (b : Bool) (ho : o.size ≤ 4611686018427387904) (hi : ins.length ≤ 4611686018427387904) (hz : ∀ x ∈ ins, x.size ≤ 4611686018427387904) :
    Ev (fun k => (crucibleref12_PutFound.f k o t ins).bind fun bt266 => (if b = true then (some ((⟨#[]⟩ : ByteArray), 0, ([] : List ByteArray), 1500)) else (if bt266.2 = 0 then (if bt266.1.toList = s.toList then (some (o, t, ins, 0)) else (some ((⟨#[]⟩ : ByteArray), 0, ([] : List ByteArray), 1500))) else (some ((⟨#[]⟩ : ByteArray), 0, ([] : List ByteArray), 1500))))) (finG s o t ins b) := by
  refine ev_bind (ev_PutFound o t ins ho hi hz) (ev_const ?_)
  unfold finG
  rw [str_nil]
  repeat' split
  all_goals rfl
set_option maxHeartbeats 1000000 in
theorem ev_Get_loop12 (S o : List UInt8) (t : Int) (K M : Nat) (hK : K ≤ 255) (hM : M ≤ 4611686018427387904) (ho : o.length ≤ M) : ∀ (n i : Nat) (s : List UInt8) (b : Bool) (pre : List ByteArray), i + n = K → pre.length ≤ i → s.length ≤ M → (∀ x ∈ pre, x.size ≤ M) →
    Ev (fun k => crucibleref12_GetFound.l0 k (str S) (K : Int) (i : Int) (str s) b (str o) t pre) (finG (str S) (str o) t (pre ++ (rL n s b).1.map str) (rL n s b).2.2) := by
  have hoz : (str o).size ≤ 4611686018427387904 := by rw [str_size]; omega
  intro n
  induction n with
  | zero =>
    intro i s b pre h hp hs hx
    have hF := ev_finG (str S) (str o) t pre b hoz (by omega) (fun x hx' => Nat.le_trans (hx x hx') hM)
    refine Ev.step (fun k => by rw [crucibleref12_GetFound.l0]) (ev_neg (by omega) (Ev.step (fun k => by rw [crucibleref12_GetFound.j1]) (ev_neg (by decide) ?_)))
    rw [rL, List.map_nil, List.append_nil]
    exact hF
  | succ n ih =>
    intro i s b pre h hp hs hx
    have hF := ev_finG (str S) (str o) t pre b hoz (by omega) (fun x hx' => Nat.le_trans (hx x hx') hM)
    have hpl : pre.length < 8796093022208 := by omega
    have hpi : pre.length + 1 ≤ i + 1 := by omega
    have hin : i + 1 + n = K := by omega
    have hiK : (i : Int) < (K : Int) := by omega
    have e3 : wrap64 ((i : Int) + 1) = ((i + 1 : Nat) : Int) := wrap_nat (by omega)
    cases b with
    | true =>
      refine Ev.step (fun k => by rw [crucibleref12_GetFound.l0]) (ev_pos (by omega) (Ev.step (fun k => by rw [crucibleref12_GetFound.j1]) (ev_neg (by decide) ?_)))
      rw [rL, if_pos rfl, List.map_nil, List.append_nil]
      exact hF
    | false =>
      clear hF
      have hl1 := (rT_len 1 s false).2.2
      have hn : Ev (fun k => crucibleref12_reader_num.f k (str s) false 1) _ := ev_num s false 1 (by decide)
      rw [rL, if_neg (show ¬ (false = true) by decide)]
      obtain ⟨v, hv⟩ : ∃ v, unlow (rT 1 s false).1 = v := ⟨_, rfl⟩
      obtain ⟨s1, hs1⟩ : ∃ s1, (rT 1 s false).2.1 = s1 := ⟨_, rfl⟩
      obtain ⟨b1, hb1⟩ : ∃ b1, (rT 1 s false).2.2 = b1 := ⟨_, rfl⟩
      rw [hv, hs1, hb1] at hn ⊢
      rw [hs1] at hl1
      clear hv hs1 hb1
      have hl2 := (rT_len v s1 b1).2
      have ht := rtake_is s1 b1 v
      obtain ⟨x2, hx2⟩ : ∃ x, (rT v s1 b1).1 = x := ⟨_, rfl⟩
      obtain ⟨s2, hs2⟩ : ∃ x, (rT v s1 b1).2.1 = x := ⟨_, rfl⟩
      obtain ⟨b2, hb2⟩ : ∃ x, (rT v s1 b1).2.2 = x := ⟨_, rfl⟩
      rw [hx2, hs2, hb2] at ht ⊢
      rw [hx2, hs2] at hl2
      clear hx2 hs2 hb2
      have hs2 : s2.length ≤ M := Nat.le_trans hl2.2 (Nat.le_trans hl1 hs)
      have hx2 : x2.length ≤ M := Nat.le_trans hl2.1 (Nat.le_trans hl1 hs)
      have ih := ih (i + 1) s2 b2 (pre ++ [str x2]) hin (by rw [List.length_append]; exact hpi) hs2 (fun x hx' => by
        rcases List.mem_append.1 hx' with hx' | hx'
        · exact hx x hx'
        · obtain rfl := List.mem_singleton.1 hx'
          rw [str_size]; exact hx2)
      rw [List.append_assoc, List.singleton_append] at ih
      refine Ev.step (fun k => by rw [crucibleref12_GetFound.l0]) (ev_pos hiK (Ev.step (fun k => by rw [crucibleref12_GetFound.j1]) (ev_pos (by decide) ?_)))
      refine ev_bind hn (ev_bindc ht ?_)
      rw [e3]
      exact ev_pos hpl ih
theorem rL_txts : ∀ (ins : List (List UInt8)) (r : List UInt8), (∀ x ∈ ins, x.length < 256) → rL ins.length ((ins.map txtL).flatten ++ r) false = (ins, r, false)
  | [], r, _ => by simp [rL]
  | x :: ins, r, h => by
    have e1 : rT 1 (((x :: ins).map txtL).flatten ++ r) false = (lowL 1 x.length, x ++ ((ins.map txtL).flatten ++ r), false) := by
      rw [List.map_cons, List.flatten_cons, txtL, List.append_assoc, List.append_assoc]
      exact rT_app _ _ _ _ (lowL_len _ _)
    have e2 : rT x.length (x ++ ((ins.map txtL).flatten ++ r)) false = (x, (ins.map txtL).flatten ++ r, false) := rT_app _ _ _ _ rfl
    have e3 : unlow (lowL 1 x.length) = x.length := unlow_lowL 1 _ (by have := h x (by simp); omega)
    rw [List.length_cons, rL, if_neg (by decide), e1]
    simp only [e3, e2]
    rw [rL_txts ins r fun y hy => h y (by simp [hy])]
/-- the reference reads as the program does -/
theorem ev_GetFound (s : ByteArray) (hs : s.size ≤ 4611686018427387904) : Ev (fun k => crucibleref12_GetFound.f k s) (getF s) := by
  obtain ⟨S, rfl⟩ : ∃ S, s = str S := ⟨s.data.toList, (str_of s).symm⟩
  rw [str_size] at hs
  have g1 := (rT_len 2 S false).2.2
  obtain ⟨s1, hs1⟩ : ∃ x, (rT 2 S false).2.1 = x := ⟨_, rfl⟩
  obtain ⟨b1, hb1⟩ : ∃ x, (rT 2 S false).2.2 = x := ⟨_, rfl⟩
  rw [hs1] at g1
  have g2 := (rT_len 1 s1 b1).2.2
  obtain ⟨v, hv⟩ : ∃ x, unlow (rT 1 s1 b1).1 = x := ⟨_, rfl⟩
  obtain ⟨s2, hs2⟩ : ∃ x, (rT 1 s1 b1).2.1 = x := ⟨_, rfl⟩
  obtain ⟨b2, hb2⟩ : ∃ x, (rT 1 s1 b1).2.2 = x := ⟨_, rfl⟩
  rw [hs2] at g2
  have g3 := (rT_len v s2 b2).2
  obtain ⟨o, ho⟩ : ∃ x, (rT v s2 b2).1 = x := ⟨_, rfl⟩
  obtain ⟨s3, hs3⟩ : ∃ x, (rT v s2 b2).2.1 = x := ⟨_, rfl⟩
  obtain ⟨b3, hb3⟩ : ∃ x, (rT v s2 b2).2.2 = x := ⟨_, rfl⟩
  rw [ho, hs3] at g3
  have g4 := (rT_len 4 s3 b3).2.2
  obtain ⟨t, ht⟩ : ∃ x, unlow (rT 4 s3 b3).1 = x := ⟨_, rfl⟩
  obtain ⟨s4, hs4⟩ : ∃ x, (rT 4 s3 b3).2.1 = x := ⟨_, rfl⟩
  obtain ⟨b4, hb4⟩ : ∃ x, (rT 4 s3 b3).2.2 = x := ⟨_, rfl⟩
  rw [hs4] at g4
  have g5 := (rT_len 1 s4 b4).2.2
  have g6 : unlow (rT 1 s4 b4).1 ≤ 255 := by
    have h1 := unlow_lt (rT 1 s4 b4).1
    have h2 : (256 : Nat) ^ (rT 1 s4 b4).1.length ≤ 256 ^ 1 := Nat.pow_le_pow_right (by decide) (rT_len 1 s4 b4).1
    omega
  obtain ⟨K, hK⟩ : ∃ x, unlow (rT 1 s4 b4).1 = x := ⟨_, rfl⟩
  obtain ⟨s5, hs5⟩ : ∃ x, (rT 1 s4 b4).2.1 = x := ⟨_, rfl⟩
  obtain ⟨b5, hb5⟩ : ∃ x, (rT 1 s4 b4).2.2 = x := ⟨_, rfl⟩
  rw [hs5] at g5
  rw [hK] at g6
  have n1 : Ev (fun k => crucibleref12_reader_num.f k (str S) false 2) _ := ev_num S false 2 (by decide)
  have n2 : Ev (fun k => crucibleref12_reader_num.f k (str s1) b1 1) _ := ev_num s1 b1 1 (by decide)
  have n3 := rtake_is s2 b2 v
  have n4 : Ev (fun k => crucibleref12_reader_num.f k (str s3) b3 4) _ := ev_num s3 b3 4 (by decide)
  have n5 : Ev (fun k => crucibleref12_reader_num.f k (str s4) b4 1) _ := ev_num s4 b4 1 (by decide)
  have n6 : Ev (fun k => crucibleref12_GetFound.l0 k (str S) (K : Int) 0 (str s5) b5 (str o) (t : Int) []) _ := ev_Get_loop12 S o ((t : Nat) : Int) K S.length (by omega) hs (by omega) K 0 s5 b5 [] (by omega) (Nat.le_refl _) (by omega) (fun x hx => by cases hx)
  rw [hs1, hb1] at n1
  rw [hv, hs2, hb2] at n2
  rw [ho, hs3, hb3] at n3
  rw [ht, hs4, hb4] at n4
  rw [hK, hs5, hb5] at n5
  have all : Ev (fun k => crucibleref12_GetFound.f k (str S)) (finG (str S) (str o) ((t : Nat) : Int) ((rL K s5 b5).1.map str) (rL K s5 b5).2.2) :=
    Ev.congr (fun k => by rw [crucibleref12_GetFound.f]) (ev_bind n1 (ev_bind n2 (ev_bindc n3 (ev_bind n4 (ev_bind n5 n6)))))
  refine ev_eq all ?_
  by_cases h : (getF (str S)).2.2.2 = 0
  · obtain ⟨o', t', ins', e1, hm, e2⟩ := getF_ok h
    obtain ⟨hsm, _, _, _, ht1, ht2⟩ := mayD_small hm
    have e2' := str_inj e2
    have hout := hsm.out
    rw [e2', foundL_eq, rT_app _ _ _ _ (lowL_len _ _)] at hs1 hb1
    simp only [] at hs1 hb1
    subst hs1 hb1
    have q2 : rT 1 (txtL o'.data.toList ++ (lowL 4 t'.toNat ++ (lowL 1 (datas ins').length ++ ((datas ins').map txtL).flatten))) false = (lowL 1 o'.data.toList.length, o'.data.toList ++ (lowL 4 t'.toNat ++ (lowL 1 (datas ins').length ++ ((datas ins').map txtL).flatten)), false) := by
      rw [txtL, List.append_assoc]; exact rT_app _ _ _ _ (lowL_len _ _)
    rw [q2] at hv hs2 hb2
    simp only [] at hv hs2 hb2
    rw [unlow_lowL 1 _ (by omega)] at hv
    subst hv hs2 hb2
    rw [rT_app _ _ _ _ rfl] at ho hs3 hb3
    simp only [] at ho hs3 hb3
    subst ho hs3 hb3
    rw [rT_app _ _ _ _ (lowL_len _ _)] at ht hs4 hb4
    simp only [] at ht hs4 hb4
    rw [unlow_lowL 4 _ (by have := hsm.time; omega)] at ht
    subst ht hs4 hb4
    have hmany := hsm.many
    rw [rT_app _ _ _ _ (lowL_len _ _)] at hK hs5 hb5
    simp only [] at hK hs5 hb5
    rw [unlow_lowL 1 _ (by omega)] at hK
    subst hK hs5 hb5
    have q5 := rL_txts (datas ins') [] hsm.each
    rw [List.append_nil] at q5
    rw [q5, e1]
    have e4 : ((t'.toNat : Nat) : Int) = t' := by omega
    have e6 : (datas ins').map str = ins' := map_str_data ins'
    simp only [str_of, e4, e6]
    unfold finG
    have hp : putF o' t' ins' = (str S, 0) := by unfold putF; rw [if_pos hm, e2]
    rw [if_neg (by decide), hp, if_pos rfl, if_pos rfl]
  · rw [getF_no h]
    unfold finG
    split
    · rfl
    split
    · rename_i h2
      split
      · rename_i h3
        exfalso
        apply h
        have hm : mayD (str o) ((t : Nat) : Int) ((rL K s5 b5).1.map str) = true := by
          unfold putF at h2
          split at h2
          · rename_i hm; exact hm
          · exact absurd h2 (by decide)
        have e3 : (putF (str o) ((t : Nat) : Int) ((rL K s5 b5).1.map str)).1 = str S := by
          rw [toList_data, toList_data] at h3
          exact data_inj h3
        unfold putF at e3
        rw [if_pos hm] at e3
        rw [← e3, getF_found hm]
      · rfl
    · rfl
end Go.Proofs.YtkplcmcmpdhigaaDoor.Spec
