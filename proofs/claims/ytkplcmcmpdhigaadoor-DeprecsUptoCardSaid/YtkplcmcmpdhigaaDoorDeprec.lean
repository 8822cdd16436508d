/- Chapter 15: what Put, Get and Size compute. -/
import Derived.Test.YtkplcmcmpdhigaaDoorDeprecS
import Derived.Test.YtkplcmcmpdhigaaDoorP4
import Derived.Test.YtkplcmcmpdhigaaDoorP11
import Derived.Test.YtkplcmcmpdhigaaDoorP14
namespace Go.Proofs.YtkplcmcmpdhigaaDoor.Spec
open Go.RowKit Go.Proofs.YtkplcmcmpdhigaaDoorW.PrintWords Go.Proofs.YtkplcmcmpdhigaaDoorW.PrintMore Go.Proofs.YtkplcmcmpdhigaaDoor.P

def nb (l : List UInt8) : List Int := l.map fun b => (b.toNat : Int)
theorem nb_str (l : List UInt8) : strOfNums (nb l) = str l := by
  refine str_eq _ _ ?_
  rw [strOfNums_data, nb, List.map_map]
  conv => rhs; rw [← List.map_id l]
  apply List.map_congr_left
  intro b _
  simp
theorem nb_app (a b : List UInt8) : nb a ++ nb b = nb (a ++ b) := by simp [nb]
theorem nb_len (a : List UInt8) : (nb a).length = a.length := by simp [nb]
theorem bytes_nb (s : ByteArray) : bytesOf s = nb s.data.toList := rfl
theorem ev_low_loop : ∀ (d i x : Nat) (pre : List Int), i + d ≤ 1000 → pre.length = i →
    Ev (fun k => deprec_low.l0 k (x : Int) pre ((i + d : Nat) : Int) (i : Int)) (pre ++ nb (lowL d x))
  | 0, i, x, pre, _, _ => Ev.step (fun k => by rw [deprec_low.l0]) (ev_neg (by omega) (ev_const (by simp [lowL, nb])))
  | d + 1, i, x, pre, h, hp => by
    refine Ev.step (fun k => by rw [deprec_low.l0]) (ev_pos (by omega) (ev_pos (by omega) ?_))
    have e1 : (x : Int) / 256 = ((x / 256 : Nat) : Int) := by omega
    have e2 : (x : Int) % 256 = ((x.toUInt8.toNat : Nat) : Int) := by rw [byte_nat]; omega
    have e3 : wrap64 ((i : Int) + 1) = ((i + 1 : Nat) : Int) := wrap_nat (by omega)
    have ih := ev_low_loop d (i + 1) (x / 256) (pre ++ [((x.toUInt8.toNat : Nat) : Int)]) (by omega) (by simp [hp])
    rw [e1, e2, e3]
    rw [show i + 1 + d = i + (d + 1) by omega] at ih
    refine ev_eq ih ?_
    rw [lowL, List.append_assoc]
    rfl
theorem ev_low (n x : Nat) (h : n ≤ 1000) : Ev (fun k => deprec_low.f k (x : Int) (n : Int)) (nb (lowL n x)) := by
  have := ev_low_loop n 0 x [] (by omega) rfl
  rw [Nat.zero_add] at this
  exact Ev.congr (fun k => by rw [deprec_low.f]; rfl) this
theorem ev_low1 (x : Nat) : Ev (fun k => deprec_low.f k (x : Int) 1) (nb (lowL 1 x)) := ev_low 1 x (by omega)
theorem ev_low2 (x : Nat) : Ev (fun k => deprec_low.f k (x : Int) 2) (nb (lowL 2 x)) := ev_low 2 x (by omega)
theorem ev_low4 (x : Nat) : Ev (fun k => deprec_low.f k (x : Int) 4) (nb (lowL 4 x)) := ev_low 4 x (by omega)
theorem ev_text (s : ByteArray) (h : s.size ≤ 1000) : Ev (fun k => deprec_text.f k s) (nb (txtL s.data.toList)) := by
  have e : nb (lowL 1 s.size) ++ bytesOf s = nb (txtL s.data.toList) := by rw [bytes_nb, nb_app, txtL, size_data]
  refine Ev.congr (fun k => by rw [deprec_text.f]) (ev_bind (ev_low1 s.size) ?_)
  rw [e]
  exact ev_pos (by rw [nb_len, lowL_len]; omega) (Ev.now _)
theorem time_is (t : Int) : logline_Time.f t = some (decide (1 ≤ t) && decide (t ≤ 1048576)) := by
  unfold logline_Time.f
  by_cases h : 1 ≤ t
  · rw [if_pos h]; simp [h]
  · rw [if_neg h]; simp [h]
theorem ev_May (o : ByteArray) (t : Int) (ins : List ByteArray) (hi : ins.length ≤ 4611686018427387904) : Ev (fun k => deprec_May.f k o t ins) (mayD o t ins) := by
  refine Ev.congr (fun k => by rw [deprec_May.f]) (ev_bind (ev_Is o) ?_)
  unfold mayD
  cases h1 : isP o.data.toList with
  | false => exact ev_neg (by simp) (Ev.now _)
  | true =>
    refine ev_pos rfl (ev_bindc (time_is t) ?_)
    cases h2 : (decide (1 ≤ t) && decide (t ≤ 1048576)) with
    | false => exact ev_neg (by simp) (Ev.now _)
    | true =>
      refine ev_pos rfl (ev_bind (ev_All ins 8 hi) ?_)
      exact ev_const (by simp)
theorem ev_Put_loop (ins : List ByteArray) (hl : ins.length ≤ 8) (hs : ∀ x ∈ ins, x.size ≤ 16) : ∀ (rest pre : List ByteArray) (acc : List UInt8), ins = pre ++ rest → acc.length + 17 * rest.length ≤ 100000 →
    Ev (fun k => deprec_Put.l0 k (nb acc) ins (ins.length : Int) (pre.length : Int)) (str (lowL 2 (acc ++ ((datas rest).map txtL).flatten).length ++ (acc ++ ((datas rest).map txtL).flatten)), 0)
  | [], pre, acc, h, hb => by
    refine Ev.step (fun k => by rw [deprec_Put.l0]) (ev_neg (by rw [h]; simp) ?_)
    rw [nb_len]
    refine ev_bind (ev_low2 acc.length) (ev_pos ?_ (ev_const ?_))
    · rw [nb_len, lowL_len]; simp at hb; omega
    · rw [nb_app, nb_str]; simp [datas]
  | x :: rest, pre, acc, h, hb => by
    have hx := hs x (by rw [h]; simp)
    have hlen : ins.length = pre.length + (rest.length + 1) := by rw [h]; simp
    have hr : rdOf ByteArray.empty ins (pre.length : Int) = x := by rw [h]; exact rdOf_pre _ _ _ _
    have hw : wrap64 ((pre.length : Int) + 1) = ((pre ++ [x]).length : Int) := wrap_len pre x (by omega)
    have ht : (txtL x.data.toList).length ≤ 17 := by rw [txtL_len, size_data]; omega
    rw [List.length_cons] at hb
    have ih := ev_Put_loop ins hl hs rest (pre ++ [x]) (acc ++ txtL x.data.toList) (by simp [h]) (by rw [List.length_append]; omega)
    refine Ev.step (fun k => by rw [deprec_Put.l0]) ?_
    simp only [hr, hw]
    refine ev_pos (by omega) (ev_pos (by omega) (ev_pos (by omega) (ev_bind (ev_text x (by omega)) (ev_pos ?_ ?_))))
    · rw [nb_len, nb_len]; omega
    · rw [nb_app]
      refine ev_eq ih ?_
      simp [datas]
theorem ev_Put (o : ByteArray) (t : Int) (ins : List ByteArray) (hi : ins.length ≤ 4611686018427387904) : Ev (fun k => deprec_Put.f k o t ins) (putF o t ins) := by
  refine Ev.congr (fun k => by rw [deprec_Put.f]) (ev_bind (ev_May o t ins hi) ?_)
  unfold putF
  cases hm : mayD o t ins with
  | false => exact ev_neg (by simp) (Ev.now _)
  | true =>
    obtain ⟨hs, ho, hb, hl, h1, h2⟩ := mayD_small hm
    have e4 : t = ((t.toNat : Nat) : Int) := by omega
    have hx : ∀ x ∈ ins, x.size ≤ 16 := fun x hx => by
      have ha : allP ins 8 = true := by simp only [mayD, Bool.and_eq_true] at hm; exact hm.2
      have := isP_size ((allP_all ha).1 x hx)
      rwa [size_data] at this
    have hlow : Ev (fun k => deprec_low.f k t 4) (nb (lowL 4 t.toNat)) := by
      have := ev_low4 t.toNat
      rwa [← e4] at this
    refine ev_pos rfl (ev_bind (ev_text o (by omega)) (ev_bind hlow (ev_pos ?_ (ev_bindc rfl (ev_bind (ev_low1 ins.length) (ev_pos ?_ ?_))))))
    · rw [nb_len, nb_len, lowL_len, txtL_len, size_data]; omega
    · rw [List.length_append, nb_len, nb_len, nb_len, lowL_len, lowL_len, txtL_len, size_data]; omega
    · rw [nb_app, nb_app]
      have := ev_Put_loop ins hl hx ins [] (txtL o.data.toList ++ lowL 4 t.toNat ++ lowL 1 ins.length) rfl (by simp only [List.length_append, txtL_len, lowL_len, size_data]; omega)
      refine ev_eq this ?_
      rw [if_pos rfl, foundL, bodyL]
      simp [datas, List.append_assoc]

/-! ### Get -/
theorem text_is (s : List UInt8) : deprec_taker_text.f (str s) = some (str (tT s), str (tR s)) := by
  unfold deprec_taker_text.f deprec_taker_number.f
  rw [if_pos (by omega)]
  simp only [Option.bind_some]
  rw [taker_take_is _ _ (by omega)]
  simp only [Option.bind_some, str_data, Int.toNat_natCast]
  rfl
theorem number_is (s : List UInt8) (n : Nat) (h : n ≤ 4) : deprec_taker_number.f (str s) (n : Int) = some (((tN n s : Nat) : Int), str (s.drop n)) := by
  unfold deprec_taker_number.f
  rw [if_pos (by omega), str_data, Int.toNat_natCast]
  rfl
def backF (s o : ByteArray) (t : Int) (ins : List ByteArray) : ByteArray × Int × List ByteArray × Int :=
  if (putF o t ins).2 = 0 then (if (putF o t ins).1.toList = s.toList then (o, t, ins, 0) else (str [], 0, [], 1500)) else (str [], 0, [], 1500)
theorem ev_Get_loop (s o : ByteArray) (t : Int) : ∀ (d i : Nat) (rest : List UInt8) (pre : List ByteArray), i + d ≤ 8 → pre.length = i →
    Ev (fun k => deprec_Get.l0 k s ((i + d : Nat) : Int) (i : Int) (str rest) o t pre) (backF s o t (pre ++ (tTs d rest).map str))
  | 0, i, rest, pre, h, hp => by
    refine Ev.step (fun k => by rw [deprec_Get.l0]) (ev_neg (by omega) (ev_bind (ev_Put o t pre (by omega)) ?_))
    simp only [tTs, List.map_nil, List.append_nil]
    unfold backF
    exact ev_ite (fun _ => ev_ite (fun _ => Ev.now _) (fun _ => Ev.now _)) (fun _ => Ev.now _)
  | d + 1, i, rest, pre, h, hp => by
    have hw : wrap64 ((i : Int) + 1) = ((i + 1 : Nat) : Int) := wrap_nat (by omega)
    have ih := ev_Get_loop s o t d (i + 1) (tR rest) (pre ++ [str (tT rest)]) (by omega) (by simp [hp])
    refine Ev.step (fun k => by rw [deprec_Get.l0]) (ev_pos (by omega) (ev_bindc (text_is rest) (ev_pos (show pre.length < 8796093022208 by omega) ?_)))
    rw [hw]
    rw [show i + 1 + d = i + (d + 1) by omega] at ih
    refine ev_eq ih ?_
    simp [tTs]
theorem backF_is (s : ByteArray) : backF s (str (pOut s.data.toList)) ((pTime s.data.toList : Nat) : Int) ((pIns s.data.toList).map str) = getF s := by
  unfold backF getF putF
  simp only []
  by_cases h : mayD (str (pOut s.data.toList)) ((pTime s.data.toList : Nat) : Int) ((pIns s.data.toList).map str) = true
  · rw [if_pos h]
    simp only [if_true, str_data, Int.toNat_natCast, datas_str, toList_data]
    by_cases h2 : foundL (pOut s.data.toList) (pTime s.data.toList) (pIns s.data.toList) = s.data.toList
    · rw [if_pos h2, if_pos ⟨h, h2⟩]
    · rw [if_neg h2, if_neg (fun e => h2 e.2)]
  · rw [if_neg h, if_neg (show ¬ ((str [], (1500 : Int)).2 = 0) by decide), if_neg (fun e => h e.1)]
theorem ev_Get (s : ByteArray) : Ev (fun k => deprec_Get.f k s) (getF s) := by
  have e1 : deprec_taker_take.f s 2 = some (str (s.data.toList.take 2), str (s.data.toList.drop 2)) := taker_take_is s 2 (by omega)
  refine Ev.congr (fun k => by rw [deprec_Get.f]) (ev_bindc e1 (ev_bindc (text_is _) (ev_bindc (number_is (tR (s.data.toList.drop 2)) 4 (by omega)) (ev_bindc (number_is _ 1 (by omega)) ?_))))
  have hm : mn ((tN 1 ((tR (s.data.toList.drop 2)).drop 4) : Nat) : Int) 8 = ((pMany s.data.toList : Nat) : Int) := by
    unfold mn pMany pR1; omega
  simp only [hm]
  have := ev_Get_loop s (str (pOut s.data.toList)) ((pTime s.data.toList : Nat) : Int) (pMany s.data.toList) 0 (pR2 s.data.toList) [] (by unfold pMany; omega) rfl
  rw [Nat.zero_add, List.nil_append] at this
  rw [show tTs (pMany s.data.toList) (pR2 s.data.toList) = pIns s.data.toList from rfl, backF_is] at this
  exact this
theorem ev_SameFound (o : ByteArray) (t : Int) (ins : List ByteArray) (o' : ByteArray) (t' : Int) (ins' : List ByteArray) (h : ins.length ≤ 4611686018427387904) :
    Ev (fun k => cruciblelaw0_SameFound.f k o t ins o' t' ins') (decide (o = o' ∧ t = t' ∧ ins = ins')) := by
  refine Ev.congr (fun k => by rw [cruciblelaw0_SameFound.f]) ?_
  simp only [toList_data]
  by_cases h1 : o = o'
  · subst h1
    refine ev_pos rfl ?_
    by_cases h2 : t = t'
    · subst h2
      refine ev_pos rfl (ev_bind (ev_Same ins ins' h) (ev_const ?_))
      simp
    · exact ev_neg h2 (ev_const (by simp [h2]))
  · exact ev_neg (fun e => h1 (data_inj e)) (ev_const (by simp [h1]))
def mayL (o : List UInt8) (t : Nat) (ins : List (List UInt8)) : Bool := isP o && (decide (1 ≤ t) && decide (t ≤ 1048576)) && (ins.all isP && decide (ins.length ≤ 8))
theorem mayD_L (o : List UInt8) (t : Nat) (ins : List (List UInt8)) : mayD (str o) (t : Int) (ins.map str) = mayL o t ins := by
  have ha : allP (ins.map str) 8 = (ins.all isP && decide (ins.length ≤ 8)) := by
    simp only [allP, List.all_map, List.length_map]
    have : ((fun x : ByteArray => isP x.data.toList) ∘ str) = isP := by funext x; simp [str_data]
    rw [this]
  have h1 : decide ((1 : Int) ≤ (t : Int)) = decide (1 ≤ t) := by rw [decide_eq_decide]; omega
  have h2 : decide ((t : Int) ≤ 1048576) = decide (t ≤ 1048576) := by rw [decide_eq_decide]; omega
  rw [mayD, mayL, ha, h1, h2, str_data]
theorem putF_eval (o : List UInt8) (t : Nat) (ins : List (List UInt8)) (r : List UInt8) (n : Int)
    (h : (if mayL o t ins = true then (foundL o t ins, (0 : Int)) else ([], 1500)) = (r, n)) : putF (str o) (t : Int) (ins.map str) = (str r, n) := by
  unfold putF
  rw [mayD_L, str_data, datas_str, Int.toNat_natCast]
  split
  · rename_i hc
    rw [if_pos hc] at h
    injection h with h1 h2
    rw [← h1, ← h2]
  · rename_i hc
    rw [if_neg hc] at h
    injection h with h1 h2
    rw [← h1, ← h2]
/-- getF, as lists -/
def getL (s : List UInt8) : List UInt8 × Nat × List (List UInt8) × Int :=
  if mayL (pOut s) (pTime s) (pIns s) = true ∧ foundL (pOut s) (pTime s) (pIns s) = s then (pOut s, pTime s, pIns s, 0) else ([], 0, [], 1500)
theorem getF_eval (s : List UInt8) : getF (str s) = (str (getL s).1, (((getL s).2.1 : Nat) : Int), (getL s).2.2.1.map str, (getL s).2.2.2) := by
  unfold getF getL
  simp only [mayD_L, str_data]
  split <;> rfl
end Go.Proofs.YtkplcmcmpdhigaaDoor.Spec
