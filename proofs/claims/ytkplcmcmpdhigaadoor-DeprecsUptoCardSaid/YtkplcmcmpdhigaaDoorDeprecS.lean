/- Chapter 15 without the program: a found's bytes, and back. -/
import Derived.Test.YtkplcmcmpdhigaaDoorPaths
import Derived.Test.YtkplcmcmpdhigaaDoorBits
namespace Go.Proofs.YtkplcmcmpdhigaaDoor.Spec
open Go.RowKit

/-- a text, its length ahead -/
def txtL (s : List UInt8) : List UInt8 := lowL 1 s.length ++ s
def bodyL (o : List UInt8) (t : Nat) (ins : List (List UInt8)) : List UInt8 := txtL o ++ (lowL 4 t ++ (lowL 1 ins.length ++ (ins.map txtL).flatten))
def foundL (o : List UInt8) (t : Nat) (ins : List (List UInt8)) : List UInt8 := lowL 2 (bodyL o t ins).length ++ bodyL o t ins
theorem txtL_len (s : List UInt8) : (txtL s).length = s.length + 1 := by rw [txtL, List.length_append, lowL_len, Nat.add_comm]
theorem txts_len (ins : List (List UInt8)) : ((ins.map txtL).flatten).length = bulk ins := by
  induction ins with
  | nil => rfl
  | cons x r ih => rw [List.map_cons, List.flatten_cons, List.length_append, ih, txtL_len, bulk_cons]
theorem bodyL_len (o : List UInt8) (t : Nat) (ins : List (List UInt8)) : (bodyL o t ins).length = o.length + 6 + bulk ins := by
  simp only [bodyL, List.length_append, txtL_len, lowL_len, txts_len]; omega
theorem foundL_len (o : List UInt8) (t : Nat) (ins : List (List UInt8)) : (foundL o t ins).length = o.length + 8 + bulk ins := by
  rw [foundL, List.length_append, lowL_len, bodyL_len]; omega

/-! ### Back: so many bytes are taken, or as many as there are -/
def tN (k : Nat) (s : List UInt8) : Nat := unlow (s.take k)
def tT (s : List UInt8) : List UInt8 := (s.drop 1).take (tN 1 s)
def tR (s : List UInt8) : List UInt8 := (s.drop 1).drop (tN 1 s)
def tTs : Nat → List UInt8 → List (List UInt8)
  | 0, _ => []
  | n + 1, s => tT s :: tTs n (tR s)
def pOut (s : List UInt8) : List UInt8 := tT (s.drop 2)
def pR1 (s : List UInt8) : List UInt8 := tR (s.drop 2)
def pTime (s : List UInt8) : Nat := tN 4 (pR1 s)
def pMany (s : List UInt8) : Nat := min (tN 1 ((pR1 s).drop 4)) 8
def pR2 (s : List UInt8) : List UInt8 := ((pR1 s).drop 4).drop 1
def pIns (s : List UInt8) : List (List UInt8) := tTs (pMany s) (pR2 s)

theorem tN_low (k x : Nat) (r : List UInt8) (h : x < 256 ^ k) : tN k (lowL k x ++ r) = x := by
  rw [tN, List.take_left' (lowL_len k x), unlow_lowL k x h]
theorem drop_low (k x : Nat) (r : List UInt8) : (lowL k x ++ r).drop k = r := List.drop_left' (lowL_len k x)
theorem tT_txt (x r : List UInt8) (h : x.length < 256) : tT (txtL x ++ r) = x := by
  rw [tT, txtL, List.append_assoc, tN_low 1 _ _ (by omega), drop_low, List.take_left' rfl]
theorem tR_txt (x r : List UInt8) (h : x.length < 256) : tR (txtL x ++ r) = r := by
  rw [tR, txtL, List.append_assoc, tN_low 1 _ _ (by omega), drop_low, List.drop_left' rfl]
theorem tTs_txts : ∀ (ins : List (List UInt8)) (r : List UInt8), (∀ x ∈ ins, x.length < 256) → tTs ins.length ((ins.map txtL).flatten ++ r) = ins
  | [], _, _ => rfl
  | x :: ins, r, h => by
    rw [List.length_cons, tTs, List.map_cons, List.flatten_cons, List.append_assoc, tT_txt x _ (h x (by simp)), tR_txt x _ (h x (by simp)), tTs_txts ins r fun y hy => h y (by simp [hy])]
/-- what may be told -/
structure Small (o : List UInt8) (t : Nat) (ins : List (List UInt8)) : Prop where
  out : o.length < 256
  time : t < 4294967296
  many : ins.length ≤ 8
  each : ∀ x ∈ ins, x.length < 256
theorem foundL_eq (o : List UInt8) (t : Nat) (ins : List (List UInt8)) : foundL o t ins = lowL 2 (bodyL o t ins).length ++ (txtL o ++ (lowL 4 t ++ (lowL 1 ins.length ++ (ins.map txtL).flatten))) := rfl
theorem pR1_found {o t ins} (h : Small o t ins) (r : List UInt8) : pR1 (foundL o t ins ++ r) = lowL 4 t ++ (lowL 1 ins.length ++ ((ins.map txtL).flatten ++ r)) := by
  rw [pR1, foundL_eq]
  simp only [List.append_assoc]
  rw [drop_low, tR_txt _ _ h.out]
theorem pOut_found {o t ins} (h : Small o t ins) (r : List UInt8) : pOut (foundL o t ins ++ r) = o := by
  rw [pOut, foundL_eq]
  simp only [List.append_assoc]
  rw [drop_low, tT_txt _ _ h.out]
theorem pTime_found {o t ins} (h : Small o t ins) (r : List UInt8) : pTime (foundL o t ins ++ r) = t := by
  rw [pTime, pR1_found h, tN_low 4 t _ (by have := h.time; omega)]
theorem pMany_found {o t ins} (h : Small o t ins) (r : List UInt8) : pMany (foundL o t ins ++ r) = ins.length := by
  have := h.many
  rw [pMany, pR1_found h, drop_low, tN_low 1 _ _ (by omega)]
  omega
theorem pIns_found {o t ins} (h : Small o t ins) (r : List UInt8) : pIns (foundL o t ins ++ r) = ins := by
  rw [pIns, pMany_found h, pR2, pR1_found h, drop_low, drop_low, tTs_txts ins r h.each]
theorem found_inj {o t ins o' t' ins'} (h : Small o t ins) (h' : Small o' t' ins') {r r'} (e : foundL o t ins ++ r = foundL o' t' ins' ++ r') : o = o' ∧ t = t' ∧ ins = ins' := by
  refine ⟨?_, ?_, ?_⟩
  · rw [← pOut_found h r, e, pOut_found h' r']
  · rw [← pTime_found h r, e, pTime_found h' r']
  · rw [← pIns_found h r, e, pIns_found h' r']

/-! ### Founds -/
def mayD (o : ByteArray) (t : Int) (ins : List ByteArray) : Bool := isP o.data.toList && (decide (1 ≤ t) && decide (t ≤ 1048576)) && allP ins 8
theorem mayD_small {o : ByteArray} {t : Int} {ins : List ByteArray} (h : mayD o t ins = true) : Small o.data.toList t.toNat (datas ins) ∧ o.size ≤ 16 ∧ bulk (datas ins) ≤ 136 ∧ ins.length ≤ 8 ∧ 1 ≤ t ∧ t ≤ 1048576 := by
  simp only [mayD, Bool.and_eq_true, decide_eq_true_eq] at h
  obtain ⟨⟨h1, h2, h3⟩, h4⟩ := h
  have e1 := isP_size h1
  have e2 := bulk_paths h4
  have e3 := (allP_all h4).2
  refine ⟨⟨by omega, by omega, by simpa [datas] using e3, fun x hx => ?_⟩, by rw [← size_data]; exact e1, by omega, e3, h2, h3⟩
  obtain ⟨y, hy, rfl⟩ := List.mem_map.1 hx
  have := isP_size ((allP_all h4).1 y hy)
  omega
def putF (o : ByteArray) (t : Int) (ins : List ByteArray) : ByteArray × Int :=
  if mayD o t ins = true then (str (foundL o.data.toList t.toNat (datas ins)), 0) else (str [], 1500)
/-- back again -/
def getF (s : ByteArray) : ByteArray × Int × List ByteArray × Int :=
  let o := str (pOut s.data.toList); let t : Int := (pTime s.data.toList : Nat); let ins := (pIns s.data.toList).map str
  if mayD o t ins = true ∧ foundL (pOut s.data.toList) (pTime s.data.toList) (pIns s.data.toList) = s.data.toList then (o, t, ins, 0) else (str [], 0, [], 1500)
theorem getF_found {o : ByteArray} {t : Int} {ins : List ByteArray} (h : mayD o t ins = true) : getF (str (foundL o.data.toList t.toNat (datas ins))) = (o, t, ins, 0) := by
  obtain ⟨hs, _, _, _, h1, _⟩ := mayD_small h
  have e1 := pOut_found hs []
  have e2 := pTime_found hs []
  have e3 := pIns_found hs []
  rw [List.append_nil] at e1 e2 e3
  have e4 : ((t.toNat : Nat) : Int) = t := by omega
  unfold getF
  simp only [str_data, e1, e2, e3, str_of, map_str_data, e4]
  rw [if_pos ⟨h, trivial⟩]
theorem getF_ok {s : ByteArray} (h : (getF s).2.2.2 = 0) : ∃ o t ins, getF s = (o, t, ins, 0) ∧ mayD o t ins = true ∧ s = str (foundL o.data.toList t.toNat (datas ins)) := by
  unfold getF at h ⊢
  simp only [] at h ⊢
  split at h
  · rename_i hc
    rw [if_pos hc]
    refine ⟨_, _, _, rfl, hc.1, ?_⟩
    have e : ((pTime s.data.toList : Nat) : Int).toNat = pTime s.data.toList := Int.toNat_natCast _
    rw [str_data, e, datas_str, hc.2, str_of]
  · exact absurd h (by decide)
theorem getF_no {s : ByteArray} (h : (getF s).2.2.2 ≠ 0) : getF s = (str [], 0, [], 1500) := by
  unfold getF at h ⊢
  simp only [] at h ⊢
  split at h
  · exact absurd rfl h
  · rename_i hc; rw [if_neg hc]
end Go.Proofs.YtkplcmcmpdhigaaDoor.Spec
