/- Two founds that are the same; founds and their bytes as lists. -/
import Derived.Test.YtkplcmcmpdhigaaDoorDeprec
import Derived.Test.YtkplcmcmpdhigaaDoorP10
namespace Go.Proofs.YtkplcmcmpdhigaaDoor.Spec
open Go.RowKit Go.Proofs.YtkplcmcmpdhigaaDoorW.PrintWords Go.Proofs.YtkplcmcmpdhigaaDoor.P

theorem ev_SameFound (o : ByteArray) (t : Int) (ins : List ByteArray) (o' : ByteArray) (t' : Int) (ins' : List ByteArray) (h : ins.length ≤ 4611686018427387904) :
    Ev (fun k => cruciblelaw0_SameFound.f k o t ins o' t' ins') (decide (o = o' ∧ t = t' ∧ ins = ins')) := by
  refine Ev.congr (fun k => by rw [cruciblelaw0_SameFound.f]) ?_
  simp only [toList_data]
  by_cases h1 : o = o'
  · subst h1
    refine ev_pos rfl ?_
    by_cases h2 : t = t'
    · subst h2
      refine ev_pos rfl (ev_bind (ev_Same ins ins' h) (ev_const ?_))
      simp
    · exact ev_neg h2 (ev_const (by simp [h2]))
  · exact ev_neg (fun e => h1 (data_inj e)) (ev_const (by simp [h1]))
def mayL (o : List UInt8) (t : Nat) (ins : List (List UInt8)) : Bool := isP o && (decide (1 ≤ t) && decide (t ≤ 1048576)) && (ins.all isP && decide (ins.length ≤ 8))
theorem mayD_L (o : List UInt8) (t : Nat) (ins : List (List UInt8)) : mayD (str o) (t : Int) (ins.map str) = mayL o t ins := by
  have ha : allP (ins.map str) 8 = (ins.all isP && decide (ins.length ≤ 8)) := by
    simp only [allP, List.all_map, List.length_map]
    have : ((fun x : ByteArray => isP x.data.toList) ∘ str) = isP := by funext x; simp [str_data]
    rw [this]
  have h1 : decide ((1 : Int) ≤ (t : Int)) = decide (1 ≤ t) := by rw [decide_eq_decide]; omega
  have h2 : decide ((t : Int) ≤ 1048576) = decide (t ≤ 1048576) := by rw [decide_eq_decide]; omega
  rw [mayD, mayL, ha, h1, h2, str_data]
theorem putF_eval (o : List UInt8) (t : Nat) (ins : List (List UInt8)) (r : List UInt8) (n : Int)
    (h : (if mayL o t ins = true then (foundL o t ins, (0 : Int)) else ([], 1500)) = (r, n)) : putF (str o) (t : Int) (ins.map str) = (str r, n) := by
  unfold putF
  rw [mayD_L, str_data, datas_str, Int.toNat_natCast]
  split
  · rename_i hc
    rw [if_pos hc] at h
    injection h with h1 h2
    rw [← h1, ← h2]
  · rename_i hc
    rw [if_neg hc] at h
    injection h with h1 h2
    rw [← h1, ← h2]
/-- getF, as lists -/
def getL (s : List UInt8) : List UInt8 × Nat × List (List UInt8) × Int :=
  if mayL (pOut s) (pTime s) (pIns s) = true ∧ foundL (pOut s) (pTime s) (pIns s) = s then (pOut s, pTime s, pIns s, 0) else ([], 0, [], 1500)
theorem getF_eval (s : List UInt8) : getF (str s) = (str (getL s).1, (((getL s).2.1 : Nat) : Int), (getL s).2.2.1.map str, (getL s).2.2.2) := by
  unfold getF getL
  simp only [mayD_L, str_data]
  split <;> rfl
end Go.Proofs.YtkplcmcmpdhigaaDoor.Spec
