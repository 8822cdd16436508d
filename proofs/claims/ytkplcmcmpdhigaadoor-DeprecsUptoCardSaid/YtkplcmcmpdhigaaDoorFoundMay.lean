/- Chapter 15: may a found be, as the reference has it. -/
import Derived.Test.YtkplcmcmpdhigaaDoorDeprec
import Derived.Test.YtkplcmcmpdhigaaDoorRef1
import Derived.Test.YtkplcmcmpdhigaaDoorP8
namespace Go.Proofs.YtkplcmcmpdhigaaDoor.Spec
open Go.RowKit Go.Proofs.YtkplcmcmpdhigaaDoorW.PrintWords Go.Proofs.YtkplcmcmpdhigaaDoor.P

theorem upTo_is (t : Int) : crucibleref12_upTo.f t 1 1048576 = some (decide (1 ≤ t) && decide (t ≤ 1048576)) := by
  unfold crucibleref12_upTo.f
  by_cases h : 1 ≤ t
  · rw [if_pos h]; simp [h]
  · rw [if_neg h]; simp [h]
theorem ev_FoundMay (o : ByteArray) (t : Int) (ins : List ByteArray) (ho : o.size ≤ 4611686018427387904) (hi : ins.length ≤ 4611686018427387904) (hz : ∀ x ∈ ins, x.size ≤ 4611686018427387904) : Ev (fun k => crucibleref12_FoundMay.f k o t ins) (mayD o t ins) := by
  refine Ev.congr (fun k => by rw [crucibleref12_FoundMay.f]) (ev_bind (ev_PathMay o ho) ?_)
  unfold mayD
  cases h1 : isP o.data.toList with
  | false => exact ev_neg (by simp) (Ev.now _)
  | true =>
    refine ev_pos rfl (ev_bindc (upTo_is t) ?_)
    cases h2 : (decide (1 ≤ t) && decide (t ≤ 1048576)) with
    | false => exact ev_neg (by simp) (Ev.now _)
    | true =>
      refine ev_pos rfl (ev_bind (ev_PathsMay ins hi hz) ?_)
      exact ev_const (by simp)
end Go.Proofs.YtkplcmcmpdhigaaDoor.Spec
