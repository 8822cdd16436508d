/- The reference's bounds. -/
import Derived.Test.YtdaddlplpkmkmaaDoorPlain
import Derived.Test.YtdaddlplpkmkmaaDoorP9
namespace Go.Proofs.YtdaddlplpkmkmaaDoor.Spec
open Go.RowKit Go.Proofs.YtdaddlplpkmkmaaDoorW.PrintWords Go.Proofs.YtdaddlplpkmkmaaDoor.P

theorem upTo_is (t : Int) : crucibleref12_upTo.f t 1 1048576 = some (decide (1 ≤ t) && decide (t ≤ 1048576)) := by
  unfold crucibleref12_upTo.f
  by_cases h : 1 ≤ t
  · rw [if_pos h]; simp [h]
  · rw [if_neg h]; simp [h]
end Go.Proofs.YtdaddlplpkmkmaaDoor.Spec
