/- May a time be? -/
import Derived.Test.YtdaddlplpkmkmaaDoorPlain
import Derived.Test.YtdaddlplpkmkmaaDoorP4
namespace Go.Proofs.YtdaddlplpkmkmaaDoor.Spec
open Go.RowKit Go.Proofs.YtdaddlplpkmkmaaDoorW.PrintWords Go.Proofs.YtdaddlplpkmkmaaDoor.P

theorem time_is (t : Int) : logline_Time.f t = some (decide (1 ≤ t) && decide (t ≤ 1048576)) := by
  unfold logline_Time.f
  by_cases h : 1 ≤ t
  · rw [if_pos h]; simp [h]
  · rw [if_neg h]; simp [h]
end Go.Proofs.YtdaddlplpkmkmaaDoor.Spec
