/- Chapter 15, founds and bytes that may not be: the law's function by hand answers true. -/
import Derived.Test.YtkplcmcmpdhigaaDoorAw15
import Derived.Test.YtkplcmcmpdhigaaDoorP32
namespace Go.Proofs.YtkplcmcmpdhigaaDoor.Spec
open Go.RowKit Go.Proofs.YtkplcmcmpdhigaaDoorW.PrintWords Go.Proofs.YtkplcmcmpdhigaaDoor.P
theorem DeprecForms (n x : Int) (_ : (Lit.int .i64 n).wf = true) (_ : (Lit.int .i64 x).wf = true) : ∃ k, cruciblelaw15_DeprecForms.f k n x = some true := by
  obtain ⟨k, hk⟩ := Ev.rounds ev_awake15
  exact ⟨k, if_pos hk⟩
end Go.Proofs.YtkplcmcmpdhigaaDoor.Spec
