/- Chapter 11, edges that may not be: the law's function by hand answers true. -/
import Derived.Test.YtkplcmcmpdhigaaDoorLaw11
import Derived.Test.YtkplcmcmpdhigaaDoorP14
namespace Go.Proofs.YtkplcmcmpdhigaaDoor.Spec
open Go.RowKit Go.Proofs.YtkplcmcmpdhigaaDoorW.PrintWords Go.Proofs.YtkplcmcmpdhigaaDoor.P
theorem SignForms (n x : Int) (_ : (Lit.int .i64 n).wf = true) (_ : (Lit.int .i64 x).wf = true) : ∃ k, cruciblelaw11_SignForms.f k n x = some true := by
  obtain ⟨k, hk⟩ := Ev.rounds ev_awake11
  exact ⟨k, if_pos hk⟩
end Go.Proofs.YtkplcmcmpdhigaaDoor.Spec
