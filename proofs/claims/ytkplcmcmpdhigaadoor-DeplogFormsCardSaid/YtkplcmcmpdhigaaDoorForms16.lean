/- Chapter 16, lists that may not be, and too long ones: the law's function by hand answers true. -/
import Derived.Test.YtkplcmcmpdhigaaDoorDeplog
import Derived.Test.YtkplcmcmpdhigaaDoorP17
namespace Go.Proofs.YtkplcmcmpdhigaaDoor.Spec
open Go.RowKit Go.Proofs.YtkplcmcmpdhigaaDoorW.PrintWords Go.Proofs.YtkplcmcmpdhigaaDoor.P
theorem DeplogForms (n x : Int) (_ : (Lit.int .i64 n).wf = true) (_ : (Lit.int .i64 x).wf = true) : ∃ k, cruciblelaw16_DeplogForms.f k n x = some true := ⟨0, rfl⟩
end Go.Proofs.YtkplcmcmpdhigaaDoor.Spec
