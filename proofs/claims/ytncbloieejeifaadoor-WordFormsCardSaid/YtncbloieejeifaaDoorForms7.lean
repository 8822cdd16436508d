/- Chapter 7, lines that are refused: the law's function by hand answers true. -/
import Derived.Test.YtncbloieejeifaaDoorPlain
import Derived.Test.YtncbloieejeifaaDoorP9
namespace Go.Proofs.YtncbloieejeifaaDoor.Spec
open Go.RowKit Go.Proofs.YtncbloieejeifaaDoorW.PrintWords Go.Proofs.YtncbloieejeifaaDoor.P
theorem WordForms (a0 : Int) (_ : (Lit.int .i64 a0).wf = true) : ∃ _k : Nat, cruciblelaw7_WordForms.f a0 = some true := ⟨0, rfl⟩
end Go.Proofs.YtncbloieejeifaaDoor.Spec
