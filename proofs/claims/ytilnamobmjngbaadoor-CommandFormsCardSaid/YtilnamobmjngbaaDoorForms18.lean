/- The law CommandForms without the program: the walk shows all of it. -/
import Derived.Test.YtilnamobmjngbaaDoorP34
namespace Go.Proofs.YtilnamobmjngbaaDoor.Spec
open Go.RowKit Go.Proofs.YtilnamobmjngbaaDoorW.PrintWords Go.Proofs.YtilnamobmjngbaaDoor.P
theorem commandForms_true (a0 a1 : Int) {p q : Prop} (_ : p) (_ : q) : ∃ _ : Nat, cruciblelaw18_CommandForms.f a0 a1 = some true := ⟨0, rfl⟩
end Go.Proofs.YtilnamobmjngbaaDoor.Spec
