/- Chapter 7, a build line told again: the law's function by hand answers true. -/
import Derived.Test.YtncbloieejeifaaDoorPlain
import Derived.Test.YtncbloieejeifaaDoorP11
namespace Go.Proofs.YtncbloieejeifaaDoor.Spec
open Go.RowKit Go.Proofs.YtncbloieejeifaaDoorW.PrintWords Go.Proofs.YtncbloieejeifaaDoor.P
theorem WordAgain (a0 : ByteArray) (hb : a0.size + 1 ≤ 1048576) (_ : a0.size ≤ 140737488351232) : ∃ _k : Nat, cruciblelaw7_WordAgain.f a0 = some true := ⟨0, if_pos (by omega)⟩
end Go.Proofs.YtncbloieejeifaaDoor.Spec
