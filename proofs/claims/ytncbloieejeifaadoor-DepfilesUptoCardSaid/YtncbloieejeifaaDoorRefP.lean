/- The reference's path, without the program. -/
import Derived.Test.YtncbloieejeifaaDoorIsP
import Derived.Test.YtncbloieejeifaaDoorP19
namespace Go.Proofs.YtncbloieejeifaaDoor.Spec
open Go.RowKit Go.Proofs.YtncbloieejeifaaDoorW.PrintWords Go.Proofs.YtncbloieejeifaaDoor.P

theorem ev_PathMay (s : ByteArray) (hs : s.size ≤ 4611686018427387904) : Ev (fun k => crucibleref1_PathMay.f k s) (isP s.data.toList) := by
  refine Ev.congr (fun k => by rw [crucibleref1_PathMay.f]) (ev_bind (ev_CleanPath s hs) ?_)
  refine ev_const ?_
  rw [toList_data s]
  exact isP_of
end Go.Proofs.YtncbloieejeifaaDoor.Spec
