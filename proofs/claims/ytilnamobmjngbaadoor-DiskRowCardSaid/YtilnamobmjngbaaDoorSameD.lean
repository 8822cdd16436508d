/- Chapter 12 in plain lists: a disk is the same as itself. -/
import Derived.Test.YtilnamobmjngbaaDoorDisk2
import Derived.Test.YtilnamobmjngbaaDoorP2
namespace Go.Proofs.YtilnamobmjngbaaDoor.Spec
open Go.RowKit Go.Proofs.YtilnamobmjngbaaDoorW.PrintWords Go.Proofs.YtilnamobmjngbaaDoor.P

theorem ev_SameFiles_loop (l : List (P.S72)) (hl : l.length ≤ 1000000) : ∀ n i, i + n = l.length → Ev (fun k => cruciblelaw0_SameFiles.l0 k l l (i : Int)) true
  | 0, i, h => by
    refine Ev.step (fun k => by rw [cruciblelaw0_SameFiles.l0]) ?_
    exact ev_neg (by omega) (Ev.now _)
  | n + 1, i, h => by
    refine Ev.step (fun k => by rw [cruciblelaw0_SameFiles.l0]) ?_
    refine ev_pos (by omega) (ev_pos (by omega) (ev_pos (by omega) (ev_neg (by simp) ?_)))
    have := ev_SameFiles_loop l hl n (i + 1) (by omega)
    rwa [← wrap_nat (by omega)] at this
theorem ev_SameFiles_refl (l : List (P.S72)) (hl : l.length ≤ 1000000) : Ev (fun k => cruciblelaw0_SameFiles.f k l l) true :=
  Ev.congr (fun k => by rw [cruciblelaw0_SameFiles.f]) (ev_pos rfl (show Ev (fun k => cruciblelaw0_SameFiles.l0 k l l 0) true from ev_SameFiles_loop l hl l.length 0 (by omega)))
theorem ev_SameDisk_refl (t : Int) (l : List (P.S72)) (hl : l.length ≤ 1000000) : Ev (fun k => cruciblelaw0_SameDisk.f k t l t l) true :=
  Ev.congr (fun k => by rw [cruciblelaw0_SameDisk.f]) (ev_pos rfl (ev_bind (ev_SameFiles_refl l hl) (Ev.now _)))
theorem bits_low16 (n : Int) : Go.bits .and .i64 n 65535 = n % 65536 := bits_low 16 (by omega) n
end Go.Proofs.YtilnamobmjngbaaDoor.Spec
