/- Chapter 15: the statements' awake. -/
import Derived.Test.YtkplcmcmpdhigaaDoorDeprec
import Derived.Test.YtkplcmcmpdhigaaDoorP15
namespace Go.Proofs.YtkplcmcmpdhigaaDoor.Spec
open Go.RowKit Go.Proofs.YtkplcmcmpdhigaaDoorW.PrintWords Go.Proofs.YtkplcmcmpdhigaaDoor.P

theorem ev_awake15 : Ev (fun k => cruciblelaw15_awake.f k) true := by
  refine Ev.congr (fun k => by rw [cruciblelaw15_awake.f]) (ev_bindc rfl ?_)
  have p1 := putF_eval [97, 46, 111] 258 [[120], [121, 46, 104]] [15, 0, 3, 97, 46, 111, 2, 1, 0, 0, 2, 1, 120, 3, 121, 46, 104] 0 (by decide +kernel)
  have p2 := putF_eval [] 0 [] [] 1500 (by decide +kernel)
  have g1 : getF (str [15, 0, 3, 97, 46, 111, 2, 1, 0, 0, 2, 1, 120, 3, 121, 46, 104]) = (str [97, 46, 111], 258, [str [120], str [121, 46, 104]], 0) := by
    rw [getF_eval, show getL [15, 0, 3, 97, 46, 111, 2, 1, 0, 0, 2, 1, 120, 3, 121, 46, 104] = ([97, 46, 111], 258, [[120], [121, 46, 104]], 0) by decide +kernel]; rfl
  have g2 : getF (str []) = (str [], 0, [], 1500) := by
    rw [getF_eval, show getL [] = ([], 0, [], 1500) by decide +kernel]; rfl
  have e1 := ev_Put (str [97, 46, 111]) 258 [str [120], str [121, 46, 104]] (by decide)
  have p1' : putF (str [97, 46, 111]) 258 [str [120], str [121, 46, 104]] = _ := p1
  rw [p1'] at e1
  refine ev_bind e1 ?_
  have e2 := ev_Get (str [15, 0, 3, 97, 46, 111, 2, 1, 0, 0, 2, 1, 120, 3, 121, 46, 104])
  rw [g1] at e2
  refine ev_bind e2 ?_
  have e3 := ev_Put (str []) 0 [] (by decide)
  have p2' : putF (str []) 0 [] = _ := p2
  rw [p2'] at e3
  refine ev_bind e3 ?_
  have e4 := ev_Get (str [])
  rw [g2] at e4
  refine ev_bind e4 ?_
  simp only [str_toList]
  refine ev_pos trivial (ev_bindc rfl (ev_pos rfl (ev_bind (ev_SameFound _ _ _ _ _ _ (by decide)) (ev_pos ?_ (ev_bindc rfl (ev_pos rfl (ev_bindc rfl (ev_pos rfl (ev_bindc rfl (Ev.now _))))))))))
  exact decide_eq_true ⟨rfl, rfl, rfl⟩
end Go.Proofs.YtkplcmcmpdhigaaDoor.Spec
