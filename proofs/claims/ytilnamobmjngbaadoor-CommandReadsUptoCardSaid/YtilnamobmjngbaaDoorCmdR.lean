/- Chapter 18 without the program: the reference's answer whether actions may be; sizes of what came in. -/
import Derived.Test.YtilnamobmjngbaaDoorMg2
import Derived.Test.YtilnamobmjngbaaDoorRef1
import Derived.Test.YtilnamobmjngbaaDoorP13
namespace Go.Proofs.YtilnamobmjngbaaDoor.Spec
open Go.RowKit Go.Proofs.YtilnamobmjngbaaDoorW.PrintWords Go.Proofs.YtilnamobmjngbaaDoor.P

theorem rdA_pre (pre : List (P.S33)) (x : P.S33) (rest : List (P.S33)) : rd_T33 (pre ++ x :: rest) (pre.length : Int) = x := by
  rw [act_rd _ _ (by simp)]
  simp
theorem ev_ActionsMay_loop (l : List (P.S33)) (hS : SmallA l) (hl : l.length ≤ 4611686018427387904) : ∀ rest pre : List (P.S33), l = pre ++ rest →
    Ev (fun k => crucibleref12_ActionsMay.l0 k l (pre.length : Int)) (rest.all actOk && decide (l.length ≤ 16)) := by
  intro rest
  induction rest with
  | nil =>
    intro pre h
    refine Ev.step (fun k => by rw [crucibleref12_ActionsMay.l0]) (ev_neg (by rw [h]; simp) (ev_const ?_))
    simp
    omega
  | cons x rest ih =>
    intro pre h
    have hlen : l.length = pre.length + (rest.length + 1) := by rw [h]; simp
    have hx := hS x (by rw [h]; simp)
    have hr : rd_T33 l (pre.length : Int) = x := by rw [h]; exact rdA_pre pre x rest
    have hw : wrap64 ((pre.length : Int) + 1) = ((pre ++ [x]).length : Int) := wrap_len pre x (by omega)
    refine Ev.step (fun k => by rw [crucibleref12_ActionsMay.l0, hr, hw]) ?_
    refine ev_pos (by omega) (ev_pos (by omega) (ev_bind (ev_PlainR x.f0 1 256 hx.1) ?_))
    have e : (x.f0.data.toList.all plainB && decide (1 ≤ x.f0.size) && decide (x.f0.size ≤ 256)) = cmdOk x.f0.data.toList := by unfold cmdOk; rw [size_data]
    rw [e, List.all_cons, actOk]
    cases cmdOk x.f0.data.toList with
    | false => exact ev_neg (by simp) (Ev.now _)
    | true =>
      refine ev_pos rfl (ev_bind (ev_PathsMay x.f1 hx.2.1 hx.2.2) ?_)
      cases allP x.f1 8 with
      | false => exact ev_neg (by simp) (Ev.now _)
      | true => exact ev_pos rfl (ih (pre ++ [x]) (by simp [h]))
theorem ev_ActionsMay (l : List (P.S33)) (hS : SmallA l) (hl : l.length ≤ 4611686018427387904) : Ev (fun k => crucibleref12_ActionsMay.f k l) (mayA l) := by
  refine Ev.congr (fun k => by rw [crucibleref12_ActionsMay.f]; rfl) (ev_eq (ev_ActionsMay_loop l hS hl l [] rfl) ?_)
  unfold mayA
  rw [Bool.and_comm]
theorem smallA_of {l : List (P.S33)} {B : Nat} (hb : (l.map fun x : P.S33 => (x.f0.size + 1) + ((x.f1.map fun s => s.size + 1).sum + 1) + 1).sum ≤ B) (hB : B ≤ 4611686018427387904) : SmallA l ∧ l.length ≤ B := by
  refine ⟨fun x hx => ?_, ?_⟩
  · have h1 := sum_mem (fun x : P.S33 => (x.f0.size + 1) + ((x.f1.map fun s => s.size + 1).sum + 1) + 1) hx
    have h2 := sum_len (fun s : ByteArray => s.size) x.f1
    refine ⟨by omega, by omega, fun y hy => ?_⟩
    have h3 := sum_mem (fun s : ByteArray => s.size + 1) hy
    omega
  · have := sum_len (fun x : P.S33 => (x.f0.size + 1) + ((x.f1.map fun s => s.size + 1).sum + 1)) l
    omega
end Go.Proofs.YtilnamobmjngbaaDoor.Spec
