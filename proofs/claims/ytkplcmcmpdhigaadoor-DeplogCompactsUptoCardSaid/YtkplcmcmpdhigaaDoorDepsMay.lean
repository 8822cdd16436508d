/- Chapters 15, 16: may founds be, as the reference has it. -/
import Derived.Test.YtkplcmcmpdhigaaDoorDeplog
import Derived.Test.YtkplcmcmpdhigaaDoorRef1
import Derived.Test.YtkplcmcmpdhigaaDoorP21
import Derived.Test.YtkplcmcmpdhigaaDoorP22
namespace Go.Proofs.YtkplcmcmpdhigaaDoor.Spec
open Go.RowKit Go.Proofs.YtkplcmcmpdhigaaDoorW.PrintWords Go.Proofs.YtkplcmcmpdhigaaDoor.P

theorem upTo_is (t : Int) : crucibleref12_upTo.f t 1 1048576 = some (decide (1 ≤ t) && decide (t ≤ 1048576)) := by
  unfold crucibleref12_upTo.f
  by_cases h : 1 ≤ t
  · rw [if_pos h]; simp [h]
  · rw [if_neg h]; simp [h]
theorem ev_FoundMay (o : ByteArray) (t : Int) (ins : List ByteArray) (ho : o.size ≤ 4611686018427387904) (hi : ins.length ≤ 4611686018427387904) (hz : ∀ x ∈ ins, x.size ≤ 4611686018427387904) : Ev (fun k => crucibleref12_FoundMay.f k o t ins) (mayD o t ins) := by
  refine Ev.congr (fun k => by rw [crucibleref12_FoundMay.f]) (ev_bind (ev_PathMay o ho) ?_)
  unfold mayD
  cases h1 : isP o.data.toList with
  | false => exact ev_neg (by simp) (Ev.now _)
  | true =>
    refine ev_pos rfl (ev_bindc (upTo_is t) ?_)
    cases h2 : (decide (1 ≤ t) && decide (t ≤ 1048576)) with
    | false => exact ev_neg (by simp) (Ev.now _)
    | true =>
      refine ev_pos rfl (ev_bind (ev_PathsMay ins hi hz) ?_)
      exact ev_const (by simp)
structure SmallFd (x : P.S41) : Prop where
  out : x.f0.size ≤ 4611686018427387904
  many : x.f2.length ≤ 4611686018427387904
  each : ∀ s ∈ x.f2, s.size ≤ 4611686018427387904
theorem ev_DepsMay_loop (xs : List (P.S41)) (hx : xs.length ≤ 4611686018427387904) (hs : ∀ x ∈ xs, SmallFd x) : ∀ rest pre : List (P.S41), xs = pre ++ rest → pre.all mayF = true →
    Ev (fun k => crucibleref12_DepsMay.l0 k xs (pre.length : Int)) (mayFs xs) := by
  intro rest
  induction rest with
  | nil =>
    intro pre h ha
    refine Ev.step (fun k => by rw [crucibleref12_DepsMay.l0]) (ev_neg (by rw [h]; simp) (ev_const ?_))
    rw [List.append_nil] at h
    subst h
    simp only [mayFs, ha, Bool.and_true, Option.some.injEq, decide_eq_decide]
    omega
  | cons x rest ih =>
    intro pre h ha
    have hl : xs.length = pre.length + (rest.length + 1) := by rw [h]; simp
    have hr : rd_T41 xs (pre.length : Int) = x := by rw [h]; exact rdT_pre _ _ _
    have hw : wrap64 ((pre.length : Int) + 1) = ((pre ++ [x]).length : Int) := wrap_len pre x (by omega)
    have hx' := hs x (by rw [h]; simp)
    refine Ev.step (fun k => by rw [crucibleref12_DepsMay.l0]) ?_
    simp only [hr, hw]
    refine ev_pos (by omega) (ev_pos (by omega) (ev_bind (ev_FoundMay x.f0 x.f1 x.f2 hx'.out hx'.many hx'.each) ?_))
    rw [show mayD x.f0 x.f1 x.f2 = mayF x from rfl]
    cases hm : mayF x with
    | true => exact ev_pos rfl (ih (pre ++ [x]) (by simp [h]) (by rw [List.all_append, ha, List.all_cons, hm]; rfl))
    | false =>
      refine ev_neg (by simp) (ev_const ?_)
      have : xs.all mayF = false := by rw [h, List.all_append, List.all_cons, hm]; simp
      rw [mayFs, this, Bool.and_false]
theorem ev_DepsMay (xs : List (P.S41)) (hx : xs.length ≤ 4611686018427387904) (hs : ∀ x ∈ xs, SmallFd x) : Ev (fun k => crucibleref12_DepsMay.f k xs) (mayFs xs) :=
  Ev.congr (fun k => by rw [crucibleref12_DepsMay.f]; rfl) (ev_DepsMay_loop xs hx hs xs [] rfl rfl)
theorem smallFd {fs : List (P.S41)} (hb : (fs.map fun x : P.S41 => (x.f0.size + 1) + 1 + ((x.f2.map fun s => s.size + 1).sum + 1)).sum ≤ 1048576) : ∀ x ∈ fs, SmallFd x := fun x hx => by
  have h1 := fd_mem hx
  have h2 := fd_ins x
  refine ⟨by omega, by omega, fun s hs => ?_⟩
  have h3 := sum_mem (fun s : ByteArray => s.size + 1) hs
  omega
end Go.Proofs.YtkplcmcmpdhigaaDoor.Spec
