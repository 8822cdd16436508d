/- The reference's paths, without the program. -/
import Derived.Test.YtncbloieejeifaaDoorPaths
import Derived.Test.YtncbloieejeifaaDoorRefP
import Derived.Test.YtncbloieejeifaaDoorP19
import Derived.Test.YtncbloieejeifaaDoorP20
namespace Go.Proofs.YtncbloieejeifaaDoor.Spec
open Go.RowKit Go.Proofs.YtncbloieejeifaaDoorW.PrintWords Go.Proofs.YtncbloieejeifaaDoor.P

theorem ev_PathsMay_loop (xs : List ByteArray) (hx : xs.length ≤ 4611686018427387904) (hz : ∀ x ∈ xs, x.size ≤ 4611686018427387904) : ∀ rest pre : List ByteArray, xs = pre ++ rest → (pre.all fun x => isP x.data.toList) = true →
    Ev (fun k => crucibleref1_PathsMay.l0 k xs (pre.length : Int)) (allP xs 8) := by
  intro rest
  induction rest with
  | nil =>
    intro pre h ha
    refine Ev.step (fun k => by rw [crucibleref1_PathsMay.l0]) (ev_neg (by rw [h]; simp) (ev_const ?_))
    rw [List.append_nil] at h
    subst h
    simp only [allP, ha, Bool.true_and, Option.some.injEq, decide_eq_decide]
    omega
  | cons x rest ih =>
    intro pre h ha
    have hl : xs.length = pre.length + (rest.length + 1) := by rw [h]; simp
    have hr : rdOf ByteArray.empty xs (pre.length : Int) = x := by rw [h]; exact rdOf_pre _ _ _ _
    have hw : wrap64 ((pre.length : Int) + 1) = ((pre ++ [x]).length : Int) := wrap_len pre x (by omega)
    refine Ev.step (fun k => by rw [crucibleref1_PathsMay.l0]) ?_
    simp only [hr, hw]
    refine ev_pos (by omega) (ev_pos (by omega) (ev_bind (ev_PathMay x (hz x (by rw [h]; simp))) ?_))
    cases hp : isP x.data.toList with
    | true => exact ev_pos rfl (ih (pre ++ [x]) (by simp [h]) (by simp [ha, hp]))
    | false =>
      refine ev_neg (by simp) (ev_const ?_)
      rw [show allP xs 8 = false by simp [allP, h, hp]]
theorem ev_PathsMay (xs : List ByteArray) (hx : xs.length ≤ 4611686018427387904) (hz : ∀ x ∈ xs, x.size ≤ 4611686018427387904) : Ev (fun k => crucibleref1_PathsMay.f k xs) (allP xs 8) :=
  Ev.congr (fun k => by rw [crucibleref1_PathsMay.f]; rfl) (ev_PathsMay_loop xs hx hz xs [] rfl rfl)
theorem sum_len {α : Type} (f : α → Nat) (xs : List α) : xs.length ≤ (xs.map fun x => f x + 1).sum := by
  induction xs with
  | nil => simp
  | cons x xs ih => simp; omega
theorem sum_mem {α : Type} (f : α → Nat) {xs : List α} {x : α} (h : x ∈ xs) : f x ≤ (xs.map f).sum := by
  induction xs with
  | nil => cases h
  | cons y xs ih =>
    rw [List.map_cons, List.sum_cons]
    rcases List.mem_cons.1 h with rfl | h
    · omega
    · have := ih h; omega
end Go.Proofs.YtncbloieejeifaaDoor.Spec
