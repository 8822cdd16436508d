/- Paths and lists of them, texts compared, without the program. -/
import Derived.Test.YtncbloieejeifaaDoorIsP
import Derived.Test.YtncbloieejeifaaDoorP18
import Derived.Test.YtncbloieejeifaaDoorP19
import Derived.Test.YtncbloieejeifaaDoorP7
namespace Go.Proofs.YtncbloieejeifaaDoor.Spec
open Go.RowKit Go.Proofs.YtncbloieejeifaaDoorW.PrintWords Go.Proofs.YtncbloieejeifaaDoor.P

def allP (xs : List ByteArray) (most : Nat) : Bool := xs.all (fun x => isP x.data.toList) && decide (xs.length ≤ most)

theorem ev_All_loop (xs : List ByteArray) (most : Nat) (hx : xs.length ≤ 4611686018427387904) : ∀ rest pre : List ByteArray, xs = pre ++ rest → (pre.all fun x => isP x.data.toList) = true →
    Ev (fun k => path_All.l0 k xs (most : Int) xs (xs.length : Int) (pre.length : Int)) (allP xs most) := by
  intro rest
  induction rest with
  | nil =>
    intro pre h ha
    refine Ev.step (fun k => by rw [path_All.l0]) (ev_neg (by rw [h]; simp) (ev_const ?_))
    rw [List.append_nil] at h
    subst h
    simp only [allP, ha, Bool.true_and, Option.some.injEq, decide_eq_decide]
    omega
  | cons x rest ih =>
    intro pre h ha
    have hl : xs.length = pre.length + (rest.length + 1) := by rw [h]; simp
    have hr : rdOf ByteArray.empty xs (pre.length : Int) = x := by rw [h]; exact rdOf_pre _ _ _ _
    have hw : wrap64 ((pre.length : Int) + 1) = ((pre ++ [x]).length : Int) := wrap_len pre x (by omega)
    refine Ev.step (fun k => by rw [path_All.l0]) ?_
    simp only [hr, hw]
    refine ev_pos (by omega) (ev_pos (by omega) (ev_pos (by omega) (ev_bind (ev_Is x) ?_)))
    cases hp : isP x.data.toList with
    | true => exact ev_pos rfl (ih (pre ++ [x]) (by simp [h]) (by simp [ha, hp]))
    | false =>
      refine ev_neg (by simp) (ev_const ?_)
      rw [show allP xs most = false by simp [allP, h, hp]]
theorem ev_All (xs : List ByteArray) (most : Nat) (hx : xs.length ≤ 4611686018427387904) : Ev (fun k => path_All.f k xs (most : Int)) (allP xs most) :=
  Ev.congr (fun k => by rw [path_All.f]; rfl) (ev_All_loop xs most hx xs [] rfl rfl)

theorem ev_Same_loop (xs ys : List ByteArray) (hl : xs.length = ys.length) (hx : xs.length ≤ 4611686018427387904) : ∀ rest resty pre prey : List ByteArray, xs = pre ++ rest → ys = prey ++ resty → pre = prey →
    Ev (fun k => cruciblelaw0_SameTexts.l0 k xs ys (pre.length : Int)) (decide (xs = ys)) := by
  intro rest
  induction rest with
  | nil =>
    intro resty pre prey h hy e
    subst e
    have : resty = [] := by
      rw [h, hy] at hl; simp at hl; exact hl
    subst this
    refine Ev.step (fun k => by rw [cruciblelaw0_SameTexts.l0]) (ev_neg (by rw [h]; simp) (ev_const ?_))
    rw [h, hy]; simp
  | cons x rest ih =>
    intro resty pre prey h hy e
    subst e
    have hlx : xs.length = pre.length + (rest.length + 1) := by rw [h]; simp
    cases resty with
    | nil => rw [h, hy] at hl; simp at hl
    | cons y resty =>
      have hr : rdOf ByteArray.empty xs (pre.length : Int) = x := by rw [h]; exact rdOf_pre _ _ _ _
      have hry : rdOf ByteArray.empty ys (pre.length : Int) = y := by rw [hy]; exact rdOf_pre _ _ _ _
      have hw : wrap64 ((pre.length : Int) + 1) = ((pre ++ [x]).length : Int) := wrap_len pre x (by omega)
      refine Ev.step (fun k => by rw [cruciblelaw0_SameTexts.l0]) ?_
      simp only [hr, hry, hw]
      refine ev_pos (by omega) (ev_pos (by omega) (ev_pos (by omega) (ev_split (fun e => ?_) (fun e => ev_const ?_))))
      · have exy : x = y := data_inj (by rw [← toList_data, ← toList_data, e])
        exact ih resty (pre ++ [x]) (prey := pre ++ [y]) (by simp [h]) (by simp [hy]) (by rw [exy])
      · have : xs ≠ ys := by
          intro h2
          rw [h, hy] at h2
          have := List.append_cancel_left h2
          injection this with h3 _
          exact e (by rw [h3])
        simp [this]
theorem ev_Same (xs ys : List ByteArray) (hx : xs.length ≤ 4611686018427387904) : Ev (fun k => cruciblelaw0_SameTexts.f k xs ys) (decide (xs = ys)) := by
  refine Ev.congr (fun k => by rw [cruciblelaw0_SameTexts.f]) ?_
  by_cases hl : xs.length = ys.length
  · exact ev_pos (by omega) (ev_Same_loop xs ys hl hx xs ys [] [] rfl rfl rfl)
  · refine ev_neg (by omega) (ev_const ?_)
    have : xs ≠ ys := fun e => hl (by rw [e])
    simp [this]

theorem allP_all {xs : List ByteArray} {m : Nat} (h : allP xs m = true) : (∀ x ∈ xs, isP x.data.toList = true) ∧ xs.length ≤ m := by
  simp only [allP, Bool.and_eq_true, decide_eq_true_eq] at h
  exact ⟨fun x hx => List.all_eq_true.1 h.1 x hx, h.2⟩
theorem bulk_paths {xs : List ByteArray} {m : Nat} (h : allP xs m = true) : bulk (datas xs) ≤ 17 * m := by
  obtain ⟨h1, h2⟩ := allP_all h
  have : ∀ ys : List ByteArray, (∀ x ∈ ys, isP x.data.toList = true) → bulk (datas ys) ≤ 17 * ys.length := by
    intro ys
    induction ys with
    | nil => intro _; simp [bulk]
    | cons y ys ih =>
      intro hy
      have := ih (fun x hx => hy x (List.mem_cons_of_mem _ hx))
      have h16 := isP_size (hy y List.mem_cons_self)
      rw [datas, List.map_cons, bulk_cons, List.length_cons]
      have e : bulk (ys.map fun x => x.data.toList) = bulk (datas ys) := rfl
      omega
  have := this xs h1
  omega
end Go.Proofs.YtncbloieejeifaaDoor.Spec
