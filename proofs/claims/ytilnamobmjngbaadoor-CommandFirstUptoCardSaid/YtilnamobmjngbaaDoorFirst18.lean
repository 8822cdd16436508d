/- The law CommandFirst without the program. -/
import Derived.Test.YtilnamobmjngbaaDoorCmdR
import Derived.Test.YtilnamobmjngbaaDoorP39
namespace Go.Proofs.YtilnamobmjngbaaDoor.Spec
open Go.RowKit Go.Proofs.YtilnamobmjngbaaDoorW.PrintWords Go.Proofs.YtilnamobmjngbaaDoor.P

theorem ev_First_loop (l : List (P.S33)) (s : ByteArray) (hS : SmallA l) (hl : l.length ≤ 4611686018427387904) (b2 : List ByteArray) (b3 : Bool) (q : ByteArray) : ∀ rest pre : List (P.S33), l = pre ++ rest → (b2, b3) = (outA s (lookA s rest)).2 →
    Ev (fun k => cruciblelaw18_CommandFirst.l0 k l s (pre.length : Int) q b2 b3) true := by
  intro rest
  induction rest with
  | nil =>
    intro pre h hb
    obtain ⟨rfl, rfl⟩ : b2 = [] ∧ b3 = false := by injection hb with e1 e2; exact ⟨e1, e2⟩
    refine Ev.step (fun k => by rw [cruciblelaw18_CommandFirst.l0]) ?_
    exact ev_neg (by rw [h]; simp) (ev_pos (by simp) (ev_const rfl))
  | cons x rest ih =>
    intro pre h hb
    have hlen : l.length = pre.length + (rest.length + 1) := by rw [h]; simp
    have hx := hS x (by rw [h]; simp)
    have hr : rd_T33 l (pre.length : Int) = x := by rw [h]; exact rdA_pre pre x rest
    have hw : wrap64 ((pre.length : Int) + 1) = ((pre ++ [x]).length : Int) := wrap_len pre x (by omega)
    refine Ev.step (fun k => by rw [cruciblelaw18_CommandFirst.l0, hr, hw]) ?_
    refine ev_pos (by omega) (ev_pos (by omega) ?_)
    rw [lookA] at hb
    by_cases e : x.f0.toList = s.toList
    · rw [if_pos e] at hb
      obtain ⟨rfl, rfl⟩ : b2 = x.f1 ∧ b3 = x.f2 := by injection hb with e1 e2; exact ⟨e1, e2⟩
      have es := ev_Same x.f1 x.f1 hx.2.1
      rw [decide_eq_true rfl] at es
      exact ev_pos e (ev_pos (by simp) (ev_bind es (Ev.now _)))
    · rw [if_neg e] at hb
      exact ev_neg e (ih (pre ++ [x]) (by simp [h]) hb)
theorem commandFirst_true (l : List (P.S33)) (s : ByteArray)
    (hb : (l.map fun x : P.S33 => (x.f0.size + 1) + ((x.f1.map fun s => s.size + 1).sum + 1) + 1).sum + 1 + (s.size + 1) ≤ 1048576) {p q : Prop} (_ : p) (_ : q) : ∃ k, cruciblelaw18_CommandFirst.f k l s = some true := by
  obtain ⟨hS, hl⟩ := smallA_of (l := l) (B := 1048576) (by omega) (by omega)
  refine Ev.rounds (Ev.congr (fun k => by rw [cruciblelaw18_CommandFirst.f]) ?_)
  refine ev_bindc (x := true) rfl (ev_pos rfl (ev_bind (ev_Action l s hS (by omega)) ?_))
  have h1 : (actOf l s).1 = s := by
    unfold actOf
    split
    · cases lookA s l <;> rfl
    · rfl
  refine ev_pos (by rw [h1]) (ev_bind (ev_ActionsMay l hS (by omega)) ?_)
  unfold actOf
  cases hm : mayA l with
  | true =>
    refine ev_pos rfl ?_
    rw [if_pos rfl]
    exact ev_First_loop l s hS (by omega) _ _ _ l [] rfl rfl
  | false =>
    refine ev_neg (by simp) ?_
    simp only [Bool.false_eq_true, if_false]
    exact ev_pos (by simp) (ev_const rfl)
end Go.Proofs.YtilnamobmjngbaaDoor.Spec
