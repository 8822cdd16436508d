/- Chapter 13: the law Loglines without the program. -/
import Derived.Test.YtdaddlplpkmkmaaDoorAw13
import Derived.Test.YtdaddlplpkmkmaaDoorP15
namespace Go.Proofs.YtdaddlplpkmkmaaDoor.Spec
open Go.RowKit Go.Proofs.YtdaddlplpkmkmaaDoorW.PrintWords Go.Proofs.YtdaddlplpkmkmaaDoorW.PrintMore Go.Proofs.YtdaddlplpkmkmaaDoor.P

theorem Loglines (o : ByteArray) (t : Int) (g s : ByteArray) (hb : (o.size + 1) + 1 + (g.size + 1) + (s.size + 1) ≤ 1048576)
    (_ : o.size ≤ maxLen) (_ : (Lit.int .i64 t).wf = true) (_ : g.size ≤ maxLen) (_ : s.size ≤ 140737488351232) : ∃ k, cruciblelaw13_Loglines.f k o t g s = some true := by
  have eA := ev_LPut o t g (by omega)
  have eB := ev_RPut o t g (by omega) (by omega)
  have eC := ev_LGet s (by omega)
  have eD := ev_RGet s (by omega)
  have key : ∀ (a : ByteArray × Int) (c x : ByteArray × Int × ByteArray × Int) (b : ByteArray × Int), putR o t g = a → getR s = c → a.1.size ≤ 4000 → c.2.2.1.size ≤ 4000 → getR a.1 = x → putR c.1 c.2.1 c.2.2.1 = b →
      (a.2 = 0 → x = (o, t, g, 0)) → (c.2.2.2 = 0 → b = (s, 0)) → ∃ k, cruciblelaw13_Loglines.f k o t g s = some true := by
    rintro ⟨a1, a2⟩ ⟨c1, c2, c3, c4⟩ ⟨x1, x2, x3, x4⟩ ⟨b1, b2⟩ ha hc hz1 hz2 hx hb' h1 h2
    simp only [] at hz1 hz2 hx hb' h1 h2
    rw [ha] at eA eB
    rw [hc] at eC eD
    have eE := ev_LGet a1 (by omega)
    have eF := ev_LPut c1 c2 c3 (by omega)
    rw [hx] at eE
    rw [hb'] at eF
    refine Ev.rounds (Ev.congr (fun k => by rw [cruciblelaw13_Loglines.f]) (ev_bind eA (ev_bind eB (ev_bind eC (ev_bind eD (ev_bind eE (ev_bind eF ?_)))))))
    refine ev_pos rfl (ev_bindc rfl (ev_pos rfl (ev_neg (by simp) (ev_bindc rfl (Ev.step (fun k => by rw [cruciblelaw13_Loglines.j0]) ?_)))))
    refine ev_neg (by simp) (ev_bindc rfl ?_)
    have fin : Ev (fun k => (cruciblelaw0_Num.f c4).bind fun t => if t = 0 then (if b1.toList = s.toList then ((cruciblelaw0_Num.f b2).bind fun t => if t = 0 then ((cruciblelaw13_awake.f k).bind fun t => some t) else some false) else some false) else ((cruciblelaw13_awake.f k).bind fun t => some t)) true := by
      refine ev_bindc rfl ?_
      by_cases h4 : c4 = 0
      · have e := h2 h4
        simp only [Prod.mk.injEq] at e
        obtain ⟨rfl, rfl⟩ := e
        exact ev_pos h4 (ev_pos rfl (ev_bindc rfl (ev_pos rfl (ev_bind ev_awake13 (Ev.now _)))))
      · exact ev_neg h4 (ev_bind ev_awake13 (Ev.now _))
    by_cases h3 : a2 = 0
    · have e := h1 h3
      simp only [Prod.mk.injEq] at e
      obtain ⟨rfl, rfl, rfl, rfl⟩ := e
      exact ev_pos h3 (ev_pos (by simp) (ev_bindc rfl (ev_pos rfl fin)))
    · exact ev_neg h3 fin
  have hg0 : getR (str []) = noR := getR_may (by decide +kernel)
  have hp0 : putR (str []) 0 (str []) = (str [], 1300) := putR_no (by decide +kernel)
  have z0 : (str ([] : List UInt8)).size = 0 := rfl
  rcases back_cases s (str (pO s.data.toList)) (pT s.data.toList) (str (pG s.data.toList)) with ⟨hc, hm, hs⟩ | hc
  · have hz := (mayR_is hm).gs
    have hb2 := putR_ok hm
    rw [← hs] at hb2
    cases ha : mayR o t g with
    | true =>
      have hl := (line_len (mayR_is ha).parts).1
      exact key _ _ _ _ (putR_ok ha) hc (by show (str (txR o t g)).size ≤ _; rw [str_size]; unfold txR; omega) (by show (str (pG s.data.toList)).size ≤ _; omega) (get_put ha) hb2 (fun _ => rfl) (fun _ => rfl)
    | false => exact key _ _ _ _ (putR_no ha) hc (by show (str []).size ≤ _; omega) (by show (str (pG s.data.toList)).size ≤ _; omega) hg0 hb2 (fun h => absurd h (by decide)) (fun _ => rfl)
  · cases ha : mayR o t g with
    | true =>
      have hl := (line_len (mayR_is ha).parts).1
      exact key _ _ _ _ (putR_ok ha) hc (by show (str (txR o t g)).size ≤ _; rw [str_size]; unfold txR; omega) (by show (str []).size ≤ _; omega) (get_put ha) hp0 (fun _ => rfl) (fun h => absurd h (by decide))
    | false => exact key _ _ _ _ (putR_no ha) hc (by show (str []).size ≤ _; omega) (by show (str []).size ≤ _; omega) hg0 hp0 (fun h => absurd h (by decide)) (fun h => absurd h (by decide))
end Go.Proofs.YtdaddlplpkmkmaaDoor.Spec
