/- Chapter 12 in plain lists: what a put and a remove leave, and the law DiskOther. -/
import Derived.Test.YtilnamobmjngbaaDoorSameD
import Derived.Test.YtilnamobmjngbaaDoorLook12
import Derived.Test.YtilnamobmjngbaaDoorP26
namespace Go.Proofs.YtilnamobmjngbaaDoor.Spec
open Go.RowKit Go.Proofs.YtilnamobmjngbaaDoorW.PrintWords Go.Proofs.YtilnamobmjngbaaDoor.P

set_option linter.unusedVariables false
set_option linter.unusedSimpArgs false
/-! ### the law -/
theorem ev_do_put (clk : Int) (l : List (P.S72)) (s : ByteArray) (x : Int) (o : ByteArray) (hx : 0 ≤ x ∧ x ≤ 2147483647) (hl : l.length ≤ 999999) : Ev (fun k => do_put k clk s x o (findD clk l o) (putD clk l s x)) () := by
  unfold do_put putD
  cases hm : mayD clk l with
  | false => exact Ev.congr (fun k => by simp only [Bool.false_and, Bool.false_eq_true, if_false]; rw [if_neg (by decide)]) (Ev.now _)
  | true =>
    cases hp : isP s.data.toList with
    | false => exact Ev.congr (fun k => by simp only [Bool.false_and, Bool.and_false, Bool.false_eq_true, if_false]; rw [if_neg (by decide)]) (Ev.now _)
    | true =>
      rw [decide_eq_true hx]
      simp only [Bool.and_self, if_true]
      by_cases hf : clk = 1048576 ∨ 64 < (insF ⟨s, x, clk + 1⟩ l).length
      · rw [if_pos hf]
        exact Ev.congr (fun k => if_neg (by decide)) (Ev.now _)
      · rw [if_neg hf]
        have ho := mayD_ok hm
        have hhi := ho.high
        have h64 : (insF ⟨s, x, clk + 1⟩ l).length ≤ 64 := by omega
        have hc1 : clk < 1048576 := by omega
        have ho2 := ok_put ho hp hx hc1 h64
        have hm2 := ok_mayD ho2
        have hw : wrap64 (clk + 1) = clk + 1 := wrap_id (by have := ho.low; omega) (by omega)
        have e1 := ev_Find12 (clk + 1) (insF ⟨s, x, clk + 1⟩ l) o (by omega) (by omega)
        have e2 := ev_Find12 (clk + 1) (insF ⟨s, x, clk + 1⟩ l) s (by omega) (by omega)
        have e3 := ev_May12 (clk + 1) (insF ⟨s, x, clk + 1⟩ l) (by omega) (by omega)
        rw [hm2] at e3
        have k1 : findD (clk + 1) (insF ⟨s, x, clk + 1⟩ l) o = outF (if s.toList = o.toList then some ⟨s, x, clk + 1⟩ else lookF o l) := by
          unfold findD
          rw [if_pos hm2, lookF_ins _ _ _ ho.rise]
        have k2 : findD (clk + 1) (insF ⟨s, x, clk + 1⟩ l) s = (s, x, clk + 1, true) := by
          unfold findD
          rw [if_pos hm2, lookF_ins _ _ _ ho.rise, if_pos rfl]
          rfl
        have k3 : findD clk l o = outF (lookF o l) := by
          unfold findD
          rw [if_pos hm]
        rw [k1] at e1
        rw [k2] at e2
        rw [k3]
        refine Ev.congr (fun k => if_pos rfl) (ev_bind e1 (ev_bind e2 ?_))
        refine evt_if (evt_and (evt_c (fun hne => ?_)) (evt_and (evt_c rfl) (evt_and (evt_c hw.symm) (evt_is e3)))) (Ev.now _)
        rw [if_neg (fun e => hne e.symm)]
theorem ev_do_rem (clk : Int) (l : List (P.S72)) (s o : ByteArray) (hl : l.length ≤ 999999) : Ev (fun k => do_rem k clk s o (findD clk l o) (removeD clk l s)) true := by
  unfold do_rem removeD
  have e0 := ev_SameDisk_refl 0 ([] : List (P.S72)) (by simp)
  cases hm : mayD clk l with
  | false => exact Ev.congr (fun k => by simp only [Bool.false_and, Bool.false_eq_true, if_false]; rw [if_neg (by decide)]) (evt_if (evt_is e0) (Ev.now _))
  | true =>
    cases hp : isP s.data.toList with
    | false => exact Ev.congr (fun k => by simp only [Bool.false_and, Bool.and_false, Bool.false_eq_true, if_false]; rw [if_neg (by decide)]) (evt_if (evt_is e0) (Ev.now _))
    | true =>
      simp only [Bool.and_self, if_true]
      cases hk : (lookF s l).isSome with
      | false => exact Ev.congr (fun k => by simp only [Bool.false_eq_true, if_false]; rw [if_neg (by decide)]) (evt_if (evt_is e0) (Ev.now _))
      | true =>
        simp only [if_true]
        have ho := mayD_ok hm
        have hhi := ho.high
        have hn := List.length_filter_le (fun y : P.S72 => decide (y.f0.toList ≠ s.toList)) l
        have hd : (delF s l).length ≤ 1000000 := by unfold delF; omega
        have hm2 := ok_mayD (ok_del ho s)
        have e1 := ev_Find12 clk (delF s l) o hd (by omega)
        have e3 := ev_May12 clk (delF s l) hd (by omega)
        rw [hm2] at e3
        have k1 : findD clk (delF s l) o = outF (if o.toList = s.toList then none else lookF o l) := by
          unfold findD
          rw [if_pos hm2, lookF_del]
        have k3 : findD clk l o = outF (lookF o l) := by
          unfold findD
          rw [if_pos hm]
        rw [k1] at e1
        rw [k3]
        refine ev_bind e1 ?_
        refine evt_if (evt_and (evt_c ⟨fun e => ?_, fun e => ?_⟩) (evt_and (evt_c (by trivial)) (evt_is e3))) (Ev.now _)
        · rw [if_pos e]; rfl
        · rw [if_neg e]
theorem diskOther_true (clk : Int) (l : List (P.S72)) (s : ByteArray) (x : Int) (o : ByteArray)
    (hb : 1 + ((l.map fun x : P.S72 => (x.f0.size + 1) + 1 + 1).sum + 1) + (s.size + 1) + 1 + (o.size + 1) ≤ 1048576) (hc : (Lit.int .i64 clk).wf = true) {p q r u : Prop} (_ : p) (_ : q) (_ : r) (_ : u) : ∃ k, cruciblelaw12_DiskOther.f k clk l s x o = some true := by
  obtain ⟨h1, h2⟩ := sum_mem (fun x : P.S72 => (x.f0.size + 1) + 1 + 1) (fun x => by omega) l
  have hl : l.length ≤ 999999 := by omega
  have hl1 : l.length ≤ 1000000 := by omega
  have hc1 := clk_wf hc
  have hx := bits_low16 x
  have hx2 : 0 ≤ x % 65536 ∧ x % 65536 ≤ 2147483647 := by omega
  refine Ev.rounds (Ev.congr (fun k => by rw [cruciblelaw12_DiskOther.f, hx]) (ev_bind (ev_Put12 clk l s _ hl1 hc1) (ev_bind (ev_Remove12 clk l s hl1 hc1) (ev_bind (ev_Find12 clk l o hl1 hc1) (ev_bind (ev_do_put clk l s _ o hx2 hl) (ev_do_rem clk l s o hl))))))
end Go.Proofs.YtilnamobmjngbaaDoor.Spec
