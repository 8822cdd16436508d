/- The law DiskTimes without the program. -/
import Derived.Test.YtilnamobmjngbaaDoorSameD
import Derived.Test.YtilnamobmjngbaaDoorP23
namespace Go.Proofs.YtilnamobmjngbaaDoor.Spec
open Go.RowKit Go.Proofs.YtilnamobmjngbaaDoorW.PrintWords Go.Proofs.YtilnamobmjngbaaDoor.P

theorem isP_f : isP [102] = true := by decide +kernel
abbrev ftF (x t : Int) : P.S72 := ⟨⟨#[102]⟩, x, t⟩
theorem mayD_nil (c : Int) (h0 : 0 ≤ c) (h1 : c ≤ 1048576) : mayD c [] = true :=
  ok_mayD ⟨h0, h1, by simp, by simp, List.Pairwise.nil, List.Pairwise.nil⟩
theorem mayD_one (c x t : Int) (h0 : 1 ≤ t) (h1 : t ≤ c) (h2 : c ≤ 1048576) (h3 : 0 ≤ x) (h4 : x ≤ 2147483647) : mayD c [ftF x t] = true := by
  refine ok_mayD ⟨by omega, h2, by simp, fun y hy => ?_, List.pairwise_singleton _ _, List.pairwise_singleton _ _⟩
  obtain rfl := List.mem_singleton.1 hy
  simp only [fileOk, Bool.and_eq_true, decide_eq_true_eq]
  exact ⟨isP_f, ⟨h3, h4⟩, h0, h1⟩
theorem put_one (c : Int) (l : List (P.S72)) (x : Int) (hm : mayD c l = true) (hi : insF (ftF x (c + 1)) l = [ftF x (c + 1)]) (h2 : c < 1048576) (h3 : 0 ≤ x) (h4 : x ≤ 2147483647) : putD c l ⟨#[102]⟩ x = (c + 1, [ftF x (c + 1)], 0) := by
  unfold putD
  rw [hm, show isP (⟨#[102]⟩ : ByteArray).data.toList = true from isP_f, decide_eq_true (show 0 ≤ x ∧ x ≤ 2147483647 from ⟨h3, h4⟩)]
  simp only [Bool.and_self, if_true]
  rw [show (⟨⟨#[102]⟩, x, c + 1⟩ : P.S72) = ftF x (c + 1) from rfl, hi, if_neg (by simp; omega)]
theorem ev_Times12_loop (l0 : List Int) (a1 : Int) (c : Int) (hc : Go.bits .and .i64 a1 65535 = c) (h0 : 0 ≤ c) (h1 : c ≤ 65535) (m : Nat) (hm : m ≤ l0.length) (hm30 : m ≤ 30) : ∀ n i (l : List (P.S72)), i + n = m → mayD (c + i) l = true → (∀ x, insF (ftF x (c + i + 1)) l = [ftF x (c + i + 1)]) →
    Ev (fun k => cruciblelaw12_DiskTimes.l0 k l0 a1 (m : Int) (i : Int) (c + i) l) true
  | 0, i, l, h, hd, hi => by
    refine Ev.step (fun k => by rw [cruciblelaw12_DiskTimes.l0]) ?_
    have hll := (mayD_ok hd).many
    have hhi := (mayD_ok hd).high
    refine ev_neg (by omega) (ev_bind (ev_May12 _ _ (by omega) (by omega)) ?_)
    rw [hd]
    exact Ev.now _
  | n + 1, i, l, h, hd, hi => by
    have hll := (mayD_ok hd).many
    have hhi := (mayD_ok hd).high
    have hA : (i : Int) < (m : Int) := by omega
    have hB : (0 : Int) ≤ (i : Int) := by omega
    have hC : (i : Int) < (l0.length : Int) := by omega
    have hsum : c + ((i + 1 : Nat) : Int) = c + i + 1 := by omega
    have hx := bits_low16 (rd l0 (i : Int))
    have hx0 : 0 ≤ rd l0 (i : Int) % 65536 := by omega
    have hx1 : rd l0 (i : Int) % 65536 ≤ 2147483647 := by omega
    have hi1 : i + 1 + n = m := by omega
    have hc1 : c + i < 1048576 := by omega
    have hc2 : 1 ≤ c + i + 1 := by omega
    have hc3 : c + i + 1 ≤ 1048576 := by omega
    have hput := put_one (c + i) l (rd l0 (i : Int) % 65536) hd (hi _) hc1 hx0 hx1
    have e1 := ev_Put12 (c + i) l ⟨#[102]⟩ (rd l0 (i : Int) % 65536) (by omega) (by omega)
    rw [hput] at e1
    have hw : wrap64 (wrap64 (c + i) + 1) = c + i + 1 := by rw [wrap_id (n := c + i) (by omega) (by omega), wrap_id (by omega) (by omega)]
    have hw2 : wrap64 ((i : Int) + 1) = ((i + 1 : Nat) : Int) := wrap_nat (by omega)
    refine Ev.step (fun k => by rw [cruciblelaw12_DiskTimes.l0]) ?_
    simp only [hx, hc, hw, hw2]
    have e2 := ev_SameDisk_refl (c + i + 1) [ftF (rd l0 (i : Int) % 65536) (c + i + 1)] (by simp)
    refine ev_pos hA ?_
    refine ev_pos hB ?_
    refine ev_pos hC ?_
    refine ev_bind e1 ?_
    refine ev_bindc (x := 0) rfl ?_
    refine ev_pos rfl ?_
    refine ev_bind e2 ?_
    refine ev_pos rfl ?_
    have ih := ev_Times12_loop l0 a1 c hc h0 h1 m hm hm30 n (i + 1) [ftF (rd l0 (i : Int) % 65536) (c + i + 1)] hi1
      (by rw [hsum]; exact mayD_one _ _ _ hc2 (Int.le_refl _) hc3 hx0 hx1)
      (fun x => by simp [insF, P.less_is, List.lt_irrefl])
    rw [hsum] at ih
    exact ih
theorem diskTimes_true (l0 : List Int) (a1 : Int) {p q : Prop} (_ : p) (_ : q) : ∃ k, cruciblelaw12_DiskTimes.f k l0 a1 = some true := by
  have hb := bits_low16 a1
  obtain ⟨m, hm, hm1, hm2⟩ : ∃ m : Nat, mn (l0.length : Int) 30 = (m : Int) ∧ m ≤ l0.length ∧ m ≤ 30 := by
    unfold mn
    split
    · exact ⟨30, rfl, by omega, Nat.le_refl _⟩
    · exact ⟨l0.length, rfl, Nat.le_refl _, by omega⟩
  refine Ev.rounds (Ev.congr (fun k => by rw [cruciblelaw12_DiskTimes.f]) (ev_bindc (a := cruciblelaw12_awake.f) (x := true) rfl ?_))
  refine ev_pos rfl ?_
  rw [hm, hb]
  have := ev_Times12_loop l0 a1 (a1 % 65536) hb (by omega) (by omega) m hm1 hm2 m 0 [] (by omega) (by simpa using mayD_nil (a1 % 65536) (by omega) (by omega)) (fun x => rfl)
  simpa using this
end Go.Proofs.YtilnamobmjngbaaDoor.Spec
