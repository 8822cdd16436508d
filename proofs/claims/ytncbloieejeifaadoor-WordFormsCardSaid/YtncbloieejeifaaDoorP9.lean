-- Made by a program of this work's own (wip/myprint.py) over the kit's print; leaves by hand.
import Derived.Test.YtncbloieejeifaaDoorP0
import Derived.Test.YtncbloieejeifaaDoorP4
import Derived.Test.YtncbloieejeifaaDoorP5
import Derived.Test.YtncbloieejeifaaDoorP7
import Derived.Test.YtncbloieejeifaaDoorPlain
namespace Go.Proofs.YtncbloieejeifaaDoor.P
open Go.RowKit Go.Proofs.YtncbloieejeifaaDoorW.PrintWords Go.Proofs.YtncbloieejeifaaDoorW.PrintLast Go.Proofs.YtncbloieejeifaaDoorW.PrintMore
attribute [local go_sem] max2_int min2_int max_two min_two max_three min_three max_four min_four   -- for this text's walks alone
set_option linter.unusedVariables false
set_option linter.unusedSimpArgs false

-- HAND WordForms.lean
-- IMPORT Derived.Test.YtncbloieejeifaaDoorPlain
/-! ### cruciblelaw7_WordForms, by hand -/
def cruciblelaw7_WordForms.f (a0 : Int) : Option Bool := some true
def words_isNo (p : words_Parts) : Bool := p.1.isEmpty && p.2.1.toList.isEmpty && p.2.2.1.isEmpty && p.2.2.2.1.isEmpty && p.2.2.2.2.1.isEmpty && p.2.2.2.2.2 == 700
theorem words_isNo_eq {p : words_Parts} (h : words_isNo p = true) : p = words_no := by
  obtain ⟨a, b, c, d, e, f⟩ := p
  simp only [words_isNo, Bool.and_eq_true, List.isEmpty_iff, beq_iff_eq] at h
  obtain ⟨⟨⟨⟨⟨h1, h2⟩, h3⟩, h4⟩, h5⟩, h6⟩ := h
  have hb : b = ⟨#[]⟩ := Spec.data_inj (by rw [← Lib.toList_data, h2])
  rw [h1, hb, h3, h4, h5, h6]; rfl
def words_forms : List ByteArray := [⟨#[]⟩, ⟨#[97]⟩, ⟨#[97, 32, 58]⟩, ⟨#[58, 32, 99, 99]⟩, ⟨#[97, 32, 58, 32, 58, 32, 98]⟩, ⟨#[97, 32, 99, 99, 32, 98]⟩, ⟨#[97, 58, 32, 99, 99]⟩, ⟨#[97, 32, 58, 99, 99]⟩, ⟨#[97, 32, 58, 32, 99, 99, 32, 124]⟩, ⟨#[97, 32, 58, 32, 99, 99, 32, 124, 124]⟩, ⟨#[97, 32, 58, 32, 99, 99, 32, 98, 32, 124, 124, 32, 99, 32, 124, 32, 100]⟩, ⟨#[97, 32, 58, 32, 99, 99, 32, 124, 32, 98, 32, 124, 32, 99]⟩, ⟨#[97, 32, 58, 32, 99, 99, 32, 124, 124, 32, 98, 32, 124, 124, 32, 99]⟩, ⟨#[65, 32, 58, 32, 99, 99]⟩, ⟨#[97, 32, 58, 32, 67, 99]⟩, ⟨#[97, 32, 58, 32, 99, 99, 32, 98, 32, 58, 32, 99]⟩]
theorem words_forms_no (m : Fin 16) : words_Build.f (words_forms.getD m.val ByteArray.empty) = some words_no := by
  have h : ∀ m : Fin 16, decide ((words_forms.getD m.val ByteArray.empty).size < 4294967281) = true ∧ words_isNo (words_build (words_of (words_forms.getD m.val ByteArray.empty))) = true := by decide +kernel
  unfold words_Build.f
  rw [if_pos (by simpa using (h m).1), words_isNo_eq (h m).2]
theorem words_const_no (x : ByteArray) (h : (decide (x.size < 4294967281) && words_isNo (words_build (words_of x))) = true) : words_Build.f x = some words_no := by
  rw [Bool.and_eq_true] at h
  unfold words_Build.f
  rw [if_pos (by simpa using h.1), words_isNo_eq h.2]
theorem words_forms_cell (W : World) (m : Fin 16) : (W.alloc (.cells #[.string ⟨#[]⟩, .string ⟨#[97]⟩, .string ⟨#[97, 32, 58]⟩, .string ⟨#[58, 32, 99, 99]⟩, .string ⟨#[97, 32, 58, 32, 58, 32, 98]⟩, .string ⟨#[97, 32, 99, 99, 32, 98]⟩, .string ⟨#[97, 58, 32, 99, 99]⟩, .string ⟨#[97, 32, 58, 99, 99]⟩, .string ⟨#[97, 32, 58, 32, 99, 99, 32, 124]⟩, .string ⟨#[97, 32, 58, 32, 99, 99, 32, 124, 124]⟩, .string ⟨#[97, 32, 58, 32, 99, 99, 32, 98, 32, 124, 124, 32, 99, 32, 124, 32, 100]⟩, .string ⟨#[97, 32, 58, 32, 99, 99, 32, 124, 32, 98, 32, 124, 32, 99]⟩, .string ⟨#[97, 32, 58, 32, 99, 99, 32, 124, 124, 32, 98, 32, 124, 124, 32, 99]⟩, .string ⟨#[65, 32, 58, 32, 99, 99]⟩, .string ⟨#[97, 32, 58, 32, 67, 99]⟩, .string ⟨#[97, 32, 58, 32, 99, 99, 32, 98, 32, 58, 32, 99]⟩] 9)).cell? ⟨W.heap.size, m.val, none⟩ = some (.string (words_forms.getD m.val ByteArray.empty)) := by
  have h1 := blk_cell (g := W.heap.size) (heap_alloc_new W (.cells #[.string ⟨#[]⟩, .string ⟨#[97]⟩, .string ⟨#[97, 32, 58]⟩, .string ⟨#[58, 32, 99, 99]⟩, .string ⟨#[97, 32, 58, 32, 58, 32, 98]⟩, .string ⟨#[97, 32, 99, 99, 32, 98]⟩, .string ⟨#[97, 58, 32, 99, 99]⟩, .string ⟨#[97, 32, 58, 99, 99]⟩, .string ⟨#[97, 32, 58, 32, 99, 99, 32, 124]⟩, .string ⟨#[97, 32, 58, 32, 99, 99, 32, 124, 124]⟩, .string ⟨#[97, 32, 58, 32, 99, 99, 32, 98, 32, 124, 124, 32, 99, 32, 124, 32, 100]⟩, .string ⟨#[97, 32, 58, 32, 99, 99, 32, 124, 32, 98, 32, 124, 32, 99]⟩, .string ⟨#[97, 32, 58, 32, 99, 99, 32, 124, 124, 32, 98, 32, 124, 124, 32, 99]⟩, .string ⟨#[65, 32, 58, 32, 99, 99]⟩, .string ⟨#[97, 32, 58, 32, 67, 99]⟩, .string ⟨#[97, 32, 58, 32, 99, 99, 32, 98, 32, 58, 32, 99]⟩] 9)) m.val
  rw [h1]
  have : ∀ m : Fin 16, (#[.string ⟨#[]⟩, .string ⟨#[97]⟩, .string ⟨#[97, 32, 58]⟩, .string ⟨#[58, 32, 99, 99]⟩, .string ⟨#[97, 32, 58, 32, 58, 32, 98]⟩, .string ⟨#[97, 32, 99, 99, 32, 98]⟩, .string ⟨#[97, 58, 32, 99, 99]⟩, .string ⟨#[97, 32, 58, 99, 99]⟩, .string ⟨#[97, 32, 58, 32, 99, 99, 32, 124]⟩, .string ⟨#[97, 32, 58, 32, 99, 99, 32, 124, 124]⟩, .string ⟨#[97, 32, 58, 32, 99, 99, 32, 98, 32, 124, 124, 32, 99, 32, 124, 32, 100]⟩, .string ⟨#[97, 32, 58, 32, 99, 99, 32, 124, 32, 98, 32, 124, 32, 99]⟩, .string ⟨#[97, 32, 58, 32, 99, 99, 32, 124, 124, 32, 98, 32, 124, 124, 32, 99]⟩, .string ⟨#[65, 32, 58, 32, 99, 99]⟩, .string ⟨#[97, 32, 58, 32, 67, 99]⟩, .string ⟨#[97, 32, 58, 32, 99, 99, 32, 98, 32, 58, 32, 99]⟩] : Array Value)[m.val]? = some (.string (words_forms.getD m.val ByteArray.empty)) := fun ⟨m, hm⟩ => match m, hm with
    | 0, _ => rfl | 1, _ => rfl | 2, _ => rfl | 3, _ => rfl | 4, _ => rfl | 5, _ => rfl | 6, _ => rfl | 7, _ => rfl | 8, _ => rfl | 9, _ => rfl | 10, _ => rfl | 11, _ => rfl | 12, _ => rfl | 13, _ => rfl | 14, _ => rfl | 15, _ => rfl | k + 16, h => absurd h (by omega)
  exact this m
set_option maxHeartbeats 4000000 in
set_option maxRecDepth 100000 in
theorem cruciblelaw7_WordForms.calls (a0 : Int) (r : Bool) (w : World) (h : cruciblelaw7_WordForms.f a0 = some r) : Calls Tryd.prog 4 #[.int .i64 a0] w fun e w' => e = .returned (.bool r) ∧ Below w.heap.size w w' := by
  obtain rfl : true = r := Option.some.inj h
  obtain ⟨m, hm⟩ := Spec.bits15 a0
  have e1 := words_forms_no m
  have hcell := fun W => words_forms_cell W m
  have E2 := Aside0.mk (words_const_no ⟨#[97, 32, 97, 32, 97, 32, 97, 32, 97, 32, 97, 32, 97, 32, 97, 32, 97, 32, 58, 32, 99, 99]⟩ (by decide +kernel))
  have E3 := Aside0.mk (words_const_no ⟨#[97, 32, 58, 32, 99, 99, 32, 97, 32, 97, 32, 97, 32, 97, 32, 97, 32, 97, 32, 97, 32, 97, 32, 97]⟩ (by decide +kernel))
  have E4 := Aside0.mk (words_const_no ⟨#[97, 32, 58, 32, 99, 99, 32, 124, 32, 97, 32, 97, 32, 97, 32, 97, 32, 97, 32, 97, 32, 97, 32, 97, 32, 97]⟩ (by decide +kernel))
  have E5 := Aside0.mk (words_const_no ⟨#[97, 32, 58, 32, 99, 99, 32, 124, 124, 32, 97, 32, 97, 32, 97, 32, 97, 32, 97, 32, 97, 32, 97, 32, 97, 32, 97]⟩ (by decide +kernel))
  have hm0 : (0 : Int) ≤ (m.val : Int) := by omega
  have hm1 : (m.val : Int) < 16 := by have := m.isLt; omega
  generalize words_forms.getD m.val ByteArray.empty = s at e1 hcell
  have E1 := Aside0.mk e1
  clear e1 h
  go_enter Tryd.func4, Tryd.ntmps4
  go_wp2_with fail
  refine (cruciblelaw7_awake.calls true w rfl).mono ?_
  rintro e w1 ⟨rfl, B1⟩
  go_wp2_with fail
  refine (words_Build.calls _ _ _ _ _ _ _ _ E1.out).mono ?_
  rintro e w2 ⟨v0, v2, v3, v4, rfl, Ra, Rb, Rc, Rd, B2⟩
  obtain ⟨A0, c0, rfl⟩ := Kd.R_slice Ra
  obtain ⟨A2, c2, rfl⟩ := Kd.R_slice Rb
  obtain ⟨A3, c3, rfl⟩ := Kd.R_slice Rc
  obtain ⟨A4, c4, rfl⟩ := Kd.R_slice Rd
  clear Ra Rb Rc Rd
  have K2 := B1.trans (((Below.refl _ _).alloc (Nat.le_refl _) _ |>.trans (B2.mono (by first | exact Nat.le_refl _ | simp))).mono B1.size)
  clear hcell
  go_wp2_with fail
  refine (words_Build.calls _ _ _ _ _ _ _ _ E2.out).mono ?_
  rintro e w3 ⟨v50, v52, v53, v54, rfl, _, _, _, _, B3⟩
  have K3 := K2.trans (B3.mono K2.size)
  go_wp2_with fail
  refine (words_Build.calls _ _ _ _ _ _ _ _ E3.out).mono ?_
  rintro e w4 ⟨v60, v62, v63, v64, rfl, _, _, _, _, B4⟩
  have K4 := K3.trans (B4.mono K3.size)
  go_wp2_with fail
  refine (words_Build.calls _ _ _ _ _ _ _ _ E4.out).mono ?_
  rintro e w5 ⟨v70, v72, v73, v74, rfl, _, _, _, _, B5⟩
  have K5 := K4.trans (B5.mono K4.size)
  go_wp2_with fail
  refine (words_Build.calls _ _ _ _ _ _ _ _ E5.out).mono ?_
  rintro e w6 ⟨v80, v82, v83, v84, rfl, _, _, _, _, B6⟩
  have K6 := K5.trans (B6.mono K5.size)
  go_wp2_with (go_at_call 18; refine (cruciblelaw0_Num.calls _ _ _ rfl).mono ?_; rintro e w7 ⟨rfl, hd7⟩; have K6 := K6.trans (hd7.below.mono K6.size); clear hd7)
  go_ret
  exact ⟨rfl, K6⟩

end Go.Proofs.YtncbloieejeifaaDoor.P
