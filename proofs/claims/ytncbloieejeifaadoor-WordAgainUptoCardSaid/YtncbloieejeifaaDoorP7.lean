-- Made by a program of this work's own (wip/myprint.py) over the kit's print; leaves by hand.
import Derived.Test.YtncbloieejeifaaDoorP0
import Derived.Test.YtncbloieejeifaaDoorP3
import Derived.Test.YtncbloieejeifaaDoorP4
import Derived.Test.YtncbloieejeifaaDoorP5
import Derived.Test.YtncbloieejeifaaDoorBase
namespace Go.Proofs.YtncbloieejeifaaDoor.P
open Go.RowKit Go.Proofs.YtncbloieejeifaaDoorW.PrintWords Go.Proofs.YtncbloieejeifaaDoorW.PrintLast Go.Proofs.YtncbloieejeifaaDoorW.PrintMore
attribute [local go_sem] max2_int min2_int max_two min_two max_three min_three max_four min_four   -- for this text's walks alone
set_option linter.unusedVariables false
set_option linter.unusedSimpArgs false

-- HAND Words7Awake.lean
-- IMPORT Derived.Test.YtncbloieejeifaaDoorBase
/-! ### cruciblelaw7_awake, by hand -/
def cruciblelaw7_awake.f : Option Bool := some true
theorem same_lit {W : World} {base : Nat} {v : Value} {xs : List ByteArray} {ok : Nat → Prop} (ys : List ByteArray) (k : Nat) (r : Bool) (h : cruciblelaw0_SameTexts.f k xs ys = some r) (hl : ys.length ≤ 1000) (hR : Kd.R Kd.string 9 W base ok v xs) :
    Calls Tryd.prog 17 #[v, .slice (some ⟨W.heap.size, 0, none⟩) ys.length ys.length] (W.alloc (.cells (ys.map Value.string).toArray 9)) fun e w' => e = .returned (.bool r) ∧ Below W.heap.size W w' := by
  obtain ⟨A, c, rfl, hc, hC⟩ := Kd.R_reads hR
  obtain ⟨A2, c2, e2, hc2, hC2⟩ := Kd.R_reads (split_row W ys (by omega))
  cases e2
  exact (cruciblelaw0_SameTexts.calls k A c xs _ _ ys r _ (Kd.C_alloc hC _) hc hC2 hc2 h).mono fun e w' ⟨he, hd⟩ => ⟨he, (below_alloc (Below.refl _ _) _).trans (hd.below.mono (below_alloc (Below.refl _ _) _).size)⟩
set_option maxHeartbeats 4000000 in
set_option maxRecDepth 100000 in
theorem cruciblelaw7_awake.calls (r : Bool) (w : World) (h : cruciblelaw7_awake.f = some r) : Calls Tryd.prog 20 #[] w fun e w' => e = .returned (.bool r) ∧ Below w.heap.size w w' := by
  obtain rfl : true = r := Option.some.inj h
  have e1 : words_Build.f (⟨#[120, 46, 111, 32, 32, 121, 32, 58, 32, 99, 99, 32, 120, 46, 99, 32, 124, 32, 97, 46, 104, 32, 124, 124, 32, 103, 101, 110]⟩ : ByteArray) = some ([⟨#[120, 46, 111]⟩, ⟨#[121]⟩], ⟨#[99, 99]⟩, [⟨#[120, 46, 99]⟩], [⟨#[97, 46, 104]⟩], [⟨#[103, 101, 110]⟩], 0) := by kernel_rfl
  have e2 : words_Build.f (⟨#[120, 32, 58, 32, 99, 99, 32, 124, 124, 32, 103, 101, 110]⟩ : ByteArray) = some ([⟨#[120]⟩], ⟨#[99, 99]⟩, [], [], [⟨#[103, 101, 110]⟩], 0) := by kernel_rfl
  have e3 : words_Build.f (⟨#[120, 58, 32, 99, 99]⟩ : ByteArray) = some words_no := by kernel_rfl
  have e4 : words_Build.f (⟨#[120, 32, 58, 32, 99, 99, 32, 124]⟩ : ByteArray) = some words_no := by kernel_rfl
  have E1 := Aside0.mk e1
  have E2 := Aside0.mk e2
  have E3 := Aside0.mk e3
  have E4 := Aside0.mk e4
  clear e1 e2 e3 e4 h
  go_enter Tryd.func20, Tryd.ntmps20
  go_wp2_with fail
  refine (words_Build.calls _ _ _ _ _ _ _ _ E1.out).mono ?_
  rintro e w1 ⟨a0, a2, a3, a4, rfl, Ra, Rb, Rc, Rd, B1⟩
  go_wp2_with fail
  refine (words_Build.calls _ _ _ _ _ _ _ _ E2.out).mono ?_
  rintro e w2 ⟨o0, o2, o3, o4, rfl, _, _, _, Ro, B2⟩
  go_wp2_with fail
  refine (words_Build.calls _ _ _ _ _ _ _ _ E3.out).mono ?_
  rintro e w3 ⟨p0, p2, p3, p4, rfl, _, _, _, _, B3⟩
  go_wp2_with fail
  refine (words_Build.calls _ _ _ _ _ _ _ _ E4.out).mono ?_
  rintro e w4 ⟨q0, q2, q3, q4, rfl, _, _, _, _, B4⟩
  go_wp2_with fail
  have K4 := (B2.trans (B3.mono B2.size)).trans (B4.mono (B2.trans (B3.mono B2.size)).size)
  refine (same_lit [⟨#[120, 46, 111]⟩, ⟨#[121]⟩] 5 true (by decide +kernel) (by decide) (Kd.R_below Ra K4)).mono ?_
  rintro e w5 ⟨rfl, B5⟩
  go_wp2_with fail
  have K5 := K4.trans (B5.mono K4.size)
  refine (same_lit [⟨#[120, 46, 99]⟩] 5 true (by decide +kernel) (by decide) (Kd.R_below Rb K5)).mono ?_
  rintro e w6 ⟨rfl, B6⟩
  go_wp2_with fail
  have K6 := K5.trans (B6.mono K5.size)
  refine (same_lit [⟨#[97, 46, 104]⟩] 5 true (by decide +kernel) (by decide) (Kd.R_below Rc K6)).mono ?_
  rintro e w7 ⟨rfl, B7⟩
  go_wp2_with fail
  have K7 := K6.trans (B7.mono K6.size)
  refine (same_lit [⟨#[103, 101, 110]⟩] 5 true (by decide +kernel) (by decide) (Kd.R_below Rd K7)).mono ?_
  rintro e w8 ⟨rfl, B8⟩
  have K8 := K7.trans (B8.mono K7.size)
  go_wp2_with (go_at_call 18; refine (cruciblelaw0_Num.calls _ _ _ rfl).mono ?_; rintro e w9 ⟨rfl, hd9⟩)
  have KA := (B3.trans (B4.mono B3.size)).trans (B5.mono (B3.trans (B4.mono B3.size)).size)
  have KB := KA.trans (B6.mono KA.size)
  have KC := KB.trans (B7.mono KB.size)
  have KD := KC.trans (B8.mono KC.size)
  have KE := KD.trans (hd9.below.mono KD.size)
  refine (same_lit [⟨#[103, 101, 110]⟩] 5 true (by decide +kernel) (by decide) (Kd.R_below Ro KE)).mono ?_
  rintro e w10 ⟨rfl, B10⟩
  have K9 := K8.trans (hd9.below.mono K8.size)
  have K10 := (B1.trans (K9.mono B1.size)).trans (B10.mono (B1.trans (K9.mono B1.size)).size)
  go_wp2_with (go_at_call 18; refine (cruciblelaw0_Num.calls _ _ _ rfl).mono ?_; rintro e w11 ⟨rfl, hd11⟩; have K10 := K10.trans (hd11.below.mono K10.size); clear hd11)
  go_ret
  exact ⟨rfl, K10⟩

end Go.Proofs.YtncbloieejeifaaDoor.P
