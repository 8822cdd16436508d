-- Made by a program of this work's own (wip/myprint.py) over the kit's print; leaves by hand.
import Derived.Test.YtncbloieejeifaaDoorP0
import Derived.Test.YtncbloieejeifaaDoorP4
import Derived.Test.YtncbloieejeifaaDoorP5
import Derived.Test.YtncbloieejeifaaDoorP7
import Derived.Test.YtncbloieejeifaaDoorP10
import Derived.Test.YtncbloieejeifaaDoorWords7
namespace Go.Proofs.YtncbloieejeifaaDoor.P
open Go.RowKit Go.Proofs.YtncbloieejeifaaDoorW.PrintWords Go.Proofs.YtncbloieejeifaaDoorW.PrintLast Go.Proofs.YtncbloieejeifaaDoorW.PrintMore
attribute [local go_sem] max2_int min2_int max_two min_two max_three min_three max_four min_four   -- for this text's walks alone
set_option linter.unusedVariables false
set_option linter.unusedSimpArgs false

-- HAND WordAgain.lean
-- IMPORT Derived.Test.YtncbloieejeifaaDoorWords7
/-! ### cruciblelaw7_WordAgain, by hand -/
def cruciblelaw7_WordAgain.f (a0 : ByteArray) : Option Bool := if a0.size < 4294967281 then some true else none
theorem join_call {W : World} {base k : Nat} {v : Value} {xs : List ByteArray} {ok : Nat → Prop} {s J : ByteArray} (hR : Kd.R Kd.string 9 W base ok v xs) (e : crucibleref1_Join.f k xs s = some J) :
    Calls Tryd.prog 22 #[v, .string s] W fun e w' => e = .returned (.string J) ∧ Below W.heap.size W w' := by
  obtain ⟨A, c, rfl, hc, hC⟩ := Kd.R_reads hR
  exact (crucibleref1_Join.calls k A c xs s J W hC hc e).mono fun e w' ⟨he, hd⟩ => ⟨he, hd.below⟩
theorem same_call {W : World} {base base' k : Nat} {v u : Value} {xs ys : List ByteArray} {ok ok' : Nat → Prop} {r : Bool} (hR : Kd.R Kd.string 9 W base ok v xs) (hS : Kd.R Kd.string 9 W base' ok' u ys) (e : cruciblelaw0_SameTexts.f k xs ys = some r) :
    Calls Tryd.prog 17 #[v, u] W fun e w' => e = .returned (.bool r) ∧ Below W.heap.size W w' := by
  obtain ⟨A, c, rfl, hc, hC⟩ := Kd.R_reads hR
  obtain ⟨A2, c2, rfl, hc2, hC2⟩ := Kd.R_reads hS
  exact (cruciblelaw0_SameTexts.calls k A c xs A2 c2 ys r W hC hc hC2 hc2 e).mono fun e w' ⟨he, hd⟩ => ⟨he, hd.below⟩
set_option maxHeartbeats 4000000 in
set_option maxRecDepth 100000 in
theorem wordAgain_no (a0 : ByteArray) (w : World) (e0 : words_Build.f a0 = some words_no) :
    Calls Tryd.prog 6 #[.string a0] w fun e w' => e = .returned (.bool true) ∧ Below w.heap.size w w' := by
  have E := Aside0.mk e0
  clear e0
  go_enter Tryd.func6, Tryd.ntmps6
  go_wp2_with fail
  refine (cruciblelaw7_awake.calls true w rfl).mono ?_
  rintro e w1 ⟨rfl, B1⟩
  go_wp2_with fail
  refine (words_Build.calls _ _ _ _ _ _ _ _ E.out).mono ?_
  rintro e w2 ⟨v0, v2, v3, v4, rfl, Ra, Rb, Rc, Rd, B2⟩
  obtain ⟨A0, c0, rfl⟩ := Kd.R_slice Ra
  obtain ⟨A2, c2, rfl⟩ := Kd.R_slice Rb
  obtain ⟨A3, c3, rfl⟩ := Kd.R_slice Rc
  obtain ⟨A4, c4, rfl⟩ := Kd.R_slice Rd
  clear Ra Rb Rc Rd
  have K2 := B1.trans (B2.mono B1.size)
  go_wp2_with (go_at_call 18; refine (cruciblelaw0_Num.calls _ _ _ rfl).mono ?_; rintro e w3 ⟨rfl, hd3⟩)
  go_ret
  exact ⟨rfl, K2.trans (hd3.below.mono K2.size)⟩
set_option maxHeartbeats 4000000 in
set_option maxRecDepth 100000 in
theorem wordAgain00 (a0 : ByteArray) (w : World) (o i : List ByteArray) (x : ByteArray) (b : Spec.Built o x i [] []) (e0 : words_Build.f a0 = some (o, x, i, [], [], 0)) :
    Calls Tryd.prog 6 #[.string a0] w fun e w' => e = .returned (.bool true) ∧ Below w.heap.size w w' := by
  have sx := (Spec.is_name b.nx).2.2
  obtain ⟨kJ, J, eJ, wJ, sJ⟩ := Spec.join_told o b.no b.o8
  obtain ⟨kI, I, eI, wI, sI⟩ := Spec.join_told i b.ni b.i8
  have ET := Aside0.mk (Spec.again_00 b wJ wI sJ sI)
  obtain ⟨k1, f1⟩ := Spec.same_told o b.o8
  obtain ⟨k2, f2⟩ := Spec.same_told i b.i8
  obtain ⟨k3, f3⟩ := Spec.same_told [] b.c8
  obtain ⟨k4, f4⟩ := Spec.same_told [] b.d8
  have E := Aside0.mk e0
  have EJ := Aside0.mk eJ
  have EI := Aside0.mk eI
  have FO := Aside0.mk f1
  have FI := Aside0.mk f2
  have FC := Aside0.mk f3
  have FD := Aside0.mk f4
  have ho1 : (0 : Int) < (o.length : Int) := by have := b.o1; omega
  have ho2 : 0 < o.length := by omega
  clear e0 eJ eI f1 f2 f3 f4 wJ wI b
  go_enter Tryd.func6, Tryd.ntmps6
  go_wp2_with fail
  refine (cruciblelaw7_awake.calls true w rfl).mono ?_
  rintro e w1 ⟨rfl, B1⟩
  go_wp2_with fail
  refine (words_Build.calls _ _ _ _ _ _ _ _ E.out).mono ?_
  rintro e w2 ⟨v0, v2, v3, v4, rfl, Ra, Rb, Rc, Rd, B2⟩
  obtain ⟨A0, c0, rfl⟩ := Kd.R_slice Ra
  obtain ⟨A3, c3, rfl⟩ := Kd.R_slice Rc
  obtain ⟨A4, c4, rfl⟩ := Kd.R_slice Rd
  have K2 := B1.trans (B2.mono B1.size)
  go_wp2_with fail
  refine (cruciblelaw0_Num.calls _ _ _ rfl).mono ?_
  rintro e w3 ⟨rfl, hd3⟩
  have K3 := hd3.below
  clear hd3
  go_wp2_with fail
  refine (join_call (Kd.R_below Ra K3) EJ.out).mono ?_
  rintro e w4 ⟨rfl, B4⟩
  have K4 := K3.trans (B4.mono K3.size)
  go_wp2_with fail
  refine (join_call (Kd.R_below Rb K4) EI.out).mono ?_
  rintro e w5 ⟨rfl, B5⟩
  have K5 := K4.trans (B5.mono K4.size)
  go_wp2_with fail
  refine (words_Build.calls _ _ _ _ _ _ _ _ ET.out).mono ?_
  rintro e w6 ⟨u0, u2, u3, u4, rfl, Sa, Sb, Sc, Sd, B6⟩
  have K6 := K5.trans (B6.mono K5.size)
  go_wp2_with fail
  refine (cruciblelaw0_Num.calls _ _ _ rfl).mono ?_
  rintro e w7 ⟨rfl, hd7⟩
  have L7 := hd7.below
  go_wp2_with fail
  refine (same_call (Kd.R_below Ra (K6.trans (L7.mono K6.size))) (Kd.R_below Sa L7) FO.out).mono ?_
  rintro e w8 ⟨rfl, B8⟩
  have L8 := L7.trans (B8.mono L7.size)
  go_wp2_with fail
  refine (same_call (Kd.R_below Rb (K6.trans (L8.mono K6.size))) (Kd.R_below Sb L8) FI.out).mono ?_
  rintro e w9 ⟨rfl, B9⟩
  have L9 := L8.trans (B9.mono L8.size)
  go_wp2_with fail
  refine (same_call (Kd.R_below Rc (K6.trans (L9.mono K6.size))) (Kd.R_below Sc L9) FC.out).mono ?_
  rintro e w10 ⟨rfl, B10⟩
  have L10 := L9.trans (B10.mono L9.size)
  go_wp2_with fail
  refine (same_call (Kd.R_below Rd (K6.trans (L10.mono K6.size))) (Kd.R_below Sd L10) FD.out).mono ?_
  rintro e w11 ⟨rfl, B11⟩
  have L11 := L10.trans (B11.mono L10.size)
  have M := (K6.trans (L11.mono K6.size))
  have Z := K2.trans (M.mono K2.size)
  go_wp2
  go_ret
  exact ⟨by simp [ho2], Z⟩
set_option maxHeartbeats 4000000 in
set_option maxRecDepth 100000 in
theorem wordAgain01 (a0 : ByteArray) (w : World) (o i d : List ByteArray) (x : ByteArray) (b : Spec.Built o x i [] d) (hd : d ≠ []) (e0 : words_Build.f a0 = some (o, x, i, [], d, 0)) :
    Calls Tryd.prog 6 #[.string a0] w fun e w' => e = .returned (.bool true) ∧ Below w.heap.size w w' := by
  have sx := (Spec.is_name b.nx).2.2
  obtain ⟨kJ, J, eJ, wJ, sJ⟩ := Spec.join_told o b.no b.o8
  obtain ⟨kI, I, eI, wI, sI⟩ := Spec.join_told i b.ni b.i8
  obtain ⟨kD, D, eD, wD, sD⟩ := Spec.join_told d b.nd b.d8
  have ET := Aside0.mk (Spec.again_01 b hd wJ wI wD sJ sI sD)
  obtain ⟨k1, f1⟩ := Spec.same_told o b.o8
  obtain ⟨k2, f2⟩ := Spec.same_told i b.i8
  obtain ⟨k3, f3⟩ := Spec.same_told [] b.c8
  obtain ⟨k4, f4⟩ := Spec.same_told d b.d8
  have E := Aside0.mk e0
  have EJ := Aside0.mk eJ
  have EI := Aside0.mk eI
  have FO := Aside0.mk f1
  have FI := Aside0.mk f2
  have FC := Aside0.mk f3
  have FD := Aside0.mk f4
  have ho1 : (0 : Int) < (o.length : Int) := by have := b.o1; omega
  have ho2 : 0 < o.length := by omega
  have ED := Aside0.mk eD
  have hd1 : (0 : Int) < (d.length : Int) := by have := List.length_pos_iff.2 hd; omega
  clear e0 eJ eI f1 f2 f3 f4 wJ wI b eD wD hd
  go_enter Tryd.func6, Tryd.ntmps6
  go_wp2_with fail
  refine (cruciblelaw7_awake.calls true w rfl).mono ?_
  rintro e w1 ⟨rfl, B1⟩
  go_wp2_with fail
  refine (words_Build.calls _ _ _ _ _ _ _ _ E.out).mono ?_
  rintro e w2 ⟨v0, v2, v3, v4, rfl, Ra, Rb, Rc, Rd, B2⟩
  obtain ⟨A0, c0, rfl⟩ := Kd.R_slice Ra
  obtain ⟨A3, c3, rfl⟩ := Kd.R_slice Rc
  obtain ⟨A4, c4, rfl⟩ := Kd.R_slice Rd
  have K2 := B1.trans (B2.mono B1.size)
  go_wp2_with fail
  refine (cruciblelaw0_Num.calls _ _ _ rfl).mono ?_
  rintro e w3 ⟨rfl, hd3⟩
  have K3 := hd3.below
  clear hd3
  go_wp2_with fail
  refine (join_call (Kd.R_below Ra K3) EJ.out).mono ?_
  rintro e w4 ⟨rfl, B4⟩
  have K4 := K3.trans (B4.mono K3.size)
  go_wp2_with fail
  refine (join_call (Kd.R_below Rb K4) EI.out).mono ?_
  rintro e w5 ⟨rfl, B5⟩
  have K5 := K4.trans (B5.mono K4.size)
  go_wp2_with fail
  refine (join_call (Kd.R_below Rd K5) ED.out).mono ?_
  rintro e w6 ⟨rfl, B6⟩
  have K6 := K5.trans (B6.mono K5.size)
  go_wp2_with fail
  refine (words_Build.calls _ _ _ _ _ _ _ _ ET.out).mono ?_
  rintro e w7 ⟨u0, u2, u3, u4, rfl, Sa, Sb, Sc, Sd, B7⟩
  have K7 := K6.trans (B7.mono K6.size)
  go_wp2_with fail
  refine (cruciblelaw0_Num.calls _ _ _ rfl).mono ?_
  rintro e w8 ⟨rfl, hd8⟩
  have L8 := hd8.below
  go_wp2_with fail
  refine (same_call (Kd.R_below Ra (K7.trans (L8.mono K7.size))) (Kd.R_below Sa L8) FO.out).mono ?_
  rintro e w9 ⟨rfl, B9⟩
  have L9 := L8.trans (B9.mono L8.size)
  go_wp2_with fail
  refine (same_call (Kd.R_below Rb (K7.trans (L9.mono K7.size))) (Kd.R_below Sb L9) FI.out).mono ?_
  rintro e w10 ⟨rfl, B10⟩
  have L10 := L9.trans (B10.mono L9.size)
  go_wp2_with fail
  refine (same_call (Kd.R_below Rc (K7.trans (L10.mono K7.size))) (Kd.R_below Sc L10) FC.out).mono ?_
  rintro e w11 ⟨rfl, B11⟩
  have L11 := L10.trans (B11.mono L10.size)
  go_wp2_with fail
  refine (same_call (Kd.R_below Rd (K7.trans (L11.mono K7.size))) (Kd.R_below Sd L11) FD.out).mono ?_
  rintro e w12 ⟨rfl, B12⟩
  have L12 := L11.trans (B12.mono L11.size)
  have M := (K7.trans (L12.mono K7.size))
  have Z := K2.trans (M.mono K2.size)
  go_wp2
  go_ret
  exact ⟨by simp [ho2], Z⟩
set_option maxHeartbeats 4000000 in
set_option maxRecDepth 100000 in
theorem wordAgain10 (a0 : ByteArray) (w : World) (o i c : List ByteArray) (x : ByteArray) (b : Spec.Built o x i c []) (hc : c ≠ []) (e0 : words_Build.f a0 = some (o, x, i, c, [], 0)) :
    Calls Tryd.prog 6 #[.string a0] w fun e w' => e = .returned (.bool true) ∧ Below w.heap.size w w' := by
  have sx := (Spec.is_name b.nx).2.2
  obtain ⟨kJ, J, eJ, wJ, sJ⟩ := Spec.join_told o b.no b.o8
  obtain ⟨kI, I, eI, wI, sI⟩ := Spec.join_told i b.ni b.i8
  obtain ⟨kC, C, eC, wC, sC⟩ := Spec.join_told c b.nc b.c8
  have ET := Aside0.mk (Spec.again_10 b hc wJ wI wC sJ sI sC)
  obtain ⟨k1, f1⟩ := Spec.same_told o b.o8
  obtain ⟨k2, f2⟩ := Spec.same_told i b.i8
  obtain ⟨k3, f3⟩ := Spec.same_told c b.c8
  obtain ⟨k4, f4⟩ := Spec.same_told [] b.d8
  have E := Aside0.mk e0
  have EJ := Aside0.mk eJ
  have EI := Aside0.mk eI
  have FO := Aside0.mk f1
  have FI := Aside0.mk f2
  have FC := Aside0.mk f3
  have FD := Aside0.mk f4
  have ho1 : (0 : Int) < (o.length : Int) := by have := b.o1; omega
  have ho2 : 0 < o.length := by omega
  have EC := Aside0.mk eC
  have hc1 : (0 : Int) < (c.length : Int) := by have := List.length_pos_iff.2 hc; omega
  clear e0 eJ eI f1 f2 f3 f4 wJ wI b eC wC hc
  go_enter Tryd.func6, Tryd.ntmps6
  go_wp2_with fail
  refine (cruciblelaw7_awake.calls true w rfl).mono ?_
  rintro e w1 ⟨rfl, B1⟩
  go_wp2_with fail
  refine (words_Build.calls _ _ _ _ _ _ _ _ E.out).mono ?_
  rintro e w2 ⟨v0, v2, v3, v4, rfl, Ra, Rb, Rc, Rd, B2⟩
  obtain ⟨A0, c0, rfl⟩ := Kd.R_slice Ra
  obtain ⟨A3, c3, rfl⟩ := Kd.R_slice Rc
  obtain ⟨A4, c4, rfl⟩ := Kd.R_slice Rd
  have K2 := B1.trans (B2.mono B1.size)
  go_wp2_with fail
  refine (cruciblelaw0_Num.calls _ _ _ rfl).mono ?_
  rintro e w3 ⟨rfl, hd3⟩
  have K3 := hd3.below
  clear hd3
  go_wp2_with fail
  refine (join_call (Kd.R_below Ra K3) EJ.out).mono ?_
  rintro e w4 ⟨rfl, B4⟩
  have K4 := K3.trans (B4.mono K3.size)
  go_wp2_with fail
  refine (join_call (Kd.R_below Rb K4) EI.out).mono ?_
  rintro e w5 ⟨rfl, B5⟩
  have K5 := K4.trans (B5.mono K4.size)
  go_wp2_with fail
  refine (join_call (Kd.R_below Rc K5) EC.out).mono ?_
  rintro e w6 ⟨rfl, B6⟩
  have K6 := K5.trans (B6.mono K5.size)
  go_wp2_with fail
  refine (words_Build.calls _ _ _ _ _ _ _ _ ET.out).mono ?_
  rintro e w7 ⟨u0, u2, u3, u4, rfl, Sa, Sb, Sc, Sd, B7⟩
  have K7 := K6.trans (B7.mono K6.size)
  go_wp2_with fail
  refine (cruciblelaw0_Num.calls _ _ _ rfl).mono ?_
  rintro e w8 ⟨rfl, hd8⟩
  have L8 := hd8.below
  go_wp2_with fail
  refine (same_call (Kd.R_below Ra (K7.trans (L8.mono K7.size))) (Kd.R_below Sa L8) FO.out).mono ?_
  rintro e w9 ⟨rfl, B9⟩
  have L9 := L8.trans (B9.mono L8.size)
  go_wp2_with fail
  refine (same_call (Kd.R_below Rb (K7.trans (L9.mono K7.size))) (Kd.R_below Sb L9) FI.out).mono ?_
  rintro e w10 ⟨rfl, B10⟩
  have L10 := L9.trans (B10.mono L9.size)
  go_wp2_with fail
  refine (same_call (Kd.R_below Rc (K7.trans (L10.mono K7.size))) (Kd.R_below Sc L10) FC.out).mono ?_
  rintro e w11 ⟨rfl, B11⟩
  have L11 := L10.trans (B11.mono L10.size)
  go_wp2_with fail
  refine (same_call (Kd.R_below Rd (K7.trans (L11.mono K7.size))) (Kd.R_below Sd L11) FD.out).mono ?_
  rintro e w12 ⟨rfl, B12⟩
  have L12 := L11.trans (B12.mono L11.size)
  have M := (K7.trans (L12.mono K7.size))
  have Z := K2.trans (M.mono K2.size)
  go_wp2
  go_ret
  exact ⟨by simp [ho2], Z⟩
set_option maxHeartbeats 4000000 in
set_option maxRecDepth 100000 in
theorem wordAgain11 (a0 : ByteArray) (w : World) (o i c d : List ByteArray) (x : ByteArray) (b : Spec.Built o x i c d) (hc : c ≠ []) (hd : d ≠ []) (e0 : words_Build.f a0 = some (o, x, i, c, d, 0)) :
    Calls Tryd.prog 6 #[.string a0] w fun e w' => e = .returned (.bool true) ∧ Below w.heap.size w w' := by
  have sx := (Spec.is_name b.nx).2.2
  obtain ⟨kJ, J, eJ, wJ, sJ⟩ := Spec.join_told o b.no b.o8
  obtain ⟨kI, I, eI, wI, sI⟩ := Spec.join_told i b.ni b.i8
  obtain ⟨kC, C, eC, wC, sC⟩ := Spec.join_told c b.nc b.c8
  obtain ⟨kD, D, eD, wD, sD⟩ := Spec.join_told d b.nd b.d8
  have ET := Aside0.mk (Spec.again_11 b hc hd wJ wI wC wD sJ sI sC sD)
  obtain ⟨k1, f1⟩ := Spec.same_told o b.o8
  obtain ⟨k2, f2⟩ := Spec.same_told i b.i8
  obtain ⟨k3, f3⟩ := Spec.same_told c b.c8
  obtain ⟨k4, f4⟩ := Spec.same_told d b.d8
  have E := Aside0.mk e0
  have EJ := Aside0.mk eJ
  have EI := Aside0.mk eI
  have FO := Aside0.mk f1
  have FI := Aside0.mk f2
  have FC := Aside0.mk f3
  have FD := Aside0.mk f4
  have ho1 : (0 : Int) < (o.length : Int) := by have := b.o1; omega
  have ho2 : 0 < o.length := by omega
  have EC := Aside0.mk eC
  have hc1 : (0 : Int) < (c.length : Int) := by have := List.length_pos_iff.2 hc; omega
  have ED := Aside0.mk eD
  have hd1 : (0 : Int) < (d.length : Int) := by have := List.length_pos_iff.2 hd; omega
  clear e0 eJ eI f1 f2 f3 f4 wJ wI b eC wC hc eD wD hd
  go_enter Tryd.func6, Tryd.ntmps6
  go_wp2_with fail
  refine (cruciblelaw7_awake.calls true w rfl).mono ?_
  rintro e w1 ⟨rfl, B1⟩
  go_wp2_with fail
  refine (words_Build.calls _ _ _ _ _ _ _ _ E.out).mono ?_
  rintro e w2 ⟨v0, v2, v3, v4, rfl, Ra, Rb, Rc, Rd, B2⟩
  obtain ⟨A0, c0, rfl⟩ := Kd.R_slice Ra
  obtain ⟨A3, c3, rfl⟩ := Kd.R_slice Rc
  obtain ⟨A4, c4, rfl⟩ := Kd.R_slice Rd
  have K2 := B1.trans (B2.mono B1.size)
  go_wp2_with fail
  refine (cruciblelaw0_Num.calls _ _ _ rfl).mono ?_
  rintro e w3 ⟨rfl, hd3⟩
  have K3 := hd3.below
  clear hd3
  go_wp2_with fail
  refine (join_call (Kd.R_below Ra K3) EJ.out).mono ?_
  rintro e w4 ⟨rfl, B4⟩
  have K4 := K3.trans (B4.mono K3.size)
  go_wp2_with fail
  refine (join_call (Kd.R_below Rb K4) EI.out).mono ?_
  rintro e w5 ⟨rfl, B5⟩
  have K5 := K4.trans (B5.mono K4.size)
  go_wp2_with fail
  refine (join_call (Kd.R_below Rc K5) EC.out).mono ?_
  rintro e w6 ⟨rfl, B6⟩
  have K6 := K5.trans (B6.mono K5.size)
  go_wp2_with fail
  refine (join_call (Kd.R_below Rd K6) ED.out).mono ?_
  rintro e w7 ⟨rfl, B7⟩
  have K7 := K6.trans (B7.mono K6.size)
  go_wp2_with fail
  refine (words_Build.calls _ _ _ _ _ _ _ _ ET.out).mono ?_
  rintro e w8 ⟨u0, u2, u3, u4, rfl, Sa, Sb, Sc, Sd, B8⟩
  have K8 := K7.trans (B8.mono K7.size)
  go_wp2_with fail
  refine (cruciblelaw0_Num.calls _ _ _ rfl).mono ?_
  rintro e w9 ⟨rfl, hd9⟩
  have L9 := hd9.below
  go_wp2_with fail
  refine (same_call (Kd.R_below Ra (K8.trans (L9.mono K8.size))) (Kd.R_below Sa L9) FO.out).mono ?_
  rintro e w10 ⟨rfl, B10⟩
  have L10 := L9.trans (B10.mono L9.size)
  go_wp2_with fail
  refine (same_call (Kd.R_below Rb (K8.trans (L10.mono K8.size))) (Kd.R_below Sb L10) FI.out).mono ?_
  rintro e w11 ⟨rfl, B11⟩
  have L11 := L10.trans (B11.mono L10.size)
  go_wp2_with fail
  refine (same_call (Kd.R_below Rc (K8.trans (L11.mono K8.size))) (Kd.R_below Sc L11) FC.out).mono ?_
  rintro e w12 ⟨rfl, B12⟩
  have L12 := L11.trans (B12.mono L11.size)
  go_wp2_with fail
  refine (same_call (Kd.R_below Rd (K8.trans (L12.mono K8.size))) (Kd.R_below Sd L12) FD.out).mono ?_
  rintro e w13 ⟨rfl, B13⟩
  have L13 := L12.trans (B13.mono L12.size)
  have M := (K8.trans (L13.mono K8.size))
  have Z := K2.trans (M.mono K2.size)
  go_wp2
  go_ret
  exact ⟨by simp [ho2], Z⟩
theorem cruciblelaw7_WordAgain.calls (a0 : ByteArray) (r : Bool) (w : World) (h : cruciblelaw7_WordAgain.f a0 = some r) :
    Calls Tryd.prog 6 #[.string a0] w fun e w' => e = .returned (.bool r) ∧ Below w.heap.size w w' := by
  unfold cruciblelaw7_WordAgain.f at h
  split at h
  case isFalse => cases h
  rename_i hs
  obtain rfl : true = r := Option.some.inj h
  have e := Spec.build_is a0 hs
  rcases Spec.build_cases (words_of a0) with e1 | ⟨o, x, i, c, d, e1, b⟩
  · exact wordAgain_no a0 w (e.trans (by rw [e1]))
  · rw [e1] at e
    by_cases hc : c = []
    · subst hc
      by_cases hd : d = []
      · subst hd; exact wordAgain00 a0 w o i x b e
      · exact wordAgain01 a0 w o i d x b hd e
    · by_cases hd : d = []
      · subst hd; exact wordAgain10 a0 w o i c x b hc e
      · exact wordAgain11 a0 w o i c d x b hc hd e

end Go.Proofs.YtncbloieejeifaaDoor.P
