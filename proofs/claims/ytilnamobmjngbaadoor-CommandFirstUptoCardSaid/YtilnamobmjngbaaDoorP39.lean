-- Made by a program of this work's own (wip/myprint.py) over the kit's print; leaves by hand.
import Derived.Test.YtilnamobmjngbaaDoorP0
import Derived.Test.YtilnamobmjngbaaDoorMg1
import Derived.Test.YtilnamobmjngbaaDoorP7
import Derived.Test.YtilnamobmjngbaaDoorP13
import Derived.Test.YtilnamobmjngbaaDoorP27
import Derived.Test.YtilnamobmjngbaaDoorP32
namespace Go.Proofs.YtilnamobmjngbaaDoor.P
open Go.Proofs.YtilnamobmjngbaaDoor.Plus
open Go.RowKit Go.Proofs.YtilnamobmjngbaaDoorW.PrintWords Go.Proofs.YtilnamobmjngbaaDoorW.PrintLast Go.Proofs.YtilnamobmjngbaaDoorW.PrintMore
attribute [local go_sem] max2_int min2_int max_two min_two max_three min_three max_four min_four   -- for this text's walks alone
set_option linter.unusedVariables false
set_option linter.unusedSimpArgs false

/-! ### cruciblelaw18_CommandFirst: function 8 -/
def cruciblelaw18_CommandFirst.l0 : Nat → List (S33) → ByteArray → Int → ByteArray → List ByteArray → Bool → Option (Bool)
 | 0, _, _, _, _, _, _ => none
 | k + 1, x0, x1, x6, x604000, x604001, x604002 => if x6 < (x0.length : Int) then (if 0 ≤ x6 then (if ((rd_T33 x0 x6).f0).toList = x1.toList then (if (x604002 == ((rd_T33 x0 x6).f2)) = true then ((cruciblelaw0_SameTexts.f k x604001 ((rd_T33 x0 x6).f1)).bind fun t608 => (some t608)) else (none)) else (cruciblelaw18_CommandFirst.l0 k x0 x1 (wrap64 (x6 + 1)) x604000 x604001 x604002)) else (none)) else (if (x604001.length : Int) = 0 then (some (!x604002)) else (none))
def cruciblelaw18_CommandFirst.f (k : Nat) (l0 : List (S33)) (a1 : ByteArray) : Option (Bool) := (cruciblelaw18_awake.f).bind fun t597 => (if t597 = true then ((command_Action.f k l0 a1).bind fun bt598 => (if bt598.1.toList = a1.toList then ((crucibleref12_ActionsMay.f k l0).bind fun t604 => (if t604 = true then (cruciblelaw18_CommandFirst.l0 k l0 a1 0 bt598.1 bt598.2.1 bt598.2.2) else (if (bt598.2.1.length : Int) = 0 then (some (!bt598.2.2)) else (none)))) else (none))) else (none))
set_option maxRecDepth 100000 in
theorem cruciblelaw18_CommandFirst.mono_l : ∀ k, (∀ y0 y1 y2 y3 y4 y5, LeO (cruciblelaw18_CommandFirst.l0 k y0 y1 y2 y3 y4 y5) (cruciblelaw18_CommandFirst.l0 (k + 1) y0 y1 y2 y3 y4 y5))
 | 0 => fun _ _ _ _ _ _ r h => by simp [cruciblelaw18_CommandFirst.l0] at h
 | k + 1 => by
  have ih0 := cruciblelaw18_CommandFirst.mono_l k
  ·
   intro y0 y1 y2 y3 y4 y5
   unfold cruciblelaw18_CommandFirst.l0
   repeat' first
   | (with_reducible exact ih0 _ _ _ _ _ _)
   | (with_reducible exact command_Action.mono _ _ _)
   | (with_reducible exact cruciblelaw0_SameTexts.mono _ _ _)
   | (with_reducible exact crucibleref12_ActionsMay.mono _ _)
   | (with_reducible exact LeO.refl _)
   | (with_reducible exact LeO.none _)
   | (with_reducible refine LeO.ite ?_ ?_)
   | (with_reducible refine LeO.bind ?_ (fun _ => ?_))
   | exact ih0 _ _ _ _ _ _
   | exact command_Action.mono _ _ _
   | exact cruciblelaw0_SameTexts.mono _ _ _
   | exact crucibleref12_ActionsMay.mono _ _
   | exact LeO.none _
   | refine LeO.ite ?_ ?_
   | refine LeO.bind ?_ (fun _ => ?_)
theorem cruciblelaw18_CommandFirst.mono : ∀ a0 a1 k, LeO (cruciblelaw18_CommandFirst.f k a0 a1) (cruciblelaw18_CommandFirst.f (k + 1) a0 a1) := by
 intro a0 a1 k
 have ih0 := cruciblelaw18_CommandFirst.mono_l k
 unfold cruciblelaw18_CommandFirst.f
 repeat' first
   | (with_reducible exact ih0 _ _ _ _ _ _)
   | (with_reducible exact command_Action.mono _ _ _)
   | (with_reducible exact cruciblelaw0_SameTexts.mono _ _ _)
   | (with_reducible exact crucibleref12_ActionsMay.mono _ _)
   | (with_reducible exact LeO.refl _)
   | (with_reducible exact LeO.none _)
   | (with_reducible refine LeO.ite ?_ ?_)
   | (with_reducible refine LeO.bind ?_ (fun _ => ?_))
   | exact ih0 _ _ _ _ _ _
   | exact command_Action.mono _ _ _
   | exact cruciblelaw0_SameTexts.mono _ _ _
   | exact crucibleref12_ActionsMay.mono _ _
   | exact LeO.none _
   | refine LeO.ite ?_ ?_
   | refine LeO.bind ?_ (fun _ => ?_)
set_option maxHeartbeats 8000000 in
set_option maxRecDepth 100000 in
theorem cruciblelaw18_CommandFirst.calls (k : Nat) (A0 : Option Addr) (c0 : Nat) (l0 : List (S33)) (a1 : ByteArray) (r : Bool) (w : World) (hr0 : Kd.C k33 w A0 l0.length l0) (hc0 : l0.length ≤ c0) (h : cruciblelaw18_CommandFirst.f k l0 a1 = some r) :
  Calls Tryd.prog 8 #[.slice A0 l0.length c0, .string a1] w fun e w' => e = .returned (.bool r) ∧ Below w.heap.size w w' := by
 have hu33 := Tryd.underlying33
 have HR0 := Aside0.mk hr0
 have HC0 := Aside0.mk hc0
 clear hr0 hc0
 have HB := Aside0.mk (Below.refl w.heap.size w)
 have H : ((cruciblelaw18_awake.f).bind fun t597 => (if t597 = true then ((command_Action.f k l0 a1).bind fun bt598 => (if bt598.1.toList = a1.toList then ((crucibleref12_ActionsMay.f k l0).bind fun t604 => (if t604 = true then (cruciblelaw18_CommandFirst.l0 k l0 a1 0 bt598.1 bt598.2.1 bt598.2.2) else (if (bt598.2.1.length : Int) = 0 then (some (!bt598.2.2)) else (none)))) else (none))) else (none))) = some r := h
 clear h
 replace H := Option.bind_eq_some_iff.mp H
 obtain ⟨t597, A30, H⟩ := H
 replace H : (if t597 = true then ((command_Action.f k l0 a1).bind fun bt598 => (if bt598.1.toList = a1.toList then ((crucibleref12_ActionsMay.f k l0).bind fun t604 => (if t604 = true then (cruciblelaw18_CommandFirst.l0 k l0 a1 0 bt598.1 bt598.2.1 bt598.2.2) else (if (bt598.2.1.length : Int) = 0 then (some (!bt598.2.2)) else (none)))) else (none))) else (none)) = some r := H
 have A3 := Aside0.mk A30
 clear A30
 by_cases c4 : t597 = true
 ·
  subst c4
  have H1 : ((command_Action.f k l0 a1).bind fun bt598 => (if bt598.1.toList = a1.toList then ((crucibleref12_ActionsMay.f k l0).bind fun t604 => (if t604 = true then (cruciblelaw18_CommandFirst.l0 k l0 a1 0 bt598.1 bt598.2.1 bt598.2.2) else (if (bt598.2.1.length : Int) = 0 then (some (!bt598.2.2)) else (none)))) else (none))) = some r := by rw [if_pos rfl] at H; exact H
  clear H
  have H := H1
  clear H1
  replace H := Option.bind_eq_some_iff.mp H
  obtain ⟨⟨t598, t599, t602⟩, A50, H⟩ := H
  replace H : (if t598.toList = a1.toList then ((crucibleref12_ActionsMay.f k l0).bind fun t604 => (if t604 = true then (cruciblelaw18_CommandFirst.l0 k l0 a1 0 t598 t599 t602) else (if (t599.length : Int) = 0 then (some (!t602)) else (none)))) else (none)) = some r := H
  have A5 := Aside0.mk A50
  clear A50
  by_cases c6 : t598.toList = a1.toList
  ·
   rw [if_pos c6] at H
   have c6b0 : (t598.toList == a1.toList) = true := beq_iff_eq.mpr c6
   have c6b1 : (t598.toList != a1.toList) = false := bne_eq_false_iff_eq.mpr c6
   clear c6
   replace H := Option.bind_eq_some_iff.mp H
   obtain ⟨t604, A70, H⟩ := H
   replace H : (if t604 = true then (cruciblelaw18_CommandFirst.l0 k l0 a1 0 t598 t599 t602) else (if (t599.length : Int) = 0 then (some (!t602)) else (none))) = some r := H
   have A7 := Aside0.mk A70
   clear A70
   by_cases c8 : t604 = true
   ·
    subst c8
    have H1 : (cruciblelaw18_CommandFirst.l0 k l0 a1 0 t598 t599 t602) = some r := by rw [if_pos rfl] at H; exact H
    clear H
    have H := H1
    clear H1
    have H' := Aside0.mk H
    clear H
    go_enter Tryd.func8, Tryd.ntmps8
    go_wp2_with (first | (go_at_call 32; (with_reducible refine (cruciblelaw18_awake.calls  true _ A3.out).mono ?_); rintro e w9 ⟨rfl, hb⟩; have n0_ := Aside0.mk (below_step (by repeat (first | (with_reducible first | exact HB.out | apply below_alloc | apply pw_below_drewN | apply below_drew1) | exact HB.out)) hb); clear HB; have HB := n0_; clear n0_; (try clear hb); (try clear hb2); (try clear hk); (try clear hi)) | (go_at_call 18; (with_reducible refine (command_Action.calls k _ _ l0 a1 t598 t599 t602 _ ?side1 ?side2 A5.out).mono ?_); (case side1 => repeat (first | exact (Kd.C_below HR0.out HB.out) | (with_reducible refine Kd.C_alloc ?_ _) | (with_reducible refine Kd.C_drewN ?_ _) | (with_reducible refine Kd.C_drew ?_))); (case side2 => exact HC0.out); rintro e w10 ⟨v600, rfl, ho0, hb⟩; have n0_ := Aside0.mk (Kd.R_lower ho0 (below_size (by repeat (first | (with_reducible first | exact HB.out | apply below_alloc | apply pw_below_drewN | apply below_drew1) | exact HB.out)))); have n1_ := Aside0.mk (below_step (by repeat (first | (with_reducible first | exact HB.out | apply below_alloc | apply pw_below_drewN | apply below_drew1) | exact HB.out)) hb); clear HB; have HO601 := n0_; have HB := n1_; clear n0_ n1_; (try clear hb); (try clear hb2); (try clear hk); (try clear hi); (try clear ho0)) | ((with_reducible refine gate_dst (N := 5) rfl ?_); refine box_event ?hg (N := 5) ?hd (cs := #[.string (⟨#[]⟩ : ByteArray), .slice none 0 0, .bool false]) (t := 33) ?hr ?_; (case hd => rfl); (case hg => rfl); (case hr => first | (go_simp; done) | (go_simp; rfl)); intro gb603 hg w11 hbox hb; have n0_ := Aside0.mk (Kd.R_below (by (with_reducible repeat (first | apply Kd.R_alloc | apply Kd.R_drewN | apply Kd.R_drew)); exact HO601.out) hb); have n1_ := Aside0.mk (below_step (by repeat (first | (with_reducible first | exact HB.out | apply below_alloc | apply pw_below_drewN | apply below_drew1) | exact HB.out)) hb); have n2_ := Aside0.mk (hbox); have n3_ := Aside0.mk ((by rw [hg]; exact (below_size (by repeat (first | (with_reducible first | exact HB.out | apply below_alloc | apply pw_below_drewN | apply below_drew1) | exact HB.out))) : w.heap.size ≤ gb603)); have n4_ := Aside0.mk ((by rw [hg]; exact (below_size (by repeat (first | (with_reducible first | exact HB.out | apply below_alloc | apply pw_below_drewN | apply below_drew1) | exact HB.out))) : w.heap.size ≤ gb603)); clear HO601; clear HB; have HO601 := n0_; have HB := n1_; have BK603 := n2_; have GW603 := n3_; have GE603 := n4_; clear n0_ n1_ n2_ n3_ n4_; clear hb hbox hg; have hcz12_0 : w11.cell? ⟨gb603, 0, none⟩ = some (.string (⟨#[]⟩ : ByteArray)) := (blk_cell BK603.out 0).trans rfl; have hcz12_1 : w11.cell? ⟨gb603, 1, none⟩ = some (.slice none 0 0) := (blk_cell BK603.out 1).trans rfl; have hcz12_2 : w11.cell? ⟨gb603, 2, none⟩ = some (.bool false) := (blk_cell BK603.out 2).trans rfl; have hfz12_0 := blk_frozen BK603.out 0; have hfz12_1 := blk_frozen BK603.out 1; have hfz12_2 := blk_frozen BK603.out 2; obtain ⟨Ao13, co13, eo13⟩ := Kd.R_slice HO601.out; subst eo13) | (go_at_call 34; (with_reducible refine (crucibleref12_ActionsMay.calls k _ _ l0 true _ ?side1 ?side2 A7.out).mono ?_); (case side1 => exact Kd.C_below HR0.out (by repeat (first | (with_reducible first | exact HB.out | apply below_alloc | apply pw_below_drewN | apply below_drew1 | refine below_set ?_ GE603.out) | exact HB.out))); (case side2 => exact HC0.out); rintro e w14 ⟨rfl, hb⟩; have n0_ := Aside0.mk (Kd.R_below (by (with_reducible repeat (first | apply Kd.R_alloc | apply Kd.R_drewN | apply Kd.R_drew)); exact (Kd.R_mono (Kd.R_far (p := ⟨gb603, 2, none⟩) (Kd.R_far (p := ⟨gb603, 1, none⟩) (Kd.R_far (p := ⟨gb603, 0, none⟩) (Kd.R_types HO601.out BK603.out (by decide)) (fun _ hk => hk.2) (.string t598)) (fun _ hk => hk.2) (.slice Ao13 t599.length co13)) (fun _ hk => hk.2) (.bool t602)) (fun _ h_ => h_.1))) hb); have n1_ := Aside0.mk (blk_below (g := gb603) (o := .cells #[.string t598, .slice Ao13 t599.length co13, .bool t602] 33 (0, 0)) (by (with_reducible repeat (first | refine blk_drewN ?_ _ | refine blk_drew ?_ | refine blk_alloc ?_ _)); refine blk_put (cs := #[.string t598, .slice Ao13 t599.length co13, .bool false]) ?_ 2 _ rfl; (with_reducible repeat (first | refine blk_drewN ?_ _ | refine blk_drew ?_ | refine blk_alloc ?_ _)); refine blk_put (cs := #[.string t598, .slice none 0 0, .bool false]) ?_ 1 _ rfl; (with_reducible repeat (first | refine blk_drewN ?_ _ | refine blk_drew ?_ | refine blk_alloc ?_ _)); refine blk_put (cs := #[.string (⟨#[]⟩ : ByteArray), .slice none 0 0, .bool false]) ?_ 0 _ rfl; (with_reducible repeat (first | refine blk_drewN ?_ _ | refine blk_drew ?_ | refine blk_alloc ?_ _)); exact BK603.out) hb); have n2_ := Aside0.mk (below_step (by repeat (first | (with_reducible first | exact HB.out | apply below_alloc | apply pw_below_drewN | apply below_drew1 | refine below_set ?_ GE603.out) | exact HB.out)) hb); clear HO601; clear BK603; clear HB; have HO601 := n0_; have BK603 := n1_; have HB := n2_; clear n0_ n1_ n2_; (try clear hb); (try clear hb2); (try clear hk); (try clear hi)))
    repeat (go_quiet (first | (go_at_call 32; (with_reducible refine (cruciblelaw18_awake.calls  true _ A3.out).mono ?_); rintro e w9 ⟨rfl, hb⟩; have n0_ := Aside0.mk (below_step (by repeat (first | (with_reducible first | exact HB.out | apply below_alloc | apply pw_below_drewN | apply below_drew1) | exact HB.out)) hb); clear HB; have HB := n0_; clear n0_; (try clear hb); (try clear hb2); (try clear hk); (try clear hi)) | (go_at_call 18; (with_reducible refine (command_Action.calls k _ _ l0 a1 t598 t599 t602 _ ?side1 ?side2 A5.out).mono ?_); (case side1 => repeat (first | exact (Kd.C_below HR0.out HB.out) | (with_reducible refine Kd.C_alloc ?_ _) | (with_reducible refine Kd.C_drewN ?_ _) | (with_reducible refine Kd.C_drew ?_))); (case side2 => exact HC0.out); rintro e w10 ⟨v600, rfl, ho0, hb⟩; have n0_ := Aside0.mk (Kd.R_lower ho0 (below_size (by repeat (first | (with_reducible first | exact HB.out | apply below_alloc | apply pw_below_drewN | apply below_drew1) | exact HB.out)))); have n1_ := Aside0.mk (below_step (by repeat (first | (with_reducible first | exact HB.out | apply below_alloc | apply pw_below_drewN | apply below_drew1) | exact HB.out)) hb); clear HB; have HO601 := n0_; have HB := n1_; clear n0_ n1_; (try clear hb); (try clear hb2); (try clear hk); (try clear hi); (try clear ho0)) | ((with_reducible refine gate_dst (N := 5) rfl ?_); refine box_event ?hg (N := 5) ?hd (cs := #[.string (⟨#[]⟩ : ByteArray), .slice none 0 0, .bool false]) (t := 33) ?hr ?_; (case hd => rfl); (case hg => rfl); (case hr => first | (go_simp; done) | (go_simp; rfl)); intro gb603 hg w11 hbox hb; have n0_ := Aside0.mk (Kd.R_below (by (with_reducible repeat (first | apply Kd.R_alloc | apply Kd.R_drewN | apply Kd.R_drew)); exact HO601.out) hb); have n1_ := Aside0.mk (below_step (by repeat (first | (with_reducible first | exact HB.out | apply below_alloc | apply pw_below_drewN | apply below_drew1) | exact HB.out)) hb); have n2_ := Aside0.mk (hbox); have n3_ := Aside0.mk ((by rw [hg]; exact (below_size (by repeat (first | (with_reducible first | exact HB.out | apply below_alloc | apply pw_below_drewN | apply below_drew1) | exact HB.out))) : w.heap.size ≤ gb603)); have n4_ := Aside0.mk ((by rw [hg]; exact (below_size (by repeat (first | (with_reducible first | exact HB.out | apply below_alloc | apply pw_below_drewN | apply below_drew1) | exact HB.out))) : w.heap.size ≤ gb603)); clear HO601; clear HB; have HO601 := n0_; have HB := n1_; have BK603 := n2_; have GW603 := n3_; have GE603 := n4_; clear n0_ n1_ n2_ n3_ n4_; clear hb hbox hg; have hcz12_0 : w11.cell? ⟨gb603, 0, none⟩ = some (.string (⟨#[]⟩ : ByteArray)) := (blk_cell BK603.out 0).trans rfl; have hcz12_1 : w11.cell? ⟨gb603, 1, none⟩ = some (.slice none 0 0) := (blk_cell BK603.out 1).trans rfl; have hcz12_2 : w11.cell? ⟨gb603, 2, none⟩ = some (.bool false) := (blk_cell BK603.out 2).trans rfl; have hfz12_0 := blk_frozen BK603.out 0; have hfz12_1 := blk_frozen BK603.out 1; have hfz12_2 := blk_frozen BK603.out 2; obtain ⟨Ao13, co13, eo13⟩ := Kd.R_slice HO601.out; subst eo13) | (go_at_call 34; (with_reducible refine (crucibleref12_ActionsMay.calls k _ _ l0 true _ ?side1 ?side2 A7.out).mono ?_); (case side1 => exact Kd.C_below HR0.out (by repeat (first | (with_reducible first | exact HB.out | apply below_alloc | apply pw_below_drewN | apply below_drew1 | refine below_set ?_ GE603.out) | exact HB.out))); (case side2 => exact HC0.out); rintro e w14 ⟨rfl, hb⟩; have n0_ := Aside0.mk (Kd.R_below (by (with_reducible repeat (first | apply Kd.R_alloc | apply Kd.R_drewN | apply Kd.R_drew)); exact (Kd.R_mono (Kd.R_far (p := ⟨gb603, 2, none⟩) (Kd.R_far (p := ⟨gb603, 1, none⟩) (Kd.R_far (p := ⟨gb603, 0, none⟩) (Kd.R_types HO601.out BK603.out (by decide)) (fun _ hk => hk.2) (.string t598)) (fun _ hk => hk.2) (.slice Ao13 t599.length co13)) (fun _ hk => hk.2) (.bool t602)) (fun _ h_ => h_.1))) hb); have n1_ := Aside0.mk (blk_below (g := gb603) (o := .cells #[.string t598, .slice Ao13 t599.length co13, .bool t602] 33 (0, 0)) (by (with_reducible repeat (first | refine blk_drewN ?_ _ | refine blk_drew ?_ | refine blk_alloc ?_ _)); refine blk_put (cs := #[.string t598, .slice Ao13 t599.length co13, .bool false]) ?_ 2 _ rfl; (with_reducible repeat (first | refine blk_drewN ?_ _ | refine blk_drew ?_ | refine blk_alloc ?_ _)); refine blk_put (cs := #[.string t598, .slice none 0 0, .bool false]) ?_ 1 _ rfl; (with_reducible repeat (first | refine blk_drewN ?_ _ | refine blk_drew ?_ | refine blk_alloc ?_ _)); refine blk_put (cs := #[.string (⟨#[]⟩ : ByteArray), .slice none 0 0, .bool false]) ?_ 0 _ rfl; (with_reducible repeat (first | refine blk_drewN ?_ _ | refine blk_drew ?_ | refine blk_alloc ?_ _)); exact BK603.out) hb); have n2_ := Aside0.mk (below_step (by repeat (first | (with_reducible first | exact HB.out | apply below_alloc | apply pw_below_drewN | apply below_drew1 | refine below_set ?_ GE603.out) | exact HB.out)) hb); clear HO601; clear BK603; clear HB; have HO601 := n0_; have BK603 := n1_; have HB := n2_; clear n0_ n1_ n2_; (try clear hb); (try clear hb2); (try clear hk); (try clear hi))); try go_wp2_with (first | (go_at_call 32; (with_reducible refine (cruciblelaw18_awake.calls  true _ A3.out).mono ?_); rintro e w9 ⟨rfl, hb⟩; have n0_ := Aside0.mk (below_step (by repeat (first | (with_reducible first | exact HB.out | apply below_alloc | apply pw_below_drewN | apply below_drew1) | exact HB.out)) hb); clear HB; have HB := n0_; clear n0_; (try clear hb); (try clear hb2); (try clear hk); (try clear hi)) | (go_at_call 18; (with_reducible refine (command_Action.calls k _ _ l0 a1 t598 t599 t602 _ ?side1 ?side2 A5.out).mono ?_); (case side1 => repeat (first | exact (Kd.C_below HR0.out HB.out) | (with_reducible refine Kd.C_alloc ?_ _) | (with_reducible refine Kd.C_drewN ?_ _) | (with_reducible refine Kd.C_drew ?_))); (case side2 => exact HC0.out); rintro e w10 ⟨v600, rfl, ho0, hb⟩; have n0_ := Aside0.mk (Kd.R_lower ho0 (below_size (by repeat (first | (with_reducible first | exact HB.out | apply below_alloc | apply pw_below_drewN | apply below_drew1) | exact HB.out)))); have n1_ := Aside0.mk (below_step (by repeat (first | (with_reducible first | exact HB.out | apply below_alloc | apply pw_below_drewN | apply below_drew1) | exact HB.out)) hb); clear HB; have HO601 := n0_; have HB := n1_; clear n0_ n1_; (try clear hb); (try clear hb2); (try clear hk); (try clear hi); (try clear ho0)) | ((with_reducible refine gate_dst (N := 5) rfl ?_); refine box_event ?hg (N := 5) ?hd (cs := #[.string (⟨#[]⟩ : ByteArray), .slice none 0 0, .bool false]) (t := 33) ?hr ?_; (case hd => rfl); (case hg => rfl); (case hr => first | (go_simp; done) | (go_simp; rfl)); intro gb603 hg w11 hbox hb; have n0_ := Aside0.mk (Kd.R_below (by (with_reducible repeat (first | apply Kd.R_alloc | apply Kd.R_drewN | apply Kd.R_drew)); exact HO601.out) hb); have n1_ := Aside0.mk (below_step (by repeat (first | (with_reducible first | exact HB.out | apply below_alloc | apply pw_below_drewN | apply below_drew1) | exact HB.out)) hb); have n2_ := Aside0.mk (hbox); have n3_ := Aside0.mk ((by rw [hg]; exact (below_size (by repeat (first | (with_reducible first | exact HB.out | apply below_alloc | apply pw_below_drewN | apply below_drew1) | exact HB.out))) : w.heap.size ≤ gb603)); have n4_ := Aside0.mk ((by rw [hg]; exact (below_size (by repeat (first | (with_reducible first | exact HB.out | apply below_alloc | apply pw_below_drewN | apply below_drew1) | exact HB.out))) : w.heap.size ≤ gb603)); clear HO601; clear HB; have HO601 := n0_; have HB := n1_; have BK603 := n2_; have GW603 := n3_; have GE603 := n4_; clear n0_ n1_ n2_ n3_ n4_; clear hb hbox hg; have hcz12_0 : w11.cell? ⟨gb603, 0, none⟩ = some (.string (⟨#[]⟩ : ByteArray)) := (blk_cell BK603.out 0).trans rfl; have hcz12_1 : w11.cell? ⟨gb603, 1, none⟩ = some (.slice none 0 0) := (blk_cell BK603.out 1).trans rfl; have hcz12_2 : w11.cell? ⟨gb603, 2, none⟩ = some (.bool false) := (blk_cell BK603.out 2).trans rfl; have hfz12_0 := blk_frozen BK603.out 0; have hfz12_1 := blk_frozen BK603.out 1; have hfz12_2 := blk_frozen BK603.out 2; obtain ⟨Ao13, co13, eo13⟩ := Kd.R_slice HO601.out; subst eo13) | (go_at_call 34; (with_reducible refine (crucibleref12_ActionsMay.calls k _ _ l0 true _ ?side1 ?side2 A7.out).mono ?_); (case side1 => exact Kd.C_below HR0.out (by repeat (first | (with_reducible first | exact HB.out | apply below_alloc | apply pw_below_drewN | apply below_drew1 | refine below_set ?_ GE603.out) | exact HB.out))); (case side2 => exact HC0.out); rintro e w14 ⟨rfl, hb⟩; have n0_ := Aside0.mk (Kd.R_below (by (with_reducible repeat (first | apply Kd.R_alloc | apply Kd.R_drewN | apply Kd.R_drew)); exact (Kd.R_mono (Kd.R_far (p := ⟨gb603, 2, none⟩) (Kd.R_far (p := ⟨gb603, 1, none⟩) (Kd.R_far (p := ⟨gb603, 0, none⟩) (Kd.R_types HO601.out BK603.out (by decide)) (fun _ hk => hk.2) (.string t598)) (fun _ hk => hk.2) (.slice Ao13 t599.length co13)) (fun _ hk => hk.2) (.bool t602)) (fun _ h_ => h_.1))) hb); have n1_ := Aside0.mk (blk_below (g := gb603) (o := .cells #[.string t598, .slice Ao13 t599.length co13, .bool t602] 33 (0, 0)) (by (with_reducible repeat (first | refine blk_drewN ?_ _ | refine blk_drew ?_ | refine blk_alloc ?_ _)); refine blk_put (cs := #[.string t598, .slice Ao13 t599.length co13, .bool false]) ?_ 2 _ rfl; (with_reducible repeat (first | refine blk_drewN ?_ _ | refine blk_drew ?_ | refine blk_alloc ?_ _)); refine blk_put (cs := #[.string t598, .slice none 0 0, .bool false]) ?_ 1 _ rfl; (with_reducible repeat (first | refine blk_drewN ?_ _ | refine blk_drew ?_ | refine blk_alloc ?_ _)); refine blk_put (cs := #[.string (⟨#[]⟩ : ByteArray), .slice none 0 0, .bool false]) ?_ 0 _ rfl; (with_reducible repeat (first | refine blk_drewN ?_ _ | refine blk_drew ?_ | refine blk_alloc ?_ _)); exact BK603.out) hb); have n2_ := Aside0.mk (below_step (by repeat (first | (with_reducible first | exact HB.out | apply below_alloc | apply pw_below_drewN | apply below_drew1 | refine below_set ?_ GE603.out) | exact HB.out)) hb); clear HO601; clear BK603; clear HB; have HO601 := n0_; have BK603 := n1_; have HB := n2_; clear n0_ n1_ n2_; (try clear hb); (try clear hb2); (try clear hk); (try clear hi))))
    go_loopg [6] k (fun kq v6 w' => ∃ (x6_1 : Int), v6 = .int .i64 x6_1 ∧ Aside0 (cruciblelaw18_CommandFirst.l0 kq l0 a1 x6_1 t598 t599 t602 = some r) ∧ Aside0 (kq ≤ k) ∧ Aside0 (Kd.R Kd.string 9 w' w.heap.size (fun _ => True) (.slice Ao13 t599.length co13) t599) ∧ Aside0 (w'.heap[gb603]? = some (.cells #[.string t598, (.slice Ao13 t599.length co13), .bool t602] 33 (0, 0))) ∧ Aside0 (Below w.heap.size w w'))
    case atStart => exact ⟨(0), (by first | rfl | (simp; done) | (simp [*]; done)), H', ⟨Nat.le_refl _⟩, ⟨by (with_reducible repeat (first | apply Kd.R_alloc | apply Kd.R_drewN | apply Kd.R_drew)); first | exact HO601.out | exact own_len HO601.out⟩, ⟨by (with_reducible repeat (first | refine blk_drewN ?_ _ | refine blk_drew ?_ | refine blk_alloc ?_ _)); exact BK603.out⟩, ⟨by repeat (first | (with_reducible first | exact HB.out | apply below_alloc | apply pw_below_drewN | apply below_drew1 | refine below_set ?_ GE603.out) | exact HB.out)⟩⟩
    case round =>
     clear H'
     try clear p2
     try clear c4
     try clear c6
     try clear c6b0
     try clear c6b1
     try clear c8
     try clear hcz12_0
     try clear hcz12_1
     try clear hcz12_2
     try clear hfz12_0
     try clear hfz12_1
     try clear hfz12_2
     obtain ⟨x6_1, rfl, HA, HK1, HO_604001, BK603, HB⟩ := hrel
     cases gk with
     | zero => exact absurd HA.out (by simp [cruciblelaw18_CommandFirst.l0])
     | succ k1 =>
      have H := HA.out
      clear HA
      simp only [cruciblelaw18_CommandFirst.l0] at H
      by_cases c15 : x6_1 < (l0.length : Int)
      ·
       rw [if_pos c15] at H
       have c15b0 : decide (x6_1 < (l0.length : Int)) = true := decide_eq_true c15
       clear c15
       by_cases c16 : 0 ≤ x6_1
       ·
        rw [if_pos c16] at H
        have c16b0 : decide (0 ≤ x6_1) = true := decide_eq_true c16
        clear c16
        by_cases c17 : ((rd_T33 l0 x6_1).f0).toList = a1.toList
        ·
         rw [if_pos c17] at H
         have c17b0 : (((rd_T33 l0 x6_1).f0).toList == a1.toList) = true := beq_iff_eq.mpr c17
         have c17b1 : (((rd_T33 l0 x6_1).f0).toList != a1.toList) = false := bne_eq_false_iff_eq.mpr c17
         clear c17
         by_cases c18 : (t602 == ((rd_T33 l0 x6_1).f2)) = true
         ·
          rw [if_pos c18] at H
          have c18b0 : (t602 == ((rd_T33 l0 x6_1).f2)) = true := c18
          (try (have c18b1 : decide (t602 = ((rd_T33 l0 x6_1).f2)) = true := by simpa using c18))
          (try (have c18b2 : (t602 == ((rd_T33 l0 x6_1).f2)) = true := by simpa using c18))
          clear c18
          replace H := Option.bind_eq_some_iff.mp H
          obtain ⟨t608, A190, H⟩ := H
          replace H : (some t608) = some r := H
          have A19 := Aside0.mk A190
          clear A190
          obtain rfl := Option.some.inj H
          have p605 : 0 ≤ (x6_1 : Int) := of_decide_eq_true (by first | (with_reducible assumption) | assumption)
          have q605 : x6_1 < (l0.length : Int) := of_decide_eq_true (by first | (with_reducible assumption) | assumption)
          obtain ⟨ad605, A605_1, c605_1, e605, hx605_0, hx605_1, hx605_2, hl605_1, hi605_1⟩ := at_T33 HR0.out x6_1 p605 q605
          cases e605
          replace hx605_0 := (HB.out.cell (World.block_lt_of_cell? w _ hx605_0)).trans hx605_0
          replace hx605_1 := (HB.out.cell (World.block_lt_of_cell? w _ hx605_1)).trans hx605_1
          replace hx605_2 := (HB.out.cell (World.block_lt_of_cell? w _ hx605_2)).trans hx605_2
          have HR605_1 := Aside0.mk hi605_1
          have HC605_1 := Aside0.mk hl605_1
          clear hi605_1 hl605_1
          replace p605 := eq_true p605
          replace q605 := eq_true q605
          have hcz20_0 : wr.cell? ⟨gb603, 0, none⟩ = some (.string t598) := (blk_cell BK603.out 0).trans rfl
          have hcz20_1 : wr.cell? ⟨gb603, 1, none⟩ = some (.slice Ao13 t599.length co13) := (blk_cell BK603.out 1).trans rfl
          have hcz20_2 : wr.cell? ⟨gb603, 2, none⟩ = some (.bool t602) := (blk_cell BK603.out 2).trans rfl
          have hfz20_0 := blk_frozen BK603.out 0
          have hfz20_1 := blk_frozen BK603.out 1
          have hfz20_2 := blk_frozen BK603.out 2
          have p606 : 0 ≤ (x6_1 : Int) := of_decide_eq_true (by first | (with_reducible assumption) | assumption)
          have q606 : x6_1 < (l0.length : Int) := of_decide_eq_true (by first | (with_reducible assumption) | assumption)
          obtain ⟨ad606, A606_1, c606_1, e606, hx606_0, hx606_1, hx606_2, hl606_1, hi606_1⟩ := at_T33 HR0.out x6_1 p606 q606
          obtain rfl : ad605 = ad606 := (by injection e606)
          replace hx606_0 := (HB.out.cell (World.block_lt_of_cell? w _ hx606_0)).trans hx606_0
          replace hx606_1 := (HB.out.cell (World.block_lt_of_cell? w _ hx606_1)).trans hx606_1
          replace hx606_2 := (HB.out.cell (World.block_lt_of_cell? w _ hx606_2)).trans hx606_2
          have HR606_1 := Aside0.mk hi606_1
          have HC606_1 := Aside0.mk hl606_1
          clear hi606_1 hl606_1
          replace p606 := eq_true p606
          replace q606 := eq_true q606
          have ea_ := Option.some.inj (hx605_1.symm.trans hx606_1)
          injection ea_ with ea_ en_ ec_
          subst ea_
          subst ec_
          clear en_
          have p607 : 0 ≤ (x6_1 : Int) := of_decide_eq_true (by first | (with_reducible assumption) | assumption)
          have q607 : x6_1 < (l0.length : Int) := of_decide_eq_true (by first | (with_reducible assumption) | assumption)
          obtain ⟨ad607, A607_1, c607_1, e607, hx607_0, hx607_1, hx607_2, hl607_1, hi607_1⟩ := at_T33 HR0.out x6_1 p607 q607
          obtain rfl : ad605 = ad607 := (by injection e607)
          replace hx607_0 := (HB.out.cell (World.block_lt_of_cell? w _ hx607_0)).trans hx607_0
          replace hx607_1 := (HB.out.cell (World.block_lt_of_cell? w _ hx607_1)).trans hx607_1
          replace hx607_2 := (HB.out.cell (World.block_lt_of_cell? w _ hx607_2)).trans hx607_2
          have HR607_1 := Aside0.mk hi607_1
          have HC607_1 := Aside0.mk hl607_1
          clear hi607_1 hl607_1
          replace p607 := eq_true p607
          replace q607 := eq_true q607
          have ea_ := Option.some.inj (hx605_1.symm.trans hx607_1)
          injection ea_ with ea_ en_ ec_
          subst ea_
          subst ec_
          clear en_
          (try clear BK603)
          go_wp2_with (first | (go_at_call 24; (with_reducible refine (cruciblelaw0_SameTexts.calls k1 _ _ t599 _ _ ((rd_T33 l0 x6_1).f1) t608 _ ?side1 ?side2 ?side3 ?side4 A19.out).mono ?_); (case side1 => repeat (first | exact (Kd.R_reads' HO_604001.out).2.2 | (with_reducible refine Kd.C_alloc ?_ _) | (with_reducible refine Kd.C_drewN ?_ _) | (with_reducible refine Kd.C_drew ?_))); (case side2 => exact (Kd.R_reads' HO_604001.out).2.1); (case side3 => repeat (first | exact (Kd.C_below HR607_1.out HB.out) | (with_reducible refine Kd.C_alloc ?_ _) | (with_reducible refine Kd.C_drewN ?_ _) | (with_reducible refine Kd.C_drew ?_))); (case side4 => exact HC607_1.out); rintro e w' ⟨rfl, ⟨nd, rfl⟩⟩; (try first | exact ⟨rfl, _, World.drewN_drewN _ _ _⟩ | exact ⟨rfl, _, Eq.trans (World.drewN_drewN _ _ _) (congrArg (World.drewN _) (Nat.add_assoc _ _ _))⟩)))
          repeat (go_quiet (first | (go_at_call 24; (with_reducible refine (cruciblelaw0_SameTexts.calls k1 _ _ t599 _ _ ((rd_T33 l0 x6_1).f1) t608 _ ?side1 ?side2 ?side3 ?side4 A19.out).mono ?_); (case side1 => repeat (first | exact (Kd.R_reads' HO_604001.out).2.2 | (with_reducible refine Kd.C_alloc ?_ _) | (with_reducible refine Kd.C_drewN ?_ _) | (with_reducible refine Kd.C_drew ?_))); (case side2 => exact (Kd.R_reads' HO_604001.out).2.1); (case side3 => repeat (first | exact (Kd.C_below HR607_1.out HB.out) | (with_reducible refine Kd.C_alloc ?_ _) | (with_reducible refine Kd.C_drewN ?_ _) | (with_reducible refine Kd.C_drew ?_))); (case side4 => exact HC607_1.out); rintro e w' ⟨rfl, ⟨nd, rfl⟩⟩; (try first | exact ⟨rfl, _, World.drewN_drewN _ _ _⟩ | exact ⟨rfl, _, Eq.trans (World.drewN_drewN _ _ _) (congrArg (World.drewN _) (Nat.add_assoc _ _ _))⟩))); try go_wp2_with (first | (go_at_call 24; (with_reducible refine (cruciblelaw0_SameTexts.calls k1 _ _ t599 _ _ ((rd_T33 l0 x6_1).f1) t608 _ ?side1 ?side2 ?side3 ?side4 A19.out).mono ?_); (case side1 => repeat (first | exact (Kd.R_reads' HO_604001.out).2.2 | (with_reducible refine Kd.C_alloc ?_ _) | (with_reducible refine Kd.C_drewN ?_ _) | (with_reducible refine Kd.C_drew ?_))); (case side2 => exact (Kd.R_reads' HO_604001.out).2.1); (case side3 => repeat (first | exact (Kd.C_below HR607_1.out HB.out) | (with_reducible refine Kd.C_alloc ?_ _) | (with_reducible refine Kd.C_drewN ?_ _) | (with_reducible refine Kd.C_drew ?_))); (case side4 => exact HC607_1.out); rintro e w' ⟨rfl, ⟨nd, rfl⟩⟩; (try first | exact ⟨rfl, _, World.drewN_drewN _ _ _⟩ | exact ⟨rfl, _, Eq.trans (World.drewN_drewN _ _ _) (congrArg (World.drewN _) (Nat.add_assoc _ _ _))⟩))))
          go_ret
          exact ⟨by first | rfl | (simp [errW_none, errW_some] <;> rfl) | (simp [*, errW_none, errW_some] <;> rfl), by repeat (first | (with_reducible first | exact HB.out | apply below_alloc | apply pw_below_drewN | apply below_drew1) | exact HB.out)⟩
         ·
          rw [if_neg c18] at H
          exact absurd H (by simp)
        ·
         rw [if_neg c17] at H
         have c17b0 : (((rd_T33 l0 x6_1).f0).toList == a1.toList) = false := beq_eq_false_iff_ne.mpr c17
         have c17b1 : (((rd_T33 l0 x6_1).f0).toList != a1.toList) = true := bne_iff_ne.mpr c17
         have H' := Aside0.mk H
         clear H
         have p605 : 0 ≤ (x6_1 : Int) := of_decide_eq_true (by first | (with_reducible assumption) | assumption)
         have q605 : x6_1 < (l0.length : Int) := of_decide_eq_true (by first | (with_reducible assumption) | assumption)
         obtain ⟨ad605, A605_1, c605_1, e605, hx605_0, hx605_1, hx605_2, hl605_1, hi605_1⟩ := at_T33 HR0.out x6_1 p605 q605
         cases e605
         replace hx605_0 := (HB.out.cell (World.block_lt_of_cell? w _ hx605_0)).trans hx605_0
         replace hx605_1 := (HB.out.cell (World.block_lt_of_cell? w _ hx605_1)).trans hx605_1
         replace hx605_2 := (HB.out.cell (World.block_lt_of_cell? w _ hx605_2)).trans hx605_2
         have HR605_1 := Aside0.mk hi605_1
         have HC605_1 := Aside0.mk hl605_1
         clear hi605_1 hl605_1
         replace p605 := eq_true p605
         replace q605 := eq_true q605
         go_wp2
         repeat (go_quiet (fail); try go_wp2)
         go_roundg k1
         case measure => have := HK1.out; omega
         case rel => exact ⟨(wrap64 (x6_1 + 1)), (by first | rfl | (simp; done) | (simp [*]; done)), H', ⟨by have := HK1.out; omega⟩, ⟨by (with_reducible repeat (first | apply Kd.R_alloc | apply Kd.R_drewN | apply Kd.R_drew)); first | exact HO_604001.out | exact own_len HO_604001.out⟩, ⟨by (with_reducible repeat (first | refine blk_drewN ?_ _ | refine blk_drew ?_ | refine blk_alloc ?_ _)); exact BK603.out⟩, ⟨by repeat (first | (with_reducible first | exact HB.out | apply below_alloc | apply pw_below_drewN | apply below_drew1 | refine below_set ?_ GE603.out) | exact HB.out)⟩⟩
       ·
        rw [if_neg c16] at H
        exact absurd H (by simp)
      ·
       rw [if_neg c15] at H
       have c15b0 : decide (x6_1 < (l0.length : Int)) = false := decide_eq_false c15
       clear c15
       by_cases c21 : (t599.length : Int) = 0
       ·
        rw [if_pos c21] at H
        have c21b0 : ((t599.length : Int) == 0) = true := beq_iff_eq.mpr c21
        have c21b1 : ((t599.length : Int) != 0) = false := bne_eq_false_iff_eq.mpr c21
        clear c21
        obtain rfl := Option.some.inj H
        have hcz22_0 : wr.cell? ⟨gb603, 0, none⟩ = some (.string t598) := (blk_cell BK603.out 0).trans rfl
        have hcz22_1 : wr.cell? ⟨gb603, 1, none⟩ = some (.slice Ao13 t599.length co13) := (blk_cell BK603.out 1).trans rfl
        have hcz22_2 : wr.cell? ⟨gb603, 2, none⟩ = some (.bool t602) := (blk_cell BK603.out 2).trans rfl
        have hfz22_0 := blk_frozen BK603.out 0
        have hfz22_1 := blk_frozen BK603.out 1
        have hfz22_2 := blk_frozen BK603.out 2
        go_wp2
        repeat (go_quiet (fail); try go_wp2)
        go_ret
        exact ⟨by first | rfl | (simp [errW_none, errW_some] <;> rfl) | (simp [*, errW_none, errW_some] <;> rfl), by repeat (first | (with_reducible first | exact HB.out | apply below_alloc | apply pw_below_drewN | apply below_drew1 | refine below_set ?_ GE603.out) | exact HB.out)⟩
       ·
        rw [if_neg c21] at H
        exact absurd H (by simp)
   ·
    replace c8 := Bool.eq_false_iff.mpr c8
    subst c8
    have H1 : (if (t599.length : Int) = 0 then (some (!t602)) else (none)) = some r := by rw [if_neg (show ¬ (false = true) by decide)] at H; exact H
    clear H
    have H := H1
    clear H1
    by_cases c23 : (t599.length : Int) = 0
    ·
     rw [if_pos c23] at H
     have c23b0 : ((t599.length : Int) == 0) = true := beq_iff_eq.mpr c23
     have c23b1 : ((t599.length : Int) != 0) = false := bne_eq_false_iff_eq.mpr c23
     clear c23
     obtain rfl := Option.some.inj H
     go_enter Tryd.func8, Tryd.ntmps8
     go_wp2_with (first | (go_at_call 32; (with_reducible refine (cruciblelaw18_awake.calls  true _ A3.out).mono ?_); rintro e w24 ⟨rfl, hb⟩; have n0_ := Aside0.mk (below_step (by repeat (first | (with_reducible first | exact HB.out | apply below_alloc | apply pw_below_drewN | apply below_drew1) | exact HB.out)) hb); clear HB; have HB := n0_; clear n0_; (try clear hb); (try clear hb2); (try clear hk); (try clear hi)) | (go_at_call 18; (with_reducible refine (command_Action.calls k _ _ l0 a1 t598 t599 t602 _ ?side1 ?side2 A5.out).mono ?_); (case side1 => repeat (first | exact (Kd.C_below HR0.out HB.out) | (with_reducible refine Kd.C_alloc ?_ _) | (with_reducible refine Kd.C_drewN ?_ _) | (with_reducible refine Kd.C_drew ?_))); (case side2 => exact HC0.out); rintro e w25 ⟨v600, rfl, ho0, hb⟩; have n0_ := Aside0.mk (Kd.R_lower ho0 (below_size (by repeat (first | (with_reducible first | exact HB.out | apply below_alloc | apply pw_below_drewN | apply below_drew1) | exact HB.out)))); have n1_ := Aside0.mk (below_step (by repeat (first | (with_reducible first | exact HB.out | apply below_alloc | apply pw_below_drewN | apply below_drew1) | exact HB.out)) hb); clear HB; have HO601 := n0_; have HB := n1_; clear n0_ n1_; (try clear hb); (try clear hb2); (try clear hk); (try clear hi); (try clear ho0)) | ((with_reducible refine gate_dst (N := 5) rfl ?_); refine box_event ?hg (N := 5) ?hd (cs := #[.string (⟨#[]⟩ : ByteArray), .slice none 0 0, .bool false]) (t := 33) ?hr ?_; (case hd => rfl); (case hg => rfl); (case hr => first | (go_simp; done) | (go_simp; rfl)); intro gb603 hg w26 hbox hb; have n0_ := Aside0.mk (Kd.R_below (by (with_reducible repeat (first | apply Kd.R_alloc | apply Kd.R_drewN | apply Kd.R_drew)); exact HO601.out) hb); have n1_ := Aside0.mk (below_step (by repeat (first | (with_reducible first | exact HB.out | apply below_alloc | apply pw_below_drewN | apply below_drew1) | exact HB.out)) hb); have n2_ := Aside0.mk (hbox); have n3_ := Aside0.mk ((by rw [hg]; exact (below_size (by repeat (first | (with_reducible first | exact HB.out | apply below_alloc | apply pw_below_drewN | apply below_drew1) | exact HB.out))) : w.heap.size ≤ gb603)); have n4_ := Aside0.mk ((by rw [hg]; exact (below_size (by repeat (first | (with_reducible first | exact HB.out | apply below_alloc | apply pw_below_drewN | apply below_drew1) | exact HB.out))) : w.heap.size ≤ gb603)); clear HO601; clear HB; have HO601 := n0_; have HB := n1_; have BK603 := n2_; have GW603 := n3_; have GE603 := n4_; clear n0_ n1_ n2_ n3_ n4_; clear hb hbox hg; have hcz27_0 : w26.cell? ⟨gb603, 0, none⟩ = some (.string (⟨#[]⟩ : ByteArray)) := (blk_cell BK603.out 0).trans rfl; have hcz27_1 : w26.cell? ⟨gb603, 1, none⟩ = some (.slice none 0 0) := (blk_cell BK603.out 1).trans rfl; have hcz27_2 : w26.cell? ⟨gb603, 2, none⟩ = some (.bool false) := (blk_cell BK603.out 2).trans rfl; have hfz27_0 := blk_frozen BK603.out 0; have hfz27_1 := blk_frozen BK603.out 1; have hfz27_2 := blk_frozen BK603.out 2; obtain ⟨Ao28, co28, eo28⟩ := Kd.R_slice HO601.out; subst eo28) | (go_at_call 34; (with_reducible refine (crucibleref12_ActionsMay.calls k _ _ l0 false _ ?side1 ?side2 A7.out).mono ?_); (case side1 => exact Kd.C_below HR0.out (by repeat (first | (with_reducible first | exact HB.out | apply below_alloc | apply pw_below_drewN | apply below_drew1 | refine below_set ?_ GE603.out) | exact HB.out))); (case side2 => exact HC0.out); rintro e w29 ⟨rfl, hb⟩; have n0_ := Aside0.mk (Kd.R_below (by (with_reducible repeat (first | apply Kd.R_alloc | apply Kd.R_drewN | apply Kd.R_drew)); exact (Kd.R_mono (Kd.R_far (p := ⟨gb603, 2, none⟩) (Kd.R_far (p := ⟨gb603, 1, none⟩) (Kd.R_far (p := ⟨gb603, 0, none⟩) (Kd.R_types HO601.out BK603.out (by decide)) (fun _ hk => hk.2) (.string t598)) (fun _ hk => hk.2) (.slice Ao28 t599.length co28)) (fun _ hk => hk.2) (.bool t602)) (fun _ h_ => h_.1))) hb); have n1_ := Aside0.mk (blk_below (g := gb603) (o := .cells #[.string t598, .slice Ao28 t599.length co28, .bool t602] 33 (0, 0)) (by (with_reducible repeat (first | refine blk_drewN ?_ _ | refine blk_drew ?_ | refine blk_alloc ?_ _)); refine blk_put (cs := #[.string t598, .slice Ao28 t599.length co28, .bool false]) ?_ 2 _ rfl; (with_reducible repeat (first | refine blk_drewN ?_ _ | refine blk_drew ?_ | refine blk_alloc ?_ _)); refine blk_put (cs := #[.string t598, .slice none 0 0, .bool false]) ?_ 1 _ rfl; (with_reducible repeat (first | refine blk_drewN ?_ _ | refine blk_drew ?_ | refine blk_alloc ?_ _)); refine blk_put (cs := #[.string (⟨#[]⟩ : ByteArray), .slice none 0 0, .bool false]) ?_ 0 _ rfl; (with_reducible repeat (first | refine blk_drewN ?_ _ | refine blk_drew ?_ | refine blk_alloc ?_ _)); exact BK603.out) hb); have n2_ := Aside0.mk (below_step (by repeat (first | (with_reducible first | exact HB.out | apply below_alloc | apply pw_below_drewN | apply below_drew1 | refine below_set ?_ GE603.out) | exact HB.out)) hb); clear HO601; clear BK603; clear HB; have HO601 := n0_; have BK603 := n1_; have HB := n2_; clear n0_ n1_ n2_; (try clear hb); (try clear hb2); (try clear hk); (try clear hi); have hcz30_0 : w29.cell? ⟨gb603, 0, none⟩ = some (.string t598) := (blk_cell BK603.out 0).trans rfl; have hcz30_1 : w29.cell? ⟨gb603, 1, none⟩ = some (.slice Ao28 t599.length co28) := (blk_cell BK603.out 1).trans rfl; have hcz30_2 : w29.cell? ⟨gb603, 2, none⟩ = some (.bool t602) := (blk_cell BK603.out 2).trans rfl; have hfz30_0 := blk_frozen BK603.out 0; have hfz30_1 := blk_frozen BK603.out 1; have hfz30_2 := blk_frozen BK603.out 2))
     repeat (go_quiet (first | (go_at_call 32; (with_reducible refine (cruciblelaw18_awake.calls  true _ A3.out).mono ?_); rintro e w24 ⟨rfl, hb⟩; have n0_ := Aside0.mk (below_step (by repeat (first | (with_reducible first | exact HB.out | apply below_alloc | apply pw_below_drewN | apply below_drew1) | exact HB.out)) hb); clear HB; have HB := n0_; clear n0_; (try clear hb); (try clear hb2); (try clear hk); (try clear hi)) | (go_at_call 18; (with_reducible refine (command_Action.calls k _ _ l0 a1 t598 t599 t602 _ ?side1 ?side2 A5.out).mono ?_); (case side1 => repeat (first | exact (Kd.C_below HR0.out HB.out) | (with_reducible refine Kd.C_alloc ?_ _) | (with_reducible refine Kd.C_drewN ?_ _) | (with_reducible refine Kd.C_drew ?_))); (case side2 => exact HC0.out); rintro e w25 ⟨v600, rfl, ho0, hb⟩; have n0_ := Aside0.mk (Kd.R_lower ho0 (below_size (by repeat (first | (with_reducible first | exact HB.out | apply below_alloc | apply pw_below_drewN | apply below_drew1) | exact HB.out)))); have n1_ := Aside0.mk (below_step (by repeat (first | (with_reducible first | exact HB.out | apply below_alloc | apply pw_below_drewN | apply below_drew1) | exact HB.out)) hb); clear HB; have HO601 := n0_; have HB := n1_; clear n0_ n1_; (try clear hb); (try clear hb2); (try clear hk); (try clear hi); (try clear ho0)) | ((with_reducible refine gate_dst (N := 5) rfl ?_); refine box_event ?hg (N := 5) ?hd (cs := #[.string (⟨#[]⟩ : ByteArray), .slice none 0 0, .bool false]) (t := 33) ?hr ?_; (case hd => rfl); (case hg => rfl); (case hr => first | (go_simp; done) | (go_simp; rfl)); intro gb603 hg w26 hbox hb; have n0_ := Aside0.mk (Kd.R_below (by (with_reducible repeat (first | apply Kd.R_alloc | apply Kd.R_drewN | apply Kd.R_drew)); exact HO601.out) hb); have n1_ := Aside0.mk (below_step (by repeat (first | (with_reducible first | exact HB.out | apply below_alloc | apply pw_below_drewN | apply below_drew1) | exact HB.out)) hb); have n2_ := Aside0.mk (hbox); have n3_ := Aside0.mk ((by rw [hg]; exact (below_size (by repeat (first | (with_reducible first | exact HB.out | apply below_alloc | apply pw_below_drewN | apply below_drew1) | exact HB.out))) : w.heap.size ≤ gb603)); have n4_ := Aside0.mk ((by rw [hg]; exact (below_size (by repeat (first | (with_reducible first | exact HB.out | apply below_alloc | apply pw_below_drewN | apply below_drew1) | exact HB.out))) : w.heap.size ≤ gb603)); clear HO601; clear HB; have HO601 := n0_; have HB := n1_; have BK603 := n2_; have GW603 := n3_; have GE603 := n4_; clear n0_ n1_ n2_ n3_ n4_; clear hb hbox hg; have hcz27_0 : w26.cell? ⟨gb603, 0, none⟩ = some (.string (⟨#[]⟩ : ByteArray)) := (blk_cell BK603.out 0).trans rfl; have hcz27_1 : w26.cell? ⟨gb603, 1, none⟩ = some (.slice none 0 0) := (blk_cell BK603.out 1).trans rfl; have hcz27_2 : w26.cell? ⟨gb603, 2, none⟩ = some (.bool false) := (blk_cell BK603.out 2).trans rfl; have hfz27_0 := blk_frozen BK603.out 0; have hfz27_1 := blk_frozen BK603.out 1; have hfz27_2 := blk_frozen BK603.out 2; obtain ⟨Ao28, co28, eo28⟩ := Kd.R_slice HO601.out; subst eo28) | (go_at_call 34; (with_reducible refine (crucibleref12_ActionsMay.calls k _ _ l0 false _ ?side1 ?side2 A7.out).mono ?_); (case side1 => exact Kd.C_below HR0.out (by repeat (first | (with_reducible first | exact HB.out | apply below_alloc | apply pw_below_drewN | apply below_drew1 | refine below_set ?_ GE603.out) | exact HB.out))); (case side2 => exact HC0.out); rintro e w29 ⟨rfl, hb⟩; have n0_ := Aside0.mk (Kd.R_below (by (with_reducible repeat (first | apply Kd.R_alloc | apply Kd.R_drewN | apply Kd.R_drew)); exact (Kd.R_mono (Kd.R_far (p := ⟨gb603, 2, none⟩) (Kd.R_far (p := ⟨gb603, 1, none⟩) (Kd.R_far (p := ⟨gb603, 0, none⟩) (Kd.R_types HO601.out BK603.out (by decide)) (fun _ hk => hk.2) (.string t598)) (fun _ hk => hk.2) (.slice Ao28 t599.length co28)) (fun _ hk => hk.2) (.bool t602)) (fun _ h_ => h_.1))) hb); have n1_ := Aside0.mk (blk_below (g := gb603) (o := .cells #[.string t598, .slice Ao28 t599.length co28, .bool t602] 33 (0, 0)) (by (with_reducible repeat (first | refine blk_drewN ?_ _ | refine blk_drew ?_ | refine blk_alloc ?_ _)); refine blk_put (cs := #[.string t598, .slice Ao28 t599.length co28, .bool false]) ?_ 2 _ rfl; (with_reducible repeat (first | refine blk_drewN ?_ _ | refine blk_drew ?_ | refine blk_alloc ?_ _)); refine blk_put (cs := #[.string t598, .slice none 0 0, .bool false]) ?_ 1 _ rfl; (with_reducible repeat (first | refine blk_drewN ?_ _ | refine blk_drew ?_ | refine blk_alloc ?_ _)); refine blk_put (cs := #[.string (⟨#[]⟩ : ByteArray), .slice none 0 0, .bool false]) ?_ 0 _ rfl; (with_reducible repeat (first | refine blk_drewN ?_ _ | refine blk_drew ?_ | refine blk_alloc ?_ _)); exact BK603.out) hb); have n2_ := Aside0.mk (below_step (by repeat (first | (with_reducible first | exact HB.out | apply below_alloc | apply pw_below_drewN | apply below_drew1 | refine below_set ?_ GE603.out) | exact HB.out)) hb); clear HO601; clear BK603; clear HB; have HO601 := n0_; have BK603 := n1_; have HB := n2_; clear n0_ n1_ n2_; (try clear hb); (try clear hb2); (try clear hk); (try clear hi); have hcz30_0 : w29.cell? ⟨gb603, 0, none⟩ = some (.string t598) := (blk_cell BK603.out 0).trans rfl; have hcz30_1 : w29.cell? ⟨gb603, 1, none⟩ = some (.slice Ao28 t599.length co28) := (blk_cell BK603.out 1).trans rfl; have hcz30_2 : w29.cell? ⟨gb603, 2, none⟩ = some (.bool t602) := (blk_cell BK603.out 2).trans rfl; have hfz30_0 := blk_frozen BK603.out 0; have hfz30_1 := blk_frozen BK603.out 1; have hfz30_2 := blk_frozen BK603.out 2)); try go_wp2_with (first | (go_at_call 32; (with_reducible refine (cruciblelaw18_awake.calls  true _ A3.out).mono ?_); rintro e w24 ⟨rfl, hb⟩; have n0_ := Aside0.mk (below_step (by repeat (first | (with_reducible first | exact HB.out | apply below_alloc | apply pw_below_drewN | apply below_drew1) | exact HB.out)) hb); clear HB; have HB := n0_; clear n0_; (try clear hb); (try clear hb2); (try clear hk); (try clear hi)) | (go_at_call 18; (with_reducible refine (command_Action.calls k _ _ l0 a1 t598 t599 t602 _ ?side1 ?side2 A5.out).mono ?_); (case side1 => repeat (first | exact (Kd.C_below HR0.out HB.out) | (with_reducible refine Kd.C_alloc ?_ _) | (with_reducible refine Kd.C_drewN ?_ _) | (with_reducible refine Kd.C_drew ?_))); (case side2 => exact HC0.out); rintro e w25 ⟨v600, rfl, ho0, hb⟩; have n0_ := Aside0.mk (Kd.R_lower ho0 (below_size (by repeat (first | (with_reducible first | exact HB.out | apply below_alloc | apply pw_below_drewN | apply below_drew1) | exact HB.out)))); have n1_ := Aside0.mk (below_step (by repeat (first | (with_reducible first | exact HB.out | apply below_alloc | apply pw_below_drewN | apply below_drew1) | exact HB.out)) hb); clear HB; have HO601 := n0_; have HB := n1_; clear n0_ n1_; (try clear hb); (try clear hb2); (try clear hk); (try clear hi); (try clear ho0)) | ((with_reducible refine gate_dst (N := 5) rfl ?_); refine box_event ?hg (N := 5) ?hd (cs := #[.string (⟨#[]⟩ : ByteArray), .slice none 0 0, .bool false]) (t := 33) ?hr ?_; (case hd => rfl); (case hg => rfl); (case hr => first | (go_simp; done) | (go_simp; rfl)); intro gb603 hg w26 hbox hb; have n0_ := Aside0.mk (Kd.R_below (by (with_reducible repeat (first | apply Kd.R_alloc | apply Kd.R_drewN | apply Kd.R_drew)); exact HO601.out) hb); have n1_ := Aside0.mk (below_step (by repeat (first | (with_reducible first | exact HB.out | apply below_alloc | apply pw_below_drewN | apply below_drew1) | exact HB.out)) hb); have n2_ := Aside0.mk (hbox); have n3_ := Aside0.mk ((by rw [hg]; exact (below_size (by repeat (first | (with_reducible first | exact HB.out | apply below_alloc | apply pw_below_drewN | apply below_drew1) | exact HB.out))) : w.heap.size ≤ gb603)); have n4_ := Aside0.mk ((by rw [hg]; exact (below_size (by repeat (first | (with_reducible first | exact HB.out | apply below_alloc | apply pw_below_drewN | apply below_drew1) | exact HB.out))) : w.heap.size ≤ gb603)); clear HO601; clear HB; have HO601 := n0_; have HB := n1_; have BK603 := n2_; have GW603 := n3_; have GE603 := n4_; clear n0_ n1_ n2_ n3_ n4_; clear hb hbox hg; have hcz27_0 : w26.cell? ⟨gb603, 0, none⟩ = some (.string (⟨#[]⟩ : ByteArray)) := (blk_cell BK603.out 0).trans rfl; have hcz27_1 : w26.cell? ⟨gb603, 1, none⟩ = some (.slice none 0 0) := (blk_cell BK603.out 1).trans rfl; have hcz27_2 : w26.cell? ⟨gb603, 2, none⟩ = some (.bool false) := (blk_cell BK603.out 2).trans rfl; have hfz27_0 := blk_frozen BK603.out 0; have hfz27_1 := blk_frozen BK603.out 1; have hfz27_2 := blk_frozen BK603.out 2; obtain ⟨Ao28, co28, eo28⟩ := Kd.R_slice HO601.out; subst eo28) | (go_at_call 34; (with_reducible refine (crucibleref12_ActionsMay.calls k _ _ l0 false _ ?side1 ?side2 A7.out).mono ?_); (case side1 => exact Kd.C_below HR0.out (by repeat (first | (with_reducible first | exact HB.out | apply below_alloc | apply pw_below_drewN | apply below_drew1 | refine below_set ?_ GE603.out) | exact HB.out))); (case side2 => exact HC0.out); rintro e w29 ⟨rfl, hb⟩; have n0_ := Aside0.mk (Kd.R_below (by (with_reducible repeat (first | apply Kd.R_alloc | apply Kd.R_drewN | apply Kd.R_drew)); exact (Kd.R_mono (Kd.R_far (p := ⟨gb603, 2, none⟩) (Kd.R_far (p := ⟨gb603, 1, none⟩) (Kd.R_far (p := ⟨gb603, 0, none⟩) (Kd.R_types HO601.out BK603.out (by decide)) (fun _ hk => hk.2) (.string t598)) (fun _ hk => hk.2) (.slice Ao28 t599.length co28)) (fun _ hk => hk.2) (.bool t602)) (fun _ h_ => h_.1))) hb); have n1_ := Aside0.mk (blk_below (g := gb603) (o := .cells #[.string t598, .slice Ao28 t599.length co28, .bool t602] 33 (0, 0)) (by (with_reducible repeat (first | refine blk_drewN ?_ _ | refine blk_drew ?_ | refine blk_alloc ?_ _)); refine blk_put (cs := #[.string t598, .slice Ao28 t599.length co28, .bool false]) ?_ 2 _ rfl; (with_reducible repeat (first | refine blk_drewN ?_ _ | refine blk_drew ?_ | refine blk_alloc ?_ _)); refine blk_put (cs := #[.string t598, .slice none 0 0, .bool false]) ?_ 1 _ rfl; (with_reducible repeat (first | refine blk_drewN ?_ _ | refine blk_drew ?_ | refine blk_alloc ?_ _)); refine blk_put (cs := #[.string (⟨#[]⟩ : ByteArray), .slice none 0 0, .bool false]) ?_ 0 _ rfl; (with_reducible repeat (first | refine blk_drewN ?_ _ | refine blk_drew ?_ | refine blk_alloc ?_ _)); exact BK603.out) hb); have n2_ := Aside0.mk (below_step (by repeat (first | (with_reducible first | exact HB.out | apply below_alloc | apply pw_below_drewN | apply below_drew1 | refine below_set ?_ GE603.out) | exact HB.out)) hb); clear HO601; clear BK603; clear HB; have HO601 := n0_; have BK603 := n1_; have HB := n2_; clear n0_ n1_ n2_; (try clear hb); (try clear hb2); (try clear hk); (try clear hi); have hcz30_0 : w29.cell? ⟨gb603, 0, none⟩ = some (.string t598) := (blk_cell BK603.out 0).trans rfl; have hcz30_1 : w29.cell? ⟨gb603, 1, none⟩ = some (.slice Ao28 t599.length co28) := (blk_cell BK603.out 1).trans rfl; have hcz30_2 : w29.cell? ⟨gb603, 2, none⟩ = some (.bool t602) := (blk_cell BK603.out 2).trans rfl; have hfz30_0 := blk_frozen BK603.out 0; have hfz30_1 := blk_frozen BK603.out 1; have hfz30_2 := blk_frozen BK603.out 2)))
     go_ret
     exact ⟨by first | rfl | (simp [errW_none, errW_some] <;> rfl) | (simp [*, errW_none, errW_some] <;> rfl), by repeat (first | (with_reducible first | exact HB.out | apply below_alloc | apply pw_below_drewN | apply below_drew1 | refine below_set ?_ GE603.out) | exact HB.out)⟩
    ·
     rw [if_neg c23] at H
     exact absurd H (by simp)
  ·
   rw [if_neg c6] at H
   exact absurd H (by simp)
 ·
  replace c4 := Bool.eq_false_iff.mpr c4
  subst c4
  have H1 : (none) = some r := by rw [if_neg (show ¬ (false = true) by decide)] at H; exact H
  clear H
  have H := H1
  clear H1
  exact absurd H (by simp)

end Go.Proofs.YtilnamobmjngbaaDoor.P
