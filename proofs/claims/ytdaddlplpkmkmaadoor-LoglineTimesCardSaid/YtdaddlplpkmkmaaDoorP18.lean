-- Made by a program of this work's own (wip/myprint.py) over the kit's print; leaves by hand.
import Derived.Test.YtdaddlplpkmkmaaDoorTb
import Derived.Test.YtdaddlplpkmkmaaDoorP0
import Derived.Test.YtdaddlplpkmkmaaDoorWGuard
import Derived.Test.YtdaddlplpkmkmaaDoorP5
import Derived.Test.YtdaddlplpkmkmaaDoorP12
import Derived.Test.YtdaddlplpkmkmaaDoorP14
namespace Go.Proofs.YtdaddlplpkmkmaaDoor.P
open Go.RowKit Go.Proofs.YtdaddlplpkmkmaaDoorW.PrintWords Go.Proofs.YtdaddlplpkmkmaaDoorW.PrintLast Go.Proofs.YtdaddlplpkmkmaaDoorW.PrintMore
attribute [local go_sem] max2_int min2_int max_two min_two max_three min_three max_four min_four   -- for this text's walks alone
set_option linter.unusedVariables false
set_option linter.unusedSimpArgs false

/-! ### cruciblelaw13_LoglineTimes: function 6 -/
set_option maxRecDepth 100000 in
mutual
def cruciblelaw13_LoglineTimes.j0 : Nat → Int → ByteArray → Bool → Option (Bool)
  | 0, _, _, _ => none
  | k + 1, x3, x4, x64 => if x64 = true then (some false) else (cruciblelaw13_LoglineTimes.l0 k x3 x4 0 2)
def cruciblelaw13_LoglineTimes.l0 : Nat → Int → ByteArray → Int → Int → Option (Bool)
  | 0, _, _, _, _ => none
  | k + 1, x3, x4, x8, x9 => if x9 < (wrap64 ((x4.size : Int) - 3)) then (if 0 ≤ x9 then (if x9 < (x4.size : Int) then (if (bt x4 x9) < 48 then (some false) else (if (bt x4 x9) > 57 then (some false) else (cruciblelaw13_LoglineTimes.l0 k x3 x4 (wrap64 ((wrap64 (10 * x8)) + (((bt x4 x9) - 48) % 256))) (wrap64 (x9 + 1))))) else (none)) else (none)) else (some (x8 == x3))
end
def cruciblelaw13_LoglineTimes.f (k : Nat) (a0 : Int) : Option (Bool) := (cruciblelaw13_awake.f k).bind fun t261 => (if t261 = true then ((logline_Put.f k (⟨#[111]⟩ : ByteArray) (wrap64 (1 + (wrap64 (Int.tmod (IntKind.u64.wrap (a0)) 1048576)))) (⟨#[120]⟩ : ByteArray)).bind fun bt262 => ((logline_Get.f k bt262.1).bind fun bt264 => ((cruciblelaw0_Num.f bt262.2).bind fun t269 => (if t269 = 0 then ((cruciblelaw0_Num.f bt264.2.2.2).bind fun t270 => (if t270 = 0 then (if bt264.2.1 = (wrap64 (1 + (wrap64 (Int.tmod (IntKind.u64.wrap (a0)) 1048576)))) then (if (bt262.1.size : Int) < 6 then (cruciblelaw13_LoglineTimes.j0 k (wrap64 (1 + (wrap64 (Int.tmod (IntKind.u64.wrap (a0)) 1048576)))) bt262.1 true) else (if 0 ≤ 2 then (if 2 ≤ (bt262.1.size : Int) then (if (bt262.1.extract 0 2).toList = ([111, 9] : List UInt8) then (if 0 ≤ (wrap64 ((bt262.1.size : Int) - 3)) then (if (wrap64 ((bt262.1.size : Int) - 3)) ≤ (bt262.1.size : Int) then (if (bt262.1.extract ((wrap64 ((bt262.1.size : Int) - 3)) : Int).toNat bt262.1.size).toList = ([9, 120, 10] : List UInt8) then (if 2 < (bt262.1.size : Int) then (cruciblelaw13_LoglineTimes.j0 k (wrap64 (1 + (wrap64 (Int.tmod (IntKind.u64.wrap (a0)) 1048576)))) bt262.1 ((bt bt262.1 2) == 48)) else (none)) else (cruciblelaw13_LoglineTimes.j0 k (wrap64 (1 + (wrap64 (Int.tmod (IntKind.u64.wrap (a0)) 1048576)))) bt262.1 true)) else (none)) else (none)) else (cruciblelaw13_LoglineTimes.j0 k (wrap64 (1 + (wrap64 (Int.tmod (IntKind.u64.wrap (a0)) 1048576)))) bt262.1 true)) else (none)) else (none))) else (cruciblelaw13_LoglineTimes.j0 k (wrap64 (1 + (wrap64 (Int.tmod (IntKind.u64.wrap (a0)) 1048576)))) bt262.1 true)) else (cruciblelaw13_LoglineTimes.j0 k (wrap64 (1 + (wrap64 (Int.tmod (IntKind.u64.wrap (a0)) 1048576)))) bt262.1 true))) else (cruciblelaw13_LoglineTimes.j0 k (wrap64 (1 + (wrap64 (Int.tmod (IntKind.u64.wrap (a0)) 1048576)))) bt262.1 true))))) else (some false))
set_option maxRecDepth 100000 in
theorem cruciblelaw13_LoglineTimes.mono_l : ∀ k, (∀ y0 y1 y2, LeO (cruciblelaw13_LoglineTimes.j0 k y0 y1 y2) (cruciblelaw13_LoglineTimes.j0 (k + 1) y0 y1 y2)) ∧ (∀ y0 y1 y2 y3, LeO (cruciblelaw13_LoglineTimes.l0 k y0 y1 y2 y3) (cruciblelaw13_LoglineTimes.l0 (k + 1) y0 y1 y2 y3))
  | 0 => ⟨fun _ _ _ r h => by simp [cruciblelaw13_LoglineTimes.j0] at h, fun _ _ _ _ r h => by simp [cruciblelaw13_LoglineTimes.l0] at h⟩
  | k + 1 => by
    obtain ⟨ih0, ih1⟩ := cruciblelaw13_LoglineTimes.mono_l k
    refine ⟨?_, ?_⟩
    · intro y0 y1 y2
      unfold cruciblelaw13_LoglineTimes.j0
      repeat' first
      | (with_reducible exact ih0 _ _ _)
      | (with_reducible exact ih1 _ _ _ _)
      | (with_reducible exact cruciblelaw13_awake.mono _)
      | (with_reducible exact logline_Get.mono _ _)
      | (with_reducible exact logline_Put.mono _ _ _ _)
      | (with_reducible exact LeO.refl _)
      | (with_reducible exact LeO.none _)
      | (with_reducible refine LeO.ite ?_ ?_)
      | (with_reducible refine LeO.bind ?_ (fun _ => ?_))
      | exact ih0 _ _ _
      | exact ih1 _ _ _ _
      | exact cruciblelaw13_awake.mono _
      | exact logline_Get.mono _ _
      | exact logline_Put.mono _ _ _ _
      | exact LeO.none _
      | refine LeO.ite ?_ ?_
      | refine LeO.bind ?_ (fun _ => ?_)
    · intro y0 y1 y2 y3
      unfold cruciblelaw13_LoglineTimes.l0
      repeat' first
      | (with_reducible exact ih0 _ _ _)
      | (with_reducible exact ih1 _ _ _ _)
      | (with_reducible exact cruciblelaw13_awake.mono _)
      | (with_reducible exact logline_Get.mono _ _)
      | (with_reducible exact logline_Put.mono _ _ _ _)
      | (with_reducible exact LeO.refl _)
      | (with_reducible exact LeO.none _)
      | (with_reducible refine LeO.ite ?_ ?_)
      | (with_reducible refine LeO.bind ?_ (fun _ => ?_))
      | exact ih0 _ _ _
      | exact ih1 _ _ _ _
      | exact cruciblelaw13_awake.mono _
      | exact logline_Get.mono _ _
      | exact logline_Put.mono _ _ _ _
      | exact LeO.none _
      | refine LeO.ite ?_ ?_
      | refine LeO.bind ?_ (fun _ => ?_)
theorem cruciblelaw13_LoglineTimes.mono : ∀ a0 k, LeO (cruciblelaw13_LoglineTimes.f k a0) (cruciblelaw13_LoglineTimes.f (k + 1) a0) := by
  intro a0 k
  obtain ⟨ih0, ih1⟩ := cruciblelaw13_LoglineTimes.mono_l k
  unfold cruciblelaw13_LoglineTimes.f
  repeat' first
      | (with_reducible exact ih0 _ _ _)
      | (with_reducible exact ih1 _ _ _ _)
      | (with_reducible exact cruciblelaw13_awake.mono _)
      | (with_reducible exact logline_Get.mono _ _)
      | (with_reducible exact logline_Put.mono _ _ _ _)
      | (with_reducible exact LeO.refl _)
      | (with_reducible exact LeO.none _)
      | (with_reducible refine LeO.ite ?_ ?_)
      | (with_reducible refine LeO.bind ?_ (fun _ => ?_))
      | exact ih0 _ _ _
      | exact ih1 _ _ _ _
      | exact cruciblelaw13_awake.mono _
      | exact logline_Get.mono _ _
      | exact logline_Put.mono _ _ _ _
      | exact LeO.none _
      | refine LeO.ite ?_ ?_
      | refine LeO.bind ?_ (fun _ => ?_)
set_option maxHeartbeats 8000000 in
set_option maxRecDepth 100000 in
theorem cruciblelaw13_LoglineTimes.calls (k : Nat) (a0 : Int) (r : Bool) (w : World) (h : cruciblelaw13_LoglineTimes.f k a0 = some r) (hT : Tb w) :
    Calls Tryd.prog 6 #[.int .i64 a0] w fun e w' => e = .returned (.bool r) ∧ Below w.heap.size w w' := by
  have hu23 := Tryd.underlying23
  have HB := Aside0.mk (Below.refl w.heap.size w)
  have HT0 := Aside0.mk hT
  clear hT
  have H : ((cruciblelaw13_awake.f k).bind fun t261 => (if t261 = true then ((logline_Put.f k (⟨#[111]⟩ : ByteArray) (wrap64 (1 + (wrap64 (Int.tmod (IntKind.u64.wrap (a0)) 1048576)))) (⟨#[120]⟩ : ByteArray)).bind fun bt262 => ((logline_Get.f k bt262.1).bind fun bt264 => ((cruciblelaw0_Num.f bt262.2).bind fun t269 => (if t269 = 0 then ((cruciblelaw0_Num.f bt264.2.2.2).bind fun t270 => (if t270 = 0 then (if bt264.2.1 = (wrap64 (1 + (wrap64 (Int.tmod (IntKind.u64.wrap (a0)) 1048576)))) then (if (bt262.1.size : Int) < 6 then (cruciblelaw13_LoglineTimes.j0 k (wrap64 (1 + (wrap64 (Int.tmod (IntKind.u64.wrap (a0)) 1048576)))) bt262.1 true) else (if 0 ≤ 2 then (if 2 ≤ (bt262.1.size : Int) then (if (bt262.1.extract 0 2).toList = ([111, 9] : List UInt8) then (if 0 ≤ (wrap64 ((bt262.1.size : Int) - 3)) then (if (wrap64 ((bt262.1.size : Int) - 3)) ≤ (bt262.1.size : Int) then (if (bt262.1.extract ((wrap64 ((bt262.1.size : Int) - 3)) : Int).toNat bt262.1.size).toList = ([9, 120, 10] : List UInt8) then (if 2 < (bt262.1.size : Int) then (cruciblelaw13_LoglineTimes.j0 k (wrap64 (1 + (wrap64 (Int.tmod (IntKind.u64.wrap (a0)) 1048576)))) bt262.1 ((bt bt262.1 2) == 48)) else (none)) else (cruciblelaw13_LoglineTimes.j0 k (wrap64 (1 + (wrap64 (Int.tmod (IntKind.u64.wrap (a0)) 1048576)))) bt262.1 true)) else (none)) else (none)) else (cruciblelaw13_LoglineTimes.j0 k (wrap64 (1 + (wrap64 (Int.tmod (IntKind.u64.wrap (a0)) 1048576)))) bt262.1 true)) else (none)) else (none))) else (cruciblelaw13_LoglineTimes.j0 k (wrap64 (1 + (wrap64 (Int.tmod (IntKind.u64.wrap (a0)) 1048576)))) bt262.1 true)) else (cruciblelaw13_LoglineTimes.j0 k (wrap64 (1 + (wrap64 (Int.tmod (IntKind.u64.wrap (a0)) 1048576)))) bt262.1 true))) else (cruciblelaw13_LoglineTimes.j0 k (wrap64 (1 + (wrap64 (Int.tmod (IntKind.u64.wrap (a0)) 1048576)))) bt262.1 true))))) else (some false))) = some r := h
  clear h
  replace H := Option.bind_eq_some_iff.mp H
  obtain ⟨t261, A20, H⟩ := H
  replace H : (if t261 = true then ((logline_Put.f k (⟨#[111]⟩ : ByteArray) (wrap64 (1 + (wrap64 (Int.tmod (IntKind.u64.wrap (a0)) 1048576)))) (⟨#[120]⟩ : ByteArray)).bind fun bt262 => ((logline_Get.f k bt262.1).bind fun bt264 => ((cruciblelaw0_Num.f bt262.2).bind fun t269 => (if t269 = 0 then ((cruciblelaw0_Num.f bt264.2.2.2).bind fun t270 => (if t270 = 0 then (if bt264.2.1 = (wrap64 (1 + (wrap64 (Int.tmod (IntKind.u64.wrap (a0)) 1048576)))) then (if (bt262.1.size : Int) < 6 then (cruciblelaw13_LoglineTimes.j0 k (wrap64 (1 + (wrap64 (Int.tmod (IntKind.u64.wrap (a0)) 1048576)))) bt262.1 true) else (if 0 ≤ 2 then (if 2 ≤ (bt262.1.size : Int) then (if (bt262.1.extract 0 2).toList = ([111, 9] : List UInt8) then (if 0 ≤ (wrap64 ((bt262.1.size : Int) - 3)) then (if (wrap64 ((bt262.1.size : Int) - 3)) ≤ (bt262.1.size : Int) then (if (bt262.1.extract ((wrap64 ((bt262.1.size : Int) - 3)) : Int).toNat bt262.1.size).toList = ([9, 120, 10] : List UInt8) then (if 2 < (bt262.1.size : Int) then (cruciblelaw13_LoglineTimes.j0 k (wrap64 (1 + (wrap64 (Int.tmod (IntKind.u64.wrap (a0)) 1048576)))) bt262.1 ((bt bt262.1 2) == 48)) else (none)) else (cruciblelaw13_LoglineTimes.j0 k (wrap64 (1 + (wrap64 (Int.tmod (IntKind.u64.wrap (a0)) 1048576)))) bt262.1 true)) else (none)) else (none)) else (cruciblelaw13_LoglineTimes.j0 k (wrap64 (1 + (wrap64 (Int.tmod (IntKind.u64.wrap (a0)) 1048576)))) bt262.1 true)) else (none)) else (none))) else (cruciblelaw13_LoglineTimes.j0 k (wrap64 (1 + (wrap64 (Int.tmod (IntKind.u64.wrap (a0)) 1048576)))) bt262.1 true)) else (cruciblelaw13_LoglineTimes.j0 k (wrap64 (1 + (wrap64 (Int.tmod (IntKind.u64.wrap (a0)) 1048576)))) bt262.1 true))) else (cruciblelaw13_LoglineTimes.j0 k (wrap64 (1 + (wrap64 (Int.tmod (IntKind.u64.wrap (a0)) 1048576)))) bt262.1 true))))) else (some false)) = some r := H
  have A2 := Aside0.mk A20
  clear A20
  by_cases c3 : t261 = true
  · subst c3
    have H1 : ((logline_Put.f k (⟨#[111]⟩ : ByteArray) (wrap64 (1 + (wrap64 (Int.tmod (IntKind.u64.wrap (a0)) 1048576)))) (⟨#[120]⟩ : ByteArray)).bind fun bt262 => ((logline_Get.f k bt262.1).bind fun bt264 => ((cruciblelaw0_Num.f bt262.2).bind fun t269 => (if t269 = 0 then ((cruciblelaw0_Num.f bt264.2.2.2).bind fun t270 => (if t270 = 0 then (if bt264.2.1 = (wrap64 (1 + (wrap64 (Int.tmod (IntKind.u64.wrap (a0)) 1048576)))) then (if (bt262.1.size : Int) < 6 then (cruciblelaw13_LoglineTimes.j0 k (wrap64 (1 + (wrap64 (Int.tmod (IntKind.u64.wrap (a0)) 1048576)))) bt262.1 true) else (if 0 ≤ 2 then (if 2 ≤ (bt262.1.size : Int) then (if (bt262.1.extract 0 2).toList = ([111, 9] : List UInt8) then (if 0 ≤ (wrap64 ((bt262.1.size : Int) - 3)) then (if (wrap64 ((bt262.1.size : Int) - 3)) ≤ (bt262.1.size : Int) then (if (bt262.1.extract ((wrap64 ((bt262.1.size : Int) - 3)) : Int).toNat bt262.1.size).toList = ([9, 120, 10] : List UInt8) then (if 2 < (bt262.1.size : Int) then (cruciblelaw13_LoglineTimes.j0 k (wrap64 (1 + (wrap64 (Int.tmod (IntKind.u64.wrap (a0)) 1048576)))) bt262.1 ((bt bt262.1 2) == 48)) else (none)) else (cruciblelaw13_LoglineTimes.j0 k (wrap64 (1 + (wrap64 (Int.tmod (IntKind.u64.wrap (a0)) 1048576)))) bt262.1 true)) else (none)) else (none)) else (cruciblelaw13_LoglineTimes.j0 k (wrap64 (1 + (wrap64 (Int.tmod (IntKind.u64.wrap (a0)) 1048576)))) bt262.1 true)) else (none)) else (none))) else (cruciblelaw13_LoglineTimes.j0 k (wrap64 (1 + (wrap64 (Int.tmod (IntKind.u64.wrap (a0)) 1048576)))) bt262.1 true)) else (cruciblelaw13_LoglineTimes.j0 k (wrap64 (1 + (wrap64 (Int.tmod (IntKind.u64.wrap (a0)) 1048576)))) bt262.1 true))) else (cruciblelaw13_LoglineTimes.j0 k (wrap64 (1 + (wrap64 (Int.tmod (IntKind.u64.wrap (a0)) 1048576)))) bt262.1 true))))) = some r := by rw [if_pos rfl] at H; exact H
    clear H
    have H := H1
    clear H1
    replace H := Option.bind_eq_some_iff.mp H
    obtain ⟨⟨t262, t263⟩, A40, H⟩ := H
    replace H : ((logline_Get.f k t262).bind fun bt264 => ((cruciblelaw0_Num.f t263).bind fun t269 => (if t269 = 0 then ((cruciblelaw0_Num.f bt264.2.2.2).bind fun t270 => (if t270 = 0 then (if bt264.2.1 = (wrap64 (1 + (wrap64 (Int.tmod (IntKind.u64.wrap (a0)) 1048576)))) then (if (t262.size : Int) < 6 then (cruciblelaw13_LoglineTimes.j0 k (wrap64 (1 + (wrap64 (Int.tmod (IntKind.u64.wrap (a0)) 1048576)))) t262 true) else (if 0 ≤ 2 then (if 2 ≤ (t262.size : Int) then (if (t262.extract 0 2).toList = ([111, 9] : List UInt8) then (if 0 ≤ (wrap64 ((t262.size : Int) - 3)) then (if (wrap64 ((t262.size : Int) - 3)) ≤ (t262.size : Int) then (if (t262.extract ((wrap64 ((t262.size : Int) - 3)) : Int).toNat t262.size).toList = ([9, 120, 10] : List UInt8) then (if 2 < (t262.size : Int) then (cruciblelaw13_LoglineTimes.j0 k (wrap64 (1 + (wrap64 (Int.tmod (IntKind.u64.wrap (a0)) 1048576)))) t262 ((bt t262 2) == 48)) else (none)) else (cruciblelaw13_LoglineTimes.j0 k (wrap64 (1 + (wrap64 (Int.tmod (IntKind.u64.wrap (a0)) 1048576)))) t262 true)) else (none)) else (none)) else (cruciblelaw13_LoglineTimes.j0 k (wrap64 (1 + (wrap64 (Int.tmod (IntKind.u64.wrap (a0)) 1048576)))) t262 true)) else (none)) else (none))) else (cruciblelaw13_LoglineTimes.j0 k (wrap64 (1 + (wrap64 (Int.tmod (IntKind.u64.wrap (a0)) 1048576)))) t262 true)) else (cruciblelaw13_LoglineTimes.j0 k (wrap64 (1 + (wrap64 (Int.tmod (IntKind.u64.wrap (a0)) 1048576)))) t262 true))) else (cruciblelaw13_LoglineTimes.j0 k (wrap64 (1 + (wrap64 (Int.tmod (IntKind.u64.wrap (a0)) 1048576)))) t262 true)))) = some r := H
    have A4 := Aside0.mk A40
    clear A40
    replace H := Option.bind_eq_some_iff.mp H
    obtain ⟨⟨t264, t265, t266, t267⟩, A50, H⟩ := H
    replace H : ((cruciblelaw0_Num.f t263).bind fun t269 => (if t269 = 0 then ((cruciblelaw0_Num.f t267).bind fun t270 => (if t270 = 0 then (if t265 = (wrap64 (1 + (wrap64 (Int.tmod (IntKind.u64.wrap (a0)) 1048576)))) then (if (t262.size : Int) < 6 then (cruciblelaw13_LoglineTimes.j0 k (wrap64 (1 + (wrap64 (Int.tmod (IntKind.u64.wrap (a0)) 1048576)))) t262 true) else (if 0 ≤ 2 then (if 2 ≤ (t262.size : Int) then (if (t262.extract 0 2).toList = ([111, 9] : List UInt8) then (if 0 ≤ (wrap64 ((t262.size : Int) - 3)) then (if (wrap64 ((t262.size : Int) - 3)) ≤ (t262.size : Int) then (if (t262.extract ((wrap64 ((t262.size : Int) - 3)) : Int).toNat t262.size).toList = ([9, 120, 10] : List UInt8) then (if 2 < (t262.size : Int) then (cruciblelaw13_LoglineTimes.j0 k (wrap64 (1 + (wrap64 (Int.tmod (IntKind.u64.wrap (a0)) 1048576)))) t262 ((bt t262 2) == 48)) else (none)) else (cruciblelaw13_LoglineTimes.j0 k (wrap64 (1 + (wrap64 (Int.tmod (IntKind.u64.wrap (a0)) 1048576)))) t262 true)) else (none)) else (none)) else (cruciblelaw13_LoglineTimes.j0 k (wrap64 (1 + (wrap64 (Int.tmod (IntKind.u64.wrap (a0)) 1048576)))) t262 true)) else (none)) else (none))) else (cruciblelaw13_LoglineTimes.j0 k (wrap64 (1 + (wrap64 (Int.tmod (IntKind.u64.wrap (a0)) 1048576)))) t262 true)) else (cruciblelaw13_LoglineTimes.j0 k (wrap64 (1 + (wrap64 (Int.tmod (IntKind.u64.wrap (a0)) 1048576)))) t262 true))) else (cruciblelaw13_LoglineTimes.j0 k (wrap64 (1 + (wrap64 (Int.tmod (IntKind.u64.wrap (a0)) 1048576)))) t262 true))) = some r := H
    have A5 := Aside0.mk A50
    clear A50
    have HC6 := Aside0.mk H
    clear H
    go_enter Tryd.func6, Tryd.ntmps6
    go_upto_region 6 with (first | ((with_reducible refine gate_callee (f := 17) rfl ?_); refine goesL_ (some 10) rfl rfl Tryd.func17 (by kernel_rfl) rfl #[] rfl (by (try simp only [List.map_toArray, List.map_cons, List.map_nil]); first | done | rfl | (simp only [List.length_drop, List.length_take]; rfl)) ?_; (with_reducible refine (cruciblelaw13_awake.calls k  true _ A2.out (Tb.below HT0.out (by repeat (first | (with_reducible first | exact HB.out | apply below_alloc | apply pw_below_drewN | apply below_drew1) | exact HB.out)))).mono ?_); rintro e w7 ⟨rfl, hb⟩; refine ⟨_, rfl, ?_⟩; have n0_ := Aside0.mk (below_step (by repeat (first | (with_reducible first | exact HB.out | apply below_alloc | apply pw_below_drewN | apply below_drew1) | exact HB.out)) hb); clear HB; have HB := n0_; clear n0_; (try clear hb); (try clear hb2); (try clear hk); (try clear hi)) | ((with_reducible refine gate_callee (f := 12) rfl ?_); refine goesL_ (some 20) rfl rfl Tryd.func12 (by kernel_rfl) rfl #[.agg #[.string (⟨#[111]⟩ : ByteArray), .int .i64 (wrap64 (1 + (wrap64 (Int.tmod (IntKind.u64.wrap (a0)) 1048576)))), .string (⟨#[120]⟩ : ByteArray)]] rfl (by (try simp only [List.map_toArray, List.map_cons, List.map_nil]); first | done | rfl | (simp only [List.length_drop, List.length_take]; rfl)) ?_; (with_reducible refine (logline_Put.calls k (⟨#[111]⟩ : ByteArray) (wrap64 (1 + (wrap64 (Int.tmod (IntKind.u64.wrap (a0)) 1048576)))) (⟨#[120]⟩ : ByteArray) t262 t263 _ A4.out (Tb.below HT0.out (by repeat (first | (with_reducible first | exact HB.out | apply below_alloc | apply pw_below_drewN | apply below_drew1) | exact HB.out)))).mono ?_); rintro e w8 ⟨rfl, hb⟩; refine ⟨_, rfl, ?_⟩; have n0_ := Aside0.mk (below_step (by repeat (first | (with_reducible first | exact HB.out | apply below_alloc | apply pw_below_drewN | apply below_drew1) | exact HB.out)) hb); clear HB; have HB := n0_; clear n0_; (try clear hb); (try clear hb2); (try clear hk); (try clear hi)) | ((with_reducible refine gate_callee (f := 14) rfl ?_); refine goesL_ (some 25) rfl rfl Tryd.func14 (by kernel_rfl) rfl #[.string t262] rfl (by (try simp only [List.map_toArray, List.map_cons, List.map_nil]); first | done | rfl | (simp only [List.length_drop, List.length_take]; rfl)) ?_; (with_reducible refine (logline_Get.calls k t262 t264 t265 t266 t267 _ A5.out (Tb.below HT0.out (by repeat (first | (with_reducible first | exact HB.out | apply below_alloc | apply pw_below_drewN | apply below_drew1) | exact HB.out)))).mono ?_); rintro e w9 ⟨rfl, hb⟩; refine ⟨_, rfl, ?_⟩; have n0_ := Aside0.mk (below_step (by repeat (first | (with_reducible first | exact HB.out | apply below_alloc | apply pw_below_drewN | apply below_drew1) | exact HB.out)) hb); clear HB; have HB := n0_; clear n0_; (try clear hb); (try clear hb2); (try clear hk); (try clear hi)) | ((with_reducible refine gate_dst (N := 6) rfl ?_); (try (refine gate_guard (by rfl) ?_; dsimp only)); refine box_event ?hg (N := 6) ?hd (cs := #[.string (⟨#[]⟩ : ByteArray), .int .i64 0, .string (⟨#[]⟩ : ByteArray)]) (t := 23) ?hr ?_; (case hd => rfl); (case hg => rfl); (case hr => first | (go_simp; done) | (go_simp; rfl)); intro gb268 hg w10 hbox hb; have n0_ := Aside0.mk (below_step (by repeat (first | (with_reducible first | exact HB.out | apply below_alloc | apply pw_below_drewN | apply below_drew1) | exact HB.out)) hb); have n1_ := Aside0.mk (hbox); have n2_ := Aside0.mk ((by rw [hg]; exact (below_size (by repeat (first | (with_reducible first | exact HB.out | apply below_alloc | apply pw_below_drewN | apply below_drew1) | exact HB.out))) : w.heap.size ≤ gb268)); have n3_ := Aside0.mk ((by rw [hg]; exact (below_size (by repeat (first | (with_reducible first | exact HB.out | apply below_alloc | apply pw_below_drewN | apply below_drew1) | exact HB.out))) : w.heap.size ≤ gb268)); clear HB; have HB := n0_; have BK268 := n1_; have GW268 := n2_; have GE268 := n3_; clear n0_ n1_ n2_ n3_; clear hb hbox hg; have hcz11_0 : w10.cell? ⟨gb268, 0, none⟩ = some (.string (⟨#[]⟩ : ByteArray)) := (blk_cell BK268.out 0).trans rfl; have hcz11_1 : w10.cell? ⟨gb268, 1, none⟩ = some (.int .i64 0) := (blk_cell BK268.out 1).trans rfl; have hcz11_2 : w10.cell? ⟨gb268, 2, none⟩ = some (.string (⟨#[]⟩ : ByteArray)) := (blk_cell BK268.out 2).trans rfl; have hfz11_0 := blk_frozen BK268.out 0; have hfz11_1 := blk_frozen BK268.out 1; have hfz11_2 := blk_frozen BK268.out 2))
    (try simp only [Act.put, List.setIfInBounds_toArray, List.set_cons_zero, List.set_cons_succ])
    go_cut [64] (fun v64 wc => ∃ (kq : Nat) (x64_5 : Bool), v64 = .bool x64_5 ∧ Aside0 (cruciblelaw13_LoglineTimes.j0 kq (wrap64 (1 + (wrap64 (Int.tmod (IntKind.u64.wrap (a0)) 1048576)))) t262 x64_5 = some r) ∧ Aside0 (kq ≤ k) ∧ Aside0 (wc.heap[gb268]? = some (.cells #[.string t264, .int .i64 t265, .string t266] 23 (0, 0))) ∧ Aside0 (Below w.heap.size w wc))
    case first =>
      have H := HC6.out
      clear HC6
      replace H := Option.bind_eq_some_iff.mp H
      obtain ⟨t269, A120, H⟩ := H
      replace H : (if t269 = 0 then ((cruciblelaw0_Num.f t267).bind fun t270 => (if t270 = 0 then (if t265 = (wrap64 (1 + (wrap64 (Int.tmod (IntKind.u64.wrap (a0)) 1048576)))) then (if (t262.size : Int) < 6 then (cruciblelaw13_LoglineTimes.j0 k (wrap64 (1 + (wrap64 (Int.tmod (IntKind.u64.wrap (a0)) 1048576)))) t262 true) else (if 0 ≤ 2 then (if 2 ≤ (t262.size : Int) then (if (t262.extract 0 2).toList = ([111, 9] : List UInt8) then (if 0 ≤ (wrap64 ((t262.size : Int) - 3)) then (if (wrap64 ((t262.size : Int) - 3)) ≤ (t262.size : Int) then (if (t262.extract ((wrap64 ((t262.size : Int) - 3)) : Int).toNat t262.size).toList = ([9, 120, 10] : List UInt8) then (if 2 < (t262.size : Int) then (cruciblelaw13_LoglineTimes.j0 k (wrap64 (1 + (wrap64 (Int.tmod (IntKind.u64.wrap (a0)) 1048576)))) t262 ((bt t262 2) == 48)) else (none)) else (cruciblelaw13_LoglineTimes.j0 k (wrap64 (1 + (wrap64 (Int.tmod (IntKind.u64.wrap (a0)) 1048576)))) t262 true)) else (none)) else (none)) else (cruciblelaw13_LoglineTimes.j0 k (wrap64 (1 + (wrap64 (Int.tmod (IntKind.u64.wrap (a0)) 1048576)))) t262 true)) else (none)) else (none))) else (cruciblelaw13_LoglineTimes.j0 k (wrap64 (1 + (wrap64 (Int.tmod (IntKind.u64.wrap (a0)) 1048576)))) t262 true)) else (cruciblelaw13_LoglineTimes.j0 k (wrap64 (1 + (wrap64 (Int.tmod (IntKind.u64.wrap (a0)) 1048576)))) t262 true))) else (cruciblelaw13_LoglineTimes.j0 k (wrap64 (1 + (wrap64 (Int.tmod (IntKind.u64.wrap (a0)) 1048576)))) t262 true)) = some r := H
      have A12 := Aside0.mk A120
      clear A120
      by_cases c13 : t269 = 0
      · rw [if_pos c13] at H
        have c13b0 : (t269 == 0) = true := beq_iff_eq.mpr c13
        have c13b1 : (t269 != 0) = false := bne_eq_false_iff_eq.mpr c13
        clear c13
        (first | rw [c13b0] | (simp only [i64_w, i32_w]; rw [c13b0]) | rw [c13b2] | skip)
        replace H := Option.bind_eq_some_iff.mp H
        obtain ⟨t270, A140, H⟩ := H
        replace H : (if t270 = 0 then (if t265 = (wrap64 (1 + (wrap64 (Int.tmod (IntKind.u64.wrap (a0)) 1048576)))) then (if (t262.size : Int) < 6 then (cruciblelaw13_LoglineTimes.j0 k (wrap64 (1 + (wrap64 (Int.tmod (IntKind.u64.wrap (a0)) 1048576)))) t262 true) else (if 0 ≤ 2 then (if 2 ≤ (t262.size : Int) then (if (t262.extract 0 2).toList = ([111, 9] : List UInt8) then (if 0 ≤ (wrap64 ((t262.size : Int) - 3)) then (if (wrap64 ((t262.size : Int) - 3)) ≤ (t262.size : Int) then (if (t262.extract ((wrap64 ((t262.size : Int) - 3)) : Int).toNat t262.size).toList = ([9, 120, 10] : List UInt8) then (if 2 < (t262.size : Int) then (cruciblelaw13_LoglineTimes.j0 k (wrap64 (1 + (wrap64 (Int.tmod (IntKind.u64.wrap (a0)) 1048576)))) t262 ((bt t262 2) == 48)) else (none)) else (cruciblelaw13_LoglineTimes.j0 k (wrap64 (1 + (wrap64 (Int.tmod (IntKind.u64.wrap (a0)) 1048576)))) t262 true)) else (none)) else (none)) else (cruciblelaw13_LoglineTimes.j0 k (wrap64 (1 + (wrap64 (Int.tmod (IntKind.u64.wrap (a0)) 1048576)))) t262 true)) else (none)) else (none))) else (cruciblelaw13_LoglineTimes.j0 k (wrap64 (1 + (wrap64 (Int.tmod (IntKind.u64.wrap (a0)) 1048576)))) t262 true)) else (cruciblelaw13_LoglineTimes.j0 k (wrap64 (1 + (wrap64 (Int.tmod (IntKind.u64.wrap (a0)) 1048576)))) t262 true)) = some r := H
        have A14 := Aside0.mk A140
        clear A140
        by_cases c15 : t270 = 0
        · rw [if_pos c15] at H
          have c15b0 : (t270 == 0) = true := beq_iff_eq.mpr c15
          have c15b1 : (t270 != 0) = false := bne_eq_false_iff_eq.mpr c15
          clear c15
          by_cases c16 : t265 = (wrap64 (1 + (wrap64 (Int.tmod (IntKind.u64.wrap (a0)) 1048576))))
          · rw [if_pos c16] at H
            have c16b0 : (t265 == (wrap64 (1 + (wrap64 (Int.tmod (IntKind.u64.wrap (a0)) 1048576))))) = true := beq_iff_eq.mpr c16
            have c16b1 : (t265 != (wrap64 (1 + (wrap64 (Int.tmod (IntKind.u64.wrap (a0)) 1048576))))) = false := bne_eq_false_iff_eq.mpr c16
            clear c16
            by_cases c17 : (t262.size : Int) < 6
            · rw [if_pos c17] at H
              have c17b0 : decide ((t262.size : Int) < 6) = true := decide_eq_true c17
              have c17b1 : decide (t262.size < 6) = true := decide_eq_true (by omega)
              clear c17
              have H' := Aside0.mk H
              clear H
              go_wp2_with (first | ((with_reducible refine gate_callee (f := 16) rfl ?_); refine goesL_ (some 29) rfl rfl Tryd.func16 (by kernel_rfl) rfl #[.int .i64 t263] rfl (by (try simp only [List.map_toArray, List.map_cons, List.map_nil]); first | done | rfl | (simp only [List.length_drop, List.length_take]; rfl)) ?_; (with_reducible refine (cruciblelaw0_Num.calls t263 t269 _ A12.out).mono ?_); rintro e w' ⟨rfl, ⟨nd, rfl⟩⟩; refine ⟨_, rfl, ?_⟩) | (go_at_call 16; (with_reducible refine (cruciblelaw0_Num.calls t267 t270 _ A14.out).mono ?_); rintro e w' ⟨rfl, ⟨nd, rfl⟩⟩; have hcz18_0 : w10.cell? ⟨gb268, 0, none⟩ = some (.string (⟨#[]⟩ : ByteArray)) := (blk_cell BK268.out 0).trans rfl; have hcz18_1 : w10.cell? ⟨gb268, 1, none⟩ = some (.int .i64 0) := (blk_cell BK268.out 1).trans rfl; have hcz18_2 : w10.cell? ⟨gb268, 2, none⟩ = some (.string (⟨#[]⟩ : ByteArray)) := (blk_cell BK268.out 2).trans rfl; have hfz18_0 := blk_frozen BK268.out 0; have hfz18_1 := blk_frozen BK268.out 1; have hfz18_2 := blk_frozen BK268.out 2))
              go_meet
              case rel => exact ⟨_, (true), (by first | rfl | (simp; done) | (simp [*]; done)), H', ⟨by first | omega | exact Nat.le_refl _⟩, ⟨by (with_reducible repeat (first | refine blk_drewN ?_ _ | refine blk_drew ?_ | refine blk_alloc ?_ _)); refine blk_put (cs := #[.string t264, .int .i64 t265, .string (⟨#[]⟩ : ByteArray)]) ?_ 2 _ rfl; (with_reducible repeat (first | refine blk_drewN ?_ _ | refine blk_drew ?_ | refine blk_alloc ?_ _)); refine blk_put (cs := #[.string t264, .int .i64 0, .string (⟨#[]⟩ : ByteArray)]) ?_ 1 _ rfl; (with_reducible repeat (first | refine blk_drewN ?_ _ | refine blk_drew ?_ | refine blk_alloc ?_ _)); refine blk_put (cs := #[.string (⟨#[]⟩ : ByteArray), .int .i64 0, .string (⟨#[]⟩ : ByteArray)]) ?_ 0 _ rfl; (with_reducible repeat (first | refine blk_drewN ?_ _ | refine blk_drew ?_ | refine blk_alloc ?_ _)); exact BK268.out⟩, ⟨by repeat (first | (with_reducible first | exact HB.out | apply below_alloc | apply pw_below_drewN | apply below_drew1 | refine below_set ?_ GE268.out) | exact HB.out)⟩⟩
            · rw [if_neg c17] at H
              have c17b0 : decide ((t262.size : Int) < 6) = false := decide_eq_false c17
              have c17b1 : decide (t262.size < 6) = false := decide_eq_false (by omega)
              clear c17
              by_cases c19 : 0 ≤ 2
              · rw [if_pos c19] at H
                have c19b0 := eq_true c19
                have c19b1 : decide (0 ≤ 2) = true := decide_eq_true c19
                clear c19
                by_cases c20 : 2 ≤ (t262.size : Int)
                · rw [if_pos c20] at H
                  have c20b0 := eq_true c20
                  have c20b1 : decide (2 ≤ (t262.size : Int)) = true := decide_eq_true c20
                  clear c20
                  by_cases c21 : (t262.extract 0 2).toList = ([111, 9] : List UInt8)
                  · rw [if_pos c21] at H
                    have c21b0 : ((t262.extract 0 2).toList == ([111, 9] : List UInt8)) = true := beq_iff_eq.mpr c21
                    have c21b1 : ((t262.extract 0 2).toList != ([111, 9] : List UInt8)) = false := bne_eq_false_iff_eq.mpr c21
                    clear c21
                    obtain ⟨ji22, hji22⟩ : ∃ j_ : Int, (wrap64 ((t262.size : Int) - 3)) = j_ := ⟨_, rfl⟩
                    replace H : (if 0 ≤ (ji22) then (if (ji22) ≤ (t262.size : Int) then (if (t262.extract ((ji22) : Int).toNat t262.size).toList = ([9, 120, 10] : List UInt8) then (if 2 < (t262.size : Int) then (cruciblelaw13_LoglineTimes.j0 k (wrap64 (1 + (wrap64 (Int.tmod (IntKind.u64.wrap (a0)) 1048576)))) t262 ((bt t262 2) == 48)) else (none)) else (cruciblelaw13_LoglineTimes.j0 k (wrap64 (1 + (wrap64 (Int.tmod (IntKind.u64.wrap (a0)) 1048576)))) t262 true)) else (none)) else (none)) = some r := by first | (rw [hji22] at H; exact H) | (simp only [hji22] at H ⊢; exact H)
                    (try rw [hji22] at A12)
                    (try rw [hji22] at A14)
                    have hji22w : (IntKind.i64.wrap ((t262.size : Int) - 3)) = ji22 := (i64_w _).trans hji22
                    by_cases c23 : 0 ≤ (ji22)
                    · rw [if_pos c23] at H
                      have c23b0 := eq_true c23
                      have c23b1 : decide (0 ≤ (ji22)) = true := decide_eq_true c23
                      clear c23
                      by_cases c24 : (ji22) ≤ (t262.size : Int)
                      · rw [if_pos c24] at H
                        have c24b0 := eq_true c24
                        have c24b1 : decide ((ji22) ≤ (t262.size : Int)) = true := decide_eq_true c24
                        clear c24
                        by_cases c25 : (t262.extract ((ji22) : Int).toNat t262.size).toList = ([9, 120, 10] : List UInt8)
                        · rw [if_pos c25] at H
                          have c25b0 : ((t262.extract ((ji22) : Int).toNat t262.size).toList == ([9, 120, 10] : List UInt8)) = true := beq_iff_eq.mpr c25
                          have c25b1 : ((t262.extract ((ji22) : Int).toNat t262.size).toList != ([9, 120, 10] : List UInt8)) = false := bne_eq_false_iff_eq.mpr c25
                          clear c25
                          by_cases c26 : 2 < (t262.size : Int)
                          · rw [if_pos c26] at H
                            have c26b0 : decide (2 < (t262.size : Int)) = true := decide_eq_true c26
                            have c26b1 : decide (2 < t262.size) = true := decide_eq_true (by omega)
                            clear c26
                            have H' := Aside0.mk H
                            clear H
                            go_wp2_with (first | ((with_reducible refine gate_callee (f := 16) rfl ?_); refine goesL_ (some 29) rfl rfl Tryd.func16 (by kernel_rfl) rfl #[.int .i64 t263] rfl (by (try simp only [List.map_toArray, List.map_cons, List.map_nil]); first | done | rfl | (simp only [List.length_drop, List.length_take]; rfl)) ?_; (with_reducible refine (cruciblelaw0_Num.calls t263 t269 _ A12.out).mono ?_); rintro e w' ⟨rfl, ⟨nd, rfl⟩⟩; refine ⟨_, rfl, ?_⟩) | (go_at_call 16; (with_reducible refine (cruciblelaw0_Num.calls t267 t270 _ A14.out).mono ?_); rintro e w' ⟨rfl, ⟨nd, rfl⟩⟩; have hcz28_0 : w10.cell? ⟨gb268, 0, none⟩ = some (.string (⟨#[]⟩ : ByteArray)) := (blk_cell BK268.out 0).trans rfl; have hcz28_1 : w10.cell? ⟨gb268, 1, none⟩ = some (.int .i64 0) := (blk_cell BK268.out 1).trans rfl; have hcz28_2 : w10.cell? ⟨gb268, 2, none⟩ = some (.string (⟨#[]⟩ : ByteArray)) := (blk_cell BK268.out 2).trans rfl; have hfz28_0 := blk_frozen BK268.out 0; have hfz28_1 := blk_frozen BK268.out 1; have hfz28_2 := blk_frozen BK268.out 2; have p27 : 0 ≤ (2 : Int) := (by omega); have q27 : 2 < t262.size := (by have : (2 : Int) < (t262.size : Int) := of_decide_eq_true (by first | (with_reducible assumption) | assumption); omega); have hx27 : ∀ h : 2 < t262.size, ((t262[2]'h).toNat : Int) = bt t262 2 := bt_at t262 2; clear p27; have qi27 : (2 < (t262.size : Int)) = True := eq_true (of_decide_eq_true (by first | (with_reducible assumption) | assumption)); replace q27 := eq_true q27))
                            go_meet
                            case rel => exact ⟨_, (((bt t262 2) == 48)), (by first | rfl | (simp; done) | (simp [*]; done)), H', ⟨by first | omega | exact Nat.le_refl _⟩, ⟨by (with_reducible repeat (first | refine blk_drewN ?_ _ | refine blk_drew ?_ | refine blk_alloc ?_ _)); refine blk_put (cs := #[.string t264, .int .i64 t265, .string (⟨#[]⟩ : ByteArray)]) ?_ 2 _ rfl; (with_reducible repeat (first | refine blk_drewN ?_ _ | refine blk_drew ?_ | refine blk_alloc ?_ _)); refine blk_put (cs := #[.string t264, .int .i64 0, .string (⟨#[]⟩ : ByteArray)]) ?_ 1 _ rfl; (with_reducible repeat (first | refine blk_drewN ?_ _ | refine blk_drew ?_ | refine blk_alloc ?_ _)); refine blk_put (cs := #[.string (⟨#[]⟩ : ByteArray), .int .i64 0, .string (⟨#[]⟩ : ByteArray)]) ?_ 0 _ rfl; (with_reducible repeat (first | refine blk_drewN ?_ _ | refine blk_drew ?_ | refine blk_alloc ?_ _)); exact BK268.out⟩, ⟨by repeat (first | (with_reducible first | exact HB.out | apply below_alloc | apply pw_below_drewN | apply below_drew1 | refine below_set ?_ GE268.out) | exact HB.out)⟩⟩
                          · rw [if_neg c26] at H
                            exact absurd H (by simp)
                        · rw [if_neg c25] at H
                          have c25b0 : ((t262.extract ((ji22) : Int).toNat t262.size).toList == ([9, 120, 10] : List UInt8)) = false := beq_eq_false_iff_ne.mpr c25
                          have c25b1 : ((t262.extract ((ji22) : Int).toNat t262.size).toList != ([9, 120, 10] : List UInt8)) = true := bne_iff_ne.mpr c25
                          have H' := Aside0.mk H
                          clear H
                          go_wp2_with (first | ((with_reducible refine gate_callee (f := 16) rfl ?_); refine goesL_ (some 29) rfl rfl Tryd.func16 (by kernel_rfl) rfl #[.int .i64 t263] rfl (by (try simp only [List.map_toArray, List.map_cons, List.map_nil]); first | done | rfl | (simp only [List.length_drop, List.length_take]; rfl)) ?_; (with_reducible refine (cruciblelaw0_Num.calls t263 t269 _ A12.out).mono ?_); rintro e w' ⟨rfl, ⟨nd, rfl⟩⟩; refine ⟨_, rfl, ?_⟩) | (go_at_call 16; (with_reducible refine (cruciblelaw0_Num.calls t267 t270 _ A14.out).mono ?_); rintro e w' ⟨rfl, ⟨nd, rfl⟩⟩; have hcz29_0 : w10.cell? ⟨gb268, 0, none⟩ = some (.string (⟨#[]⟩ : ByteArray)) := (blk_cell BK268.out 0).trans rfl; have hcz29_1 : w10.cell? ⟨gb268, 1, none⟩ = some (.int .i64 0) := (blk_cell BK268.out 1).trans rfl; have hcz29_2 : w10.cell? ⟨gb268, 2, none⟩ = some (.string (⟨#[]⟩ : ByteArray)) := (blk_cell BK268.out 2).trans rfl; have hfz29_0 := blk_frozen BK268.out 0; have hfz29_1 := blk_frozen BK268.out 1; have hfz29_2 := blk_frozen BK268.out 2))
                          go_meet
                          case rel => exact ⟨_, (true), (by first | rfl | (simp; done) | (simp [*]; done)), H', ⟨by first | omega | exact Nat.le_refl _⟩, ⟨by (with_reducible repeat (first | refine blk_drewN ?_ _ | refine blk_drew ?_ | refine blk_alloc ?_ _)); refine blk_put (cs := #[.string t264, .int .i64 t265, .string (⟨#[]⟩ : ByteArray)]) ?_ 2 _ rfl; (with_reducible repeat (first | refine blk_drewN ?_ _ | refine blk_drew ?_ | refine blk_alloc ?_ _)); refine blk_put (cs := #[.string t264, .int .i64 0, .string (⟨#[]⟩ : ByteArray)]) ?_ 1 _ rfl; (with_reducible repeat (first | refine blk_drewN ?_ _ | refine blk_drew ?_ | refine blk_alloc ?_ _)); refine blk_put (cs := #[.string (⟨#[]⟩ : ByteArray), .int .i64 0, .string (⟨#[]⟩ : ByteArray)]) ?_ 0 _ rfl; (with_reducible repeat (first | refine blk_drewN ?_ _ | refine blk_drew ?_ | refine blk_alloc ?_ _)); exact BK268.out⟩, ⟨by repeat (first | (with_reducible first | exact HB.out | apply below_alloc | apply pw_below_drewN | apply below_drew1 | refine below_set ?_ GE268.out) | exact HB.out)⟩⟩
                      · rw [if_neg c24] at H
                        exact absurd H (by simp)
                    · rw [if_neg c23] at H
                      exact absurd H (by simp)
                  · rw [if_neg c21] at H
                    have c21b0 : ((t262.extract 0 2).toList == ([111, 9] : List UInt8)) = false := beq_eq_false_iff_ne.mpr c21
                    have c21b1 : ((t262.extract 0 2).toList != ([111, 9] : List UInt8)) = true := bne_iff_ne.mpr c21
                    have H' := Aside0.mk H
                    clear H
                    go_wp2_with (first | ((with_reducible refine gate_callee (f := 16) rfl ?_); refine goesL_ (some 29) rfl rfl Tryd.func16 (by kernel_rfl) rfl #[.int .i64 t263] rfl (by (try simp only [List.map_toArray, List.map_cons, List.map_nil]); first | done | rfl | (simp only [List.length_drop, List.length_take]; rfl)) ?_; (with_reducible refine (cruciblelaw0_Num.calls t263 t269 _ A12.out).mono ?_); rintro e w' ⟨rfl, ⟨nd, rfl⟩⟩; refine ⟨_, rfl, ?_⟩) | (go_at_call 16; (with_reducible refine (cruciblelaw0_Num.calls t267 t270 _ A14.out).mono ?_); rintro e w' ⟨rfl, ⟨nd, rfl⟩⟩; have hcz30_0 : w10.cell? ⟨gb268, 0, none⟩ = some (.string (⟨#[]⟩ : ByteArray)) := (blk_cell BK268.out 0).trans rfl; have hcz30_1 : w10.cell? ⟨gb268, 1, none⟩ = some (.int .i64 0) := (blk_cell BK268.out 1).trans rfl; have hcz30_2 : w10.cell? ⟨gb268, 2, none⟩ = some (.string (⟨#[]⟩ : ByteArray)) := (blk_cell BK268.out 2).trans rfl; have hfz30_0 := blk_frozen BK268.out 0; have hfz30_1 := blk_frozen BK268.out 1; have hfz30_2 := blk_frozen BK268.out 2))
                    go_meet
                    case rel => exact ⟨_, (true), (by first | rfl | (simp; done) | (simp [*]; done)), H', ⟨by first | omega | exact Nat.le_refl _⟩, ⟨by (with_reducible repeat (first | refine blk_drewN ?_ _ | refine blk_drew ?_ | refine blk_alloc ?_ _)); refine blk_put (cs := #[.string t264, .int .i64 t265, .string (⟨#[]⟩ : ByteArray)]) ?_ 2 _ rfl; (with_reducible repeat (first | refine blk_drewN ?_ _ | refine blk_drew ?_ | refine blk_alloc ?_ _)); refine blk_put (cs := #[.string t264, .int .i64 0, .string (⟨#[]⟩ : ByteArray)]) ?_ 1 _ rfl; (with_reducible repeat (first | refine blk_drewN ?_ _ | refine blk_drew ?_ | refine blk_alloc ?_ _)); refine blk_put (cs := #[.string (⟨#[]⟩ : ByteArray), .int .i64 0, .string (⟨#[]⟩ : ByteArray)]) ?_ 0 _ rfl; (with_reducible repeat (first | refine blk_drewN ?_ _ | refine blk_drew ?_ | refine blk_alloc ?_ _)); exact BK268.out⟩, ⟨by repeat (first | (with_reducible first | exact HB.out | apply below_alloc | apply pw_below_drewN | apply below_drew1 | refine below_set ?_ GE268.out) | exact HB.out)⟩⟩
                · rw [if_neg c20] at H
                  exact absurd H (by simp)
              · rw [if_neg c19] at H
                exact absurd H (by simp)
          · rw [if_neg c16] at H
            have c16b0 : (t265 == (wrap64 (1 + (wrap64 (Int.tmod (IntKind.u64.wrap (a0)) 1048576))))) = false := beq_eq_false_iff_ne.mpr c16
            have c16b1 : (t265 != (wrap64 (1 + (wrap64 (Int.tmod (IntKind.u64.wrap (a0)) 1048576))))) = true := bne_iff_ne.mpr c16
            have H' := Aside0.mk H
            clear H
            go_wp2_with (first | ((with_reducible refine gate_callee (f := 16) rfl ?_); refine goesL_ (some 29) rfl rfl Tryd.func16 (by kernel_rfl) rfl #[.int .i64 t263] rfl (by (try simp only [List.map_toArray, List.map_cons, List.map_nil]); first | done | rfl | (simp only [List.length_drop, List.length_take]; rfl)) ?_; (with_reducible refine (cruciblelaw0_Num.calls t263 t269 _ A12.out).mono ?_); rintro e w' ⟨rfl, ⟨nd, rfl⟩⟩; refine ⟨_, rfl, ?_⟩) | (go_at_call 16; (with_reducible refine (cruciblelaw0_Num.calls t267 t270 _ A14.out).mono ?_); rintro e w' ⟨rfl, ⟨nd, rfl⟩⟩; have hcz31_0 : w10.cell? ⟨gb268, 0, none⟩ = some (.string (⟨#[]⟩ : ByteArray)) := (blk_cell BK268.out 0).trans rfl; have hcz31_1 : w10.cell? ⟨gb268, 1, none⟩ = some (.int .i64 0) := (blk_cell BK268.out 1).trans rfl; have hcz31_2 : w10.cell? ⟨gb268, 2, none⟩ = some (.string (⟨#[]⟩ : ByteArray)) := (blk_cell BK268.out 2).trans rfl; have hfz31_0 := blk_frozen BK268.out 0; have hfz31_1 := blk_frozen BK268.out 1; have hfz31_2 := blk_frozen BK268.out 2))
            go_meet
            case rel => exact ⟨_, (true), (by first | rfl | (simp; done) | (simp [*]; done)), H', ⟨by first | omega | exact Nat.le_refl _⟩, ⟨by (with_reducible repeat (first | refine blk_drewN ?_ _ | refine blk_drew ?_ | refine blk_alloc ?_ _)); refine blk_put (cs := #[.string t264, .int .i64 t265, .string (⟨#[]⟩ : ByteArray)]) ?_ 2 _ rfl; (with_reducible repeat (first | refine blk_drewN ?_ _ | refine blk_drew ?_ | refine blk_alloc ?_ _)); refine blk_put (cs := #[.string t264, .int .i64 0, .string (⟨#[]⟩ : ByteArray)]) ?_ 1 _ rfl; (with_reducible repeat (first | refine blk_drewN ?_ _ | refine blk_drew ?_ | refine blk_alloc ?_ _)); refine blk_put (cs := #[.string (⟨#[]⟩ : ByteArray), .int .i64 0, .string (⟨#[]⟩ : ByteArray)]) ?_ 0 _ rfl; (with_reducible repeat (first | refine blk_drewN ?_ _ | refine blk_drew ?_ | refine blk_alloc ?_ _)); exact BK268.out⟩, ⟨by repeat (first | (with_reducible first | exact HB.out | apply below_alloc | apply pw_below_drewN | apply below_drew1 | refine below_set ?_ GE268.out) | exact HB.out)⟩⟩
        · rw [if_neg c15] at H
          have c15b0 : (t270 == 0) = false := beq_eq_false_iff_ne.mpr c15
          have c15b1 : (t270 != 0) = true := bne_iff_ne.mpr c15
          have H' := Aside0.mk H
          clear H
          go_wp2_with (first | ((with_reducible refine gate_callee (f := 16) rfl ?_); refine goesL_ (some 29) rfl rfl Tryd.func16 (by kernel_rfl) rfl #[.int .i64 t263] rfl (by (try simp only [List.map_toArray, List.map_cons, List.map_nil]); first | done | rfl | (simp only [List.length_drop, List.length_take]; rfl)) ?_; (with_reducible refine (cruciblelaw0_Num.calls t263 t269 _ A12.out).mono ?_); rintro e w' ⟨rfl, ⟨nd, rfl⟩⟩; refine ⟨_, rfl, ?_⟩) | (go_at_call 16; (with_reducible refine (cruciblelaw0_Num.calls t267 t270 _ A14.out).mono ?_); rintro e w' ⟨rfl, ⟨nd, rfl⟩⟩))
          go_meet
          case rel => exact ⟨_, (true), (by first | rfl | (simp; done) | (simp [*]; done)), H', ⟨by first | omega | exact Nat.le_refl _⟩, ⟨by (with_reducible repeat (first | refine blk_drewN ?_ _ | refine blk_drew ?_ | refine blk_alloc ?_ _)); refine blk_put (cs := #[.string t264, .int .i64 t265, .string (⟨#[]⟩ : ByteArray)]) ?_ 2 _ rfl; (with_reducible repeat (first | refine blk_drewN ?_ _ | refine blk_drew ?_ | refine blk_alloc ?_ _)); refine blk_put (cs := #[.string t264, .int .i64 0, .string (⟨#[]⟩ : ByteArray)]) ?_ 1 _ rfl; (with_reducible repeat (first | refine blk_drewN ?_ _ | refine blk_drew ?_ | refine blk_alloc ?_ _)); refine blk_put (cs := #[.string (⟨#[]⟩ : ByteArray), .int .i64 0, .string (⟨#[]⟩ : ByteArray)]) ?_ 0 _ rfl; (with_reducible repeat (first | refine blk_drewN ?_ _ | refine blk_drew ?_ | refine blk_alloc ?_ _)); exact BK268.out⟩, ⟨by repeat (first | (with_reducible first | exact HB.out | apply below_alloc | apply pw_below_drewN | apply below_drew1 | refine below_set ?_ GE268.out) | exact HB.out)⟩⟩
      · rw [if_neg c13] at H
        have c13b0 : (t269 == 0) = false := beq_eq_false_iff_ne.mpr c13
        have c13b1 : (t269 != 0) = true := bne_iff_ne.mpr c13
        (first | rw [c13b0] | (simp only [i64_w, i32_w]; rw [c13b0]) | rw [c13b2] | skip)
        have H' := Aside0.mk H
        clear H
        go_wp2_with (first | ((with_reducible refine gate_callee (f := 16) rfl ?_); refine goesL_ (some 29) rfl rfl Tryd.func16 (by kernel_rfl) rfl #[.int .i64 t263] rfl (by (try simp only [List.map_toArray, List.map_cons, List.map_nil]); first | done | rfl | (simp only [List.length_drop, List.length_take]; rfl)) ?_; (with_reducible refine (cruciblelaw0_Num.calls t263 t269 _ A12.out).mono ?_); rintro e w' ⟨rfl, ⟨nd, rfl⟩⟩; refine ⟨_, rfl, ?_⟩))
        go_meet
        case rel => exact ⟨_, (true), (by first | rfl | (simp; done) | (simp [*]; done)), H', ⟨by first | omega | exact Nat.le_refl _⟩, ⟨by (with_reducible repeat (first | refine blk_drewN ?_ _ | refine blk_drew ?_ | refine blk_alloc ?_ _)); refine blk_put (cs := #[.string t264, .int .i64 t265, .string (⟨#[]⟩ : ByteArray)]) ?_ 2 _ rfl; (with_reducible repeat (first | refine blk_drewN ?_ _ | refine blk_drew ?_ | refine blk_alloc ?_ _)); refine blk_put (cs := #[.string t264, .int .i64 0, .string (⟨#[]⟩ : ByteArray)]) ?_ 1 _ rfl; (with_reducible repeat (first | refine blk_drewN ?_ _ | refine blk_drew ?_ | refine blk_alloc ?_ _)); refine blk_put (cs := #[.string (⟨#[]⟩ : ByteArray), .int .i64 0, .string (⟨#[]⟩ : ByteArray)]) ?_ 0 _ rfl; (with_reducible repeat (first | refine blk_drewN ?_ _ | refine blk_drew ?_ | refine blk_alloc ?_ _)); exact BK268.out⟩, ⟨by repeat (first | (with_reducible first | exact HB.out | apply below_alloc | apply pw_below_drewN | apply below_drew1 | refine below_set ?_ GE268.out) | exact HB.out)⟩⟩
    case rest =>
      clear HC6
      try clear c1
      try clear c2
      try clear p2
      try clear q2
      try clear hx2
      try clear qi2
      try clear c3
      try clear c6
      try clear p6
      try clear c12
      try clear c13
      try clear c13b0
      try clear c13b1
      try clear c13b2
      try clear c14
      try clear c15
      try clear c15b0
      try clear c15b1
      try clear c16
      try clear c16b0
      try clear c16b1
      try clear c17
      try clear c17b0
      try clear c17b1
      try clear c19
      try clear c19b0
      try clear c19b1
      try clear c20
      try clear c20b0
      try clear c20b1
      try clear c21
      try clear c21b0
      try clear c21b1
      try clear c23
      try clear c23b0
      try clear c23b1
      try clear c24
      try clear c24b0
      try clear c24b1
      try clear c25
      try clear c25b0
      try clear c25b1
      try clear c26
      try clear c26b0
      try clear c26b1
      try clear p27
      try clear q27
      try clear hx27
      try clear qi27
      try clear hcz11_0
      try clear hcz11_1
      try clear hcz11_2
      try clear hcz18_0
      try clear hcz18_1
      try clear hcz18_2
      try clear hcz28_0
      try clear hcz28_1
      try clear hcz28_2
      try clear hcz29_0
      try clear hcz29_1
      try clear hcz29_2
      try clear hcz30_0
      try clear hcz30_1
      try clear hcz30_2
      try clear hcz31_0
      try clear hcz31_1
      try clear hcz31_2
      try clear hfz11_0
      try clear hfz11_1
      try clear hfz11_2
      try clear hfz18_0
      try clear hfz18_1
      try clear hfz18_2
      try clear hfz28_0
      try clear hfz28_1
      try clear hfz28_2
      try clear hfz29_0
      try clear hfz29_1
      try clear hfz29_2
      try clear hfz30_0
      try clear hfz30_1
      try clear hfz30_2
      try clear hfz31_0
      try clear hfz31_1
      try clear hfz31_2
      try clear p27
      try clear q27
      obtain ⟨kq, x64_5, rfl, HA, HJ5, BK268, HB⟩ := hcut
      cases kq with
      | zero => exact absurd HA.out (by simp [cruciblelaw13_LoglineTimes.j0])
      | succ kj5 =>
        have H := HA.out
        clear HA
        simp only [cruciblelaw13_LoglineTimes.j0] at H
        by_cases c32 : x64_5 = true
        · subst c32
          have H1 : (some false) = some r := by rw [if_pos rfl] at H; exact H
          clear H
          have H := H1
          clear H1
          obtain rfl := Option.some.inj H
          go_wp2
          go_ret
          exact ⟨by first | rfl | (simp [errW_none, errW_some] <;> rfl) | (simp [*, errW_none, errW_some] <;> rfl), by repeat (first | (with_reducible first | exact HB.out | apply below_alloc | apply pw_below_drewN | apply below_drew1 | refine below_set ?_ GE268.out) | exact HB.out)⟩
        · replace c32 := Bool.eq_false_iff.mpr c32
          subst c32
          have H1 : (cruciblelaw13_LoglineTimes.l0 kj5 (wrap64 (1 + (wrap64 (Int.tmod (IntKind.u64.wrap (a0)) 1048576)))) t262 0 2) = some r := by rw [if_neg (show ¬ (false = true) by decide)] at H; exact H
          clear H
          have H := H1
          clear H1
          have H' := Aside0.mk H
          clear H
          go_wp2
          go_loopg [8, 9] kj5 (fun kq v8 v9 w' => ∃ (x8_2 : Int) (x9_2 : Int), v8 = .int .i64 x8_2 ∧ v9 = .int .i64 x9_2 ∧ Aside0 (cruciblelaw13_LoglineTimes.l0 kq (wrap64 (1 + (wrap64 (Int.tmod (IntKind.u64.wrap (a0)) 1048576)))) t262 x8_2 x9_2 = some r) ∧ Aside0 (kq ≤ kj5) ∧ Aside0 (w'.heap[gb268]? = some (.cells #[.string t264, .int .i64 t265, .string t266] 23 (0, 0))) ∧ Aside0 (Below w.heap.size w w'))
          case atStart => exact ⟨(0), (2), (by first | rfl | (simp; done) | (simp [*]; done)), (by first | rfl | (simp; done) | (simp [*]; done)), H', ⟨Nat.le_refl _⟩, ⟨by (with_reducible repeat (first | refine blk_drewN ?_ _ | refine blk_drew ?_ | refine blk_alloc ?_ _)); exact BK268.out⟩, ⟨by repeat (first | (with_reducible first | exact HB.out | apply below_alloc | apply pw_below_drewN | apply below_drew1 | refine below_set ?_ GE268.out) | exact HB.out)⟩⟩
          case round =>
            clear H'
            try clear c1
            try clear c2
            try clear p2
            try clear q2
            try clear hx2
            try clear qi2
            try clear c3
            try clear c6
            try clear p6
            try clear c12
            try clear c13
            try clear c13b0
            try clear c13b1
            try clear c13b2
            try clear c14
            try clear c15
            try clear c15b0
            try clear c15b1
            try clear c16
            try clear c16b0
            try clear c16b1
            try clear c17
            try clear c17b0
            try clear c17b1
            try clear c19
            try clear c19b0
            try clear c19b1
            try clear c20
            try clear c20b0
            try clear c20b1
            try clear c21
            try clear c21b0
            try clear c21b1
            try clear c23
            try clear c23b0
            try clear c23b1
            try clear c24
            try clear c24b0
            try clear c24b1
            try clear c25
            try clear c25b0
            try clear c25b1
            try clear c26
            try clear c26b0
            try clear c26b1
            try clear p27
            try clear q27
            try clear hx27
            try clear qi27
            try clear c32
            try clear hcz11_0
            try clear hcz11_1
            try clear hcz11_2
            try clear hcz18_0
            try clear hcz18_1
            try clear hcz18_2
            try clear hcz28_0
            try clear hcz28_1
            try clear hcz28_2
            try clear hcz29_0
            try clear hcz29_1
            try clear hcz29_2
            try clear hcz30_0
            try clear hcz30_1
            try clear hcz30_2
            try clear hcz31_0
            try clear hcz31_1
            try clear hcz31_2
            try clear hfz11_0
            try clear hfz11_1
            try clear hfz11_2
            try clear hfz18_0
            try clear hfz18_1
            try clear hfz18_2
            try clear hfz28_0
            try clear hfz28_1
            try clear hfz28_2
            try clear hfz29_0
            try clear hfz29_1
            try clear hfz29_2
            try clear hfz30_0
            try clear hfz30_1
            try clear hfz30_2
            try clear hfz31_0
            try clear hfz31_1
            try clear hfz31_2
            try clear p2
            try clear p27
            try clear p6
            try clear q2
            try clear q27
            obtain ⟨x8_2, x9_2, rfl, rfl, HA, HK2, BK268, HB⟩ := hrel
            cases gk with
            | zero => exact absurd HA.out (by simp [cruciblelaw13_LoglineTimes.l0])
            | succ k2 =>
              have H := HA.out
              clear HA
              simp only [cruciblelaw13_LoglineTimes.l0] at H
              by_cases c33 : x9_2 < (wrap64 ((t262.size : Int) - 3))
              · rw [if_pos c33] at H
                have c33b0 : decide (x9_2 < (wrap64 ((t262.size : Int) - 3))) = true := decide_eq_true c33
                clear c33
                by_cases c34 : 0 ≤ x9_2
                · rw [if_pos c34] at H
                  have c34b0 : decide (0 ≤ x9_2) = true := decide_eq_true c34
                  clear c34
                  by_cases c35 : x9_2 < (t262.size : Int)
                  · rw [if_pos c35] at H
                    have c35b0 : decide (x9_2 < (t262.size : Int)) = true := decide_eq_true c35
                    clear c35
                    by_cases c37 : (bt t262 x9_2) < 48
                    · rw [if_pos c37] at H
                      have c37b0 : decide ((bt t262 x9_2) < 48) = true := decide_eq_true c37
                      clear c37
                      obtain rfl := Option.some.inj H
                      have p36 : 0 ≤ (x9_2 : Int) := of_decide_eq_true (by first | (with_reducible assumption) | assumption)
                      have q36 : x9_2 < (t262.size : Int) := of_decide_eq_true (by first | (with_reducible assumption) | assumption)
                      have hx36 := bt_at t262 x9_2
                      replace p36 := eq_true p36
                      replace q36 := eq_true q36
                      go_wp2
                      go_ret
                      exact ⟨by first | rfl | (simp [errW_none, errW_some] <;> rfl) | (simp [*, errW_none, errW_some] <;> rfl), by repeat (first | (with_reducible first | exact HB.out | apply below_alloc | apply pw_below_drewN | apply below_drew1 | refine below_set ?_ GE268.out) | exact HB.out)⟩
                    · rw [if_neg c37] at H
                      have c37b0 : decide ((bt t262 x9_2) < 48) = false := decide_eq_false c37
                      clear c37
                      by_cases c39 : (bt t262 x9_2) > 57
                      · rw [if_pos c39] at H
                        have c39b0 : decide (57 < (bt t262 x9_2)) = true := decide_eq_true c39
                        clear c39
                        obtain rfl := Option.some.inj H
                        have p36 : 0 ≤ (x9_2 : Int) := of_decide_eq_true (by first | (with_reducible assumption) | assumption)
                        have q36 : x9_2 < (t262.size : Int) := of_decide_eq_true (by first | (with_reducible assumption) | assumption)
                        have hx36 := bt_at t262 x9_2
                        replace p36 := eq_true p36
                        replace q36 := eq_true q36
                        have p38 : 0 ≤ (x9_2 : Int) := of_decide_eq_true (by first | (with_reducible assumption) | assumption)
                        have q38 : x9_2 < (t262.size : Int) := of_decide_eq_true (by first | (with_reducible assumption) | assumption)
                        have hx38 := bt_at t262 x9_2
                        replace p38 := eq_true p38
                        replace q38 := eq_true q38
                        go_wp2
                        go_ret
                        exact ⟨by first | rfl | (simp [errW_none, errW_some] <;> rfl) | (simp [*, errW_none, errW_some] <;> rfl), by repeat (first | (with_reducible first | exact HB.out | apply below_alloc | apply pw_below_drewN | apply below_drew1 | refine below_set ?_ GE268.out) | exact HB.out)⟩
                      · rw [if_neg c39] at H
                        have c39b0 : decide (57 < (bt t262 x9_2)) = false := decide_eq_false c39
                        clear c39
                        have H' := Aside0.mk H
                        clear H
                        have p36 : 0 ≤ (x9_2 : Int) := of_decide_eq_true (by first | (with_reducible assumption) | assumption)
                        have q36 : x9_2 < (t262.size : Int) := of_decide_eq_true (by first | (with_reducible assumption) | assumption)
                        have hx36 := bt_at t262 x9_2
                        replace p36 := eq_true p36
                        replace q36 := eq_true q36
                        have p38 : 0 ≤ (x9_2 : Int) := of_decide_eq_true (by first | (with_reducible assumption) | assumption)
                        have q38 : x9_2 < (t262.size : Int) := of_decide_eq_true (by first | (with_reducible assumption) | assumption)
                        have hx38 := bt_at t262 x9_2
                        replace p38 := eq_true p38
                        replace q38 := eq_true q38
                        have p40 : 0 ≤ (x9_2 : Int) := of_decide_eq_true (by first | (with_reducible assumption) | assumption)
                        have q40 : x9_2 < (t262.size : Int) := of_decide_eq_true (by first | (with_reducible assumption) | assumption)
                        have hx40 := bt_at t262 x9_2
                        replace p40 := eq_true p40
                        replace q40 := eq_true q40
                        go_wp2
                        go_roundg k2
                        case measure => have := HJ5.out; have := HK2.out; omega
                        case rel => exact ⟨(wrap64 ((wrap64 (10 * x8_2)) + (((bt t262 x9_2) - 48) % 256))), (wrap64 (x9_2 + 1)), (by first | rfl | (simp; done) | (simp [*]; done)), (by first | rfl | (simp; done) | (simp [*]; done)), H', ⟨by have := HJ5.out; have := HK2.out; omega⟩, ⟨by (with_reducible repeat (first | refine blk_drewN ?_ _ | refine blk_drew ?_ | refine blk_alloc ?_ _)); exact BK268.out⟩, ⟨by repeat (first | (with_reducible first | exact HB.out | apply below_alloc | apply pw_below_drewN | apply below_drew1 | refine below_set ?_ GE268.out) | exact HB.out)⟩⟩
                  · rw [if_neg c35] at H
                    exact absurd H (by simp)
                · rw [if_neg c34] at H
                  exact absurd H (by simp)
              · rw [if_neg c33] at H
                have c33b0 : decide (x9_2 < (wrap64 ((t262.size : Int) - 3))) = false := decide_eq_false c33
                clear c33
                obtain rfl := Option.some.inj H
                go_wp2
                go_ret
                exact ⟨by first | rfl | (simp [errW_none, errW_some] <;> rfl) | (simp [*, errW_none, errW_some] <;> rfl), by repeat (first | (with_reducible first | exact HB.out | apply below_alloc | apply pw_below_drewN | apply below_drew1 | refine below_set ?_ GE268.out) | exact HB.out)⟩
  · replace c3 := Bool.eq_false_iff.mpr c3
    subst c3
    have H1 : (some false) = some r := by rw [if_neg (show ¬ (false = true) by decide)] at H; exact H
    clear H
    have H := H1
    clear H1
    obtain rfl := Option.some.inj H
    go_enter Tryd.func6, Tryd.ntmps6
    go_wp2_with (first | ((with_reducible refine gate_callee (f := 17) rfl ?_); refine goesL_ (some 10) rfl rfl Tryd.func17 (by kernel_rfl) rfl #[] rfl (by (try simp only [List.map_toArray, List.map_cons, List.map_nil]); first | done | rfl | (simp only [List.length_drop, List.length_take]; rfl)) ?_; (with_reducible refine (cruciblelaw13_awake.calls k  false _ A2.out (Tb.below HT0.out (by repeat (first | (with_reducible first | exact HB.out | apply below_alloc | apply pw_below_drewN | apply below_drew1) | exact HB.out)))).mono ?_); rintro e w41 ⟨rfl, hb⟩; refine ⟨_, rfl, ?_⟩; have n0_ := Aside0.mk (below_step (by repeat (first | (with_reducible first | exact HB.out | apply below_alloc | apply pw_below_drewN | apply below_drew1) | exact HB.out)) hb); clear HB; have HB := n0_; clear n0_; (try clear hb); (try clear hb2); (try clear hk); (try clear hi)))
    go_ret
    exact ⟨by first | rfl | (simp [errW_none, errW_some] <;> rfl) | (simp [*, errW_none, errW_some] <;> rfl), by repeat (first | (with_reducible first | exact HB.out | apply below_alloc | apply pw_below_drewN | apply below_drew1) | exact HB.out)⟩

/-- THE ONE PURE STATEMENT of cruciblelaw13_LoglineTimes: yours. -/
def cruciblelaw13_LoglineTimes.Pure : Prop := ∀ (a0 : Int), (Lit.int .i64 a0).wf = true → ∃ k, cruciblelaw13_LoglineTimes.f k a0 = some true
end Go.Proofs.YtdaddlplpkmkmaaDoor.P
