-- Made by a program of this work's own (wip/myprint.py) over the kit's print; leaves by hand.
import Derived.Test.YtdaddlplpkmkmaaGreatDoorTb
import Derived.Test.YtdaddlplpkmkmaaGreatDoorP0
import Derived.Test.YtdaddlplpkmkmaaGreatDoorWTab
import Derived.Test.YtdaddlplpkmkmaaGreatDoorWRepsOne
import Derived.Test.YtdaddlplpkmkmaaGreatDoorWGuard
import Derived.Test.YtdaddlplpkmkmaaGreatDoorMg1
import Derived.Test.YtdaddlplpkmkmaaGreatDoorP6
import Derived.Test.YtdaddlplpkmkmaaGreatDoorP8
import Derived.Test.YtdaddlplpkmkmaaGreatDoorP13
import Derived.Test.YtdaddlplpkmkmaaGreatDoorP17
import Derived.Test.YtdaddlplpkmkmaaGreatDoorP21
import Derived.Test.YtdaddlplpkmkmaaGreatDoorP22
import Derived.Test.YtdaddlplpkmkmaaGreatDoorP26
namespace Go.Proofs.YtdaddlplpkmkmaaGreatDoor.P
open Go.Proofs.YtdaddlplpkmkmaaGreatDoor.Plus
open Go.RowKit Go.Proofs.YtdaddlplpkmkmaaGreatDoorW.PrintWords Go.Proofs.YtdaddlplpkmkmaaGreatDoorW.PrintLast Go.Proofs.YtdaddlplpkmkmaaGreatDoorW.PrintMore
attribute [local go_sem] max2_int min2_int max_two min_two max_three min_three max_four min_four   -- for this text's walks alone
set_option linter.unusedVariables false
set_option linter.unusedSimpArgs false

/-! ### cruciblelaw14_LogBad: function 4 -/
def cruciblelaw14_LogBad.j0 : Nat → List (S31) → Int → Int → Bool → Option (Bool)
  | 0, _, _, _, _ => none
  | k + 1, x0, x1, x2, x22 => if x22 = true then ((crucibleref12_LogMay.f k x0).bind fun t283 => (if t283 = true then (some (decide ((x0.length : Int) > 20))) else (some true))) else (if (IntKind.u64.wrap (wrap64 ((x0.length : Int) + 1))) = 0 then (none) else (if 0 ≤ (wrap64 (Int.tmod (IntKind.u64.wrap (x1)) (IntKind.u64.wrap (wrap64 ((x0.length : Int) + 1))))) then (if (wrap64 (Int.tmod (IntKind.u64.wrap (x1)) (IntKind.u64.wrap (wrap64 ((x0.length : Int) + 1))))) ≤ (x0.length : Int) then ((log_Text.f k (x0.take ((wrap64 (Int.tmod (IntKind.u64.wrap (x1)) (IntKind.u64.wrap (wrap64 ((x0.length : Int) + 1))))) : Int).toNat)).bind fun bt288 => ((log_Text.f k (x0.drop ((wrap64 (Int.tmod (IntKind.u64.wrap (x1)) (IntKind.u64.wrap (wrap64 ((x0.length : Int) + 1))))) : Int).toNat)).bind fun bt294 => ((some (([(⟨#[10]⟩ : ByteArray), (⟨#[120, 10]⟩ : ByteArray), (⟨#[97, 9, 48, 9, 120, 10]⟩ : ByteArray), (⟨#[0, 10]⟩ : ByteArray), (⟨#[97, 9, 49, 9, 120, 9, 10]⟩ : ByteArray), (⟨#[63]⟩ : ByteArray)] : List ByteArray) : List ByteArray)).bind fun y296 => (if 0 ≤ (wrap64 (Int.tmod (IntKind.u64.wrap (x2)) 6)) then (if (wrap64 (Int.tmod (IntKind.u64.wrap (x2)) 6)) < (y296.length : Int) then (if bt288.1.size + (rdOf ByteArray.empty y296 (wrap64 (Int.tmod (IntKind.u64.wrap (x2)) 6))).size ≤ 9223372036854775807 then (if (bt288.1 ++ (rdOf ByteArray.empty y296 (wrap64 (Int.tmod (IntKind.u64.wrap (x2)) 6)))).size + bt294.1.size ≤ 9223372036854775807 then ((cruciblelaw0_Num.f bt288.2).bind fun t300 => (if t300 = 0 then ((cruciblelaw0_Num.f bt294.2).bind fun t301 => (if t301 = 0 then ((log_Load.f k ((bt288.1 ++ (rdOf ByteArray.empty y296 (wrap64 (Int.tmod (IntKind.u64.wrap (x2)) 6)))) ++ bt294.1)).bind fun t302 => ((cruciblelaw0_SameRecords.f k t302 (x0.take ((wrap64 (Int.tmod (IntKind.u64.wrap (x1)) (IntKind.u64.wrap (wrap64 ((x0.length : Int) + 1))))) : Int).toNat)).bind fun t309 => (some t309))) else (some false))) else (some false))) else (none)) else (none)) else (none)) else (none))))) else (none)) else (none)))
def cruciblelaw14_LogBad.f (k : Nat) (l0 : List (S31)) (a1 : Int) (a2 : Int) : Option (Bool) := (cruciblelaw14_awake.f).bind fun t281 => (if t281 = true then ((log_May.f k l0).bind fun t282 => (if t282 = true then (cruciblelaw14_LogBad.j0 k l0 a1 a2 (decide ((l0.length : Int) > 20))) else (cruciblelaw14_LogBad.j0 k l0 a1 a2 true))) else (some false))
set_option maxRecDepth 100000 in
theorem cruciblelaw14_LogBad.mono_l : ∀ k, (∀ y0 y1 y2 y3, LeO (cruciblelaw14_LogBad.j0 k y0 y1 y2 y3) (cruciblelaw14_LogBad.j0 (k + 1) y0 y1 y2 y3))
  | 0 => fun _ _ _ _ r h => by simp [cruciblelaw14_LogBad.j0] at h
  | k + 1 => by
    have ih0 := cruciblelaw14_LogBad.mono_l k
    · intro y0 y1 y2 y3
      unfold cruciblelaw14_LogBad.j0
      repeat' first
      | (with_reducible exact ih0 _ _ _ _)
      | (with_reducible exact cruciblelaw0_SameRecords.mono _ _ _)
      | (with_reducible exact crucibleref12_LogMay.mono _ _)
      | (with_reducible exact log_Load.mono _ _)
      | (with_reducible exact log_May.mono _ _)
      | (with_reducible exact log_Text.mono _ _)
      | (with_reducible exact LeO.refl _)
      | (with_reducible exact LeO.none _)
      | (with_reducible refine LeO.ite ?_ ?_)
      | (with_reducible refine LeO.bind ?_ (fun _ => ?_))
      | exact ih0 _ _ _ _
      | exact cruciblelaw0_SameRecords.mono _ _ _
      | exact crucibleref12_LogMay.mono _ _
      | exact log_Load.mono _ _
      | exact log_May.mono _ _
      | exact log_Text.mono _ _
      | exact LeO.none _
      | refine LeO.ite ?_ ?_
      | refine LeO.bind ?_ (fun _ => ?_)
theorem cruciblelaw14_LogBad.mono : ∀ a0 a1 a2 k, LeO (cruciblelaw14_LogBad.f k a0 a1 a2) (cruciblelaw14_LogBad.f (k + 1) a0 a1 a2) := by
  intro a0 a1 a2 k
  have ih0 := cruciblelaw14_LogBad.mono_l k
  unfold cruciblelaw14_LogBad.f
  repeat' first
      | (with_reducible exact ih0 _ _ _ _)
      | (with_reducible exact cruciblelaw0_SameRecords.mono _ _ _)
      | (with_reducible exact crucibleref12_LogMay.mono _ _)
      | (with_reducible exact log_Load.mono _ _)
      | (with_reducible exact log_May.mono _ _)
      | (with_reducible exact log_Text.mono _ _)
      | (with_reducible exact LeO.refl _)
      | (with_reducible exact LeO.none _)
      | (with_reducible refine LeO.ite ?_ ?_)
      | (with_reducible refine LeO.bind ?_ (fun _ => ?_))
      | exact ih0 _ _ _ _
      | exact cruciblelaw0_SameRecords.mono _ _ _
      | exact crucibleref12_LogMay.mono _ _
      | exact log_Load.mono _ _
      | exact log_May.mono _ _
      | exact log_Text.mono _ _
      | exact LeO.none _
      | refine LeO.ite ?_ ?_
      | refine LeO.bind ?_ (fun _ => ?_)
def cruciblelaw14_LogBad.T9 : Bool × List (List Nat × List Nat) := (true, [([], []), ([0], [0]), ([1], [1]), ([2, 1], [2]), ([3], [3]), ([4, 3, 3], [3, 4]), ([5, 3], [3, 5]), ([3, 6], [3, 6]), ([7, 5], [7]), ([8], [8]), ([9, 8, 8], [8, 9]), ([8], [8]), ([8], [8]), ([11, 12, 8], [8, 11, 12]), ([10, 13, 10, 8], [8, 10, 13]), ([8, 14], [8, 14]), ([15, 14, 0, 1, 2, 3, 4, 5, 6, 7, 8, 9, 10, 11, 12, 13, 14, 15], [15])])
def cruciblelaw14_LogBad.B9 : List Nat := [0, 1, 3, 7, 15, 31, 63, 127, 255, 511, 1023, 511, 511, 6655, 16383, 32767, 65535]
theorem cruciblelaw14_LogBad.tab9 : rtab .any (opsOf Tryz.f4 9) = cruciblelaw14_LogBad.T9 := by kernel_rfl
theorem cruciblelaw14_LogBad.bits9 : waitsOk cruciblelaw14_LogBad.T9.2 cruciblelaw14_LogBad.B9 = true := by kernel_rfl
set_option maxHeartbeats 8000000 in
set_option maxRecDepth 100000 in
theorem cruciblelaw14_LogBad.calls (k : Nat) (A0 : Option Addr) (c0 : Nat) (l0 : List (S31)) (a1 : Int) (a2 : Int) (r : Bool) (w : World) (hr0 : Kd.C k31 w A0 l0.length l0) (hc0 : l0.length ≤ c0) (h : cruciblelaw14_LogBad.f k l0 a1 a2 = some r) (hT : Tb w) :
    Calls Tryz.prog 4 #[.slice A0 l0.length c0, .int .i64 a1, .int .i64 a2] w fun e w' => e = .returned (.bool r) ∧ Below w.heap.size w w' := by
  have HR0 := Aside0.mk hr0
  have HC0 := Aside0.mk hc0
  clear hr0 hc0
  have HB := Aside0.mk (Below.refl w.heap.size w)
  have HT0 := Aside0.mk hT
  clear hT
  have H : ((cruciblelaw14_awake.f).bind fun t281 => (if t281 = true then ((log_May.f k l0).bind fun t282 => (if t282 = true then (cruciblelaw14_LogBad.j0 k l0 a1 a2 (decide ((l0.length : Int) > 20))) else (cruciblelaw14_LogBad.j0 k l0 a1 a2 true))) else (some false))) = some r := h
  clear h
  replace H := Option.bind_eq_some_iff.mp H
  obtain ⟨t281, A40, H⟩ := H
  replace H : (if t281 = true then ((log_May.f k l0).bind fun t282 => (if t282 = true then (cruciblelaw14_LogBad.j0 k l0 a1 a2 (decide ((l0.length : Int) > 20))) else (cruciblelaw14_LogBad.j0 k l0 a1 a2 true))) else (some false)) = some r := H
  have A4 := Aside0.mk A40
  clear A40
  by_cases c5 : t281 = true
  · subst c5
    have H1 : ((log_May.f k l0).bind fun t282 => (if t282 = true then (cruciblelaw14_LogBad.j0 k l0 a1 a2 (decide ((l0.length : Int) > 20))) else (cruciblelaw14_LogBad.j0 k l0 a1 a2 true))) = some r := by rw [if_pos rfl] at H; exact H
    clear H
    have H := H1
    clear H1
    have HC6 := Aside0.mk H
    clear H
    go_enter Tryz.func4, Tryz.ntmps4
    go_upto_region 3 with (first | ((with_reducible refine gate_callee (f := 21) rfl ?_); refine goesL_ (some 13) rfl rfl Tryz.func21 (by kernel_rfl) rfl #[] rfl (by (try simp only [List.map_toArray, List.map_cons, List.map_nil]); first | done | rfl | (simp only [List.length_drop, List.length_take]; rfl)) ?_; (with_reducible refine (cruciblelaw14_awake.calls  true _ A4.out (Tb.below HT0.out (by repeat (first | (with_reducible first | exact HB.out | apply below_alloc | apply pw_below_drewN | apply below_drew1) | exact HB.out)))).mono ?_); rintro e w7 ⟨rfl, hb⟩; refine ⟨_, rfl, ?_⟩; have n0_ := Aside0.mk (below_step (by repeat (first | (with_reducible first | exact HB.out | apply below_alloc | apply pw_below_drewN | apply below_drew1) | exact HB.out)) hb); clear HB; have HB := n0_; clear n0_; (try clear hb); (try clear hb2); (try clear hk); (try clear hi)))
    (try simp only [Act.put, List.setIfInBounds_toArray, List.set_cons_zero, List.set_cons_succ])
    go_cut [22] (fun v22 wc => ∃ (kq : Nat) (x22_5 : Bool), v22 = .bool x22_5 ∧ Aside0 (cruciblelaw14_LogBad.j0 kq l0 a1 a2 x22_5 = some r) ∧ Aside0 (kq ≤ k) ∧ Aside0 (Below w.heap.size w wc))
    case first =>
      have H := HC6.out
      clear HC6
      replace H := Option.bind_eq_some_iff.mp H
      obtain ⟨t282, A80, H⟩ := H
      replace H : (if t282 = true then (cruciblelaw14_LogBad.j0 k l0 a1 a2 (decide ((l0.length : Int) > 20))) else (cruciblelaw14_LogBad.j0 k l0 a1 a2 true)) = some r := H
      have A8 := Aside0.mk A80
      clear A80
      by_cases c9 : t282 = true
      · subst c9
        have H1 : (cruciblelaw14_LogBad.j0 k l0 a1 a2 (decide ((l0.length : Int) > 20))) = some r := by rw [if_pos rfl] at H; exact H
        clear H
        have H := H1
        clear H1
        have H' := Aside0.mk H
        clear H
        go_wp2_with (first | ((with_reducible refine gate_callee (f := 17) rfl ?_); refine goesL_ (some 16) rfl rfl Tryz.func17 (by kernel_rfl) rfl #[.slice A0 l0.length c0] rfl (by (try simp only [List.map_toArray, List.map_cons, List.map_nil]); first | done | rfl | (simp only [List.length_drop, List.length_take]; rfl)) ?_; (with_reducible refine (log_May.calls k _ _ l0 true _ ?side1 ?side2 A8.out).mono ?_); (case side1 => repeat (first | exact (Kd.C_below HR0.out HB.out) | (with_reducible refine Kd.C_alloc ?_ _) | (with_reducible refine Kd.C_drewN ?_ _) | (with_reducible refine Kd.C_drew ?_))); (case side2 => exact HC0.out); rintro e w10 ⟨rfl, hb⟩; refine ⟨_, rfl, ?_⟩; have n0_ := Aside0.mk (below_step (by repeat (first | (with_reducible first | exact HB.out | apply below_alloc | apply pw_below_drewN | apply below_drew1) | exact HB.out)) hb); clear HB; have HB := n0_; clear n0_; (try clear hb); (try clear hb2); (try clear hk); (try clear hi)))
        go_meet
        case rel => exact ⟨_, (decide ((l0.length : Int) > 20)), (by first | rfl | (simp; done) | (simp [*]; done)), H', ⟨by first | omega | exact Nat.le_refl _⟩, ⟨by repeat (first | (with_reducible first | exact HB.out | apply below_alloc | apply pw_below_drewN | apply below_drew1) | exact HB.out)⟩⟩
      · replace c9 := Bool.eq_false_iff.mpr c9
        subst c9
        have H1 : (cruciblelaw14_LogBad.j0 k l0 a1 a2 true) = some r := by rw [if_neg (show ¬ (false = true) by decide)] at H; exact H
        clear H
        have H := H1
        clear H1
        have H' := Aside0.mk H
        clear H
        go_wp2_with (first | ((with_reducible refine gate_callee (f := 17) rfl ?_); refine goesL_ (some 16) rfl rfl Tryz.func17 (by kernel_rfl) rfl #[.slice A0 l0.length c0] rfl (by (try simp only [List.map_toArray, List.map_cons, List.map_nil]); first | done | rfl | (simp only [List.length_drop, List.length_take]; rfl)) ?_; (with_reducible refine (log_May.calls k _ _ l0 false _ ?side1 ?side2 A8.out).mono ?_); (case side1 => repeat (first | exact (Kd.C_below HR0.out HB.out) | (with_reducible refine Kd.C_alloc ?_ _) | (with_reducible refine Kd.C_drewN ?_ _) | (with_reducible refine Kd.C_drew ?_))); (case side2 => exact HC0.out); rintro e w11 ⟨rfl, hb⟩; refine ⟨_, rfl, ?_⟩; have n0_ := Aside0.mk (below_step (by repeat (first | (with_reducible first | exact HB.out | apply below_alloc | apply pw_below_drewN | apply below_drew1) | exact HB.out)) hb); clear HB; have HB := n0_; clear n0_; (try clear hb); (try clear hb2); (try clear hk); (try clear hi)))
        go_meet
        case rel => exact ⟨_, (true), (by first | rfl | (simp; done) | (simp [*]; done)), H', ⟨by first | omega | exact Nat.le_refl _⟩, ⟨by repeat (first | (with_reducible first | exact HB.out | apply below_alloc | apply pw_below_drewN | apply below_drew1) | exact HB.out)⟩⟩
    case rest =>
      clear HC6
      try clear c1
      try clear c2
      try clear p2
      try clear c4
      try clear c5
      try clear c9
      obtain ⟨kq, x22_5, rfl, HA, HJ5, HB⟩ := hcut
      cases kq with
      | zero => exact absurd HA.out (by simp [cruciblelaw14_LogBad.j0])
      | succ kj5 =>
        have H := HA.out
        clear HA
        simp only [cruciblelaw14_LogBad.j0] at H
        by_cases c12 : x22_5 = true
        · subst c12
          have H1 : ((crucibleref12_LogMay.f kj5 l0).bind fun t283 => (if t283 = true then (some (decide ((l0.length : Int) > 20))) else (some true))) = some r := by rw [if_pos rfl] at H; exact H
          clear H
          have H := H1
          clear H1
          replace H := Option.bind_eq_some_iff.mp H
          obtain ⟨t283, A130, H⟩ := H
          replace H : (if t283 = true then (some (decide ((l0.length : Int) > 20))) else (some true)) = some r := H
          have A13 := Aside0.mk A130
          clear A130
          by_cases c14 : t283 = true
          · subst c14
            have H1 : (some (decide ((l0.length : Int) > 20))) = some r := by rw [if_pos rfl] at H; exact H
            clear H
            have H := H1
            clear H1
            obtain rfl := Option.some.inj H
            go_wp2_with (first | ((with_reducible refine gate_callee (f := 18) rfl ?_); refine goesL_ (some 24) rfl rfl Tryz.func18 (by kernel_rfl) rfl #[.slice A0 l0.length c0] rfl (by (try simp only [List.map_toArray, List.map_cons, List.map_nil]); first | done | rfl | (simp only [List.length_drop, List.length_take]; rfl)) ?_; (with_reducible refine (crucibleref12_LogMay.calls kj5 _ _ l0 true _ ?side1 ?side2 A13.out).mono ?_); (case side1 => repeat (first | exact (Kd.C_below HR0.out HB.out) | (with_reducible refine Kd.C_alloc ?_ _) | (with_reducible refine Kd.C_drewN ?_ _) | (with_reducible refine Kd.C_drew ?_))); (case side2 => exact HC0.out); rintro e w15 ⟨rfl, hb⟩; refine ⟨_, rfl, ?_⟩; have n0_ := Aside0.mk (below_step (by repeat (first | (with_reducible first | exact HB.out | apply below_alloc | apply pw_below_drewN | apply below_drew1) | exact HB.out)) hb); clear HB; have HB := n0_; clear n0_; (try clear hb); (try clear hb2); (try clear hk); (try clear hi)))
            go_ret
            exact ⟨by first | rfl | (simp [errW_none, errW_some] <;> rfl) | (simp [*, errW_none, errW_some] <;> rfl), by repeat (first | (with_reducible first | exact HB.out | apply below_alloc | apply pw_below_drewN | apply below_drew1) | exact HB.out)⟩
          · replace c14 := Bool.eq_false_iff.mpr c14
            subst c14
            have H1 : (some true) = some r := by rw [if_neg (show ¬ (false = true) by decide)] at H; exact H
            clear H
            have H := H1
            clear H1
            obtain rfl := Option.some.inj H
            go_wp2_with (first | ((with_reducible refine gate_callee (f := 18) rfl ?_); refine goesL_ (some 24) rfl rfl Tryz.func18 (by kernel_rfl) rfl #[.slice A0 l0.length c0] rfl (by (try simp only [List.map_toArray, List.map_cons, List.map_nil]); first | done | rfl | (simp only [List.length_drop, List.length_take]; rfl)) ?_; (with_reducible refine (crucibleref12_LogMay.calls kj5 _ _ l0 false _ ?side1 ?side2 A13.out).mono ?_); (case side1 => repeat (first | exact (Kd.C_below HR0.out HB.out) | (with_reducible refine Kd.C_alloc ?_ _) | (with_reducible refine Kd.C_drewN ?_ _) | (with_reducible refine Kd.C_drew ?_))); (case side2 => exact HC0.out); rintro e w16 ⟨rfl, hb⟩; refine ⟨_, rfl, ?_⟩; have n0_ := Aside0.mk (below_step (by repeat (first | (with_reducible first | exact HB.out | apply below_alloc | apply pw_below_drewN | apply below_drew1) | exact HB.out)) hb); clear HB; have HB := n0_; clear n0_; (try clear hb); (try clear hb2); (try clear hk); (try clear hi)))
            go_ret
            exact ⟨by first | rfl | (simp [errW_none, errW_some] <;> rfl) | (simp [*, errW_none, errW_some] <;> rfl), by repeat (first | (with_reducible first | exact HB.out | apply below_alloc | apply pw_below_drewN | apply below_drew1) | exact HB.out)⟩
        · replace c12 := Bool.eq_false_iff.mpr c12
          subst c12
          have H1 : (if (IntKind.u64.wrap (wrap64 ((l0.length : Int) + 1))) = 0 then (none) else (if 0 ≤ (wrap64 (Int.tmod (IntKind.u64.wrap (a1)) (IntKind.u64.wrap (wrap64 ((l0.length : Int) + 1))))) then (if (wrap64 (Int.tmod (IntKind.u64.wrap (a1)) (IntKind.u64.wrap (wrap64 ((l0.length : Int) + 1))))) ≤ (l0.length : Int) then ((log_Text.f kj5 (l0.take ((wrap64 (Int.tmod (IntKind.u64.wrap (a1)) (IntKind.u64.wrap (wrap64 ((l0.length : Int) + 1))))) : Int).toNat)).bind fun bt288 => ((log_Text.f kj5 (l0.drop ((wrap64 (Int.tmod (IntKind.u64.wrap (a1)) (IntKind.u64.wrap (wrap64 ((l0.length : Int) + 1))))) : Int).toNat)).bind fun bt294 => ((some (([(⟨#[10]⟩ : ByteArray), (⟨#[120, 10]⟩ : ByteArray), (⟨#[97, 9, 48, 9, 120, 10]⟩ : ByteArray), (⟨#[0, 10]⟩ : ByteArray), (⟨#[97, 9, 49, 9, 120, 9, 10]⟩ : ByteArray), (⟨#[63]⟩ : ByteArray)] : List ByteArray) : List ByteArray)).bind fun y296 => (if 0 ≤ (wrap64 (Int.tmod (IntKind.u64.wrap (a2)) 6)) then (if (wrap64 (Int.tmod (IntKind.u64.wrap (a2)) 6)) < (y296.length : Int) then (if bt288.1.size + (rdOf ByteArray.empty y296 (wrap64 (Int.tmod (IntKind.u64.wrap (a2)) 6))).size ≤ 9223372036854775807 then (if (bt288.1 ++ (rdOf ByteArray.empty y296 (wrap64 (Int.tmod (IntKind.u64.wrap (a2)) 6)))).size + bt294.1.size ≤ 9223372036854775807 then ((cruciblelaw0_Num.f bt288.2).bind fun t300 => (if t300 = 0 then ((cruciblelaw0_Num.f bt294.2).bind fun t301 => (if t301 = 0 then ((log_Load.f kj5 ((bt288.1 ++ (rdOf ByteArray.empty y296 (wrap64 (Int.tmod (IntKind.u64.wrap (a2)) 6)))) ++ bt294.1)).bind fun t302 => ((cruciblelaw0_SameRecords.f kj5 t302 (l0.take ((wrap64 (Int.tmod (IntKind.u64.wrap (a1)) (IntKind.u64.wrap (wrap64 ((l0.length : Int) + 1))))) : Int).toNat)).bind fun t309 => (some t309))) else (some false))) else (some false))) else (none)) else (none)) else (none)) else (none))))) else (none)) else (none))) = some r := by rw [if_neg (show ¬ (false = true) by decide)] at H; exact H
          clear H
          have H := H1
          clear H1
          by_cases c17 : (IntKind.u64.wrap (wrap64 ((l0.length : Int) + 1))) = 0
          · rw [if_pos c17] at H
            exact absurd H (by simp)
          · rw [if_neg c17] at H
            have c17b0 : ((IntKind.u64.wrap (wrap64 ((l0.length : Int) + 1))) == 0) = false := beq_eq_false_iff_ne.mpr c17
            have c17b1 : ((IntKind.u64.wrap (wrap64 ((l0.length : Int) + 1))) != 0) = true := bne_iff_ne.mpr c17
            obtain ⟨ji18, hji18⟩ : ∃ j_ : Int, (wrap64 (Int.tmod (IntKind.u64.wrap (a1)) (IntKind.u64.wrap (wrap64 ((l0.length : Int) + 1))))) = j_ := ⟨_, rfl⟩
            replace H : (if 0 ≤ (ji18) then (if (ji18) ≤ (l0.length : Int) then ((log_Text.f kj5 (l0.take ((ji18) : Int).toNat)).bind fun bt288 => ((log_Text.f kj5 (l0.drop ((ji18) : Int).toNat)).bind fun bt294 => ((some (([(⟨#[10]⟩ : ByteArray), (⟨#[120, 10]⟩ : ByteArray), (⟨#[97, 9, 48, 9, 120, 10]⟩ : ByteArray), (⟨#[0, 10]⟩ : ByteArray), (⟨#[97, 9, 49, 9, 120, 9, 10]⟩ : ByteArray), (⟨#[63]⟩ : ByteArray)] : List ByteArray) : List ByteArray)).bind fun y296 => (if 0 ≤ (wrap64 (Int.tmod (IntKind.u64.wrap (a2)) 6)) then (if (wrap64 (Int.tmod (IntKind.u64.wrap (a2)) 6)) < (y296.length : Int) then (if bt288.1.size + (rdOf ByteArray.empty y296 (wrap64 (Int.tmod (IntKind.u64.wrap (a2)) 6))).size ≤ 9223372036854775807 then (if (bt288.1 ++ (rdOf ByteArray.empty y296 (wrap64 (Int.tmod (IntKind.u64.wrap (a2)) 6)))).size + bt294.1.size ≤ 9223372036854775807 then ((cruciblelaw0_Num.f bt288.2).bind fun t300 => (if t300 = 0 then ((cruciblelaw0_Num.f bt294.2).bind fun t301 => (if t301 = 0 then ((log_Load.f kj5 ((bt288.1 ++ (rdOf ByteArray.empty y296 (wrap64 (Int.tmod (IntKind.u64.wrap (a2)) 6)))) ++ bt294.1)).bind fun t302 => ((cruciblelaw0_SameRecords.f kj5 t302 (l0.take ((ji18) : Int).toNat)).bind fun t309 => (some t309))) else (some false))) else (some false))) else (none)) else (none)) else (none)) else (none))))) else (none)) else (none)) = some r := by first | (rw [hji18] at H; exact H) | (simp only [hji18] at H ⊢; exact H)
            have hji18w : (IntKind.i64.wrap (Int.tmod (IntKind.u64.wrap (a1)) (IntKind.u64.wrap (wrap64 ((l0.length : Int) + 1))))) = ji18 := (i64_w _).trans hji18
            by_cases c19 : 0 ≤ (ji18)
            · rw [if_pos c19] at H
              have c19b0 := eq_true c19
              have c19b1 : decide (0 ≤ (ji18)) = true := decide_eq_true c19
              clear c19
              by_cases c20 : (ji18) ≤ (l0.length : Int)
              · rw [if_pos c20] at H
                have c20b0 := eq_true c20
                have c20b1 : decide ((ji18) ≤ (l0.length : Int)) = true := decide_eq_true c20
                clear c20
                obtain ⟨y284, hy284⟩ : ∃ y_ : List (S31), y_ = (l0.take ((ji18) : Int).toNat) := ⟨_, rfl⟩
                replace H : ((log_Text.f kj5 y284).bind fun bt288 => ((log_Text.f kj5 (l0.drop ((ji18) : Int).toNat)).bind fun bt294 => ((some (([(⟨#[10]⟩ : ByteArray), (⟨#[120, 10]⟩ : ByteArray), (⟨#[97, 9, 48, 9, 120, 10]⟩ : ByteArray), (⟨#[0, 10]⟩ : ByteArray), (⟨#[97, 9, 49, 9, 120, 9, 10]⟩ : ByteArray), (⟨#[63]⟩ : ByteArray)] : List ByteArray) : List ByteArray)).bind fun y296 => (if 0 ≤ (wrap64 (Int.tmod (IntKind.u64.wrap (a2)) 6)) then (if (wrap64 (Int.tmod (IntKind.u64.wrap (a2)) 6)) < (y296.length : Int) then (if bt288.1.size + (rdOf ByteArray.empty y296 (wrap64 (Int.tmod (IntKind.u64.wrap (a2)) 6))).size ≤ 9223372036854775807 then (if (bt288.1 ++ (rdOf ByteArray.empty y296 (wrap64 (Int.tmod (IntKind.u64.wrap (a2)) 6)))).size + bt294.1.size ≤ 9223372036854775807 then ((cruciblelaw0_Num.f bt288.2).bind fun t300 => (if t300 = 0 then ((cruciblelaw0_Num.f bt294.2).bind fun t301 => (if t301 = 0 then ((log_Load.f kj5 ((bt288.1 ++ (rdOf ByteArray.empty y296 (wrap64 (Int.tmod (IntKind.u64.wrap (a2)) 6)))) ++ bt294.1)).bind fun t302 => ((cruciblelaw0_SameRecords.f kj5 t302 (l0.take ((ji18) : Int).toNat)).bind fun t309 => (some t309))) else (some false))) else (some false))) else (none)) else (none)) else (none)) else (none))))) = some r := by first | (rw [hy284]; with_reducible exact H) | (have H2_ := (Option.bind_some _ _).symm.trans H; rw [hy284]; with_reducible exact H2_) | (have H2_ := (Option.bind_some _ _).symm.trans H; with_reducible exact H2_) | with_reducible exact H | (rw [hy284]; exact H) | exact H
                have Ny284 := Aside0.mk hy284
                clear hy284
                replace H := Option.bind_eq_some_iff.mp H
                obtain ⟨⟨t288, t289⟩, A210, H⟩ := H
                replace H : ((log_Text.f kj5 (l0.drop ((ji18) : Int).toNat)).bind fun bt294 => ((some (([(⟨#[10]⟩ : ByteArray), (⟨#[120, 10]⟩ : ByteArray), (⟨#[97, 9, 48, 9, 120, 10]⟩ : ByteArray), (⟨#[0, 10]⟩ : ByteArray), (⟨#[97, 9, 49, 9, 120, 9, 10]⟩ : ByteArray), (⟨#[63]⟩ : ByteArray)] : List ByteArray) : List ByteArray)).bind fun y296 => (if 0 ≤ (wrap64 (Int.tmod (IntKind.u64.wrap (a2)) 6)) then (if (wrap64 (Int.tmod (IntKind.u64.wrap (a2)) 6)) < (y296.length : Int) then (if t288.size + (rdOf ByteArray.empty y296 (wrap64 (Int.tmod (IntKind.u64.wrap (a2)) 6))).size ≤ 9223372036854775807 then (if (t288 ++ (rdOf ByteArray.empty y296 (wrap64 (Int.tmod (IntKind.u64.wrap (a2)) 6)))).size + bt294.1.size ≤ 9223372036854775807 then ((cruciblelaw0_Num.f t289).bind fun t300 => (if t300 = 0 then ((cruciblelaw0_Num.f bt294.2).bind fun t301 => (if t301 = 0 then ((log_Load.f kj5 ((t288 ++ (rdOf ByteArray.empty y296 (wrap64 (Int.tmod (IntKind.u64.wrap (a2)) 6)))) ++ bt294.1)).bind fun t302 => ((cruciblelaw0_SameRecords.f kj5 t302 (l0.take ((ji18) : Int).toNat)).bind fun t309 => (some t309))) else (some false))) else (some false))) else (none)) else (none)) else (none)) else (none)))) = some r := H
                have A21 := Aside0.mk A210
                clear A210
                have c22b0 := eq_true (of_decide_eq_true (by first | (with_reducible assumption) | assumption) : 0 ≤ (ji18))
                have c23b0 := eq_true (of_decide_eq_true (by first | (with_reducible assumption) | assumption) : (ji18) ≤ (l0.length : Int))
                obtain ⟨y290, hy290⟩ : ∃ y_ : List (S31), y_ = (l0.drop ((ji18) : Int).toNat) := ⟨_, rfl⟩
                replace H : ((log_Text.f kj5 y290).bind fun bt294 => ((some (([(⟨#[10]⟩ : ByteArray), (⟨#[120, 10]⟩ : ByteArray), (⟨#[97, 9, 48, 9, 120, 10]⟩ : ByteArray), (⟨#[0, 10]⟩ : ByteArray), (⟨#[97, 9, 49, 9, 120, 9, 10]⟩ : ByteArray), (⟨#[63]⟩ : ByteArray)] : List ByteArray) : List ByteArray)).bind fun y296 => (if 0 ≤ (wrap64 (Int.tmod (IntKind.u64.wrap (a2)) 6)) then (if (wrap64 (Int.tmod (IntKind.u64.wrap (a2)) 6)) < (y296.length : Int) then (if t288.size + (rdOf ByteArray.empty y296 (wrap64 (Int.tmod (IntKind.u64.wrap (a2)) 6))).size ≤ 9223372036854775807 then (if (t288 ++ (rdOf ByteArray.empty y296 (wrap64 (Int.tmod (IntKind.u64.wrap (a2)) 6)))).size + bt294.1.size ≤ 9223372036854775807 then ((cruciblelaw0_Num.f t289).bind fun t300 => (if t300 = 0 then ((cruciblelaw0_Num.f bt294.2).bind fun t301 => (if t301 = 0 then ((log_Load.f kj5 ((t288 ++ (rdOf ByteArray.empty y296 (wrap64 (Int.tmod (IntKind.u64.wrap (a2)) 6)))) ++ bt294.1)).bind fun t302 => ((cruciblelaw0_SameRecords.f kj5 t302 (l0.take ((ji18) : Int).toNat)).bind fun t309 => (some t309))) else (some false))) else (some false))) else (none)) else (none)) else (none)) else (none)))) = some r := by first | (rw [hy290]; with_reducible exact H) | (have H2_ := (Option.bind_some _ _).symm.trans H; rw [hy290]; with_reducible exact H2_) | (have H2_ := (Option.bind_some _ _).symm.trans H; with_reducible exact H2_) | with_reducible exact H | (rw [hy290]; exact H) | exact H
                have Ny290 := Aside0.mk hy290
                clear hy290
                replace H := Option.bind_eq_some_iff.mp H
                obtain ⟨⟨t294, t295⟩, A240, H⟩ := H
                replace H : ((some (([(⟨#[10]⟩ : ByteArray), (⟨#[120, 10]⟩ : ByteArray), (⟨#[97, 9, 48, 9, 120, 10]⟩ : ByteArray), (⟨#[0, 10]⟩ : ByteArray), (⟨#[97, 9, 49, 9, 120, 9, 10]⟩ : ByteArray), (⟨#[63]⟩ : ByteArray)] : List ByteArray) : List ByteArray)).bind fun y296 => (if 0 ≤ (wrap64 (Int.tmod (IntKind.u64.wrap (a2)) 6)) then (if (wrap64 (Int.tmod (IntKind.u64.wrap (a2)) 6)) < (y296.length : Int) then (if t288.size + (rdOf ByteArray.empty y296 (wrap64 (Int.tmod (IntKind.u64.wrap (a2)) 6))).size ≤ 9223372036854775807 then (if (t288 ++ (rdOf ByteArray.empty y296 (wrap64 (Int.tmod (IntKind.u64.wrap (a2)) 6)))).size + t294.size ≤ 9223372036854775807 then ((cruciblelaw0_Num.f t289).bind fun t300 => (if t300 = 0 then ((cruciblelaw0_Num.f t295).bind fun t301 => (if t301 = 0 then ((log_Load.f kj5 ((t288 ++ (rdOf ByteArray.empty y296 (wrap64 (Int.tmod (IntKind.u64.wrap (a2)) 6)))) ++ t294)).bind fun t302 => ((cruciblelaw0_SameRecords.f kj5 t302 (l0.take ((ji18) : Int).toNat)).bind fun t309 => (some t309))) else (some false))) else (some false))) else (none)) else (none)) else (none)) else (none))) = some r := H
                have A24 := Aside0.mk A240
                clear A240
                obtain ⟨y296, hy296⟩ : ∃ y_ : List ByteArray, y_ = (([(⟨#[10]⟩ : ByteArray), (⟨#[120, 10]⟩ : ByteArray), (⟨#[97, 9, 48, 9, 120, 10]⟩ : ByteArray), (⟨#[0, 10]⟩ : ByteArray), (⟨#[97, 9, 49, 9, 120, 9, 10]⟩ : ByteArray), (⟨#[63]⟩ : ByteArray)] : List ByteArray)) := ⟨_, rfl⟩
                replace H : (if 0 ≤ (wrap64 (Int.tmod (IntKind.u64.wrap (a2)) 6)) then (if (wrap64 (Int.tmod (IntKind.u64.wrap (a2)) 6)) < (y296.length : Int) then (if t288.size + (rdOf ByteArray.empty y296 (wrap64 (Int.tmod (IntKind.u64.wrap (a2)) 6))).size ≤ 9223372036854775807 then (if (t288 ++ (rdOf ByteArray.empty y296 (wrap64 (Int.tmod (IntKind.u64.wrap (a2)) 6)))).size + t294.size ≤ 9223372036854775807 then ((cruciblelaw0_Num.f t289).bind fun t300 => (if t300 = 0 then ((cruciblelaw0_Num.f t295).bind fun t301 => (if t301 = 0 then ((log_Load.f kj5 ((t288 ++ (rdOf ByteArray.empty y296 (wrap64 (Int.tmod (IntKind.u64.wrap (a2)) 6)))) ++ t294)).bind fun t302 => ((cruciblelaw0_SameRecords.f kj5 t302 (l0.take ((ji18) : Int).toNat)).bind fun t309 => (some t309))) else (some false))) else (some false))) else (none)) else (none)) else (none)) else (none)) = some r := by first | (rw [hy296]; with_reducible exact H) | (have H2_ := (Option.bind_some _ _).symm.trans H; rw [hy296]; with_reducible exact H2_) | (have H2_ := (Option.bind_some _ _).symm.trans H; with_reducible exact H2_) | with_reducible exact H | (rw [hy296]; exact H) | exact H
                have Ny296 := Aside0.mk hy296
                clear hy296
                obtain ⟨ji25, hji25⟩ : ∃ j_ : Int, (wrap64 (Int.tmod (IntKind.u64.wrap (a2)) 6)) = j_ := ⟨_, rfl⟩
                replace H : (if 0 ≤ (ji25) then (if (ji25) < (y296.length : Int) then (if t288.size + (rdOf ByteArray.empty y296 (ji25)).size ≤ 9223372036854775807 then (if (t288 ++ (rdOf ByteArray.empty y296 (ji25))).size + t294.size ≤ 9223372036854775807 then ((cruciblelaw0_Num.f t289).bind fun t300 => (if t300 = 0 then ((cruciblelaw0_Num.f t295).bind fun t301 => (if t301 = 0 then ((log_Load.f kj5 ((t288 ++ (rdOf ByteArray.empty y296 (ji25))) ++ t294)).bind fun t302 => ((cruciblelaw0_SameRecords.f kj5 t302 (l0.take ((ji18) : Int).toNat)).bind fun t309 => (some t309))) else (some false))) else (some false))) else (none)) else (none)) else (none)) else (none)) = some r := by first | (rw [hji25] at H; exact H) | (simp only [hji25] at H ⊢; exact H)
                (try rw [hji25] at A21)
                (try rw [hji25] at A24)
                have hji25w : (IntKind.i64.wrap (Int.tmod (IntKind.u64.wrap (a2)) 6)) = ji25 := (i64_w _).trans hji25
                by_cases c26 : 0 ≤ (ji25)
                · rw [if_pos c26] at H
                  have c26b0 : decide (0 ≤ (ji25)) = true := decide_eq_true c26
                  clear c26
                  by_cases c27 : (ji25) < (y296.length : Int)
                  · rw [if_pos c27] at H
                    have c27b0 : decide ((ji25) < (y296.length : Int)) = true := decide_eq_true c27
                    clear c27
                    by_cases c28 : t288.size + (rdOf ByteArray.empty y296 (ji25)).size ≤ 9223372036854775807
                    · rw [if_pos c28] at H
                      have c28b0 := eq_true c28
                      have c28b1 : decide (t288.size + (rdOf ByteArray.empty y296 (ji25)).size ≤ 9223372036854775807) = true := decide_eq_true c28
                      try have c28b2 : (9223372036854775807 < t288.size + (rdOf ByteArray.empty y296 (ji25)).size) = False := eq_false (Nat.not_lt.2 c28)
                      by_cases c29 : (t288 ++ (rdOf ByteArray.empty y296 (ji25))).size + t294.size ≤ 9223372036854775807
                      · rw [if_pos c29] at H
                        have c29b0 := eq_true c29
                        try have c29s := c29
                        try simp only [ByteArray.size_append, size_lit, List.length_cons, List.length_nil, Nat.zero_add, Nat.reduceAdd] at c29s
                        try have c29t := eq_false (Nat.not_lt.2 c29s)
                        have c29b1 : decide ((t288 ++ (rdOf ByteArray.empty y296 (ji25))).size + t294.size ≤ 9223372036854775807) = true := decide_eq_true c29
                        try have c29b2 : (9223372036854775807 < (t288 ++ (rdOf ByteArray.empty y296 (ji25))).size + t294.size) = False := eq_false (Nat.not_lt.2 c29)
                        replace H := Option.bind_eq_some_iff.mp H
                        obtain ⟨t300, A300, H⟩ := H
                        replace H : (if t300 = 0 then ((cruciblelaw0_Num.f t295).bind fun t301 => (if t301 = 0 then ((log_Load.f kj5 ((t288 ++ (rdOf ByteArray.empty y296 (ji25))) ++ t294)).bind fun t302 => ((cruciblelaw0_SameRecords.f kj5 t302 (l0.take ((ji18) : Int).toNat)).bind fun t309 => (some t309))) else (some false))) else (some false)) = some r := H
                        have A30 := Aside0.mk A300
                        clear A300
                        by_cases c31 : t300 = 0
                        · rw [if_pos c31] at H
                          have c31b0 : (t300 == 0) = true := beq_iff_eq.mpr c31
                          have c31b1 : (t300 != 0) = false := bne_eq_false_iff_eq.mpr c31
                          clear c31
                          replace H := Option.bind_eq_some_iff.mp H
                          obtain ⟨t301, A320, H⟩ := H
                          replace H : (if t301 = 0 then ((log_Load.f kj5 ((t288 ++ (rdOf ByteArray.empty y296 (ji25))) ++ t294)).bind fun t302 => ((cruciblelaw0_SameRecords.f kj5 t302 (l0.take ((ji18) : Int).toNat)).bind fun t309 => (some t309))) else (some false)) = some r := H
                          have A32 := Aside0.mk A320
                          clear A320
                          by_cases c33 : t301 = 0
                          · rw [if_pos c33] at H
                            have c33b0 : (t301 == 0) = true := beq_iff_eq.mpr c33
                            have c33b1 : (t301 != 0) = false := bne_eq_false_iff_eq.mpr c33
                            clear c33
                            replace H := Option.bind_eq_some_iff.mp H
                            obtain ⟨t302, A340, H⟩ := H
                            replace H : ((cruciblelaw0_SameRecords.f kj5 t302 (l0.take ((ji18) : Int).toNat)).bind fun t309 => (some t309)) = some r := H
                            have A34 := Aside0.mk A340
                            clear A340
                            have c35b0 := eq_true (of_decide_eq_true (by first | (with_reducible assumption) | assumption) : 0 ≤ (ji18))
                            have c36b0 := eq_true (of_decide_eq_true (by first | (with_reducible assumption) | assumption) : (ji18) ≤ (l0.length : Int))
                            obtain ⟨y305, hy305⟩ : ∃ y_ : List (S31), y_ = (l0.take ((ji18) : Int).toNat) := ⟨_, rfl⟩
                            replace H : ((cruciblelaw0_SameRecords.f kj5 t302 y305).bind fun t309 => (some t309)) = some r := by first | (rw [hy305]; with_reducible exact H) | (have H2_ := (Option.bind_some _ _).symm.trans H; rw [hy305]; with_reducible exact H2_) | (have H2_ := (Option.bind_some _ _).symm.trans H; with_reducible exact H2_) | with_reducible exact H | (rw [hy305]; exact H) | exact H
                            have Ny305 := Aside0.mk hy305
                            clear hy305
                            replace H := Option.bind_eq_some_iff.mp H
                            obtain ⟨t309, A370, H⟩ := H
                            replace H : (some t309) = some r := H
                            have A37 := Aside0.mk A370
                            clear A370
                            obtain rfl := Option.some.inj H
                            have q38 : ((ji18) : Int) ≤ ((l0.length : Int) : Int) := of_decide_eq_true (by first | (with_reducible assumption) | assumption)
                            obtain ⟨i038, hi038, _, hsz38, _⟩ := info_parts info31
                            have hroom38 : l0.length ≤ c0 := HC0.out
                            have hC38 : Kd.C k31 _ A0 l0.length l0 := HR0.out
                            have hcut38 := cut_to (P := Tryz.prog) 22 31 .i64 Tryz.underlying22 hi038 A0 l0.length c0 (ji18) (of_decide_eq_true (by first | (with_reducible assumption) | assumption)) q38 hroom38
                            have hr38 := Kd.C_take (m := ((ji18) : Int).toNat) hC38 (by omega)
                            have hy38 : y284.length = ((ji18) : Int).toNat := (by rw [Ny284.out, List.length_take]; omega)
                            rw [← Ny284.out] at hr38
                            rw [← hy38] at hcut38
                            have HR287 := Aside0.mk hr38
                            have HC287 := Aside0.mk (show y284.length ≤ c0 from by omega)
                            clear hr38 hC38 hroom38 hi038 hsz38
                            have KY38 := Aside0.mk hy38
                            clear hy38
                            replace q38 := eq_true q38
                            try go_wp2_with (first | ((with_reducible refine gate_callee (f := 7) rfl ?_); refine goesL_ (some 43) rfl rfl Tryz.func7 (by kernel_rfl) rfl #[.slice A0 y284.length c0] rfl (by (try simp only [List.map_toArray, List.map_cons, List.map_nil]); first | done | rfl | (simp only [List.length_drop, List.length_take]; rfl)) ?_; (with_reducible refine (log_Text.calls kj5 _ _ y284 t288 t289 _ ?side1 ?side2 A21.out (Tb.below HT0.out (by repeat (first | (with_reducible first | exact HB.out | apply below_alloc | apply pw_below_drewN | apply below_drew1) | exact HB.out)))).mono ?_); (case side1 => repeat (first | exact (Kd.C_below HR287.out HB.out) | (with_reducible refine Kd.C_alloc ?_ _) | (with_reducible refine Kd.C_drewN ?_ _) | (with_reducible refine Kd.C_drew ?_))); (case side2 => exact HC287.out); rintro e w39 ⟨rfl, hb⟩; refine ⟨_, rfl, ?_⟩; have n0_ := Aside0.mk (below_step (by repeat (first | (with_reducible first | exact HB.out | apply below_alloc | apply pw_below_drewN | apply below_drew1) | exact HB.out)) hb); clear HB; have HB := n0_; clear n0_; (try clear hb); (try clear hb2); (try clear hk); (try clear hi); have q40 : ((ji18) : Int) ≤ ((l0.length : Int) : Int) := of_decide_eq_true (by first | (with_reducible assumption) | assumption); obtain ⟨i040, hi040, _, hsz40, _⟩ := info_parts info31; have hroom40 : l0.length ≤ c0 := HC0.out; have hC40 : Kd.C k31 _ A0 l0.length l0 := HR0.out; have q040 : (0 : Int) ≤ ((ji18) : Int) := of_decide_eq_true (by first | (with_reducible assumption) | assumption); have hcut40 := cut_from (P := Tryz.prog) 22 31 .i64 Tryz.underlying22 hi040 3 hsz40 A0 l0.length c0 (ji18) q040 q40; have hr40 := Kd.C_drop (m := ((ji18) : Int).toNat) (c := c0) hC40 (by omega) hroom40; obtain ⟨A40, hA40⟩ : ∃ A1, A1 = (if c0 = ((ji18) : Int).toNat then A0 else (A0 : Option Addr).map (·.add (((ji18) : Int).toNat * 3))) := ⟨_, rfl⟩; obtain ⟨c40, hc40⟩ : ∃ c1, c1 = c0 - ((ji18) : Int).toNat := ⟨_, rfl⟩; have hy40 : y290.length = l0.length - ((ji18) : Int).toNat := (by rw [Ny290.out, List.length_drop] <;> omega); rw [show (l0).drop ((ji18) : Int).toNat = y290 from Ny290.out.symm] at hr40; replace hr40 : Kd.C k31 _ A40 y290.length y290 := (by rw [hA40]; exact hr40); rw [← hy40, ← hA40, ← hc40] at hcut40; have HR293 := Aside0.mk hr40; have HC293 := Aside0.mk (show y290.length ≤ c40 from by rw [hy40, hc40]; exact Nat.sub_le_sub_right hroom40 _); clear hr40 hC40 hroom40 hi040 hsz40 hc40; have KY40 := Aside0.mk hy40; have KA40 := Aside0.mk hA40; clear hy40 hA40; replace q40 := eq_true q40) | ((with_reducible refine gate_callee (f := 7) rfl ?_); refine goesL_ (some 50) rfl rfl Tryz.func7 (by kernel_rfl) rfl #[.slice A40 y290.length c40] rfl (by (try simp only [List.map_toArray, List.map_cons, List.map_nil]); first | done | rfl | (simp only [List.length_drop, List.length_take]; rfl)) ?_; (with_reducible refine (log_Text.calls kj5 _ _ y290 t294 t295 _ ?side1 ?side2 A24.out (Tb.below HT0.out (by repeat (first | (with_reducible first | exact HB.out | apply below_alloc | apply pw_below_drewN | apply below_drew1) | exact HB.out)))).mono ?_); (case side1 => repeat (first | exact (Kd.C_below HR293.out HB.out) | (with_reducible refine Kd.C_alloc ?_ _) | (with_reducible refine Kd.C_drewN ?_ _) | (with_reducible refine Kd.C_drew ?_))); (case side2 => exact HC293.out); rintro e w41 ⟨rfl, hb⟩; refine ⟨_, rfl, ?_⟩; have n0_ := Aside0.mk (below_step (by repeat (first | (with_reducible first | exact HB.out | apply below_alloc | apply pw_below_drewN | apply below_drew1) | exact HB.out)) hb); clear HB; have HB := n0_; clear n0_; (try clear hb); (try clear hb2); (try clear hk); (try clear hi)) | ((with_reducible refine gate_dst (N := 54) rfl ?_); (try (refine gate_guard (by rfl) ?_; dsimp only)); refine Kd.R_lit Kd.string _ 9 ?hg (N := 54) ?hd (xs := ([(⟨#[10]⟩ : ByteArray), (⟨#[120, 10]⟩ : ByteArray), (⟨#[97, 9, 48, 9, 120, 10]⟩ : ByteArray), (⟨#[0, 10]⟩ : ByteArray), (⟨#[97, 9, 49, 9, 120, 9, 10]⟩ : ByteArray), (⟨#[63]⟩ : ByteArray)] : List ByteArray)) (inner := [.string (⟨#[10]⟩ : ByteArray), .string (⟨#[120, 10]⟩ : ByteArray), .string (⟨#[97, 9, 48, 9, 120, 10]⟩ : ByteArray), .string (⟨#[0, 10]⟩ : ByteArray), .string (⟨#[97, 9, 49, 9, 120, 9, 10]⟩ : ByteArray), .string (⟨#[63]⟩ : ByteArray)]) (ok := fun _ => True) (okp := fun _ => True) ?hr ?hp (fun _ hk => hk) trivial (Below.refl _ _) (Nat.le_refl _) (by simp) ?_; (case hd => rfl); (case hg => rfl); (case hr => first | (go_simp; done) | (go_simp; rfl)); (case hp => exact (Reps.one (show Kd.M Kd.string _ _ _ (⟨#[10]⟩ : ByteArray) [.string (⟨#[10]⟩ : ByteArray)] from rfl) (Reps.one (show Kd.M Kd.string _ _ _ (⟨#[120, 10]⟩ : ByteArray) [.string (⟨#[120, 10]⟩ : ByteArray)] from rfl) (Reps.one (show Kd.M Kd.string _ _ _ (⟨#[97, 9, 48, 9, 120, 10]⟩ : ByteArray) [.string (⟨#[97, 9, 48, 9, 120, 10]⟩ : ByteArray)] from rfl) (Reps.one (show Kd.M Kd.string _ _ _ (⟨#[0, 10]⟩ : ByteArray) [.string (⟨#[0, 10]⟩ : ByteArray)] from rfl) (Reps.one (show Kd.M Kd.string _ _ _ (⟨#[97, 9, 49, 9, 120, 9, 10]⟩ : ByteArray) [.string (⟨#[97, 9, 49, 9, 120, 9, 10]⟩ : ByteArray)] from rfl) (Reps.one (show Kd.M Kd.string _ _ _ (⟨#[63]⟩ : ByteArray) [.string (⟨#[63]⟩ : ByteArray)] from rfl) (Reps.none _ _)))))))); intro v297 w42 ho43 hb hg_ hnew_; clear hg_ hnew_; (first | rw [← Ny296.out] at ho43 | (simp only [Int.reduceToNat] at ho43; rw [← Ny296.out] at ho43)); have n0_ := Aside0.mk (Kd.R_lower ho43 (below_size (by repeat (first | (with_reducible first | exact HB.out | apply below_alloc | apply pw_below_drewN | apply below_drew1) | exact HB.out)))); have n1_ := Aside0.mk (below_step (by repeat (first | (with_reducible first | exact HB.out | apply below_alloc | apply pw_below_drewN | apply below_drew1) | exact HB.out)) hb); clear HB; have HO298 := n0_; have HB := n1_; clear n0_ n1_; clear hb ho43; obtain ⟨Ao44, co44, eo44⟩ := Kd.R_slice HO298.out; subst eo44; have p299 : 0 ≤ ((ji25) : Int) := of_decide_eq_true (by first | (with_reducible assumption) | assumption); have q299 : (ji25) < (y296.length : Int) := of_decide_eq_true (by first | (with_reducible assumption) | assumption); obtain ⟨ad299, e299, hx299_0⟩ := Kd.at_string (Kd.R_reads' HO298.out).2.2 (ji25) p299 q299; cases e299; replace p299 := eq_true p299; replace q299 := eq_true q299))
                            have n0_ := Aside0.mk (Kd.R_drew HO298.out)
                            have n1_ := Aside0.mk (below_drew1 HB.out)
                            clear HO298
                            clear HB
                            have HO298 := n0_
                            have HB := n1_
                            clear n0_ n1_
                            refine start_ (n := 17) (S := fun w' => True) (ds := []) #[false, false, false, false, false, false, false, false, false, false, false, false, false, false, false, false, false] (by kernel_rfl) rfl rfl trivial (fun hHeld => ?_); refine with_tabW cruciblelaw14_LogBad.tab9 cruciblelaw14_LogBad.bits9 (fun HT_ HW_ => ?_)
                            generalize w42.drew = w45 at HO298 HB hHeld ⊢
                            refine pure_ (i := 0) (N := some 64) (v := ?_) (a' := ?_) #[true, false, false, false, false, false, false, false, false, false, false, false, false, false, false, false, false] rfl rfl (any_of HT_.out (by kernel_rfl)) (fun _ _ _ h => h) (Or.inl ⟨by rfl, ?_⟩) ?_ ?_
                            rotate_left
                            · intro w'
                              go_simp
                              with_reducible rfl
                            rotate_left
                            · simp only [Act.put, List.setIfInBounds_toArray, List.set_cons_zero, List.set_cons_succ, i64_w, i32_w]
                              rfl
                            refine one_ (i := 1) (N := some 65) #[true, true, false, false, false, false, false, false, false, false, false, false, false, false, false, false, false] rfl rfl (one_of HT_.out (by kernel_rfl)) (by decide) (fun K hK => ?_)
                            refine goes_ Tryz.func14 (by kernel_rfl) rfl #[.int .i64 t289] (by rfl) rfl rfl (by (try simp only [List.map_toArray, List.map_cons, List.map_nil]); first | done | rfl | (simp only [List.length_drop, List.length_take]; rfl)) ?_
                            with_reducible refine (cruciblelaw0_Num.calls t289 t300 _ A30.out).mono ?_
                            rintro e w' ⟨rfl, ⟨nd, rfl⟩⟩
                            refine ⟨_, rfl, ?_⟩
                            refine hK.out _ _ trivial (fun hHeld => ?_)
                            clear hK K
                            refine norm_ (a' := ?_) ?_ ?_
                            rotate_left
                            · show Act.put _ (some 65) _ = _
                              simp only [Act.put, List.setIfInBounds_toArray, List.set_cons_zero, List.set_cons_succ, i64_w, i32_w]
                              rfl
                            refine pure_ (i := 2) (N := some 66) (v := ?_) (a' := ?_) #[true, true, true, false, false, false, false, false, false, false, false, false, false, false, false, false, false] rfl rfl (any_of HT_.out (by kernel_rfl)) (fun _ _ _ h => h) (Or.inl ⟨by rfl, ?_⟩) ?_ ?_
                            rotate_left
                            · intro w'
                              go_simp
                              with_reducible rfl
                            rotate_left
                            · simp only [Act.put, List.setIfInBounds_toArray, List.set_cons_zero, List.set_cons_succ, i64_w, i32_w]
                              rfl
                            refine pure_ (i := 3) (N := some 67) (v := ?_) (a' := ?_) #[true, true, true, true, false, false, false, false, false, false, false, false, false, false, false, false, false] rfl rfl (any_of HT_.out (by kernel_rfl)) (fun _ _ _ h => h) (Or.inl ⟨by rfl, ?_⟩) ?_ ?_
                            rotate_left
                            · intro w'
                              go_simp
                              with_reducible rfl
                            rotate_left
                            · simp only [Act.put, List.setIfInBounds_toArray, List.set_cons_zero, List.set_cons_succ, i64_w, i32_w]
                              rfl
                            refine pure_ (i := 4) (N := some 68) (v := ?_) (a' := ?_) #[true, true, true, true, true, false, false, false, false, false, false, false, false, false, false, false, false] rfl rfl (any_of HT_.out (by kernel_rfl)) (fun _ _ _ h => h) (Or.inl ⟨by rfl, ?_⟩) ?_ ?_
                            rotate_left
                            · intro w'
                              go_simp
                              with_reducible rfl
                            rotate_left
                            · simp only [Act.put, List.setIfInBounds_toArray, List.set_cons_zero, List.set_cons_succ, i64_w, i32_w]
                              rfl
                            refine one_ (i := 5) (N := some 69) #[true, true, true, true, true, true, false, false, false, false, false, false, false, false, false, false, false] rfl rfl (one_of HT_.out (by kernel_rfl)) (by decide) (fun K hK => ?_)
                            refine goes_ Tryz.func14 (by kernel_rfl) rfl #[.int .i64 t295] (by rfl) rfl rfl (by (try simp only [List.map_toArray, List.map_cons, List.map_nil]); first | done | rfl | (simp only [List.length_drop, List.length_take]; rfl)) ?_
                            with_reducible refine (cruciblelaw0_Num.calls t295 t301 _ A32.out).mono ?_
                            rintro e w' ⟨rfl, ⟨nd, rfl⟩⟩
                            refine ⟨_, rfl, ?_⟩
                            refine hK.out _ _ trivial (fun hHeld => ?_)
                            clear hK K
                            refine norm_ (a' := ?_) ?_ ?_
                            rotate_left
                            · show Act.put _ (some 69) _ = _
                              simp only [Act.put, List.setIfInBounds_toArray, List.set_cons_zero, List.set_cons_succ, i64_w, i32_w]
                              rfl
                            refine pure_ (i := 6) (N := some 70) (v := ?_) (a' := ?_) #[true, true, true, true, true, true, true, false, false, false, false, false, false, false, false, false, false] rfl rfl (any_of HT_.out (by kernel_rfl)) (fun _ _ _ h => h) (Or.inl ⟨by rfl, ?_⟩) ?_ ?_
                            rotate_left
                            · intro w'
                              go_simp
                              with_reducible rfl
                            rotate_left
                            · simp only [Act.put, List.setIfInBounds_toArray, List.set_cons_zero, List.set_cons_succ, i64_w, i32_w]
                              rfl
                            refine pure_ (i := 7) (N := some 71) (v := ?_) (a' := ?_) #[true, true, true, true, true, true, true, true, false, false, false, false, false, false, false, false, false] rfl rfl (any_of HT_.out (by kernel_rfl)) (fun _ _ _ h => h) (Or.inl ⟨by rfl, ?_⟩) ?_ ?_
                            rotate_left
                            · intro w'
                              go_simp
                              with_reducible rfl
                            rotate_left
                            · simp only [Act.put, List.setIfInBounds_toArray, List.set_cons_zero, List.set_cons_succ, i64_w, i32_w]
                              rfl
                            refine pure_ (i := 8) (N := some 72) (v := ?_) (a' := ?_) #[true, true, true, true, true, true, true, true, true, false, false, false, false, false, false, false, false] rfl rfl (any_of HT_.out (by kernel_rfl)) (fun _ _ _ h => h) (Or.inl ⟨by rfl, ?_⟩) ?_ ?_
                            rotate_left
                            · intro w'
                              go_simp
                              with_reducible rfl
                            rotate_left
                            · simp only [Act.put, List.setIfInBounds_toArray, List.set_cons_zero, List.set_cons_succ, i64_w, i32_w]
                              rfl
                            refine pure_ (i := 9) (N := some 73) (v := ?_) (a' := ?_) #[true, true, true, true, true, true, true, true, true, true, false, false, false, false, false, false, false] rfl rfl (any_of HT_.out (by kernel_rfl)) (fun _ _ _ h => h) (Or.inl ⟨by rfl, ?_⟩) ?_ ?_
                            rotate_left
                            · intro w'
                              go_simp
                              with_reducible rfl
                            rotate_left
                            · simp only [Act.put, List.setIfInBounds_toArray, List.set_cons_zero, List.set_cons_succ, i64_w, i32_w]
                              rfl
                            refine pure_ (i := 11) (N := some 75) (v := ?_) (a' := ?_) #[true, true, true, true, true, true, true, true, true, true, false, true, false, false, false, false, false] rfl rfl (any_of HT_.out (by kernel_rfl)) (fun _ _ _ h => h) (Or.inl ⟨by rfl, ?_⟩) ?_ ?_
                            rotate_left
                            · intro w'
                              go_simp
                              with_reducible rfl
                            rotate_left
                            · simp only [Act.put, List.setIfInBounds_toArray, List.set_cons_zero, List.set_cons_succ, i64_w, i32_w]
                              rfl
                            refine pure_ (i := 12) (N := some 76) (v := ?_) (a' := ?_) #[true, true, true, true, true, true, true, true, true, true, false, true, true, false, false, false, false] rfl rfl (any_of HT_.out (by kernel_rfl)) (fun _ _ _ h => h) (Or.inl ⟨by rfl, ?_⟩) ?_ ?_
                            rotate_left
                            · intro w'
                              go_simp
                              with_reducible rfl
                            rotate_left
                            · simp only [Act.put, List.setIfInBounds_toArray, List.set_cons_zero, List.set_cons_succ, i64_w, i32_w]
                              rfl
                            refine pure_ (i := 13) (N := some 77) (v := ?_) (a' := ?_) #[true, true, true, true, true, true, true, true, true, true, false, true, true, true, false, false, false] rfl rfl (any_of HT_.out (by kernel_rfl)) (fun _ _ _ h => h) (Or.inl ⟨by rfl, ?_⟩) ?_ ?_
                            rotate_left
                            · intro w'
                              go_simp
                              with_reducible rfl
                            rotate_left
                            · simp only [Act.put, List.setIfInBounds_toArray, List.set_cons_zero, List.set_cons_succ, i64_w, i32_w]
                              rfl
                            refine one_ (i := 10) (N := some 74) #[true, true, true, true, true, true, true, true, true, true, true, true, true, true, false, false, false] rfl rfl (one_of HT_.out (by kernel_rfl)) (by decide) (fun K hK => ?_)
                            refine goes_ Tryz.func9 (by kernel_rfl) rfl #[.string ((t288 ++ (rdOf ByteArray.empty y296 (ji25))) ++ t294)] (by rfl) rfl rfl (by (try simp only [List.map_toArray, List.map_cons, List.map_nil]); first | done | (simp only [hji25]; rfl) | rfl | (simp only [List.length_drop, List.length_take]; rfl)) ?_
                            with_reducible refine (log_Load.calls kj5 ((t288 ++ (rdOf ByteArray.empty y296 (ji25))) ++ t294) t302 _ A34.out (Tb.below HT0.out (by repeat (first | (with_reducible first | exact HB.out | apply below_alloc | apply pw_below_drewN | apply below_drew1) | exact HB.out)))).mono ?_
                            rintro e w46 ⟨v303, rfl, ho0, hb⟩
                            refine ⟨_, rfl, ?_⟩
                            have n0_ := Aside0.mk (Kd.R_below (by (with_reducible repeat (first | apply Kd.R_alloc | apply Kd.R_drewN | apply Kd.R_drew)); exact HO298.out) hb)
                            have n1_ := Aside0.mk (Kd.R_lower ho0 (below_size (by repeat (first | (with_reducible first | exact HB.out | apply below_alloc | apply pw_below_drewN | apply below_drew1) | exact HB.out))))
                            have n2_ := Aside0.mk (below_step (by repeat (first | (with_reducible first | exact HB.out | apply below_alloc | apply pw_below_drewN | apply below_drew1) | exact HB.out)) hb)
                            clear HO298
                            clear HB
                            have HO298 := n0_
                            have HO304 := n1_
                            have HB := n2_
                            clear n0_ n1_ n2_
                            (try clear hb)
                            (try clear hb2)
                            (try clear hk)
                            (try clear hi)
                            (try clear ho0)
                            have q47 : ((ji18) : Int) ≤ ((l0.length : Int) : Int) := of_decide_eq_true (by first | (with_reducible assumption) | assumption)
                            obtain ⟨i047, hi047, _, hsz47, _⟩ := info_parts info31
                            have hroom47 : l0.length ≤ c0 := HC0.out
                            have hC47 : Kd.C k31 _ A0 l0.length l0 := HR0.out
                            have hcut47 := cut_to (P := Tryz.prog) 22 31 .i64 Tryz.underlying22 hi047 A0 l0.length c0 (ji18) (of_decide_eq_true (by first | (with_reducible assumption) | assumption)) q47 hroom47
                            have hr47 := Kd.C_take (m := ((ji18) : Int).toNat) hC47 (by omega)
                            have hy47 : y305.length = ((ji18) : Int).toNat := (by rw [Ny305.out, List.length_take]; omega)
                            rw [← Ny305.out] at hr47
                            rw [← hy47] at hcut47
                            have HR308 := Aside0.mk hr47
                            have HC308 := Aside0.mk (show y305.length ≤ c0 from by omega)
                            clear hr47 hC47 hroom47 hi047 hsz47
                            have KY47 := Aside0.mk hy47
                            clear hy47
                            replace q47 := eq_true q47
                            obtain ⟨Ao48, co48, eo48⟩ := Kd.R_slice HO304.out
                            (first | subst eo48 | (injection eo48 with f1_ f2_ f3_; have f4_ := f1_.symm; have f5_ := f3_.symm; clear f1_ f2_ f3_; subst f4_; subst f5_))
                            refine hK.out _ _ trivial (fun hHeld => ?_)
                            clear hK K
                            refine norm_ (a' := ?_) ?_ ?_
                            rotate_left
                            · show Act.put _ (some 74) _ = _
                              simp only [Act.put, List.setIfInBounds_toArray, List.set_cons_zero, List.set_cons_succ, i64_w, i32_w]
                              rfl
                            refine one_ (i := 14) (N := some 78) #[true, true, true, true, true, true, true, true, true, true, true, true, true, true, true, false, false] rfl rfl (one_of HT_.out (by kernel_rfl)) (by decide) (fun K hK => ?_)
                            refine goes_ Tryz.func15 (by kernel_rfl) rfl #[.slice Ao48 t302.length co48, .slice A0 y305.length c0] (by rfl) rfl rfl (by (try simp only [List.map_toArray, List.map_cons, List.map_nil]); first | done | rfl | (simp only [List.length_drop, List.length_take]; rfl) | (rw [KY47.out] <;> rfl) | (simp only [KY47.out] <;> rfl) | (simp only [KY47.out, KY38.out] <;> rfl)) ?_
                            with_reducible refine (cruciblelaw0_SameRecords.calls kj5 _ _ t302 _ _ y305 t309 _ ?side1 ?side2 ?side3 ?side4 A37.out).mono ?_
                            (case side1 => repeat (first | exact (Kd.R_reads' HO304.out).2.2 | (with_reducible refine Kd.C_alloc ?_ _) | (with_reducible refine Kd.C_drewN ?_ _) | (with_reducible refine Kd.C_drew ?_)))
                            (case side2 => exact (Kd.R_reads' HO304.out).2.1)
                            (case side3 => repeat (first | exact (Kd.C_below HR308.out HB.out) | (with_reducible refine Kd.C_alloc ?_ _) | (with_reducible refine Kd.C_drewN ?_ _) | (with_reducible refine Kd.C_drew ?_)))
                            (case side4 => exact HC308.out)
                            rintro e w' ⟨rfl, ⟨nd, rfl⟩⟩
                            refine ⟨_, rfl, ?_⟩
                            refine hK.out _ _ trivial (fun hHeld => ?_)
                            clear hK K
                            refine norm_ (a' := ?_) ?_ ?_
                            rotate_left
                            · show Act.put _ (some 78) _ = _
                              simp only [Act.put, List.setIfInBounds_toArray, List.set_cons_zero, List.set_cons_succ, i64_w, i32_w]
                              rfl
                            refine pure_ (i := 15) (N := some 79) (v := ?_) (a' := ?_) #[true, true, true, true, true, true, true, true, true, true, true, true, true, true, true, true, false] rfl rfl (any_of HT_.out (by kernel_rfl)) (fun _ _ _ h => h) (Or.inl ⟨by rfl, ?_⟩) ?_ ?_
                            rotate_left
                            · intro w'
                              go_simp
                              with_reducible rfl
                            rotate_left
                            · simp only [Act.put, List.setIfInBounds_toArray, List.set_cons_zero, List.set_cons_succ, i64_w, i32_w]
                              rfl
                            refine pure_ (i := 16) (N := some 6) (v := ?_) (a' := ?_) #[true, true, true, true, true, true, true, true, true, true, true, true, true, true, true, true, true] rfl rfl (any_of HT_.out (by kernel_rfl)) (fun _ _ _ h => h) (Or.inl ⟨by rfl, ?_⟩) ?_ ?_
                            rotate_left
                            · intro w'
                              go_simp
                              with_reducible rfl
                            rotate_left
                            · simp only [Act.put, List.setIfInBounds_toArray, List.set_cons_zero, List.set_cons_succ, i64_w, i32_w]
                              rfl
                            refine done_ (done_of HT_.out (by kernel_rfl)) ?_
                            try go_wp2
                            go_ret
                            exact ⟨by first | rfl | (simp [errW_none, errW_some] <;> rfl) | (simp only [← hji18, ← hji25]; first | rfl | (simp [errW_none, errW_some] <;> rfl)) | (simp [*, errW_none, errW_some] <;> rfl), by repeat (first | (with_reducible first | exact HB.out | apply below_alloc | apply pw_below_drewN | apply below_drew1) | exact HB.out)⟩
                          · rw [if_neg c33] at H
                            have c33b0 : (t301 == 0) = false := beq_eq_false_iff_ne.mpr c33
                            have c33b1 : (t301 != 0) = true := bne_iff_ne.mpr c33
                            obtain rfl := Option.some.inj H
                            have q49 : ((ji18) : Int) ≤ ((l0.length : Int) : Int) := of_decide_eq_true (by first | (with_reducible assumption) | assumption)
                            obtain ⟨i049, hi049, _, hsz49, _⟩ := info_parts info31
                            have hroom49 : l0.length ≤ c0 := HC0.out
                            have hC49 : Kd.C k31 _ A0 l0.length l0 := HR0.out
                            have hcut49 := cut_to (P := Tryz.prog) 22 31 .i64 Tryz.underlying22 hi049 A0 l0.length c0 (ji18) (of_decide_eq_true (by first | (with_reducible assumption) | assumption)) q49 hroom49
                            have hr49 := Kd.C_take (m := ((ji18) : Int).toNat) hC49 (by omega)
                            have hy49 : y284.length = ((ji18) : Int).toNat := (by rw [Ny284.out, List.length_take]; omega)
                            rw [← Ny284.out] at hr49
                            rw [← hy49] at hcut49
                            have HR287 := Aside0.mk hr49
                            have HC287 := Aside0.mk (show y284.length ≤ c0 from by omega)
                            clear hr49 hC49 hroom49 hi049 hsz49
                            have KY49 := Aside0.mk hy49
                            clear hy49
                            replace q49 := eq_true q49
                            try go_wp2_with (first | ((with_reducible refine gate_callee (f := 7) rfl ?_); refine goesL_ (some 43) rfl rfl Tryz.func7 (by kernel_rfl) rfl #[.slice A0 y284.length c0] rfl (by (try simp only [List.map_toArray, List.map_cons, List.map_nil]); first | done | rfl | (simp only [List.length_drop, List.length_take]; rfl)) ?_; (with_reducible refine (log_Text.calls kj5 _ _ y284 t288 t289 _ ?side1 ?side2 A21.out (Tb.below HT0.out (by repeat (first | (with_reducible first | exact HB.out | apply below_alloc | apply pw_below_drewN | apply below_drew1) | exact HB.out)))).mono ?_); (case side1 => repeat (first | exact (Kd.C_below HR287.out HB.out) | (with_reducible refine Kd.C_alloc ?_ _) | (with_reducible refine Kd.C_drewN ?_ _) | (with_reducible refine Kd.C_drew ?_))); (case side2 => exact HC287.out); rintro e w50 ⟨rfl, hb⟩; refine ⟨_, rfl, ?_⟩; have n0_ := Aside0.mk (below_step (by repeat (first | (with_reducible first | exact HB.out | apply below_alloc | apply pw_below_drewN | apply below_drew1) | exact HB.out)) hb); clear HB; have HB := n0_; clear n0_; (try clear hb); (try clear hb2); (try clear hk); (try clear hi); have q51 : ((ji18) : Int) ≤ ((l0.length : Int) : Int) := of_decide_eq_true (by first | (with_reducible assumption) | assumption); obtain ⟨i051, hi051, _, hsz51, _⟩ := info_parts info31; have hroom51 : l0.length ≤ c0 := HC0.out; have hC51 : Kd.C k31 _ A0 l0.length l0 := HR0.out; have q051 : (0 : Int) ≤ ((ji18) : Int) := of_decide_eq_true (by first | (with_reducible assumption) | assumption); have hcut51 := cut_from (P := Tryz.prog) 22 31 .i64 Tryz.underlying22 hi051 3 hsz51 A0 l0.length c0 (ji18) q051 q51; have hr51 := Kd.C_drop (m := ((ji18) : Int).toNat) (c := c0) hC51 (by omega) hroom51; obtain ⟨A51, hA51⟩ : ∃ A1, A1 = (if c0 = ((ji18) : Int).toNat then A0 else (A0 : Option Addr).map (·.add (((ji18) : Int).toNat * 3))) := ⟨_, rfl⟩; obtain ⟨c51, hc51⟩ : ∃ c1, c1 = c0 - ((ji18) : Int).toNat := ⟨_, rfl⟩; have hy51 : y290.length = l0.length - ((ji18) : Int).toNat := (by rw [Ny290.out, List.length_drop] <;> omega); rw [show (l0).drop ((ji18) : Int).toNat = y290 from Ny290.out.symm] at hr51; replace hr51 : Kd.C k31 _ A51 y290.length y290 := (by rw [hA51]; exact hr51); rw [← hy51, ← hA51, ← hc51] at hcut51; have HR293 := Aside0.mk hr51; have HC293 := Aside0.mk (show y290.length ≤ c51 from by rw [hy51, hc51]; exact Nat.sub_le_sub_right hroom51 _); clear hr51 hC51 hroom51 hi051 hsz51 hc51; have KY51 := Aside0.mk hy51; have KA51 := Aside0.mk hA51; clear hy51 hA51; replace q51 := eq_true q51) | ((with_reducible refine gate_callee (f := 7) rfl ?_); refine goesL_ (some 50) rfl rfl Tryz.func7 (by kernel_rfl) rfl #[.slice A51 y290.length c51] rfl (by (try simp only [List.map_toArray, List.map_cons, List.map_nil]); first | done | rfl | (simp only [List.length_drop, List.length_take]; rfl)) ?_; (with_reducible refine (log_Text.calls kj5 _ _ y290 t294 t295 _ ?side1 ?side2 A24.out (Tb.below HT0.out (by repeat (first | (with_reducible first | exact HB.out | apply below_alloc | apply pw_below_drewN | apply below_drew1) | exact HB.out)))).mono ?_); (case side1 => repeat (first | exact (Kd.C_below HR293.out HB.out) | (with_reducible refine Kd.C_alloc ?_ _) | (with_reducible refine Kd.C_drewN ?_ _) | (with_reducible refine Kd.C_drew ?_))); (case side2 => exact HC293.out); rintro e w52 ⟨rfl, hb⟩; refine ⟨_, rfl, ?_⟩; have n0_ := Aside0.mk (below_step (by repeat (first | (with_reducible first | exact HB.out | apply below_alloc | apply pw_below_drewN | apply below_drew1) | exact HB.out)) hb); clear HB; have HB := n0_; clear n0_; (try clear hb); (try clear hb2); (try clear hk); (try clear hi)) | ((with_reducible refine gate_dst (N := 54) rfl ?_); (try (refine gate_guard (by rfl) ?_; dsimp only)); refine Kd.R_lit Kd.string _ 9 ?hg (N := 54) ?hd (xs := ([(⟨#[10]⟩ : ByteArray), (⟨#[120, 10]⟩ : ByteArray), (⟨#[97, 9, 48, 9, 120, 10]⟩ : ByteArray), (⟨#[0, 10]⟩ : ByteArray), (⟨#[97, 9, 49, 9, 120, 9, 10]⟩ : ByteArray), (⟨#[63]⟩ : ByteArray)] : List ByteArray)) (inner := [.string (⟨#[10]⟩ : ByteArray), .string (⟨#[120, 10]⟩ : ByteArray), .string (⟨#[97, 9, 48, 9, 120, 10]⟩ : ByteArray), .string (⟨#[0, 10]⟩ : ByteArray), .string (⟨#[97, 9, 49, 9, 120, 9, 10]⟩ : ByteArray), .string (⟨#[63]⟩ : ByteArray)]) (ok := fun _ => True) (okp := fun _ => True) ?hr ?hp (fun _ hk => hk) trivial (Below.refl _ _) (Nat.le_refl _) (by simp) ?_; (case hd => rfl); (case hg => rfl); (case hr => first | (go_simp; done) | (go_simp; rfl)); (case hp => exact (Reps.one (show Kd.M Kd.string _ _ _ (⟨#[10]⟩ : ByteArray) [.string (⟨#[10]⟩ : ByteArray)] from rfl) (Reps.one (show Kd.M Kd.string _ _ _ (⟨#[120, 10]⟩ : ByteArray) [.string (⟨#[120, 10]⟩ : ByteArray)] from rfl) (Reps.one (show Kd.M Kd.string _ _ _ (⟨#[97, 9, 48, 9, 120, 10]⟩ : ByteArray) [.string (⟨#[97, 9, 48, 9, 120, 10]⟩ : ByteArray)] from rfl) (Reps.one (show Kd.M Kd.string _ _ _ (⟨#[0, 10]⟩ : ByteArray) [.string (⟨#[0, 10]⟩ : ByteArray)] from rfl) (Reps.one (show Kd.M Kd.string _ _ _ (⟨#[97, 9, 49, 9, 120, 9, 10]⟩ : ByteArray) [.string (⟨#[97, 9, 49, 9, 120, 9, 10]⟩ : ByteArray)] from rfl) (Reps.one (show Kd.M Kd.string _ _ _ (⟨#[63]⟩ : ByteArray) [.string (⟨#[63]⟩ : ByteArray)] from rfl) (Reps.none _ _)))))))); intro v297 w53 ho54 hb hg_ hnew_; clear hg_ hnew_; (first | rw [← Ny296.out] at ho54 | (simp only [Int.reduceToNat] at ho54; rw [← Ny296.out] at ho54)); have n0_ := Aside0.mk (Kd.R_lower ho54 (below_size (by repeat (first | (with_reducible first | exact HB.out | apply below_alloc | apply pw_below_drewN | apply below_drew1) | exact HB.out)))); have n1_ := Aside0.mk (below_step (by repeat (first | (with_reducible first | exact HB.out | apply below_alloc | apply pw_below_drewN | apply below_drew1) | exact HB.out)) hb); clear HB; have HO298 := n0_; have HB := n1_; clear n0_ n1_; clear hb ho54; obtain ⟨Ao55, co55, eo55⟩ := Kd.R_slice HO298.out; subst eo55; have p299 : 0 ≤ ((ji25) : Int) := of_decide_eq_true (by first | (with_reducible assumption) | assumption); have q299 : (ji25) < (y296.length : Int) := of_decide_eq_true (by first | (with_reducible assumption) | assumption); obtain ⟨ad299, e299, hx299_0⟩ := Kd.at_string (Kd.R_reads' HO298.out).2.2 (ji25) p299 q299; cases e299; replace p299 := eq_true p299; replace q299 := eq_true q299))
                            have n0_ := Aside0.mk (Kd.R_drew HO298.out)
                            have n1_ := Aside0.mk (below_drew1 HB.out)
                            clear HO298
                            clear HB
                            have HO298 := n0_
                            have HB := n1_
                            clear n0_ n1_
                            refine start_ (n := 17) (S := fun w' => True) (ds := []) #[false, false, false, false, false, false, false, false, false, false, false, false, false, false, false, false, false] (by kernel_rfl) rfl rfl trivial (fun hHeld => ?_); refine with_tabW cruciblelaw14_LogBad.tab9 cruciblelaw14_LogBad.bits9 (fun HT_ HW_ => ?_)
                            generalize w53.drew = w56 at HO298 HB hHeld ⊢
                            refine pure_ (i := 0) (N := some 64) (v := ?_) (a' := ?_) #[true, false, false, false, false, false, false, false, false, false, false, false, false, false, false, false, false] rfl rfl (any_of HT_.out (by kernel_rfl)) (fun _ _ _ h => h) (Or.inl ⟨by rfl, ?_⟩) ?_ ?_
                            rotate_left
                            · intro w'
                              go_simp
                              with_reducible rfl
                            rotate_left
                            · simp only [Act.put, List.setIfInBounds_toArray, List.set_cons_zero, List.set_cons_succ, i64_w, i32_w]
                              rfl
                            refine one_ (i := 1) (N := some 65) #[true, true, false, false, false, false, false, false, false, false, false, false, false, false, false, false, false] rfl rfl (one_of HT_.out (by kernel_rfl)) (by decide) (fun K hK => ?_)
                            refine goes_ Tryz.func14 (by kernel_rfl) rfl #[.int .i64 t289] (by rfl) rfl rfl (by (try simp only [List.map_toArray, List.map_cons, List.map_nil]); first | done | rfl | (simp only [List.length_drop, List.length_take]; rfl)) ?_
                            with_reducible refine (cruciblelaw0_Num.calls t289 t300 _ A30.out).mono ?_
                            rintro e w' ⟨rfl, ⟨nd, rfl⟩⟩
                            refine ⟨_, rfl, ?_⟩
                            refine hK.out _ _ trivial (fun hHeld => ?_)
                            clear hK K
                            refine norm_ (a' := ?_) ?_ ?_
                            rotate_left
                            · show Act.put _ (some 65) _ = _
                              simp only [Act.put, List.setIfInBounds_toArray, List.set_cons_zero, List.set_cons_succ, i64_w, i32_w]
                              rfl
                            refine pure_ (i := 2) (N := some 66) (v := ?_) (a' := ?_) #[true, true, true, false, false, false, false, false, false, false, false, false, false, false, false, false, false] rfl rfl (any_of HT_.out (by kernel_rfl)) (fun _ _ _ h => h) (Or.inl ⟨by rfl, ?_⟩) ?_ ?_
                            rotate_left
                            · intro w'
                              go_simp
                              with_reducible rfl
                            rotate_left
                            · simp only [Act.put, List.setIfInBounds_toArray, List.set_cons_zero, List.set_cons_succ, i64_w, i32_w]
                              rfl
                            refine pure_ (i := 3) (N := some 67) (v := ?_) (a' := ?_) #[true, true, true, true, false, false, false, false, false, false, false, false, false, false, false, false, false] rfl rfl (any_of HT_.out (by kernel_rfl)) (fun _ _ _ h => h) (Or.inl ⟨by rfl, ?_⟩) ?_ ?_
                            rotate_left
                            · intro w'
                              go_simp
                              with_reducible rfl
                            rotate_left
                            · simp only [Act.put, List.setIfInBounds_toArray, List.set_cons_zero, List.set_cons_succ, i64_w, i32_w]
                              rfl
                            refine pure_ (i := 4) (N := some 68) (v := ?_) (a' := ?_) #[true, true, true, true, true, false, false, false, false, false, false, false, false, false, false, false, false] rfl rfl (any_of HT_.out (by kernel_rfl)) (fun _ _ _ h => h) (Or.inl ⟨by rfl, ?_⟩) ?_ ?_
                            rotate_left
                            · intro w'
                              go_simp
                              with_reducible rfl
                            rotate_left
                            · simp only [Act.put, List.setIfInBounds_toArray, List.set_cons_zero, List.set_cons_succ, i64_w, i32_w]
                              rfl
                            refine one_ (i := 5) (N := some 69) #[true, true, true, true, true, true, false, false, false, false, false, false, false, false, false, false, false] rfl rfl (one_of HT_.out (by kernel_rfl)) (by decide) (fun K hK => ?_)
                            refine goes_ Tryz.func14 (by kernel_rfl) rfl #[.int .i64 t295] (by rfl) rfl rfl (by (try simp only [List.map_toArray, List.map_cons, List.map_nil]); first | done | rfl | (simp only [List.length_drop, List.length_take]; rfl)) ?_
                            with_reducible refine (cruciblelaw0_Num.calls t295 t301 _ A32.out).mono ?_
                            rintro e w' ⟨rfl, ⟨nd, rfl⟩⟩
                            refine ⟨_, rfl, ?_⟩
                            refine hK.out _ _ trivial (fun hHeld => ?_)
                            clear hK K
                            refine norm_ (a' := ?_) ?_ ?_
                            rotate_left
                            · show Act.put _ (some 69) _ = _
                              simp only [Act.put, List.setIfInBounds_toArray, List.set_cons_zero, List.set_cons_succ, i64_w, i32_w]
                              rfl
                            refine pure_ (i := 6) (N := some 70) (v := ?_) (a' := ?_) #[true, true, true, true, true, true, true, false, false, false, false, false, false, false, false, false, false] rfl rfl (any_of HT_.out (by kernel_rfl)) (fun _ _ _ h => h) (Or.inl ⟨by rfl, ?_⟩) ?_ ?_
                            rotate_left
                            · intro w'
                              go_simp
                              with_reducible rfl
                            rotate_left
                            · simp only [Act.put, List.setIfInBounds_toArray, List.set_cons_zero, List.set_cons_succ, i64_w, i32_w]
                              rfl
                            refine pure_ (i := 7) (N := some 71) (v := ?_) (a' := ?_) #[true, true, true, true, true, true, true, true, false, false, false, false, false, false, false, false, false] rfl rfl (any_of HT_.out (by kernel_rfl)) (fun _ _ _ h => h) (Or.inl ⟨by rfl, ?_⟩) ?_ ?_
                            rotate_left
                            · intro w'
                              go_simp
                              with_reducible rfl
                            rotate_left
                            · simp only [Act.put, List.setIfInBounds_toArray, List.set_cons_zero, List.set_cons_succ, i64_w, i32_w]
                              rfl
                            refine pure_ (i := 8) (N := some 72) (v := ?_) (a' := ?_) #[true, true, true, true, true, true, true, true, true, false, false, false, false, false, false, false, false] rfl rfl (any_of HT_.out (by kernel_rfl)) (fun _ _ _ h => h) (Or.inl ⟨by rfl, ?_⟩) ?_ ?_
                            rotate_left
                            · intro w'
                              go_simp
                              with_reducible rfl
                            rotate_left
                            · simp only [Act.put, List.setIfInBounds_toArray, List.set_cons_zero, List.set_cons_succ, i64_w, i32_w]
                              rfl
                            refine pure_ (i := 9) (N := some 73) (v := undef) (a' := ?_) #[true, true, true, true, true, true, true, true, true, true, false, false, false, false, false, false, false] rfl rfl (any_of HT_.out (by kernel_rfl)) (fun _ _ _ h => h) (Or.inr ⟨by rfl, rfl⟩) ?_ ?_
                            rotate_left
                            · simp only [Act.put, List.setIfInBounds_toArray, List.set_cons_zero, List.set_cons_succ, i64_w, i32_w]
                              rfl
                            refine pure_ (i := 10) (N := some 74) (v := undef) (a' := ?_) #[true, true, true, true, true, true, true, true, true, true, true, false, false, false, false, false, false] rfl rfl (any_of HT_.out (by kernel_rfl)) (fun _ _ _ h => h) (Or.inr ⟨by rfl, rfl⟩) ?_ ?_
                            rotate_left
                            · simp only [Act.put, List.setIfInBounds_toArray, List.set_cons_zero, List.set_cons_succ, i64_w, i32_w]
                              rfl
                            refine pure_ (i := 11) (N := some 75) (v := undef) (a' := ?_) #[true, true, true, true, true, true, true, true, true, true, true, true, false, false, false, false, false] rfl rfl (any_of HT_.out (by kernel_rfl)) (fun _ _ _ h => h) (Or.inr ⟨by rfl, rfl⟩) ?_ ?_
                            rotate_left
                            · simp only [Act.put, List.setIfInBounds_toArray, List.set_cons_zero, List.set_cons_succ, i64_w, i32_w]
                              rfl
                            refine pure_ (i := 12) (N := some 76) (v := undef) (a' := ?_) #[true, true, true, true, true, true, true, true, true, true, true, true, true, false, false, false, false] rfl rfl (any_of HT_.out (by kernel_rfl)) (fun _ _ _ h => h) (Or.inr ⟨by rfl, rfl⟩) ?_ ?_
                            rotate_left
                            · simp only [Act.put, List.setIfInBounds_toArray, List.set_cons_zero, List.set_cons_succ, i64_w, i32_w]
                              rfl
                            refine pure_ (i := 13) (N := some 77) (v := undef) (a' := ?_) #[true, true, true, true, true, true, true, true, true, true, true, true, true, true, false, false, false] rfl rfl (any_of HT_.out (by kernel_rfl)) (fun _ _ _ h => h) (Or.inr ⟨by rfl, rfl⟩) ?_ ?_
                            rotate_left
                            · simp only [Act.put, List.setIfInBounds_toArray, List.set_cons_zero, List.set_cons_succ, i64_w, i32_w]
                              rfl
                            refine pure_ (i := 14) (N := some 78) (v := undef) (a' := ?_) #[true, true, true, true, true, true, true, true, true, true, true, true, true, true, true, false, false] rfl rfl (any_of HT_.out (by kernel_rfl)) (fun _ _ _ h => h) (Or.inr ⟨by rfl, rfl⟩) ?_ ?_
                            rotate_left
                            · simp only [Act.put, List.setIfInBounds_toArray, List.set_cons_zero, List.set_cons_succ, i64_w, i32_w]
                              rfl
                            refine pure_ (i := 15) (N := some 79) (v := ?_) (a' := ?_) #[true, true, true, true, true, true, true, true, true, true, true, true, true, true, true, true, false] rfl rfl (any_of HT_.out (by kernel_rfl)) (fun _ _ _ h => h) (Or.inl ⟨by rfl, ?_⟩) ?_ ?_
                            rotate_left
                            · intro w'
                              go_simp
                              with_reducible rfl
                            rotate_left
                            · simp only [Act.put, List.setIfInBounds_toArray, List.set_cons_zero, List.set_cons_succ, i64_w, i32_w]
                              rfl
                            refine pure_ (i := 16) (N := some 6) (v := ?_) (a' := ?_) #[true, true, true, true, true, true, true, true, true, true, true, true, true, true, true, true, true] rfl rfl (any_of HT_.out (by kernel_rfl)) (fun _ _ _ h => h) (Or.inl ⟨by rfl, ?_⟩) ?_ ?_
                            rotate_left
                            · intro w'
                              go_simp
                              with_reducible rfl
                            rotate_left
                            · simp only [Act.put, List.setIfInBounds_toArray, List.set_cons_zero, List.set_cons_succ, i64_w, i32_w]
                              rfl
                            refine done_ (done_of HT_.out (by kernel_rfl)) ?_
                            try go_wp2
                            go_ret
                            exact ⟨by first | rfl | (simp [errW_none, errW_some] <;> rfl) | (simp only [← hji18, ← hji25]; first | rfl | (simp [errW_none, errW_some] <;> rfl)) | (simp [*, errW_none, errW_some] <;> rfl), by repeat (first | (with_reducible first | exact HB.out | apply below_alloc | apply pw_below_drewN | apply below_drew1) | exact HB.out)⟩
                        · rw [if_neg c31] at H
                          have c31b0 : (t300 == 0) = false := beq_eq_false_iff_ne.mpr c31
                          have c31b1 : (t300 != 0) = true := bne_iff_ne.mpr c31
                          obtain rfl := Option.some.inj H
                          have q57 : ((ji18) : Int) ≤ ((l0.length : Int) : Int) := of_decide_eq_true (by first | (with_reducible assumption) | assumption)
                          obtain ⟨i057, hi057, _, hsz57, _⟩ := info_parts info31
                          have hroom57 : l0.length ≤ c0 := HC0.out
                          have hC57 : Kd.C k31 _ A0 l0.length l0 := HR0.out
                          have hcut57 := cut_to (P := Tryz.prog) 22 31 .i64 Tryz.underlying22 hi057 A0 l0.length c0 (ji18) (of_decide_eq_true (by first | (with_reducible assumption) | assumption)) q57 hroom57
                          have hr57 := Kd.C_take (m := ((ji18) : Int).toNat) hC57 (by omega)
                          have hy57 : y284.length = ((ji18) : Int).toNat := (by rw [Ny284.out, List.length_take]; omega)
                          rw [← Ny284.out] at hr57
                          rw [← hy57] at hcut57
                          have HR287 := Aside0.mk hr57
                          have HC287 := Aside0.mk (show y284.length ≤ c0 from by omega)
                          clear hr57 hC57 hroom57 hi057 hsz57
                          have KY57 := Aside0.mk hy57
                          clear hy57
                          replace q57 := eq_true q57
                          try go_wp2_with (first | ((with_reducible refine gate_callee (f := 7) rfl ?_); refine goesL_ (some 43) rfl rfl Tryz.func7 (by kernel_rfl) rfl #[.slice A0 y284.length c0] rfl (by (try simp only [List.map_toArray, List.map_cons, List.map_nil]); first | done | rfl | (simp only [List.length_drop, List.length_take]; rfl)) ?_; (with_reducible refine (log_Text.calls kj5 _ _ y284 t288 t289 _ ?side1 ?side2 A21.out (Tb.below HT0.out (by repeat (first | (with_reducible first | exact HB.out | apply below_alloc | apply pw_below_drewN | apply below_drew1) | exact HB.out)))).mono ?_); (case side1 => repeat (first | exact (Kd.C_below HR287.out HB.out) | (with_reducible refine Kd.C_alloc ?_ _) | (with_reducible refine Kd.C_drewN ?_ _) | (with_reducible refine Kd.C_drew ?_))); (case side2 => exact HC287.out); rintro e w58 ⟨rfl, hb⟩; refine ⟨_, rfl, ?_⟩; have n0_ := Aside0.mk (below_step (by repeat (first | (with_reducible first | exact HB.out | apply below_alloc | apply pw_below_drewN | apply below_drew1) | exact HB.out)) hb); clear HB; have HB := n0_; clear n0_; (try clear hb); (try clear hb2); (try clear hk); (try clear hi); have q59 : ((ji18) : Int) ≤ ((l0.length : Int) : Int) := of_decide_eq_true (by first | (with_reducible assumption) | assumption); obtain ⟨i059, hi059, _, hsz59, _⟩ := info_parts info31; have hroom59 : l0.length ≤ c0 := HC0.out; have hC59 : Kd.C k31 _ A0 l0.length l0 := HR0.out; have q059 : (0 : Int) ≤ ((ji18) : Int) := of_decide_eq_true (by first | (with_reducible assumption) | assumption); have hcut59 := cut_from (P := Tryz.prog) 22 31 .i64 Tryz.underlying22 hi059 3 hsz59 A0 l0.length c0 (ji18) q059 q59; have hr59 := Kd.C_drop (m := ((ji18) : Int).toNat) (c := c0) hC59 (by omega) hroom59; obtain ⟨A59, hA59⟩ : ∃ A1, A1 = (if c0 = ((ji18) : Int).toNat then A0 else (A0 : Option Addr).map (·.add (((ji18) : Int).toNat * 3))) := ⟨_, rfl⟩; obtain ⟨c59, hc59⟩ : ∃ c1, c1 = c0 - ((ji18) : Int).toNat := ⟨_, rfl⟩; have hy59 : y290.length = l0.length - ((ji18) : Int).toNat := (by rw [Ny290.out, List.length_drop] <;> omega); rw [show (l0).drop ((ji18) : Int).toNat = y290 from Ny290.out.symm] at hr59; replace hr59 : Kd.C k31 _ A59 y290.length y290 := (by rw [hA59]; exact hr59); rw [← hy59, ← hA59, ← hc59] at hcut59; have HR293 := Aside0.mk hr59; have HC293 := Aside0.mk (show y290.length ≤ c59 from by rw [hy59, hc59]; exact Nat.sub_le_sub_right hroom59 _); clear hr59 hC59 hroom59 hi059 hsz59 hc59; have KY59 := Aside0.mk hy59; have KA59 := Aside0.mk hA59; clear hy59 hA59; replace q59 := eq_true q59) | ((with_reducible refine gate_callee (f := 7) rfl ?_); refine goesL_ (some 50) rfl rfl Tryz.func7 (by kernel_rfl) rfl #[.slice A59 y290.length c59] rfl (by (try simp only [List.map_toArray, List.map_cons, List.map_nil]); first | done | rfl | (simp only [List.length_drop, List.length_take]; rfl)) ?_; (with_reducible refine (log_Text.calls kj5 _ _ y290 t294 t295 _ ?side1 ?side2 A24.out (Tb.below HT0.out (by repeat (first | (with_reducible first | exact HB.out | apply below_alloc | apply pw_below_drewN | apply below_drew1) | exact HB.out)))).mono ?_); (case side1 => repeat (first | exact (Kd.C_below HR293.out HB.out) | (with_reducible refine Kd.C_alloc ?_ _) | (with_reducible refine Kd.C_drewN ?_ _) | (with_reducible refine Kd.C_drew ?_))); (case side2 => exact HC293.out); rintro e w60 ⟨rfl, hb⟩; refine ⟨_, rfl, ?_⟩; have n0_ := Aside0.mk (below_step (by repeat (first | (with_reducible first | exact HB.out | apply below_alloc | apply pw_below_drewN | apply below_drew1) | exact HB.out)) hb); clear HB; have HB := n0_; clear n0_; (try clear hb); (try clear hb2); (try clear hk); (try clear hi)) | ((with_reducible refine gate_dst (N := 54) rfl ?_); (try (refine gate_guard (by rfl) ?_; dsimp only)); refine Kd.R_lit Kd.string _ 9 ?hg (N := 54) ?hd (xs := ([(⟨#[10]⟩ : ByteArray), (⟨#[120, 10]⟩ : ByteArray), (⟨#[97, 9, 48, 9, 120, 10]⟩ : ByteArray), (⟨#[0, 10]⟩ : ByteArray), (⟨#[97, 9, 49, 9, 120, 9, 10]⟩ : ByteArray), (⟨#[63]⟩ : ByteArray)] : List ByteArray)) (inner := [.string (⟨#[10]⟩ : ByteArray), .string (⟨#[120, 10]⟩ : ByteArray), .string (⟨#[97, 9, 48, 9, 120, 10]⟩ : ByteArray), .string (⟨#[0, 10]⟩ : ByteArray), .string (⟨#[97, 9, 49, 9, 120, 9, 10]⟩ : ByteArray), .string (⟨#[63]⟩ : ByteArray)]) (ok := fun _ => True) (okp := fun _ => True) ?hr ?hp (fun _ hk => hk) trivial (Below.refl _ _) (Nat.le_refl _) (by simp) ?_; (case hd => rfl); (case hg => rfl); (case hr => first | (go_simp; done) | (go_simp; rfl)); (case hp => exact (Reps.one (show Kd.M Kd.string _ _ _ (⟨#[10]⟩ : ByteArray) [.string (⟨#[10]⟩ : ByteArray)] from rfl) (Reps.one (show Kd.M Kd.string _ _ _ (⟨#[120, 10]⟩ : ByteArray) [.string (⟨#[120, 10]⟩ : ByteArray)] from rfl) (Reps.one (show Kd.M Kd.string _ _ _ (⟨#[97, 9, 48, 9, 120, 10]⟩ : ByteArray) [.string (⟨#[97, 9, 48, 9, 120, 10]⟩ : ByteArray)] from rfl) (Reps.one (show Kd.M Kd.string _ _ _ (⟨#[0, 10]⟩ : ByteArray) [.string (⟨#[0, 10]⟩ : ByteArray)] from rfl) (Reps.one (show Kd.M Kd.string _ _ _ (⟨#[97, 9, 49, 9, 120, 9, 10]⟩ : ByteArray) [.string (⟨#[97, 9, 49, 9, 120, 9, 10]⟩ : ByteArray)] from rfl) (Reps.one (show Kd.M Kd.string _ _ _ (⟨#[63]⟩ : ByteArray) [.string (⟨#[63]⟩ : ByteArray)] from rfl) (Reps.none _ _)))))))); intro v297 w61 ho62 hb hg_ hnew_; clear hg_ hnew_; (first | rw [← Ny296.out] at ho62 | (simp only [Int.reduceToNat] at ho62; rw [← Ny296.out] at ho62)); have n0_ := Aside0.mk (Kd.R_lower ho62 (below_size (by repeat (first | (with_reducible first | exact HB.out | apply below_alloc | apply pw_below_drewN | apply below_drew1) | exact HB.out)))); have n1_ := Aside0.mk (below_step (by repeat (first | (with_reducible first | exact HB.out | apply below_alloc | apply pw_below_drewN | apply below_drew1) | exact HB.out)) hb); clear HB; have HO298 := n0_; have HB := n1_; clear n0_ n1_; clear hb ho62; obtain ⟨Ao63, co63, eo63⟩ := Kd.R_slice HO298.out; subst eo63; have p299 : 0 ≤ ((ji25) : Int) := of_decide_eq_true (by first | (with_reducible assumption) | assumption); have q299 : (ji25) < (y296.length : Int) := of_decide_eq_true (by first | (with_reducible assumption) | assumption); obtain ⟨ad299, e299, hx299_0⟩ := Kd.at_string (Kd.R_reads' HO298.out).2.2 (ji25) p299 q299; cases e299; replace p299 := eq_true p299; replace q299 := eq_true q299))
                          have n0_ := Aside0.mk (Kd.R_drew HO298.out)
                          have n1_ := Aside0.mk (below_drew1 HB.out)
                          clear HO298
                          clear HB
                          have HO298 := n0_
                          have HB := n1_
                          clear n0_ n1_
                          refine start_ (n := 17) (S := fun w' => True) (ds := []) #[false, false, false, false, false, false, false, false, false, false, false, false, false, false, false, false, false] (by kernel_rfl) rfl rfl trivial (fun hHeld => ?_); refine with_tabW cruciblelaw14_LogBad.tab9 cruciblelaw14_LogBad.bits9 (fun HT_ HW_ => ?_)
                          generalize w61.drew = w64 at HO298 HB hHeld ⊢
                          refine pure_ (i := 0) (N := some 64) (v := ?_) (a' := ?_) #[true, false, false, false, false, false, false, false, false, false, false, false, false, false, false, false, false] rfl rfl (any_of HT_.out (by kernel_rfl)) (fun _ _ _ h => h) (Or.inl ⟨by rfl, ?_⟩) ?_ ?_
                          rotate_left
                          · intro w'
                            go_simp
                            with_reducible rfl
                          rotate_left
                          · simp only [Act.put, List.setIfInBounds_toArray, List.set_cons_zero, List.set_cons_succ, i64_w, i32_w]
                            rfl
                          refine one_ (i := 1) (N := some 65) #[true, true, false, false, false, false, false, false, false, false, false, false, false, false, false, false, false] rfl rfl (one_of HT_.out (by kernel_rfl)) (by decide) (fun K hK => ?_)
                          refine goes_ Tryz.func14 (by kernel_rfl) rfl #[.int .i64 t289] (by rfl) rfl rfl (by (try simp only [List.map_toArray, List.map_cons, List.map_nil]); first | done | rfl | (simp only [List.length_drop, List.length_take]; rfl)) ?_
                          with_reducible refine (cruciblelaw0_Num.calls t289 t300 _ A30.out).mono ?_
                          rintro e w' ⟨rfl, ⟨nd, rfl⟩⟩
                          refine ⟨_, rfl, ?_⟩
                          refine hK.out _ _ trivial (fun hHeld => ?_)
                          clear hK K
                          refine norm_ (a' := ?_) ?_ ?_
                          rotate_left
                          · show Act.put _ (some 65) _ = _
                            simp only [Act.put, List.setIfInBounds_toArray, List.set_cons_zero, List.set_cons_succ, i64_w, i32_w]
                            rfl
                          refine pure_ (i := 2) (N := some 66) (v := ?_) (a' := ?_) #[true, true, true, false, false, false, false, false, false, false, false, false, false, false, false, false, false] rfl rfl (any_of HT_.out (by kernel_rfl)) (fun _ _ _ h => h) (Or.inl ⟨by rfl, ?_⟩) ?_ ?_
                          rotate_left
                          · intro w'
                            go_simp
                            with_reducible rfl
                          rotate_left
                          · simp only [Act.put, List.setIfInBounds_toArray, List.set_cons_zero, List.set_cons_succ, i64_w, i32_w]
                            rfl
                          refine pure_ (i := 3) (N := some 67) (v := ?_) (a' := ?_) #[true, true, true, true, false, false, false, false, false, false, false, false, false, false, false, false, false] rfl rfl (any_of HT_.out (by kernel_rfl)) (fun _ _ _ h => h) (Or.inl ⟨by rfl, ?_⟩) ?_ ?_
                          rotate_left
                          · intro w'
                            go_simp
                            with_reducible rfl
                          rotate_left
                          · simp only [Act.put, List.setIfInBounds_toArray, List.set_cons_zero, List.set_cons_succ, i64_w, i32_w]
                            rfl
                          refine pure_ (i := 4) (N := some 68) (v := undef) (a' := ?_) #[true, true, true, true, true, false, false, false, false, false, false, false, false, false, false, false, false] rfl rfl (any_of HT_.out (by kernel_rfl)) (fun _ _ _ h => h) (Or.inr ⟨by rfl, rfl⟩) ?_ ?_
                          rotate_left
                          · simp only [Act.put, List.setIfInBounds_toArray, List.set_cons_zero, List.set_cons_succ, i64_w, i32_w]
                            rfl
                          refine pure_ (i := 5) (N := some 69) (v := undef) (a' := ?_) #[true, true, true, true, true, true, false, false, false, false, false, false, false, false, false, false, false] rfl rfl (any_of HT_.out (by kernel_rfl)) (fun _ _ _ h => h) (Or.inr ⟨by rfl, rfl⟩) ?_ ?_
                          rotate_left
                          · simp only [Act.put, List.setIfInBounds_toArray, List.set_cons_zero, List.set_cons_succ, i64_w, i32_w]
                            rfl
                          refine pure_ (i := 6) (N := some 70) (v := undef) (a' := ?_) #[true, true, true, true, true, true, true, false, false, false, false, false, false, false, false, false, false] rfl rfl (any_of HT_.out (by kernel_rfl)) (fun _ _ _ h => h) (Or.inr ⟨by rfl, rfl⟩) ?_ ?_
                          rotate_left
                          · simp only [Act.put, List.setIfInBounds_toArray, List.set_cons_zero, List.set_cons_succ, i64_w, i32_w]
                            rfl
                          refine pure_ (i := 7) (N := some 71) (v := ?_) (a' := ?_) #[true, true, true, true, true, true, true, true, false, false, false, false, false, false, false, false, false] rfl rfl (any_of HT_.out (by kernel_rfl)) (fun _ _ _ h => h) (Or.inl ⟨by rfl, ?_⟩) ?_ ?_
                          rotate_left
                          · intro w'
                            go_simp
                            with_reducible rfl
                          rotate_left
                          · simp only [Act.put, List.setIfInBounds_toArray, List.set_cons_zero, List.set_cons_succ, i64_w, i32_w]
                            rfl
                          refine pure_ (i := 8) (N := some 72) (v := ?_) (a' := ?_) #[true, true, true, true, true, true, true, true, true, false, false, false, false, false, false, false, false] rfl rfl (any_of HT_.out (by kernel_rfl)) (fun _ _ _ h => h) (Or.inl ⟨by rfl, ?_⟩) ?_ ?_
                          rotate_left
                          · intro w'
                            go_simp
                            with_reducible rfl
                          rotate_left
                          · simp only [Act.put, List.setIfInBounds_toArray, List.set_cons_zero, List.set_cons_succ, i64_w, i32_w]
                            rfl
                          refine pure_ (i := 9) (N := some 73) (v := undef) (a' := ?_) #[true, true, true, true, true, true, true, true, true, true, false, false, false, false, false, false, false] rfl rfl (any_of HT_.out (by kernel_rfl)) (fun _ _ _ h => h) (Or.inr ⟨by rfl, rfl⟩) ?_ ?_
                          rotate_left
                          · simp only [Act.put, List.setIfInBounds_toArray, List.set_cons_zero, List.set_cons_succ, i64_w, i32_w]
                            rfl
                          refine pure_ (i := 10) (N := some 74) (v := undef) (a' := ?_) #[true, true, true, true, true, true, true, true, true, true, true, false, false, false, false, false, false] rfl rfl (any_of HT_.out (by kernel_rfl)) (fun _ _ _ h => h) (Or.inr ⟨by rfl, rfl⟩) ?_ ?_
                          rotate_left
                          · simp only [Act.put, List.setIfInBounds_toArray, List.set_cons_zero, List.set_cons_succ, i64_w, i32_w]
                            rfl
                          refine pure_ (i := 11) (N := some 75) (v := undef) (a' := ?_) #[true, true, true, true, true, true, true, true, true, true, true, true, false, false, false, false, false] rfl rfl (any_of HT_.out (by kernel_rfl)) (fun _ _ _ h => h) (Or.inr ⟨by rfl, rfl⟩) ?_ ?_
                          rotate_left
                          · simp only [Act.put, List.setIfInBounds_toArray, List.set_cons_zero, List.set_cons_succ, i64_w, i32_w]
                            rfl
                          refine pure_ (i := 12) (N := some 76) (v := undef) (a' := ?_) #[true, true, true, true, true, true, true, true, true, true, true, true, true, false, false, false, false] rfl rfl (any_of HT_.out (by kernel_rfl)) (fun _ _ _ h => h) (Or.inr ⟨by rfl, rfl⟩) ?_ ?_
                          rotate_left
                          · simp only [Act.put, List.setIfInBounds_toArray, List.set_cons_zero, List.set_cons_succ, i64_w, i32_w]
                            rfl
                          refine pure_ (i := 13) (N := some 77) (v := undef) (a' := ?_) #[true, true, true, true, true, true, true, true, true, true, true, true, true, true, false, false, false] rfl rfl (any_of HT_.out (by kernel_rfl)) (fun _ _ _ h => h) (Or.inr ⟨by rfl, rfl⟩) ?_ ?_
                          rotate_left
                          · simp only [Act.put, List.setIfInBounds_toArray, List.set_cons_zero, List.set_cons_succ, i64_w, i32_w]
                            rfl
                          refine pure_ (i := 14) (N := some 78) (v := undef) (a' := ?_) #[true, true, true, true, true, true, true, true, true, true, true, true, true, true, true, false, false] rfl rfl (any_of HT_.out (by kernel_rfl)) (fun _ _ _ h => h) (Or.inr ⟨by rfl, rfl⟩) ?_ ?_
                          rotate_left
                          · simp only [Act.put, List.setIfInBounds_toArray, List.set_cons_zero, List.set_cons_succ, i64_w, i32_w]
                            rfl
                          refine pure_ (i := 15) (N := some 79) (v := ?_) (a' := ?_) #[true, true, true, true, true, true, true, true, true, true, true, true, true, true, true, true, false] rfl rfl (any_of HT_.out (by kernel_rfl)) (fun _ _ _ h => h) (Or.inl ⟨by rfl, ?_⟩) ?_ ?_
                          rotate_left
                          · intro w'
                            go_simp
                            with_reducible rfl
                          rotate_left
                          · simp only [Act.put, List.setIfInBounds_toArray, List.set_cons_zero, List.set_cons_succ, i64_w, i32_w]
                            rfl
                          refine pure_ (i := 16) (N := some 6) (v := ?_) (a' := ?_) #[true, true, true, true, true, true, true, true, true, true, true, true, true, true, true, true, true] rfl rfl (any_of HT_.out (by kernel_rfl)) (fun _ _ _ h => h) (Or.inl ⟨by rfl, ?_⟩) ?_ ?_
                          rotate_left
                          · intro w'
                            go_simp
                            with_reducible rfl
                          rotate_left
                          · simp only [Act.put, List.setIfInBounds_toArray, List.set_cons_zero, List.set_cons_succ, i64_w, i32_w]
                            rfl
                          refine done_ (done_of HT_.out (by kernel_rfl)) ?_
                          try go_wp2
                          go_ret
                          exact ⟨by first | rfl | (simp [errW_none, errW_some] <;> rfl) | (simp only [← hji18, ← hji25]; first | rfl | (simp [errW_none, errW_some] <;> rfl)) | (simp [*, errW_none, errW_some] <;> rfl), by repeat (first | (with_reducible first | exact HB.out | apply below_alloc | apply pw_below_drewN | apply below_drew1) | exact HB.out)⟩
                      · rw [if_neg c29] at H
                        exact absurd H (by simp)
                    · rw [if_neg c28] at H
                      exact absurd H (by simp)
                  · rw [if_neg c27] at H
                    exact absurd H (by simp)
                · rw [if_neg c26] at H
                  exact absurd H (by simp)
              · rw [if_neg c20] at H
                exact absurd H (by simp)
            · rw [if_neg c19] at H
              exact absurd H (by simp)
  · replace c5 := Bool.eq_false_iff.mpr c5
    subst c5
    have H1 : (some false) = some r := by rw [if_neg (show ¬ (false = true) by decide)] at H; exact H
    clear H
    have H := H1
    clear H1
    obtain rfl := Option.some.inj H
    go_enter Tryz.func4, Tryz.ntmps4
    go_wp2_with (first | ((with_reducible refine gate_callee (f := 21) rfl ?_); refine goesL_ (some 13) rfl rfl Tryz.func21 (by kernel_rfl) rfl #[] rfl (by (try simp only [List.map_toArray, List.map_cons, List.map_nil]); first | done | rfl | (simp only [List.length_drop, List.length_take]; rfl)) ?_; (with_reducible refine (cruciblelaw14_awake.calls  false _ A4.out (Tb.below HT0.out (by repeat (first | (with_reducible first | exact HB.out | apply below_alloc | apply pw_below_drewN | apply below_drew1) | exact HB.out)))).mono ?_); rintro e w65 ⟨rfl, hb⟩; refine ⟨_, rfl, ?_⟩; have n0_ := Aside0.mk (below_step (by repeat (first | (with_reducible first | exact HB.out | apply below_alloc | apply pw_below_drewN | apply below_drew1) | exact HB.out)) hb); clear HB; have HB := n0_; clear n0_; (try clear hb); (try clear hb2); (try clear hk); (try clear hi)))
    go_ret
    exact ⟨by first | rfl | (simp [errW_none, errW_some] <;> rfl) | (simp [*, errW_none, errW_some] <;> rfl), by repeat (first | (with_reducible first | exact HB.out | apply below_alloc | apply pw_below_drewN | apply below_drew1) | exact HB.out)⟩

end Go.Proofs.YtdaddlplpkmkmaaGreatDoor.P
