-- Made by a program of this work's own (wip/myprint.py) over the kit's print; leaves by hand.
import Derived.Test.YtncbloieejeifaaDoorP0
import Derived.Test.YtncbloieejeifaaDoorPlus
import Derived.Test.YtncbloieejeifaaDoorP4
import Derived.Test.YtncbloieejeifaaDoorP7
import Derived.Test.YtncbloieejeifaaDoorP8
namespace Go.Proofs.YtncbloieejeifaaDoor.P
open Go.Proofs.YtncbloieejeifaaDoor.Plus
open Go.RowKit Go.Proofs.YtncbloieejeifaaDoorW.PrintWords Go.Proofs.YtncbloieejeifaaDoorW.PrintLast Go.Proofs.YtncbloieejeifaaDoorW.PrintMore
attribute [local go_sem] max2_int min2_int max_two min_two max_three min_three max_four min_four   -- for this text's walks alone
set_option linter.unusedVariables false
set_option linter.unusedSimpArgs false

/-! ### cruciblelaw2_PathPieces: function 8 -/
mutual
def cruciblelaw2_PathPieces.l0 : Nat → List Int → ByteArray → List ByteArray → Bool → Int → Int → Option (Bool)
  | 0, _, _, _, _, _, _ => none
  | k + 1, x0, x3, x4, x5, x6, x7 => if x7 < x6 then (if x7 > 0 then (if x3.size + 1 ≤ 9223372036854775807 then (cruciblelaw2_PathPieces.j1 k x0 (x3 ++ (⟨#[47]⟩ : ByteArray)) x4 x5 x6 x7) else (none)) else (cruciblelaw2_PathPieces.j1 k x0 x3 x4 x5 x6 x7)) else (cruciblelaw2_PathPieces.l1 k x3 x4 x5 (⟨#[]⟩ : ByteArray) 0)
def cruciblelaw2_PathPieces.j1 : Nat → List Int → ByteArray → List ByteArray → Bool → Int → Int → Option (Bool)
  | 0, _, _, _, _, _, _ => none
  | k + 1, x0, x3, x4, x5, x6, x7 => (some (([(⟨#[97]⟩ : ByteArray), (⟨#[98]⟩ : ByteArray), (⟨#[46]⟩ : ByteArray), (⟨#[46, 46]⟩ : ByteArray), (⟨#[]⟩ : ByteArray)] : List ByteArray) : List ByteArray)).bind fun y240 => (if 0 ≤ x7 then (if x7 < (x0.length : Int) then (if 0 ≤ (wrap64 (Int.tmod (IntKind.u64.wrap (rd x0 x7)) 5)) then (if (wrap64 (Int.tmod (IntKind.u64.wrap (rd x0 x7)) 5)) < (y240.length : Int) then (if x7 = 0 then (cruciblelaw2_PathPieces.j2 k x0 x3 x4 x5 x6 x7 (rdOf ByteArray.empty y240 (wrap64 (Int.tmod (IntKind.u64.wrap (rd x0 x7)) 5))) ((rdOf ByteArray.empty y240 (wrap64 (Int.tmod (IntKind.u64.wrap (rd x0 x7)) 5))).toList == ([] : List UInt8))) else (cruciblelaw2_PathPieces.j2 k x0 x3 x4 x5 x6 x7 (rdOf ByteArray.empty y240 (wrap64 (Int.tmod (IntKind.u64.wrap (rd x0 x7)) 5))) false)) else (none)) else (none)) else (none)) else (none))
def cruciblelaw2_PathPieces.j2 : Nat → List Int → ByteArray → List ByteArray → Bool → Int → Int → ByteArray → Bool → Option (Bool)
  | 0, _, _, _, _, _, _, _, _ => none
  | k + 1, x0, x3, x4, x5, x6, x7, x8, x42 => if x42 = true then (cruciblelaw2_PathPieces.j3 k x0 x3 x4 x5 x6 x7 (⟨#[97]⟩ : ByteArray)) else (cruciblelaw2_PathPieces.j3 k x0 x3 x4 x5 x6 x7 x8)
def cruciblelaw2_PathPieces.j3 : Nat → List Int → ByteArray → List ByteArray → Bool → Int → Int → ByteArray → Option (Bool)
  | 0, _, _, _, _, _, _, _ => none
  | k + 1, x0, x3, x4, x5, x6, x7, x8 => if x3.size + x8.size ≤ 9223372036854775807 then (if x8.toList = ([97] : List UInt8) then (cruciblelaw2_PathPieces.j4 k x0 (x3 ++ x8) x4 x5 x6 x7 x8 x8 (x8.toList == ([97] : List UInt8))) else (cruciblelaw2_PathPieces.j4 k x0 (x3 ++ x8) x4 x5 x6 x7 x8 x8 (x8.toList == ([98] : List UInt8)))) else (none)
def cruciblelaw2_PathPieces.j4 : Nat → List Int → ByteArray → List ByteArray → Bool → Int → Int → ByteArray → ByteArray → Bool → Option (Bool)
  | 0, _, _, _, _, _, _, _, _, _ => none
  | k + 1, x0, x3, x4, x5, x6, x7, x8, x46, x47 => if x47 = true then (if x4.length < 8796093022208 then (cruciblelaw2_PathPieces.l0 k x0 x3 (x4 ++ [x8]) x5 x6 (wrap64 (x7 + 1))) else (none)) else (if x46.toList = ([46, 46] : List UInt8) then (if (x4.length : Int) = 0 then (cruciblelaw2_PathPieces.l0 k x0 x3 x4 false x6 (wrap64 (x7 + 1))) else (if x5 = true then (if 0 ≤ (wrap64 ((x4.length : Int) - 1)) then (if (wrap64 ((x4.length : Int) - 1)) ≤ (x4.length : Int) then (cruciblelaw2_PathPieces.l0 k x0 x3 (x4.take ((wrap64 ((x4.length : Int) - 1)) : Int).toNat) x5 x6 (wrap64 (x7 + 1))) else (none)) else (none)) else (cruciblelaw2_PathPieces.l0 k x0 x3 x4 x5 x6 (wrap64 (x7 + 1))))) else (cruciblelaw2_PathPieces.l0 k x0 x3 x4 x5 x6 (wrap64 (x7 + 1))))
def cruciblelaw2_PathPieces.l1 : Nat → ByteArray → List ByteArray → Bool → ByteArray → Int → Option (Bool)
  | 0, _, _, _, _, _ => none
  | k + 1, x3, x4, x5, x9, x10 => if x10 < (x4.length : Int) then (if x10 > 0 then (if x9.size + 1 ≤ 9223372036854775807 then (if 0 ≤ x10 then (if (x9 ++ (⟨#[47]⟩ : ByteArray)).size + (rdOf ByteArray.empty x4 x10).size ≤ 9223372036854775807 then (cruciblelaw2_PathPieces.l1 k x3 x4 x5 ((x9 ++ (⟨#[47]⟩ : ByteArray)) ++ (rdOf ByteArray.empty x4 x10)) (wrap64 (x10 + 1))) else (none)) else (none)) else (none)) else (if 0 ≤ x10 then (if x9.size + (rdOf ByteArray.empty x4 x10).size ≤ 9223372036854775807 then (cruciblelaw2_PathPieces.l1 k x3 x4 x5 (x9 ++ (rdOf ByteArray.empty x4 x10)) (wrap64 (x10 + 1))) else (none)) else (none))) else ((path_Clean.f k x3).bind fun bt253 => (if x5 = true then (if (x4.length : Int) = 0 then (cruciblelaw2_PathPieces.j6 k x9 bt253.1 bt253.2 true) else (cruciblelaw2_PathPieces.j6 k x9 bt253.1 bt253.2 (decide ((x3.size : Int) > 16)))) else (cruciblelaw2_PathPieces.j6 k x9 bt253.1 bt253.2 true)))
def cruciblelaw2_PathPieces.j6 : Nat → ByteArray → ByteArray → Int → Bool → Option (Bool)
  | 0, _, _, _, _ => none
  | k + 1, x9, x11, x12, x97 => if x97 = true then (if x11.toList = ([] : List UInt8) then ((cruciblelaw0_Num.f x12).bind fun t255 => (some (t255 == 200))) else (some false)) else (if x11.toList = x9.toList then ((cruciblelaw0_Num.f x12).bind fun t256 => (some (t256 == 0))) else (some false))
end
def cruciblelaw2_PathPieces.f (k : Nat) (l0 : List Int) : Option (Bool) := (cruciblelaw2_awake.f k).bind fun t239 => (if t239 = true then (cruciblelaw2_PathPieces.l0 k l0 (⟨#[]⟩ : ByteArray) ([] : List ByteArray) true (mn (l0.length : Int) 6) 0) else (some false))
theorem cruciblelaw2_PathPieces.mono_l : ∀ k, (∀ y0 y1 y2 y3 y4 y5, LeO (cruciblelaw2_PathPieces.l0 k y0 y1 y2 y3 y4 y5) (cruciblelaw2_PathPieces.l0 (k + 1) y0 y1 y2 y3 y4 y5)) ∧ (∀ y0 y1 y2 y3 y4 y5, LeO (cruciblelaw2_PathPieces.j1 k y0 y1 y2 y3 y4 y5) (cruciblelaw2_PathPieces.j1 (k + 1) y0 y1 y2 y3 y4 y5)) ∧ (∀ y0 y1 y2 y3 y4 y5 y6 y7, LeO (cruciblelaw2_PathPieces.j2 k y0 y1 y2 y3 y4 y5 y6 y7) (cruciblelaw2_PathPieces.j2 (k + 1) y0 y1 y2 y3 y4 y5 y6 y7)) ∧ (∀ y0 y1 y2 y3 y4 y5 y6, LeO (cruciblelaw2_PathPieces.j3 k y0 y1 y2 y3 y4 y5 y6) (cruciblelaw2_PathPieces.j3 (k + 1) y0 y1 y2 y3 y4 y5 y6)) ∧ (∀ y0 y1 y2 y3 y4 y5 y6 y7 y8, LeO (cruciblelaw2_PathPieces.j4 k y0 y1 y2 y3 y4 y5 y6 y7 y8) (cruciblelaw2_PathPieces.j4 (k + 1) y0 y1 y2 y3 y4 y5 y6 y7 y8)) ∧ (∀ y0 y1 y2 y3 y4, LeO (cruciblelaw2_PathPieces.l1 k y0 y1 y2 y3 y4) (cruciblelaw2_PathPieces.l1 (k + 1) y0 y1 y2 y3 y4)) ∧ (∀ y0 y1 y2 y3, LeO (cruciblelaw2_PathPieces.j6 k y0 y1 y2 y3) (cruciblelaw2_PathPieces.j6 (k + 1) y0 y1 y2 y3))
  | 0 => ⟨fun _ _ _ _ _ _ r h => by simp [cruciblelaw2_PathPieces.l0] at h, fun _ _ _ _ _ _ r h => by simp [cruciblelaw2_PathPieces.j1] at h, fun _ _ _ _ _ _ _ _ r h => by simp [cruciblelaw2_PathPieces.j2] at h, fun _ _ _ _ _ _ _ r h => by simp [cruciblelaw2_PathPieces.j3] at h, fun _ _ _ _ _ _ _ _ _ r h => by simp [cruciblelaw2_PathPieces.j4] at h, fun _ _ _ _ _ r h => by simp [cruciblelaw2_PathPieces.l1] at h, fun _ _ _ _ r h => by simp [cruciblelaw2_PathPieces.j6] at h⟩
  | k + 1 => by
    obtain ⟨ih0, ih1, ih2, ih3, ih4, ih5, ih6⟩ := cruciblelaw2_PathPieces.mono_l k
    refine ⟨?_, ?_, ?_, ?_, ?_, ?_, ?_⟩
    · intro y0 y1 y2 y3 y4 y5
      unfold cruciblelaw2_PathPieces.l0
      repeat' first
      | (with_reducible exact ih0 _ _ _ _ _ _)
      | (with_reducible exact ih1 _ _ _ _ _ _)
      | (with_reducible exact ih2 _ _ _ _ _ _ _ _)
      | (with_reducible exact ih3 _ _ _ _ _ _ _)
      | (with_reducible exact ih4 _ _ _ _ _ _ _ _ _)
      | (with_reducible exact ih5 _ _ _ _ _)
      | (with_reducible exact ih6 _ _ _ _)
      | (with_reducible exact cruciblelaw2_awake.mono _)
      | (with_reducible exact path_Clean.mono _ _)
      | (with_reducible exact LeO.refl _)
      | (with_reducible exact LeO.none _)
      | (with_reducible refine LeO.ite ?_ ?_)
      | (with_reducible refine LeO.bind ?_ (fun _ => ?_))
      | exact ih0 _ _ _ _ _ _
      | exact ih1 _ _ _ _ _ _
      | exact ih2 _ _ _ _ _ _ _ _
      | exact ih3 _ _ _ _ _ _ _
      | exact ih4 _ _ _ _ _ _ _ _ _
      | exact ih5 _ _ _ _ _
      | exact ih6 _ _ _ _
      | exact cruciblelaw2_awake.mono _
      | exact path_Clean.mono _ _
      | exact LeO.none _
      | refine LeO.ite ?_ ?_
      | refine LeO.bind ?_ (fun _ => ?_)
    · intro y0 y1 y2 y3 y4 y5
      unfold cruciblelaw2_PathPieces.j1
      repeat' first
      | (with_reducible exact ih0 _ _ _ _ _ _)
      | (with_reducible exact ih1 _ _ _ _ _ _)
      | (with_reducible exact ih2 _ _ _ _ _ _ _ _)
      | (with_reducible exact ih3 _ _ _ _ _ _ _)
      | (with_reducible exact ih4 _ _ _ _ _ _ _ _ _)
      | (with_reducible exact ih5 _ _ _ _ _)
      | (with_reducible exact ih6 _ _ _ _)
      | (with_reducible exact cruciblelaw2_awake.mono _)
      | (with_reducible exact path_Clean.mono _ _)
      | (with_reducible exact LeO.refl _)
      | (with_reducible exact LeO.none _)
      | (with_reducible refine LeO.ite ?_ ?_)
      | (with_reducible refine LeO.bind ?_ (fun _ => ?_))
      | exact ih0 _ _ _ _ _ _
      | exact ih1 _ _ _ _ _ _
      | exact ih2 _ _ _ _ _ _ _ _
      | exact ih3 _ _ _ _ _ _ _
      | exact ih4 _ _ _ _ _ _ _ _ _
      | exact ih5 _ _ _ _ _
      | exact ih6 _ _ _ _
      | exact cruciblelaw2_awake.mono _
      | exact path_Clean.mono _ _
      | exact LeO.none _
      | refine LeO.ite ?_ ?_
      | refine LeO.bind ?_ (fun _ => ?_)
    · intro y0 y1 y2 y3 y4 y5 y6 y7
      unfold cruciblelaw2_PathPieces.j2
      repeat' first
      | (with_reducible exact ih0 _ _ _ _ _ _)
      | (with_reducible exact ih1 _ _ _ _ _ _)
      | (with_reducible exact ih2 _ _ _ _ _ _ _ _)
      | (with_reducible exact ih3 _ _ _ _ _ _ _)
      | (with_reducible exact ih4 _ _ _ _ _ _ _ _ _)
      | (with_reducible exact ih5 _ _ _ _ _)
      | (with_reducible exact ih6 _ _ _ _)
      | (with_reducible exact cruciblelaw2_awake.mono _)
      | (with_reducible exact path_Clean.mono _ _)
      | (with_reducible exact LeO.refl _)
      | (with_reducible exact LeO.none _)
      | (with_reducible refine LeO.ite ?_ ?_)
      | (with_reducible refine LeO.bind ?_ (fun _ => ?_))
      | exact ih0 _ _ _ _ _ _
      | exact ih1 _ _ _ _ _ _
      | exact ih2 _ _ _ _ _ _ _ _
      | exact ih3 _ _ _ _ _ _ _
      | exact ih4 _ _ _ _ _ _ _ _ _
      | exact ih5 _ _ _ _ _
      | exact ih6 _ _ _ _
      | exact cruciblelaw2_awake.mono _
      | exact path_Clean.mono _ _
      | exact LeO.none _
      | refine LeO.ite ?_ ?_
      | refine LeO.bind ?_ (fun _ => ?_)
    · intro y0 y1 y2 y3 y4 y5 y6
      unfold cruciblelaw2_PathPieces.j3
      repeat' first
      | (with_reducible exact ih0 _ _ _ _ _ _)
      | (with_reducible exact ih1 _ _ _ _ _ _)
      | (with_reducible exact ih2 _ _ _ _ _ _ _ _)
      | (with_reducible exact ih3 _ _ _ _ _ _ _)
      | (with_reducible exact ih4 _ _ _ _ _ _ _ _ _)
      | (with_reducible exact ih5 _ _ _ _ _)
      | (with_reducible exact ih6 _ _ _ _)
      | (with_reducible exact cruciblelaw2_awake.mono _)
      | (with_reducible exact path_Clean.mono _ _)
      | (with_reducible exact LeO.refl _)
      | (with_reducible exact LeO.none _)
      | (with_reducible refine LeO.ite ?_ ?_)
      | (with_reducible refine LeO.bind ?_ (fun _ => ?_))
      | exact ih0 _ _ _ _ _ _
      | exact ih1 _ _ _ _ _ _
      | exact ih2 _ _ _ _ _ _ _ _
      | exact ih3 _ _ _ _ _ _ _
      | exact ih4 _ _ _ _ _ _ _ _ _
      | exact ih5 _ _ _ _ _
      | exact ih6 _ _ _ _
      | exact cruciblelaw2_awake.mono _
      | exact path_Clean.mono _ _
      | exact LeO.none _
      | refine LeO.ite ?_ ?_
      | refine LeO.bind ?_ (fun _ => ?_)
    · intro y0 y1 y2 y3 y4 y5 y6 y7 y8
      unfold cruciblelaw2_PathPieces.j4
      repeat' first
      | (with_reducible exact ih0 _ _ _ _ _ _)
      | (with_reducible exact ih1 _ _ _ _ _ _)
      | (with_reducible exact ih2 _ _ _ _ _ _ _ _)
      | (with_reducible exact ih3 _ _ _ _ _ _ _)
      | (with_reducible exact ih4 _ _ _ _ _ _ _ _ _)
      | (with_reducible exact ih5 _ _ _ _ _)
      | (with_reducible exact ih6 _ _ _ _)
      | (with_reducible exact cruciblelaw2_awake.mono _)
      | (with_reducible exact path_Clean.mono _ _)
      | (with_reducible exact LeO.refl _)
      | (with_reducible exact LeO.none _)
      | (with_reducible refine LeO.ite ?_ ?_)
      | (with_reducible refine LeO.bind ?_ (fun _ => ?_))
      | exact ih0 _ _ _ _ _ _
      | exact ih1 _ _ _ _ _ _
      | exact ih2 _ _ _ _ _ _ _ _
      | exact ih3 _ _ _ _ _ _ _
      | exact ih4 _ _ _ _ _ _ _ _ _
      | exact ih5 _ _ _ _ _
      | exact ih6 _ _ _ _
      | exact cruciblelaw2_awake.mono _
      | exact path_Clean.mono _ _
      | exact LeO.none _
      | refine LeO.ite ?_ ?_
      | refine LeO.bind ?_ (fun _ => ?_)
    · intro y0 y1 y2 y3 y4
      unfold cruciblelaw2_PathPieces.l1
      repeat' first
      | (with_reducible exact ih0 _ _ _ _ _ _)
      | (with_reducible exact ih1 _ _ _ _ _ _)
      | (with_reducible exact ih2 _ _ _ _ _ _ _ _)
      | (with_reducible exact ih3 _ _ _ _ _ _ _)
      | (with_reducible exact ih4 _ _ _ _ _ _ _ _ _)
      | (with_reducible exact ih5 _ _ _ _ _)
      | (with_reducible exact ih6 _ _ _ _)
      | (with_reducible exact cruciblelaw2_awake.mono _)
      | (with_reducible exact path_Clean.mono _ _)
      | (with_reducible exact LeO.refl _)
      | (with_reducible exact LeO.none _)
      | (with_reducible refine LeO.ite ?_ ?_)
      | (with_reducible refine LeO.bind ?_ (fun _ => ?_))
      | exact ih0 _ _ _ _ _ _
      | exact ih1 _ _ _ _ _ _
      | exact ih2 _ _ _ _ _ _ _ _
      | exact ih3 _ _ _ _ _ _ _
      | exact ih4 _ _ _ _ _ _ _ _ _
      | exact ih5 _ _ _ _ _
      | exact ih6 _ _ _ _
      | exact cruciblelaw2_awake.mono _
      | exact path_Clean.mono _ _
      | exact LeO.none _
      | refine LeO.ite ?_ ?_
      | refine LeO.bind ?_ (fun _ => ?_)
    · intro y0 y1 y2 y3
      unfold cruciblelaw2_PathPieces.j6
      repeat' first
      | (with_reducible exact ih0 _ _ _ _ _ _)
      | (with_reducible exact ih1 _ _ _ _ _ _)
      | (with_reducible exact ih2 _ _ _ _ _ _ _ _)
      | (with_reducible exact ih3 _ _ _ _ _ _ _)
      | (with_reducible exact ih4 _ _ _ _ _ _ _ _ _)
      | (with_reducible exact ih5 _ _ _ _ _)
      | (with_reducible exact ih6 _ _ _ _)
      | (with_reducible exact cruciblelaw2_awake.mono _)
      | (with_reducible exact path_Clean.mono _ _)
      | (with_reducible exact LeO.refl _)
      | (with_reducible exact LeO.none _)
      | (with_reducible refine LeO.ite ?_ ?_)
      | (with_reducible refine LeO.bind ?_ (fun _ => ?_))
      | exact ih0 _ _ _ _ _ _
      | exact ih1 _ _ _ _ _ _
      | exact ih2 _ _ _ _ _ _ _ _
      | exact ih3 _ _ _ _ _ _ _
      | exact ih4 _ _ _ _ _ _ _ _ _
      | exact ih5 _ _ _ _ _
      | exact ih6 _ _ _ _
      | exact cruciblelaw2_awake.mono _
      | exact path_Clean.mono _ _
      | exact LeO.none _
      | refine LeO.ite ?_ ?_
      | refine LeO.bind ?_ (fun _ => ?_)
theorem cruciblelaw2_PathPieces.mono : ∀ a0 k, LeO (cruciblelaw2_PathPieces.f k a0) (cruciblelaw2_PathPieces.f (k + 1) a0) := by
  intro a0 k
  obtain ⟨ih0, ih1, ih2, ih3, ih4, ih5, ih6⟩ := cruciblelaw2_PathPieces.mono_l k
  unfold cruciblelaw2_PathPieces.f
  repeat' first
      | (with_reducible exact ih0 _ _ _ _ _ _)
      | (with_reducible exact ih1 _ _ _ _ _ _)
      | (with_reducible exact ih2 _ _ _ _ _ _ _ _)
      | (with_reducible exact ih3 _ _ _ _ _ _ _)
      | (with_reducible exact ih4 _ _ _ _ _ _ _ _ _)
      | (with_reducible exact ih5 _ _ _ _ _)
      | (with_reducible exact ih6 _ _ _ _)
      | (with_reducible exact cruciblelaw2_awake.mono _)
      | (with_reducible exact path_Clean.mono _ _)
      | (with_reducible exact LeO.refl _)
      | (with_reducible exact LeO.none _)
      | (with_reducible refine LeO.ite ?_ ?_)
      | (with_reducible refine LeO.bind ?_ (fun _ => ?_))
      | exact ih0 _ _ _ _ _ _
      | exact ih1 _ _ _ _ _ _
      | exact ih2 _ _ _ _ _ _ _ _
      | exact ih3 _ _ _ _ _ _ _
      | exact ih4 _ _ _ _ _ _ _ _ _
      | exact ih5 _ _ _ _ _
      | exact ih6 _ _ _ _
      | exact cruciblelaw2_awake.mono _
      | exact path_Clean.mono _ _
      | exact LeO.none _
      | refine LeO.ite ?_ ?_
      | refine LeO.bind ?_ (fun _ => ?_)
set_option maxHeartbeats 8000000 in
set_option maxRecDepth 100000 in
theorem cruciblelaw2_PathPieces.calls (k : Nat) (A0 : Option Addr) (c0 : Nat) (l0 : List Int) (r : Bool) (w : World) (hr0 : Kd.C (Kd.int .i64) w A0 l0.length l0) (hc0 : l0.length ≤ c0) (h : cruciblelaw2_PathPieces.f k l0 = some r) :
    Calls Tryd.prog 8 #[.slice A0 l0.length c0] w fun e w' => e = .returned (.bool r) ∧ Below w.heap.size w w' := by
  have HR0 := Aside0.mk hr0
  have HC0 := Aside0.mk hc0
  clear hr0 hc0
  have HB := Aside0.mk (Below.refl w.heap.size w)
  have H : ((cruciblelaw2_awake.f k).bind fun t239 => (if t239 = true then (cruciblelaw2_PathPieces.l0 k l0 (⟨#[]⟩ : ByteArray) ([] : List ByteArray) true (mn (l0.length : Int) 6) 0) else (some false))) = some r := h
  clear h
  replace H := Option.bind_eq_some_iff.mp H
  obtain ⟨t239, A20, H⟩ := H
  replace H : (if t239 = true then (cruciblelaw2_PathPieces.l0 k l0 (⟨#[]⟩ : ByteArray) ([] : List ByteArray) true (mn (l0.length : Int) 6) 0) else (some false)) = some r := H
  have A2 := Aside0.mk A20
  clear A20
  by_cases c3 : t239 = true
  · subst c3
    have H1 : (cruciblelaw2_PathPieces.l0 k l0 (⟨#[]⟩ : ByteArray) ([] : List ByteArray) true (mn (l0.length : Int) 6) 0) = some r := by rw [if_pos rfl] at H; exact H
    clear H
    have H := H1
    clear H1
    obtain ⟨ji4, hji4⟩ : ∃ j_ : Int, (mn (l0.length : Int) 6) = j_ := ⟨_, rfl⟩
    replace H : (cruciblelaw2_PathPieces.l0 k l0 (⟨#[]⟩ : ByteArray) ([] : List ByteArray) true ji4 0) = some r := by first | (rw [hji4] at H; exact H) | (simp only [hji4] at H ⊢; exact H)
    (try rw [hji4] at A2)
    (try (have hji4h : ji4 ≤ 6 := by (rw [← hji4]; unfold mn; (repeat' split) <;> omega)))
    (try (have hji4g : ji4 ≤ 64 := by omega))
    (try (have hji4l : 0 ≤ ji4 := by (rw [← hji4]; unfold mn; (repeat' split) <;> omega)))
    (try (have hji4m : 0 ≤ ji4 := by omega))
    have hji4_ : (if 6 < (l0.length : Int) then 6 else (l0.length : Int)) = ji4 := hji4
    have H' := Aside0.mk H
    clear H
    go_enter Tryd.func8, Tryd.ntmps8
    go_wp2_with (first | ((with_reducible refine gate_callee (f := 25) rfl ?_); refine goesL_ (some 13) rfl rfl Tryd.func25 (by kernel_rfl) rfl #[] rfl (by (try simp only [List.map_toArray, List.map_cons, List.map_nil]); first | done | rfl | (simp only [List.length_drop, List.length_take]; rfl)) ?_; (with_reducible refine (cruciblelaw2_awake.calls k  true _ A2.out).mono ?_); rintro e w5 ⟨rfl, hb⟩; refine ⟨_, rfl, ?_⟩; have n0_ := Aside0.mk (below_step (by repeat (first | (with_reducible first | exact HB.out | apply below_alloc | apply pw_below_drewN | apply below_drew1) | exact HB.out)) hb); clear HB; have HB := n0_; clear n0_; (try clear hb); (try clear hb2); (try clear hk); (try clear hi)))
    go_loopg [3, 4, 5, 7] k (fun kq v3 v4 v5 v7 w' => ∃ (x3_1 : ByteArray) (x4_1 : List ByteArray) (x5_1 : Bool) (x7_1 : Int), v3 = .string x3_1 ∧ v5 = .bool x5_1 ∧ v7 = .int .i64 x7_1 ∧ Aside0 (cruciblelaw2_PathPieces.l0 kq l0 x3_1 x4_1 x5_1 ji4 x7_1 = some r) ∧ Aside0 (kq ≤ k) ∧ Aside0 (Kd.R Kd.string 9 w' w.heap.size (fun _ => True) v4 x4_1) ∧ Aside0 (Below w.heap.size w w'))
    case atStart => exact ⟨((⟨#[]⟩ : ByteArray)), (([] : List ByteArray)), (true), (0), (by first | rfl | (simp; done) | (simp [*]; done)), (by first | rfl | (simp; done) | (simp [*]; done)), (by first | rfl | (simp; done) | (simp [*]; done)), H', ⟨Nat.le_refl _⟩, ⟨by first | exact Kd.R_nil _ _ _ _ _ | exact Kd.N_nil _ _ _ _ _ | exact Kd.V_nil _ _ _ _ _ | exact Kd.Q_nil _ _ _ _ _ | exact Kd.S_nil _ _ _ _ _⟩, ⟨by repeat (first | (with_reducible first | exact HB.out | apply below_alloc | apply pw_below_drewN | apply below_drew1) | exact HB.out)⟩⟩
    case round =>
      clear H'
      try clear c2
      try clear p2
      try clear c3
      obtain ⟨x3_1, x4_1, x5_1, x7_1, rfl, rfl, rfl, HA, HK1, HO_4, HB⟩ := hrel
      cases gk with
      | zero => exact absurd HA.out (by simp [cruciblelaw2_PathPieces.l0])
      | succ k1 =>
        have H := HA.out
        clear HA
        simp only [cruciblelaw2_PathPieces.l0] at H
        by_cases c6 : x7_1 < ji4
        · rw [if_pos c6] at H
          have c6b0 : decide (x7_1 < ji4) = true := decide_eq_true c6
          clear c6
          have HC7 := Aside0.mk H
          clear H
          go_upto_if 24 with (fail)
          go_cut [3] (fun v3 wc => ∃ (kq : Nat) (x3_6 : ByteArray), v3 = .string x3_6 ∧ Aside0 (cruciblelaw2_PathPieces.j1 kq l0 x3_6 x4_1 x5_1 ji4 x7_1 = some r) ∧ Aside0 (kq ≤ k1) ∧ Aside0 (Kd.R Kd.string 9 wc w.heap.size (fun _ => True) u4 x4_1) ∧ Aside0 (Below w.heap.size w wc))
          case first =>
            have H := HC7.out
            clear HC7
            by_cases c8 : x7_1 > 0
            · rw [if_pos c8] at H
              have c8b0 : decide (0 < x7_1) = true := decide_eq_true c8
              clear c8
              (first | rw [c8b0] | (simp only [i64_w, i32_w]; rw [c8b0]) | rw [c8b2] | skip)
              by_cases c9 : x3_1.size + 1 ≤ 9223372036854775807
              · rw [if_pos c9] at H
                have c9b0 := eq_true c9
                have c9b1 : decide (x3_1.size + 1 ≤ 9223372036854775807) = true := decide_eq_true c9
                try have c9b2 : (9223372036854775807 < x3_1.size + 1) = False := eq_false (Nat.not_lt.2 c9)
                have H' := Aside0.mk H
                clear H
                go_wp2
                go_meet
                case rel => exact ⟨_, (x3_1 ++ (⟨#[47]⟩ : ByteArray)), (by first | rfl | (simp; done) | (simp [*]; done)), H', ⟨by have := HK1.out; first | omega | exact Nat.le_refl _⟩, ⟨by (with_reducible repeat (first | apply Kd.R_alloc | apply Kd.R_drewN | apply Kd.R_drew)); first | exact HO_4.out | exact own_len HO_4.out⟩, ⟨by repeat (first | (with_reducible first | exact HB.out | apply below_alloc | apply pw_below_drewN | apply below_drew1) | exact HB.out)⟩⟩
              · rw [if_neg c9] at H
                exact absurd H (by simp)
            · rw [if_neg c8] at H
              have c8b0 : decide (0 < x7_1) = false := decide_eq_false c8
              clear c8
              (first | rw [c8b0] | (simp only [i64_w, i32_w]; rw [c8b0]) | rw [c8b2] | skip)
              have H' := Aside0.mk H
              clear H
              go_wp2
              go_meet
              case rel => exact ⟨_, (x3_1), (by first | rfl | (simp; done) | (simp [*]; done)), H', ⟨by have := HK1.out; first | omega | exact Nat.le_refl _⟩, ⟨by (with_reducible repeat (first | apply Kd.R_alloc | apply Kd.R_drewN | apply Kd.R_drew)); first | exact HO_4.out | exact own_len HO_4.out⟩, ⟨by repeat (first | (with_reducible first | exact HB.out | apply below_alloc | apply pw_below_drewN | apply below_drew1) | exact HB.out)⟩⟩
          case rest =>
            clear HC7
            try clear c2
            try clear p2
            try clear c3
            try clear c6
            try clear c6b0
            try clear c8
            try clear c8b0
            try clear c8b2
            try clear c9
            try clear c9b0
            try clear c9b1
            try clear c9b2
            try clear p2
            obtain ⟨kq, x3_6, rfl, HA, HJ6, HO_4, HB⟩ := hcut
            cases kq with
            | zero => exact absurd HA.out (by simp [cruciblelaw2_PathPieces.j1])
            | succ kj6 =>
              have H := HA.out
              clear HA
              simp only [cruciblelaw2_PathPieces.j1] at H
              obtain ⟨y240, hy240⟩ : ∃ y_ : List ByteArray, y_ = (([(⟨#[97]⟩ : ByteArray), (⟨#[98]⟩ : ByteArray), (⟨#[46]⟩ : ByteArray), (⟨#[46, 46]⟩ : ByteArray), (⟨#[]⟩ : ByteArray)] : List ByteArray)) := ⟨_, rfl⟩
              replace H : (if 0 ≤ x7_1 then (if x7_1 < (l0.length : Int) then (if 0 ≤ (wrap64 (Int.tmod (IntKind.u64.wrap (rd l0 x7_1)) 5)) then (if (wrap64 (Int.tmod (IntKind.u64.wrap (rd l0 x7_1)) 5)) < (y240.length : Int) then (if x7_1 = 0 then (cruciblelaw2_PathPieces.j2 kj6 l0 x3_6 x4_1 x5_1 ji4 x7_1 (rdOf ByteArray.empty y240 (wrap64 (Int.tmod (IntKind.u64.wrap (rd l0 x7_1)) 5))) ((rdOf ByteArray.empty y240 (wrap64 (Int.tmod (IntKind.u64.wrap (rd l0 x7_1)) 5))).toList == ([] : List UInt8))) else (cruciblelaw2_PathPieces.j2 kj6 l0 x3_6 x4_1 x5_1 ji4 x7_1 (rdOf ByteArray.empty y240 (wrap64 (Int.tmod (IntKind.u64.wrap (rd l0 x7_1)) 5))) false)) else (none)) else (none)) else (none)) else (none)) = some r := by first | (rw [hy240]; with_reducible exact H) | (have H2_ := (Option.bind_some _ _).symm.trans H; rw [hy240]; with_reducible exact H2_) | (have H2_ := (Option.bind_some _ _).symm.trans H; with_reducible exact H2_) | with_reducible exact H | (rw [hy240]; exact H) | exact H
              have Ny240 := Aside0.mk hy240
              clear hy240
              by_cases c10 : 0 ≤ x7_1
              · rw [if_pos c10] at H
                have c10b0 : decide (0 ≤ x7_1) = true := decide_eq_true c10
                clear c10
                by_cases c11 : x7_1 < (l0.length : Int)
                · rw [if_pos c11] at H
                  have c11b0 : decide (x7_1 < (l0.length : Int)) = true := decide_eq_true c11
                  clear c11
                  obtain ⟨ji12, hji12⟩ : ∃ j_ : Int, (wrap64 (Int.tmod (IntKind.u64.wrap (rd l0 x7_1)) 5)) = j_ := ⟨_, rfl⟩
                  replace H : (if 0 ≤ (ji12) then (if (ji12) < (y240.length : Int) then (if x7_1 = 0 then (cruciblelaw2_PathPieces.j2 kj6 l0 x3_6 x4_1 x5_1 ji4 x7_1 (rdOf ByteArray.empty y240 (ji12)) ((rdOf ByteArray.empty y240 (ji12)).toList == ([] : List UInt8))) else (cruciblelaw2_PathPieces.j2 kj6 l0 x3_6 x4_1 x5_1 ji4 x7_1 (rdOf ByteArray.empty y240 (ji12)) false)) else (none)) else (none)) = some r := by first | (rw [hji12] at H; exact H) | (simp only [hji12] at H ⊢; exact H)
                  have hji12w : (IntKind.i64.wrap (Int.tmod (IntKind.u64.wrap (rd l0 x7_1)) 5)) = ji12 := (i64_w _).trans hji12
                  by_cases c13 : 0 ≤ (ji12)
                  · rw [if_pos c13] at H
                    have c13b0 : decide (0 ≤ (ji12)) = true := decide_eq_true c13
                    clear c13
                    by_cases c14 : (ji12) < (y240.length : Int)
                    · rw [if_pos c14] at H
                      have c14b0 : decide ((ji12) < (y240.length : Int)) = true := decide_eq_true c14
                      clear c14
                      have HC15 := Aside0.mk H
                      clear H
                      go_upto_region 13 with (first | ((with_reducible refine gate_dst (N := 27) rfl ?_); (try (refine gate_guard (by rfl) ?_; dsimp only)); refine Kd.R_lit Kd.string _ 9 ?hg (N := 27) ?hd (xs := ([(⟨#[97]⟩ : ByteArray), (⟨#[98]⟩ : ByteArray), (⟨#[46]⟩ : ByteArray), (⟨#[46, 46]⟩ : ByteArray), (⟨#[]⟩ : ByteArray)] : List ByteArray)) (inner := [.string (⟨#[97]⟩ : ByteArray), .string (⟨#[98]⟩ : ByteArray), .string (⟨#[46]⟩ : ByteArray), .string (⟨#[46, 46]⟩ : ByteArray), .string (⟨#[]⟩ : ByteArray)]) (ok := fun _ => True) (okp := fun _ => True) ?hr ?hp (fun _ hk => hk) trivial (Below.refl _ _) (Nat.le_refl _) (by simp) ?_; (case hd => rfl); (case hg => rfl); (case hr => first | (go_simp; done) | (go_simp; rfl)); (case hp => exact (Reps.one (show Kd.M Kd.string _ _ _ (⟨#[97]⟩ : ByteArray) [.string (⟨#[97]⟩ : ByteArray)] from rfl) (Reps.one (show Kd.M Kd.string _ _ _ (⟨#[98]⟩ : ByteArray) [.string (⟨#[98]⟩ : ByteArray)] from rfl) (Reps.one (show Kd.M Kd.string _ _ _ (⟨#[46]⟩ : ByteArray) [.string (⟨#[46]⟩ : ByteArray)] from rfl) (Reps.one (show Kd.M Kd.string _ _ _ (⟨#[46, 46]⟩ : ByteArray) [.string (⟨#[46, 46]⟩ : ByteArray)] from rfl) (Reps.one (show Kd.M Kd.string _ _ _ (⟨#[]⟩ : ByteArray) [.string (⟨#[]⟩ : ByteArray)] from rfl) (Reps.none _ _))))))); intro v241 w16 ho17 hb hg_ hnew_; clear hg_ hnew_; (first | rw [← Ny240.out] at ho17 | (simp only [Int.reduceToNat] at ho17; rw [← Ny240.out] at ho17)); have n0_ := Aside0.mk (Kd.R_elder' (by (with_reducible repeat (first | apply Kd.R_alloc | apply Kd.R_drewN | apply Kd.R_drew)); exact HO_4.out) (Kd.R_base ho17) hb); have n1_ := Aside0.mk (Kd.R_lower (Kd.R_new' ho17 (Kd.R_lt (by (with_reducible repeat (first | apply Kd.R_alloc | apply Kd.R_drewN | apply Kd.R_drew)); exact HO_4.out))) (below_size (by repeat (first | (with_reducible first | exact HB.out | apply below_alloc | apply pw_below_drewN | apply below_drew1) | exact HB.out)))); have n2_ := Aside0.mk (below_step (by repeat (first | (with_reducible first | exact HB.out | apply below_alloc | apply pw_below_drewN | apply below_drew1) | exact HB.out)) hb); clear HO_4; clear HB; have HO_4 := n0_; have HO242 := n1_; have HB := n2_; clear n0_ n1_ n2_; clear hb ho17; have p243 : 0 ≤ (x7_1 : Int) := of_decide_eq_true (by first | (with_reducible assumption) | assumption); have q243 : x7_1 < (l0.length : Int) := of_decide_eq_true (by first | (with_reducible assumption) | assumption); obtain ⟨ad243, e243, hx243_0⟩ := Kd.at_int HR0.out x7_1 p243 q243; cases e243; replace hx243_0 := (HB.out.cell (World.block_lt_of_cell? w _ hx243_0)).trans hx243_0; replace p243 := eq_true p243; replace q243 := eq_true q243; obtain ⟨Ao18, co18, eo18⟩ := Kd.R_slice HO242.out; subst eo18; have p244 : 0 ≤ ((ji12) : Int) := of_decide_eq_true (by first | (with_reducible assumption) | assumption); have q244 : (ji12) < (y240.length : Int) := of_decide_eq_true (by first | (with_reducible assumption) | assumption); obtain ⟨ad244, e244, hx244_0⟩ := Kd.at_string (Kd.R_reads' HO242.out).2.2 (ji12) p244 q244; cases e244; replace p244 := eq_true p244; replace q244 := eq_true q244))
                      (try simp only [Act.put, List.setIfInBounds_toArray, List.set_cons_zero, List.set_cons_succ])
                      go_cut [42] (fun v42 wc => ∃ (kq : Nat) (x42_14 : Bool), v42 = .bool x42_14 ∧ Aside0 (cruciblelaw2_PathPieces.j2 kq l0 x3_6 x4_1 x5_1 ji4 x7_1 (rdOf ByteArray.empty y240 (ji12)) x42_14 = some r) ∧ Aside0 (kq ≤ kj6) ∧ Aside0 (Kd.R Kd.string 9 wc w.heap.size (fun _ => True) u4 x4_1) ∧ Aside0 (Below w.heap.size w wc))
                      case first =>
                        have H := HC15.out
                        clear HC15
                        by_cases c19 : x7_1 = 0
                        · rw [if_pos c19] at H
                          have c19b0 : (x7_1 == 0) = true := beq_iff_eq.mpr c19
                          have c19b1 : (x7_1 != 0) = false := bne_eq_false_iff_eq.mpr c19
                          clear c19
                          (first | rw [c19b0] | (simp only [i64_w, i32_w]; rw [c19b0]) | rw [c19b2] | skip)
                          have H' := Aside0.mk H
                          clear H
                          go_wp2
                          go_meet
                          case rel => exact ⟨_, (((rdOf ByteArray.empty y240 (ji12)).toList == ([] : List UInt8))), (by first | rfl | (simp; done) | (simp only [← hji12] <;> (first | rfl | simp)) | (simp [*]; done)), H', ⟨by have := HK1.out; have := HJ6.out; first | omega | exact Nat.le_refl _⟩, ⟨by (with_reducible repeat (first | apply Kd.R_alloc | apply Kd.R_drewN | apply Kd.R_drew)); exact Kd.R_mono HO_4.out (fun _ hk => trivial)⟩, ⟨by repeat (first | (with_reducible first | exact HB.out | apply below_alloc | apply pw_below_drewN | apply below_drew1) | exact HB.out)⟩⟩
                        · rw [if_neg c19] at H
                          have c19b0 : (x7_1 == 0) = false := beq_eq_false_iff_ne.mpr c19
                          have c19b1 : (x7_1 != 0) = true := bne_iff_ne.mpr c19
                          (first | rw [c19b0] | (simp only [i64_w, i32_w]; rw [c19b0]) | rw [c19b2] | skip)
                          have H' := Aside0.mk H
                          clear H
                          go_wp2
                          go_meet
                          case rel => exact ⟨_, (false), (by first | rfl | (simp; done) | (simp [*]; done)), H', ⟨by have := HK1.out; have := HJ6.out; first | omega | exact Nat.le_refl _⟩, ⟨by (with_reducible repeat (first | apply Kd.R_alloc | apply Kd.R_drewN | apply Kd.R_drew)); exact Kd.R_mono HO_4.out (fun _ hk => trivial)⟩, ⟨by repeat (first | (with_reducible first | exact HB.out | apply below_alloc | apply pw_below_drewN | apply below_drew1) | exact HB.out)⟩⟩
                      case rest =>
                        clear HC15
                        try clear c1
                        try clear c2
                        try clear p2
                        try clear q2
                        try clear hx2
                        try clear c3
                        try clear c6
                        try clear c6b0
                        try clear p6
                        try clear c8
                        try clear c8b0
                        try clear c8b2
                        try clear c9
                        try clear c9b0
                        try clear c9b1
                        try clear c9b2
                        try clear c10
                        try clear c10b0
                        try clear c11
                        try clear c11b0
                        try clear c13
                        try clear c13b0
                        try clear c14
                        try clear c14b0
                        try clear c19
                        try clear c19b0
                        try clear c19b1
                        try clear c19b2
                        try clear hx243_0
                        try clear hx244_0
                        try clear p2
                        try clear p243
                        try clear p244
                        try clear q243
                        try clear q244
                        obtain ⟨kq, x42_14, rfl, HA, HJ14, HO_4, HB⟩ := hcut
                        cases kq with
                        | zero => exact absurd HA.out (by simp [cruciblelaw2_PathPieces.j2])
                        | succ kj14 =>
                          have H := HA.out
                          clear HA
                          simp only [cruciblelaw2_PathPieces.j2] at H
                          have HC20 := Aside0.mk H
                          clear H
                          go_upto_if 42 with (fail)
                          go_cut [8] (fun v8 wc => ∃ (kq : Nat) (x8_19 : ByteArray), v8 = .string x8_19 ∧ Aside0 (cruciblelaw2_PathPieces.j3 kq l0 x3_6 x4_1 x5_1 ji4 x7_1 x8_19 = some r) ∧ Aside0 (kq ≤ kj14) ∧ Aside0 (Kd.R Kd.string 9 wc w.heap.size (fun _ => True) u4 x4_1) ∧ Aside0 (Below w.heap.size w wc))
                          case first =>
                            have H := HC20.out
                            clear HC20
                            by_cases c21 : x42_14 = true
                            · subst c21
                              have H1 : (cruciblelaw2_PathPieces.j3 kj14 l0 x3_6 x4_1 x5_1 ji4 x7_1 (⟨#[97]⟩ : ByteArray)) = some r := by rw [if_pos rfl] at H; exact H
                              clear H
                              have H := H1
                              clear H1
                              have H' := Aside0.mk H
                              clear H
                              go_wp2
                              go_meet
                              case rel => exact ⟨_, ((⟨#[97]⟩ : ByteArray)), (by first | rfl | (simp; done) | (simp [*]; done)), H', ⟨by have := HK1.out; have := HJ6.out; have := HJ14.out; first | omega | exact Nat.le_refl _⟩, ⟨by (with_reducible repeat (first | apply Kd.R_alloc | apply Kd.R_drewN | apply Kd.R_drew)); first | exact HO_4.out | exact own_len HO_4.out⟩, ⟨by repeat (first | (with_reducible first | exact HB.out | apply below_alloc | apply pw_below_drewN | apply below_drew1) | exact HB.out)⟩⟩
                            · replace c21 := Bool.eq_false_iff.mpr c21
                              subst c21
                              have H1 : (cruciblelaw2_PathPieces.j3 kj14 l0 x3_6 x4_1 x5_1 ji4 x7_1 (rdOf ByteArray.empty y240 (ji12))) = some r := by rw [if_neg (show ¬ (false = true) by decide)] at H; exact H
                              clear H
                              have H := H1
                              clear H1
                              have H' := Aside0.mk H
                              clear H
                              go_wp2
                              go_meet
                              case rel => exact ⟨_, ((rdOf ByteArray.empty y240 (ji12))), (by first | rfl | (simp; done) | (simp only [← hji12] <;> (first | rfl | simp)) | (simp [*]; done)), H', ⟨by have := HK1.out; have := HJ6.out; have := HJ14.out; first | omega | exact Nat.le_refl _⟩, ⟨by (with_reducible repeat (first | apply Kd.R_alloc | apply Kd.R_drewN | apply Kd.R_drew)); first | exact HO_4.out | exact own_len HO_4.out⟩, ⟨by repeat (first | (with_reducible first | exact HB.out | apply below_alloc | apply pw_below_drewN | apply below_drew1) | exact HB.out)⟩⟩
                          case rest =>
                            clear HC20
                            try clear c1
                            try clear c2
                            try clear p2
                            try clear q2
                            try clear hx2
                            try clear c3
                            try clear c6
                            try clear c6b0
                            try clear p6
                            try clear c8
                            try clear c8b0
                            try clear c8b2
                            try clear c9
                            try clear c9b0
                            try clear c9b1
                            try clear c9b2
                            try clear c10
                            try clear c10b0
                            try clear c11
                            try clear c11b0
                            try clear c13
                            try clear c13b0
                            try clear c14
                            try clear c14b0
                            try clear c19
                            try clear c19b0
                            try clear c19b1
                            try clear c19b2
                            try clear c21
                            try clear hx243_0
                            try clear hx244_0
                            try clear p2
                            try clear p243
                            try clear p244
                            try clear p6
                            try clear q2
                            try clear q243
                            try clear q244
                            obtain ⟨kq, x8_19, rfl, HA, HJ19, HO_4, HB⟩ := hcut
                            cases kq with
                            | zero => exact absurd HA.out (by simp [cruciblelaw2_PathPieces.j3])
                            | succ kj19 =>
                              have H := HA.out
                              clear HA
                              simp only [cruciblelaw2_PathPieces.j3] at H
                              by_cases c22 : x3_6.size + x8_19.size ≤ 9223372036854775807
                              · rw [if_pos c22] at H
                                have c22b0 := eq_true c22
                                have c22b1 : decide (x3_6.size + x8_19.size ≤ 9223372036854775807) = true := decide_eq_true c22
                                try have c22b2 : (9223372036854775807 < x3_6.size + x8_19.size) = False := eq_false (Nat.not_lt.2 c22)
                                have HC23 := Aside0.mk H
                                clear H
                                go_upto_if 47 with (fail)
                                go_cut [47] (fun v47 wc => ∃ (kq : Nat) (x47_22 : Bool), v47 = .bool x47_22 ∧ Aside0 (cruciblelaw2_PathPieces.j4 kq l0 (x3_6 ++ x8_19) x4_1 x5_1 ji4 x7_1 x8_19 x8_19 x47_22 = some r) ∧ Aside0 (kq ≤ kj19) ∧ Aside0 (Kd.R Kd.string 9 wc w.heap.size (fun _ => True) u4 x4_1) ∧ Aside0 (Below w.heap.size w wc))
                                case first =>
                                  have H := HC23.out
                                  clear HC23
                                  by_cases c24 : x8_19.toList = ([97] : List UInt8)
                                  · rw [if_pos c24] at H
                                    have c24b0 : (x8_19.toList == ([97] : List UInt8)) = true := beq_iff_eq.mpr c24
                                    have c24b1 : (x8_19.toList != ([97] : List UInt8)) = false := bne_eq_false_iff_eq.mpr c24
                                    clear c24
                                    (first | rw [c24b0] | (simp only [i64_w, i32_w]; rw [c24b0]) | rw [c24b2] | skip)
                                    have H' := Aside0.mk H
                                    clear H
                                    go_wp2
                                    go_meet
                                    case rel => exact ⟨_, ((x8_19.toList == ([97] : List UInt8))), (by first | rfl | (simp; done) | (simp [*]; done)), H', ⟨by have := HK1.out; have := HJ6.out; have := HJ14.out; have := HJ19.out; first | omega | exact Nat.le_refl _⟩, ⟨by (with_reducible repeat (first | apply Kd.R_alloc | apply Kd.R_drewN | apply Kd.R_drew)); first | exact HO_4.out | exact own_len HO_4.out⟩, ⟨by repeat (first | (with_reducible first | exact HB.out | apply below_alloc | apply pw_below_drewN | apply below_drew1) | exact HB.out)⟩⟩
                                  · rw [if_neg c24] at H
                                    have c24b0 : (x8_19.toList == ([97] : List UInt8)) = false := beq_eq_false_iff_ne.mpr c24
                                    have c24b1 : (x8_19.toList != ([97] : List UInt8)) = true := bne_iff_ne.mpr c24
                                    (first | rw [c24b0] | (simp only [i64_w, i32_w]; rw [c24b0]) | rw [c24b2] | skip)
                                    have H' := Aside0.mk H
                                    clear H
                                    go_wp2
                                    go_meet
                                    case rel => exact ⟨_, ((x8_19.toList == ([98] : List UInt8))), (by first | rfl | (simp; done) | (simp [*]; done)), H', ⟨by have := HK1.out; have := HJ6.out; have := HJ14.out; have := HJ19.out; first | omega | exact Nat.le_refl _⟩, ⟨by (with_reducible repeat (first | apply Kd.R_alloc | apply Kd.R_drewN | apply Kd.R_drew)); first | exact HO_4.out | exact own_len HO_4.out⟩, ⟨by repeat (first | (with_reducible first | exact HB.out | apply below_alloc | apply pw_below_drewN | apply below_drew1) | exact HB.out)⟩⟩
                                case rest =>
                                  clear HC23
                                  try clear c1
                                  try clear c2
                                  try clear p2
                                  try clear q2
                                  try clear hx2
                                  try clear c3
                                  try clear c6
                                  try clear c6b0
                                  try clear p6
                                  try clear c8
                                  try clear c8b0
                                  try clear c8b2
                                  try clear c9
                                  try clear c9b0
                                  try clear c9b1
                                  try clear c9b2
                                  try clear c10
                                  try clear c10b0
                                  try clear c11
                                  try clear c11b0
                                  try clear c13
                                  try clear c13b0
                                  try clear c14
                                  try clear c14b0
                                  try clear c19
                                  try clear c19b0
                                  try clear c19b1
                                  try clear c19b2
                                  try clear c21
                                  try clear c22
                                  try clear c22b0
                                  try clear c22b1
                                  try clear c22b2
                                  try clear c24
                                  try clear c24b0
                                  try clear c24b1
                                  try clear c24b2
                                  try clear p24
                                  try clear q24
                                  try clear hx24
                                  try clear hx243_0
                                  try clear hx244_0
                                  try clear p2
                                  try clear p243
                                  try clear p244
                                  try clear p6
                                  try clear q2
                                  try clear q243
                                  try clear q244
                                  obtain ⟨kq, x47_22, rfl, HA, HJ22, HO_4, HB⟩ := hcut
                                  cases kq with
                                  | zero => exact absurd HA.out (by simp [cruciblelaw2_PathPieces.j4])
                                  | succ kj22 =>
                                    have H := HA.out
                                    clear HA
                                    simp only [cruciblelaw2_PathPieces.j4] at H
                                    by_cases c25 : x47_22 = true
                                    · subst c25
                                      have H1 : (if x4_1.length < 8796093022208 then (cruciblelaw2_PathPieces.l0 kj22 l0 (x3_6 ++ x8_19) (x4_1 ++ [x8_19]) x5_1 ji4 (wrap64 (x7_1 + 1))) else (none)) = some r := by rw [if_pos rfl] at H; exact H
                                      clear H
                                      have H := H1
                                      clear H1
                                      by_cases c26 : x4_1.length < 8796093022208
                                      · rw [if_pos c26] at H
                                        have LMc26 := Aside0.mk c26
                                        clear c26
                                        obtain ⟨y245, hy245⟩ : ∃ y_ : List ByteArray, y_ = (x4_1 ++ [x8_19]) := ⟨_, rfl⟩
                                        replace H : (cruciblelaw2_PathPieces.l0 kj22 l0 (x3_6 ++ x8_19) y245 x5_1 ji4 (wrap64 (x7_1 + 1))) = some r := by first | (rw [hy245]; with_reducible exact H) | (have H2_ := (Option.bind_some _ _).symm.trans H; rw [hy245]; with_reducible exact H2_) | (have H2_ := (Option.bind_some _ _).symm.trans H; with_reducible exact H2_) | with_reducible exact H | (rw [hy245]; exact H) | exact H
                                        have Ny245 := Aside0.mk hy245
                                        clear hy245
                                        have H' := Aside0.mk H
                                        clear H
                                        go_wp2_with (first | ((with_reducible refine gate_builtin (b := .append) (xs := #[.tmp 50, .tmp 52]) rfl ?_); (try (refine gate_guard (by rfl) ?_; dsimp only)); at_builtin; refine Kd.R_append Kd.string (w0 := w) w.heap.size rfl (.tmp 50) (.tmp 52) 22 9 (.string ⟨#[]⟩) 16 rfl Tryd.underlying22 info9 rfl (by decide) (by omega) u4 x4_1 x8_19 [.string x8_19] (fun _ => True) (fun _ => False) rfl rfl ?aP (fun _ hk => hk.elim) ?aF ?aO ?aB ?aS ?aL ?_; (case aP => exact rfl); (case aB => exact (by repeat (first | (with_reducible first | exact HB.out | apply below_alloc | apply pw_below_drewN | apply below_drew1) | exact HB.out))); (case aF => exact (fun _ _ => trivial)); (case aO => exact (by (with_reducible repeat (first | apply Kd.R_alloc | apply Kd.R_drewN | apply Kd.R_drew)); exact HO_4.out)); (case aS => exact (below_size (by repeat (first | (with_reducible first | exact HB.out | apply below_alloc | apply pw_below_drewN | apply below_drew1) | exact HB.out)))); (case aL => have := LMc26.out; omega); intro v246 w27 ho hb hg hat; rw [← Ny245.out] at ho; have n0_ := Aside0.mk (hb); have n1_ := Aside0.mk (ho); clear HB; clear HO_4; have HB := n0_; have HO247 := n1_; clear n0_ n1_; clear ho hb hg hat))
                                        go_roundg kj22
                                        case measure => have := HK1.out; have := HJ6.out; have := HJ14.out; have := HJ19.out; have := HJ22.out; omega
                                        case rel => exact ⟨((x3_6 ++ x8_19)), (y245), (x5_1), (wrap64 (x7_1 + 1)), (by first | rfl | (simp; done) | (simp [*]; done)), (by first | rfl | (simp; done) | (simp [*]; done)), (by first | rfl | (simp; done) | (simp [*]; done)), H', ⟨by have := HK1.out; have := HJ6.out; have := HJ14.out; have := HJ19.out; have := HJ22.out; omega⟩, ⟨by (with_reducible repeat (first | apply Kd.R_alloc | apply Kd.R_drewN | apply Kd.R_drew)); first | exact HO247.out | exact own_len HO247.out⟩, ⟨by repeat (first | (with_reducible first | exact HB.out | apply below_alloc | apply pw_below_drewN | apply below_drew1) | exact HB.out)⟩⟩
                                      · rw [if_neg c26] at H
                                        exact absurd H (by simp)
                                    · replace c25 := Bool.eq_false_iff.mpr c25
                                      subst c25
                                      have H1 : (if x8_19.toList = ([46, 46] : List UInt8) then (if (x4_1.length : Int) = 0 then (cruciblelaw2_PathPieces.l0 kj22 l0 (x3_6 ++ x8_19) x4_1 false ji4 (wrap64 (x7_1 + 1))) else (if x5_1 = true then (if 0 ≤ (wrap64 ((x4_1.length : Int) - 1)) then (if (wrap64 ((x4_1.length : Int) - 1)) ≤ (x4_1.length : Int) then (cruciblelaw2_PathPieces.l0 kj22 l0 (x3_6 ++ x8_19) (x4_1.take ((wrap64 ((x4_1.length : Int) - 1)) : Int).toNat) x5_1 ji4 (wrap64 (x7_1 + 1))) else (none)) else (none)) else (cruciblelaw2_PathPieces.l0 kj22 l0 (x3_6 ++ x8_19) x4_1 x5_1 ji4 (wrap64 (x7_1 + 1))))) else (cruciblelaw2_PathPieces.l0 kj22 l0 (x3_6 ++ x8_19) x4_1 x5_1 ji4 (wrap64 (x7_1 + 1)))) = some r := by rw [if_neg (show ¬ (false = true) by decide)] at H; exact H
                                      clear H
                                      have H := H1
                                      clear H1
                                      by_cases c28 : x8_19.toList = ([46, 46] : List UInt8)
                                      · rw [if_pos c28] at H
                                        have c28b0 : (x8_19.toList == ([46, 46] : List UInt8)) = true := beq_iff_eq.mpr c28
                                        have c28b1 : (x8_19.toList != ([46, 46] : List UInt8)) = false := bne_eq_false_iff_eq.mpr c28
                                        clear c28
                                        by_cases c29 : (x4_1.length : Int) = 0
                                        · rw [if_pos c29] at H
                                          have c29b0 : ((x4_1.length : Int) == 0) = true := beq_iff_eq.mpr c29
                                          have c29b1 : ((x4_1.length : Int) != 0) = false := bne_eq_false_iff_eq.mpr c29
                                          clear c29
                                          have H' := Aside0.mk H
                                          clear H
                                          obtain ⟨Ao30, co30, eo30⟩ := Kd.R_slice HO_4.out
                                          subst eo30
                                          go_wp2
                                          go_roundg kj22
                                          case measure => have := HK1.out; have := HJ6.out; have := HJ14.out; have := HJ19.out; have := HJ22.out; omega
                                          case rel => exact ⟨((x3_6 ++ x8_19)), (x4_1), (false), (wrap64 (x7_1 + 1)), (by first | rfl | (simp; done) | (simp [*]; done)), (by first | rfl | (simp; done) | (simp [*]; done)), (by first | rfl | (simp; done) | (simp [*]; done)), H', ⟨by have := HK1.out; have := HJ6.out; have := HJ14.out; have := HJ19.out; have := HJ22.out; omega⟩, ⟨by (with_reducible repeat (first | apply Kd.R_alloc | apply Kd.R_drewN | apply Kd.R_drew)); first | exact HO_4.out | exact own_len HO_4.out⟩, ⟨by repeat (first | (with_reducible first | exact HB.out | apply below_alloc | apply pw_below_drewN | apply below_drew1) | exact HB.out)⟩⟩
                                        · rw [if_neg c29] at H
                                          have c29b0 : ((x4_1.length : Int) == 0) = false := beq_eq_false_iff_ne.mpr c29
                                          have c29b1 : ((x4_1.length : Int) != 0) = true := bne_iff_ne.mpr c29
                                          have c29b2 : ¬ (x4_1 = []) := fun h_ => c29 (by rw [h_]; rfl)
                                          by_cases c31 : x5_1 = true
                                          · subst c31
                                            have H1 : (if 0 ≤ (wrap64 ((x4_1.length : Int) - 1)) then (if (wrap64 ((x4_1.length : Int) - 1)) ≤ (x4_1.length : Int) then (cruciblelaw2_PathPieces.l0 kj22 l0 (x3_6 ++ x8_19) (x4_1.take ((wrap64 ((x4_1.length : Int) - 1)) : Int).toNat) true ji4 (wrap64 (x7_1 + 1))) else (none)) else (none)) = some r := by rw [if_pos rfl] at H; exact H
                                            clear H
                                            have H := H1
                                            clear H1
                                            obtain ⟨ji32, hji32⟩ : ∃ j_ : Int, (wrap64 ((x4_1.length : Int) - 1)) = j_ := ⟨_, rfl⟩
                                            replace H : (if 0 ≤ (ji32) then (if (ji32) ≤ (x4_1.length : Int) then (cruciblelaw2_PathPieces.l0 kj22 l0 (x3_6 ++ x8_19) (x4_1.take ((ji32) : Int).toNat) true ji4 (wrap64 (x7_1 + 1))) else (none)) else (none)) = some r := by first | (rw [hji32] at H; exact H) | (simp only [hji32] at H ⊢; exact H)
                                            have hji32w : (IntKind.i64.wrap ((x4_1.length : Int) - 1)) = ji32 := (i64_w _).trans hji32
                                            by_cases c33 : 0 ≤ (ji32)
                                            · rw [if_pos c33] at H
                                              have c33b0 := eq_true c33
                                              have c33b1 : decide (0 ≤ (ji32)) = true := decide_eq_true c33
                                              clear c33
                                              by_cases c34 : (ji32) ≤ (x4_1.length : Int)
                                              · rw [if_pos c34] at H
                                                have c34b0 := eq_true c34
                                                have c34b1 : decide ((ji32) ≤ (x4_1.length : Int)) = true := decide_eq_true c34
                                                clear c34
                                                obtain ⟨y248, hy248⟩ : ∃ y_ : List ByteArray, y_ = (x4_1.take ((ji32) : Int).toNat) := ⟨_, rfl⟩
                                                replace H : (cruciblelaw2_PathPieces.l0 kj22 l0 (x3_6 ++ x8_19) y248 true ji4 (wrap64 (x7_1 + 1))) = some r := by first | (rw [hy248]; with_reducible exact H) | (have H2_ := (Option.bind_some _ _).symm.trans H; rw [hy248]; with_reducible exact H2_) | (have H2_ := (Option.bind_some _ _).symm.trans H; with_reducible exact H2_) | with_reducible exact H | (rw [hy248]; exact H) | exact H
                                                have Ny248 := Aside0.mk hy248
                                                clear hy248
                                                have H' := Aside0.mk H
                                                clear H
                                                obtain ⟨Ao35, co35, eo35⟩ := Kd.R_slice HO_4.out
                                                subst eo35
                                                have q36 : ((ji32) : Int) ≤ ((x4_1.length : Int) : Int) := of_decide_eq_true (by first | (with_reducible assumption) | assumption)
                                                obtain ⟨i036, hi036, _, hsz36, _⟩ := info_parts info9
                                                have hcut36 := cut_to (P := Tryd.prog) 22 9 .i64 Tryd.underlying22 hi036 Ao35 x4_1.length co35 (ji32) (of_decide_eq_true (by first | (with_reducible assumption) | assumption)) q36 (Kd.R_reads' HO_4.out).2.1
                                                have hr36 := Kd.R_take (m := ((ji32) : Int).toNat) HO_4.out (by omega)
                                                have hy36 : y248.length = ((ji32) : Int).toNat := (by rw [Ny248.out, List.length_take]; omega)
                                                rw [← Ny248.out] at hr36
                                                rw [← hy36] at hr36 hcut36
                                                clear hy36 hi036 hsz36 HO_4
                                                have HO250 := Aside0.mk hr36
                                                clear hr36
                                                replace q36 := eq_true q36
                                                go_wp2
                                                go_roundg kj22
                                                case measure => have := HK1.out; have := HJ6.out; have := HJ14.out; have := HJ19.out; have := HJ22.out; omega
                                                case rel => exact ⟨((x3_6 ++ x8_19)), (y248), (true), (wrap64 (x7_1 + 1)), (by first | rfl | (simp; done) | (simp [*]; done)), (by first | rfl | (simp; done) | (simp [*]; done)), (by first | rfl | (simp; done) | (simp [*]; done)), H', ⟨by have := HK1.out; have := HJ6.out; have := HJ14.out; have := HJ19.out; have := HJ22.out; omega⟩, ⟨by (with_reducible repeat (first | apply Kd.R_alloc | apply Kd.R_drewN | apply Kd.R_drew)); first | exact HO250.out | exact own_len HO250.out⟩, ⟨by repeat (first | (with_reducible first | exact HB.out | apply below_alloc | apply pw_below_drewN | apply below_drew1) | exact HB.out)⟩⟩
                                              · rw [if_neg c34] at H
                                                exact absurd H (by simp)
                                            · rw [if_neg c33] at H
                                              exact absurd H (by simp)
                                          · replace c31 := Bool.eq_false_iff.mpr c31
                                            subst c31
                                            have H1 : (cruciblelaw2_PathPieces.l0 kj22 l0 (x3_6 ++ x8_19) x4_1 false ji4 (wrap64 (x7_1 + 1))) = some r := by rw [if_neg (show ¬ (false = true) by decide)] at H; exact H
                                            clear H
                                            have H := H1
                                            clear H1
                                            have H' := Aside0.mk H
                                            clear H
                                            obtain ⟨Ao37, co37, eo37⟩ := Kd.R_slice HO_4.out
                                            subst eo37
                                            go_wp2
                                            go_roundg kj22
                                            case measure => have := HK1.out; have := HJ6.out; have := HJ14.out; have := HJ19.out; have := HJ22.out; omega
                                            case rel => exact ⟨((x3_6 ++ x8_19)), (x4_1), (false), (wrap64 (x7_1 + 1)), (by first | rfl | (simp; done) | (simp [*]; done)), (by first | rfl | (simp; done) | (simp [*]; done)), (by first | rfl | (simp; done) | (simp [*]; done)), H', ⟨by have := HK1.out; have := HJ6.out; have := HJ14.out; have := HJ19.out; have := HJ22.out; omega⟩, ⟨by (with_reducible repeat (first | apply Kd.R_alloc | apply Kd.R_drewN | apply Kd.R_drew)); first | exact HO_4.out | exact own_len HO_4.out⟩, ⟨by repeat (first | (with_reducible first | exact HB.out | apply below_alloc | apply pw_below_drewN | apply below_drew1) | exact HB.out)⟩⟩
                                      · rw [if_neg c28] at H
                                        have c28b0 : (x8_19.toList == ([46, 46] : List UInt8)) = false := beq_eq_false_iff_ne.mpr c28
                                        have c28b1 : (x8_19.toList != ([46, 46] : List UInt8)) = true := bne_iff_ne.mpr c28
                                        have H' := Aside0.mk H
                                        clear H
                                        go_wp2
                                        go_roundg kj22
                                        case measure => have := HK1.out; have := HJ6.out; have := HJ14.out; have := HJ19.out; have := HJ22.out; omega
                                        case rel => exact ⟨((x3_6 ++ x8_19)), (x4_1), (x5_1), (wrap64 (x7_1 + 1)), (by first | rfl | (simp; done) | (simp [*]; done)), (by first | rfl | (simp; done) | (simp [*]; done)), (by first | rfl | (simp; done) | (simp [*]; done)), H', ⟨by have := HK1.out; have := HJ6.out; have := HJ14.out; have := HJ19.out; have := HJ22.out; omega⟩, ⟨by (with_reducible repeat (first | apply Kd.R_alloc | apply Kd.R_drewN | apply Kd.R_drew)); first | exact HO_4.out | exact own_len HO_4.out⟩, ⟨by repeat (first | (with_reducible first | exact HB.out | apply below_alloc | apply pw_below_drewN | apply below_drew1) | exact HB.out)⟩⟩
                              · rw [if_neg c22] at H
                                exact absurd H (by simp)
                    · rw [if_neg c14] at H
                      exact absurd H (by simp)
                  · rw [if_neg c13] at H
                    exact absurd H (by simp)
                · rw [if_neg c11] at H
                  exact absurd H (by simp)
              · rw [if_neg c10] at H
                exact absurd H (by simp)
        · rw [if_neg c6] at H
          have c6b0 : decide (x7_1 < ji4) = false := decide_eq_false c6
          clear c6
          have H' := Aside0.mk H
          clear H
          go_wp2
          go_loopg [9, 10] k1 (fun kq v9 v10 w' => ∃ (x9_2 : ByteArray) (x10_2 : Int), v9 = .string x9_2 ∧ v10 = .int .i64 x10_2 ∧ Aside0 (cruciblelaw2_PathPieces.l1 kq x3_1 x4_1 x5_1 x9_2 x10_2 = some r) ∧ Aside0 (kq ≤ k1) ∧ Aside0 (Kd.R Kd.string 9 w' w.heap.size (fun _ => True) u4 x4_1) ∧ Aside0 (Below w.heap.size w w'))
          case atStart => exact ⟨((⟨#[]⟩ : ByteArray)), (0), (by first | rfl | (simp; done) | (simp [*]; done)), (by first | rfl | (simp; done) | (simp [*]; done)), H', ⟨Nat.le_refl _⟩, ⟨by (with_reducible repeat (first | apply Kd.R_alloc | apply Kd.R_drewN | apply Kd.R_drew)); first | exact HO_4.out | exact own_len HO_4.out⟩, ⟨by repeat (first | (with_reducible first | exact HB.out | apply below_alloc | apply pw_below_drewN | apply below_drew1) | exact HB.out)⟩⟩
          case round =>
            clear H'
            try clear c1
            try clear c2
            try clear p2
            try clear q2
            try clear hx2
            try clear c3
            try clear q3
            try clear c6
            try clear c6b0
            try clear p6
            try clear c8
            try clear c8b0
            try clear c8b2
            try clear c9
            try clear c9b0
            try clear c9b1
            try clear c9b2
            try clear c10
            try clear c10b0
            try clear c11
            try clear c11b0
            try clear c13
            try clear c13b0
            try clear c14
            try clear c14b0
            try clear c19
            try clear c19b0
            try clear c19b1
            try clear c19b2
            try clear c21
            try clear c22
            try clear c22b0
            try clear c22b1
            try clear c22b2
            try clear c24
            try clear c24b0
            try clear c24b1
            try clear c24b2
            try clear p24
            try clear q24
            try clear hx24
            try clear c25
            try clear c26
            try clear c28
            try clear c28b0
            try clear c28b1
            try clear c29
            try clear c29b0
            try clear c29b1
            try clear c29b2
            try clear c31
            try clear c33
            try clear c33b0
            try clear c33b1
            try clear c34
            try clear c34b0
            try clear c34b1
            try clear q36
            try clear hx243_0
            try clear hx244_0
            try clear p2
            try clear p24
            try clear p243
            try clear p244
            try clear p6
            try clear q2
            try clear q24
            try clear q243
            try clear q244
            try clear q36
            obtain ⟨x9_2, x10_2, rfl, rfl, HA, HK2, HO_4, HB⟩ := hrel
            cases gk with
            | zero => exact absurd HA.out (by simp [cruciblelaw2_PathPieces.l1])
            | succ k2 =>
              have H := HA.out
              clear HA
              simp only [cruciblelaw2_PathPieces.l1] at H
              by_cases c38 : x10_2 < (x4_1.length : Int)
              · rw [if_pos c38] at H
                have c38b0 : decide (x10_2 < (x4_1.length : Int)) = true := decide_eq_true c38
                clear c38
                by_cases c39 : x10_2 > 0
                · rw [if_pos c39] at H
                  have c39b0 : decide (0 < x10_2) = true := decide_eq_true c39
                  clear c39
                  by_cases c40 : x9_2.size + 1 ≤ 9223372036854775807
                  · rw [if_pos c40] at H
                    have c40b0 := eq_true c40
                    have c40b1 : decide (x9_2.size + 1 ≤ 9223372036854775807) = true := decide_eq_true c40
                    try have c40b2 : (9223372036854775807 < x9_2.size + 1) = False := eq_false (Nat.not_lt.2 c40)
                    by_cases c41 : 0 ≤ x10_2
                    · rw [if_pos c41] at H
                      have c41b0 : decide (0 ≤ x10_2) = true := decide_eq_true c41
                      clear c41
                      by_cases c42 : (x9_2 ++ (⟨#[47]⟩ : ByteArray)).size + (rdOf ByteArray.empty x4_1 x10_2).size ≤ 9223372036854775807
                      · rw [if_pos c42] at H
                        have c42b0 := eq_true c42
                        have c42b1 : decide ((x9_2 ++ (⟨#[47]⟩ : ByteArray)).size + (rdOf ByteArray.empty x4_1 x10_2).size ≤ 9223372036854775807) = true := decide_eq_true c42
                        try have c42b2 : (9223372036854775807 < (x9_2 ++ (⟨#[47]⟩ : ByteArray)).size + (rdOf ByteArray.empty x4_1 x10_2).size) = False := eq_false (Nat.not_lt.2 c42)
                        have H' := Aside0.mk H
                        clear H
                        obtain ⟨Ao43, co43, eo43⟩ := Kd.R_slice HO_4.out
                        subst eo43
                        have p251 : 0 ≤ (x10_2 : Int) := of_decide_eq_true (by first | (with_reducible assumption) | assumption)
                        have q251 : x10_2 < (x4_1.length : Int) := of_decide_eq_true (by first | (with_reducible assumption) | assumption)
                        obtain ⟨ad251, e251, hx251_0⟩ := Kd.at_string (Kd.R_reads' HO_4.out).2.2 x10_2 p251 q251
                        cases e251
                        replace p251 := eq_true p251
                        replace q251 := eq_true q251
                        go_wp2
                        go_roundg k2
                        case measure => have := HK1.out; have := HK2.out; omega
                        case rel => exact ⟨((x9_2 ++ (⟨#[47]⟩ : ByteArray)) ++ (rdOf ByteArray.empty x4_1 x10_2)), (wrap64 (x10_2 + 1)), (by first | rfl | (simp; done) | (simp [*]; done)), (by first | rfl | (simp; done) | (simp [*]; done)), H', ⟨by have := HK1.out; have := HK2.out; omega⟩, ⟨by (with_reducible repeat (first | apply Kd.R_alloc | apply Kd.R_drewN | apply Kd.R_drew)); first | exact HO_4.out | exact own_len HO_4.out⟩, ⟨by repeat (first | (with_reducible first | exact HB.out | apply below_alloc | apply pw_below_drewN | apply below_drew1) | exact HB.out)⟩⟩
                      · rw [if_neg c42] at H
                        exact absurd H (by simp)
                    · rw [if_neg c41] at H
                      exact absurd H (by simp)
                  · rw [if_neg c40] at H
                    exact absurd H (by simp)
                · rw [if_neg c39] at H
                  have c39b0 : decide (0 < x10_2) = false := decide_eq_false c39
                  clear c39
                  by_cases c44 : 0 ≤ x10_2
                  · rw [if_pos c44] at H
                    have c44b0 : decide (0 ≤ x10_2) = true := decide_eq_true c44
                    clear c44
                    by_cases c45 : x9_2.size + (rdOf ByteArray.empty x4_1 x10_2).size ≤ 9223372036854775807
                    · rw [if_pos c45] at H
                      have c45b0 := eq_true c45
                      have c45b1 : decide (x9_2.size + (rdOf ByteArray.empty x4_1 x10_2).size ≤ 9223372036854775807) = true := decide_eq_true c45
                      try have c45b2 : (9223372036854775807 < x9_2.size + (rdOf ByteArray.empty x4_1 x10_2).size) = False := eq_false (Nat.not_lt.2 c45)
                      have H' := Aside0.mk H
                      clear H
                      obtain ⟨Ao46, co46, eo46⟩ := Kd.R_slice HO_4.out
                      subst eo46
                      have p252 : 0 ≤ (x10_2 : Int) := of_decide_eq_true (by first | (with_reducible assumption) | assumption)
                      have q252 : x10_2 < (x4_1.length : Int) := of_decide_eq_true (by first | (with_reducible assumption) | assumption)
                      obtain ⟨ad252, e252, hx252_0⟩ := Kd.at_string (Kd.R_reads' HO_4.out).2.2 x10_2 p252 q252
                      cases e252
                      replace p252 := eq_true p252
                      replace q252 := eq_true q252
                      go_wp2
                      go_roundg k2
                      case measure => have := HK1.out; have := HK2.out; omega
                      case rel => exact ⟨(x9_2 ++ (rdOf ByteArray.empty x4_1 x10_2)), (wrap64 (x10_2 + 1)), (by first | rfl | (simp; done) | (simp [*]; done)), (by first | rfl | (simp; done) | (simp [*]; done)), H', ⟨by have := HK1.out; have := HK2.out; omega⟩, ⟨by (with_reducible repeat (first | apply Kd.R_alloc | apply Kd.R_drewN | apply Kd.R_drew)); first | exact HO_4.out | exact own_len HO_4.out⟩, ⟨by repeat (first | (with_reducible first | exact HB.out | apply below_alloc | apply pw_below_drewN | apply below_drew1) | exact HB.out)⟩⟩
                    · rw [if_neg c45] at H
                      exact absurd H (by simp)
                  · rw [if_neg c44] at H
                    exact absurd H (by simp)
              · rw [if_neg c38] at H
                have c38b0 : decide (x10_2 < (x4_1.length : Int)) = false := decide_eq_false c38
                clear c38
                replace H := Option.bind_eq_some_iff.mp H
                obtain ⟨⟨t253, t254⟩, A470, H⟩ := H
                replace H : (if x5_1 = true then (if (x4_1.length : Int) = 0 then (cruciblelaw2_PathPieces.j6 k2 x9_2 t253 t254 true) else (cruciblelaw2_PathPieces.j6 k2 x9_2 t253 t254 (decide ((x3_1.size : Int) > 16)))) else (cruciblelaw2_PathPieces.j6 k2 x9_2 t253 t254 true)) = some r := H
                have A47 := Aside0.mk A470
                clear A470
                have HC48 := Aside0.mk H
                clear H
                obtain ⟨Ao49, co49, eo49⟩ := Kd.R_slice HO_4.out
                subst eo49
                go_upto_region 33 with (first | ((with_reducible refine gate_callee (f := 23) rfl ?_); refine goesL_ (some 83) rfl rfl Tryd.func23 (by kernel_rfl) rfl #[.string x3_1] rfl (by (try simp only [List.map_toArray, List.map_cons, List.map_nil]); first | done | rfl | (simp only [List.length_drop, List.length_take]; rfl)) ?_; (with_reducible refine (path_Clean.calls k2 x3_1 t253 t254 _ A47.out).mono ?_); rintro e w50 ⟨rfl, hb⟩; refine ⟨_, rfl, ?_⟩; have n0_ := Aside0.mk (Kd.R_below (by (with_reducible repeat (first | apply Kd.R_alloc | apply Kd.R_drewN | apply Kd.R_drew)); exact HO_4.out) hb); have n1_ := Aside0.mk (below_step (by repeat (first | (with_reducible first | exact HB.out | apply below_alloc | apply pw_below_drewN | apply below_drew1) | exact HB.out)) hb); clear HO_4; clear HB; have HO_4 := n0_; have HB := n1_; clear n0_ n1_; (try clear hb); (try clear hb2); (try clear hk); (try clear hi)))
                (try simp only [Act.put, List.setIfInBounds_toArray, List.set_cons_zero, List.set_cons_succ])
                go_cut [97] (fun v97 wc => ∃ (kq : Nat) (x97_47 : Bool), v97 = .bool x97_47 ∧ Aside0 (cruciblelaw2_PathPieces.j6 kq x9_2 t253 t254 x97_47 = some r) ∧ Aside0 (kq ≤ k2) ∧ Aside0 (Below w.heap.size w wc))
                case first =>
                  have H := HC48.out
                  clear HC48
                  by_cases c51 : x5_1 = true
                  · subst c51
                    have H1 : (if (x4_1.length : Int) = 0 then (cruciblelaw2_PathPieces.j6 k2 x9_2 t253 t254 true) else (cruciblelaw2_PathPieces.j6 k2 x9_2 t253 t254 (decide ((x3_1.size : Int) > 16)))) = some r := by rw [if_pos rfl] at H; exact H
                    clear H
                    have H := H1
                    clear H1
                    by_cases c52 : (x4_1.length : Int) = 0
                    · rw [if_pos c52] at H
                      have c52b0 : ((x4_1.length : Int) == 0) = true := beq_iff_eq.mpr c52
                      have c52b1 : ((x4_1.length : Int) != 0) = false := bne_eq_false_iff_eq.mpr c52
                      clear c52
                      (first | rw [c52b0] | (simp only [i64_w, i32_w]; rw [c52b0]) | rw [c52b2] | skip)
                      have H' := Aside0.mk H
                      clear H
                      go_wp2
                      go_meet
                      case rel => exact ⟨_, (true), (by first | rfl | (simp; done) | (simp [*]; done)), H', ⟨by have := HK1.out; have := HK2.out; first | omega | exact Nat.le_refl _⟩, ⟨by repeat (first | (with_reducible first | exact HB.out | apply below_alloc | apply pw_below_drewN | apply below_drew1) | exact HB.out)⟩⟩
                    · rw [if_neg c52] at H
                      have c52b0 : ((x4_1.length : Int) == 0) = false := beq_eq_false_iff_ne.mpr c52
                      have c52b1 : ((x4_1.length : Int) != 0) = true := bne_iff_ne.mpr c52
                      have c52b2 : ¬ (x4_1 = []) := fun h_ => c52 (by rw [h_]; rfl)
                      (first | rw [c52b0] | (simp only [i64_w, i32_w]; rw [c52b0]) | rw [c52b2] | skip)
                      have H' := Aside0.mk H
                      clear H
                      go_wp2
                      go_meet
                      case rel => exact ⟨_, (decide ((x3_1.size : Int) > 16)), (by first | rfl | (simp; done) | (simp [*]; done)), H', ⟨by have := HK1.out; have := HK2.out; first | omega | exact Nat.le_refl _⟩, ⟨by repeat (first | (with_reducible first | exact HB.out | apply below_alloc | apply pw_below_drewN | apply below_drew1) | exact HB.out)⟩⟩
                  · replace c51 := Bool.eq_false_iff.mpr c51
                    subst c51
                    have H1 : (cruciblelaw2_PathPieces.j6 k2 x9_2 t253 t254 true) = some r := by rw [if_neg (show ¬ (false = true) by decide)] at H; exact H
                    clear H
                    have H := H1
                    clear H1
                    have H' := Aside0.mk H
                    clear H
                    go_wp2
                    go_meet
                    case rel => exact ⟨_, (true), (by first | rfl | (simp; done) | (simp [*]; done)), H', ⟨by have := HK1.out; have := HK2.out; first | omega | exact Nat.le_refl _⟩, ⟨by repeat (first | (with_reducible first | exact HB.out | apply below_alloc | apply pw_below_drewN | apply below_drew1) | exact HB.out)⟩⟩
                case rest =>
                  clear HC48
                  try clear c1
                  try clear c2
                  try clear p2
                  try clear q2
                  try clear hx2
                  try clear c3
                  try clear q3
                  try clear c4
                  try clear c5
                  try clear c6
                  try clear c6b0
                  try clear p6
                  try clear c8
                  try clear c8b0
                  try clear c8b2
                  try clear c9
                  try clear c9b0
                  try clear c9b1
                  try clear c9b2
                  try clear c10
                  try clear c10b0
                  try clear c11
                  try clear c11b0
                  try clear c13
                  try clear c13b0
                  try clear c14
                  try clear c14b0
                  try clear c19
                  try clear c19b0
                  try clear c19b1
                  try clear c19b2
                  try clear c21
                  try clear c22
                  try clear c22b0
                  try clear c22b1
                  try clear c22b2
                  try clear c23
                  try clear c24
                  try clear c24b0
                  try clear c24b1
                  try clear c24b2
                  try clear p24
                  try clear q24
                  try clear hx24
                  try clear c25
                  try clear p25
                  try clear q25
                  try clear hx25
                  try clear c26
                  try clear c28
                  try clear c28b0
                  try clear c28b1
                  try clear c29
                  try clear c29b0
                  try clear c29b1
                  try clear c29b2
                  try clear c31
                  try clear c33
                  try clear c33b0
                  try clear c33b1
                  try clear c34
                  try clear c34b0
                  try clear c34b1
                  try clear q36
                  try clear c38
                  try clear c38b0
                  try clear c39
                  try clear c39b0
                  try clear c40
                  try clear c40b0
                  try clear c40b1
                  try clear c40b2
                  try clear c41
                  try clear c41b0
                  try clear c42
                  try clear c42b0
                  try clear c42b1
                  try clear c42b2
                  try clear c44
                  try clear c44b0
                  try clear c45
                  try clear c45b0
                  try clear c45b1
                  try clear c45b2
                  try clear c51
                  try clear c52
                  try clear c52b0
                  try clear c52b1
                  try clear c52b2
                  try clear hx243_0
                  try clear hx244_0
                  try clear hx251_0
                  try clear hx252_0
                  try clear p2
                  try clear p24
                  try clear p243
                  try clear p244
                  try clear p251
                  try clear p252
                  try clear p6
                  try clear q2
                  try clear q24
                  try clear q243
                  try clear q244
                  try clear q251
                  try clear q252
                  try clear q3
                  try clear q36
                  obtain ⟨kq, x97_47, rfl, HA, HJ47, HB⟩ := hcut
                  cases kq with
                  | zero => exact absurd HA.out (by simp [cruciblelaw2_PathPieces.j6])
                  | succ kj47 =>
                    have H := HA.out
                    clear HA
                    simp only [cruciblelaw2_PathPieces.j6] at H
                    by_cases c53 : x97_47 = true
                    · subst c53
                      have H1 : (if t253.toList = ([] : List UInt8) then ((cruciblelaw0_Num.f t254).bind fun t255 => (some (t255 == 200))) else (some false)) = some r := by rw [if_pos rfl] at H; exact H
                      clear H
                      have H := H1
                      clear H1
                      by_cases c54 : t253.toList = ([] : List UInt8)
                      · rw [if_pos c54] at H
                        have c54b0 : (t253.toList == ([] : List UInt8)) = true := beq_iff_eq.mpr c54
                        have c54b1 : (t253.toList != ([] : List UInt8)) = false := bne_eq_false_iff_eq.mpr c54
                        have c54b2 : t253.toList.isEmpty = true := by simpa using c54
                        clear c54
                        replace H := Option.bind_eq_some_iff.mp H
                        obtain ⟨t255, A550, H⟩ := H
                        replace H : (some (t255 == 200)) = some r := H
                        have A55 := Aside0.mk A550
                        clear A550
                        obtain rfl := Option.some.inj H
                        go_wp2_with (first | (go_at_call 18; (with_reducible refine (cruciblelaw0_Num.calls t254 t255 _ A55.out).mono ?_); rintro e w' ⟨rfl, ⟨nd, rfl⟩⟩))
                        go_ret
                        exact ⟨by first | rfl | (simp [errW_none, errW_some] <;> rfl) | (simp only [← hji4]; first | rfl | (simp [errW_none, errW_some] <;> rfl)) | (simp [*, errW_none, errW_some] <;> rfl), by repeat (first | (with_reducible first | exact HB.out | apply below_alloc | apply pw_below_drewN | apply below_drew1) | exact HB.out)⟩
                      · rw [if_neg c54] at H
                        have c54b0 : (t253.toList == ([] : List UInt8)) = false := beq_eq_false_iff_ne.mpr c54
                        have c54b1 : (t253.toList != ([] : List UInt8)) = true := bne_iff_ne.mpr c54
                        have c54b2 : t253.toList.isEmpty = false := by simpa using c54
                        obtain rfl := Option.some.inj H
                        go_wp2
                        go_ret
                        exact ⟨by first | rfl | (simp [errW_none, errW_some] <;> rfl) | (simp only [← hji4]; first | rfl | (simp [errW_none, errW_some] <;> rfl)) | (simp [*, errW_none, errW_some] <;> rfl), by repeat (first | (with_reducible first | exact HB.out | apply below_alloc | apply pw_below_drewN | apply below_drew1) | exact HB.out)⟩
                    · replace c53 := Bool.eq_false_iff.mpr c53
                      subst c53
                      have H1 : (if t253.toList = x9_2.toList then ((cruciblelaw0_Num.f t254).bind fun t256 => (some (t256 == 0))) else (some false)) = some r := by rw [if_neg (show ¬ (false = true) by decide)] at H; exact H
                      clear H
                      have H := H1
                      clear H1
                      by_cases c56 : t253.toList = x9_2.toList
                      · rw [if_pos c56] at H
                        have c56b0 : (t253.toList == x9_2.toList) = true := beq_iff_eq.mpr c56
                        have c56b1 : (t253.toList != x9_2.toList) = false := bne_eq_false_iff_eq.mpr c56
                        clear c56
                        replace H := Option.bind_eq_some_iff.mp H
                        obtain ⟨t256, A570, H⟩ := H
                        replace H : (some (t256 == 0)) = some r := H
                        have A57 := Aside0.mk A570
                        clear A570
                        obtain rfl := Option.some.inj H
                        go_wp2_with (first | (go_at_call 18; (with_reducible refine (cruciblelaw0_Num.calls t254 t256 _ A57.out).mono ?_); rintro e w' ⟨rfl, ⟨nd, rfl⟩⟩))
                        go_ret
                        exact ⟨by first | rfl | (simp [errW_none, errW_some] <;> rfl) | (simp only [← hji4]; first | rfl | (simp [errW_none, errW_some] <;> rfl)) | (simp [*, errW_none, errW_some] <;> rfl), by repeat (first | (with_reducible first | exact HB.out | apply below_alloc | apply pw_below_drewN | apply below_drew1) | exact HB.out)⟩
                      · rw [if_neg c56] at H
                        have c56b0 : (t253.toList == x9_2.toList) = false := beq_eq_false_iff_ne.mpr c56
                        have c56b1 : (t253.toList != x9_2.toList) = true := bne_iff_ne.mpr c56
                        obtain rfl := Option.some.inj H
                        go_wp2
                        go_ret
                        exact ⟨by first | rfl | (simp [errW_none, errW_some] <;> rfl) | (simp only [← hji4]; first | rfl | (simp [errW_none, errW_some] <;> rfl)) | (simp [*, errW_none, errW_some] <;> rfl), by repeat (first | (with_reducible first | exact HB.out | apply below_alloc | apply pw_below_drewN | apply below_drew1) | exact HB.out)⟩
  · replace c3 := Bool.eq_false_iff.mpr c3
    subst c3
    have H1 : (some false) = some r := by rw [if_neg (show ¬ (false = true) by decide)] at H; exact H
    clear H
    have H := H1
    clear H1
    obtain rfl := Option.some.inj H
    go_enter Tryd.func8, Tryd.ntmps8
    go_wp2_with (first | ((with_reducible refine gate_callee (f := 25) rfl ?_); refine goesL_ (some 13) rfl rfl Tryd.func25 (by kernel_rfl) rfl #[] rfl (by (try simp only [List.map_toArray, List.map_cons, List.map_nil]); first | done | rfl | (simp only [List.length_drop, List.length_take]; rfl)) ?_; (with_reducible refine (cruciblelaw2_awake.calls k  false _ A2.out).mono ?_); rintro e w58 ⟨rfl, hb⟩; refine ⟨_, rfl, ?_⟩; have n0_ := Aside0.mk (below_step (by repeat (first | (with_reducible first | exact HB.out | apply below_alloc | apply pw_below_drewN | apply below_drew1) | exact HB.out)) hb); clear HB; have HB := n0_; clear n0_; (try clear hb); (try clear hb2); (try clear hk); (try clear hi)))
    go_ret
    exact ⟨by first | rfl | (simp [errW_none, errW_some] <;> rfl) | (simp [*, errW_none, errW_some] <;> rfl), by repeat (first | (with_reducible first | exact HB.out | apply below_alloc | apply pw_below_drewN | apply below_drew1) | exact HB.out)⟩

/-- THE ONE PURE STATEMENT of cruciblelaw2_PathPieces: yours. -/
def cruciblelaw2_PathPieces.Pure : Prop := ∀ (l0 : List Int), l0.length ≤ maxLen → l0.length * 8 ≤ 140737488351232 → (∀ x ∈ l0, (Lit.int .i64 x).wf = true) → ∃ k, cruciblelaw2_PathPieces.f k l0 = some true
theorem cruciblelaw2_PathPieces.walk (P : cruciblelaw2_PathPieces.Pure) (a0 : Option Addr) (len0 cap0 : Nat) (z0 : List Int) (w : World) (w0 : (a0 = none ∧ len0 = 0 ∧ cap0 = 0 ∧ z0 = []) ∨ ∃ x, a0 = some x ∧ len0 ≤ cap0 ∧ cap0 ≤ maxLen ∧ z0.length = cap0 ∧ (∀ i, i < z0.length → w.cell? (x.add i) = some (.int .i64 (z0.getD i 0))) ∧ ∀ n ∈ z0, (Lit.int .i64 n).wf = true) (y0 : len0 * 8 ≤ 140737488351232) :
    Calls Tryd.prog 8 #[.slice a0 len0 cap0] w fun e w' => e = .returned (.bool true) ∧ Below w.heap.size w w' := by
  obtain ⟨l0, rfl, hr0, hm0, hw0, hc0⟩ := ReadsInt.ofRowC w0
  obtain ⟨k, h⟩ := P l0 hm0 y0 hw0
  refine (cruciblelaw2_PathPieces.calls k _ _ l0 true w (Kd.C_of_reads (d := (0 : Int)) (h1 := fun _ => rfl) hr0) hc0 h).mono ?_
  rintro e w' ⟨rfl, hd⟩
  exact ⟨rfl, hd⟩

end Go.Proofs.YtncbloieejeifaaDoor.P
