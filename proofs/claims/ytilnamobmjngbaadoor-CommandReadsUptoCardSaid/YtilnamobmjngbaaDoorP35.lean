-- Made by a program of this work's own (wip/myprint.py) over the kit's print; leaves by hand.
import Derived.Test.YtilnamobmjngbaaDoorP0
import Derived.Test.YtilnamobmjngbaaDoorWGuard
import Derived.Test.YtilnamobmjngbaaDoorMg1
import Derived.Test.YtilnamobmjngbaaDoorP16
import Derived.Test.YtilnamobmjngbaaDoorP22
import Derived.Test.YtilnamobmjngbaaDoorP27
import Derived.Test.YtilnamobmjngbaaDoorP32
import Derived.Test.YtilnamobmjngbaaDoorP34
namespace Go.Proofs.YtilnamobmjngbaaDoor.P
open Go.Proofs.YtilnamobmjngbaaDoor.Plus
open Go.RowKit Go.Proofs.YtilnamobmjngbaaDoorW.PrintWords Go.Proofs.YtilnamobmjngbaaDoorW.PrintLast Go.Proofs.YtilnamobmjngbaaDoorW.PrintMore
attribute [local go_sem] max2_int min2_int max_two min_two max_three min_three max_four min_four   -- for this text's walks alone
set_option linter.unusedVariables false
set_option linter.unusedSimpArgs false

/-! ### cruciblelaw18_CommandReads: function 5 -/
set_option maxRecDepth 100000 in
mutual
def cruciblelaw18_CommandReads.j0 : Nat → List (S33) → ByteArray → List Int → Int → List ByteArray → Bool → List ByteArray → List ByteArray → List ByteArray → List ByteArray → ByteArray → Bool → ByteArray → Int → List (S72) → Option (Bool)
 | 0, _, _, _, _, _, _, _, _, _, _, _, _, _, _, _ => none
 | k + 1, x0, x3, x11, x12, x13, x55, x484000, x484001, x484002, x484003, x484004, x484005, x484006, x500000, x500001 => if x55 = true then ((cruciblelaw0_Num.f x12).bind fun t502 => (if t502 = 0 then (some true) else (some ((x11.length : Int) == 0)))) else ((some (([] : List ByteArray) : List ByteArray)).bind fun y503 => (if y503.length + x484001.length < 8796093022208 then ((some (y503 ++ x484001 : List ByteArray)).bind fun y506 => (if y506.length + x484002.length < 8796093022208 then ((some (y506 ++ x484002 : List ByteArray)).bind fun y509 => (if y509.length + x13.length < 8796093022208 then (cruciblelaw18_CommandReads.l0 k x0 x3 x11 (y509 ++ x13) 0 x484000 x484001 x484002 x484003 x484004 x484005 x484006 x500000 x500001) else (none))) else (none))) else (none)))
def cruciblelaw18_CommandReads.l0 : Nat → List (S33) → ByteArray → List Int → List ByteArray → Int → List ByteArray → List ByteArray → List ByteArray → List ByteArray → ByteArray → Bool → ByteArray → Int → List (S72) → Option (Bool)
 | 0, _, _, _, _, _, _, _, _, _, _, _, _, _, _ => none
 | k + 1, x0, x3, x11, x17, x18, x484000, x484001, x484002, x484003, x484004, x484005, x484006, x500000, x500001 => if x18 < (x17.length : Int) then (if 0 ≤ x18 then (if (rdOf ByteArray.empty x17 x18).toList = x3.toList then (some ((x11.length : Int) == (x484000.length : Int))) else (cruciblelaw18_CommandReads.l0 k x0 x3 x11 x17 (wrap64 (x18 + 1)) x484000 x484001 x484002 x484003 x484004 x484005 x484006 x500000 x500001)) else (none)) else ((command_Run.f k x0 x484000 x484001 x484002 x484003 x484004 x484005 x484006 x500000 x500001).bind fun bt516 => ((cruciblelaw0_Num.f bt516.2).bind fun t520 => (if t520 = 0 then ((cruciblelaw0_SameInts.f k x11 bt516.1).bind fun t521 => (if t521 = true then (some ((x11.length : Int) == (x484000.length : Int))) else (none))) else (none))))
end
def cruciblelaw18_CommandReads.f (k : Nat) (l0 : List (S33)) (l1_0 : List ByteArray) (l1_1 : List ByteArray) (l1_2 : List ByteArray) (l1_3 : List ByteArray) (a1_4 : ByteArray) (a1_5 : Bool) (a1_6 : ByteArray) (a2_0 : Int) (l2_1 : List (S72)) (a3 : ByteArray) (a4 : Int) : Option (Bool) := (cruciblelaw18_awake.f).bind fun t485 => (if t485 = true then ((command_Run.f k l0 l1_0 l1_1 l1_2 l1_3 a1_4 a1_5 a1_6 a2_0 l2_1).bind fun bt486 => ((command_Reads.f k l0 l1_0 l1_1 l1_2 l1_3 a1_4 a1_5 a1_6).bind fun bt490 => ((crucibleref12_PutFile.f k a2_0 l2_1 a3 (Go.bits .and .i64 a4 65535)).bind fun bt494 => ((cruciblelaw0_Num.f bt486.2).bind fun t500 => (if t500 = 0 then ((cruciblelaw0_Num.f bt490.2).bind fun t501 => (if t501 = 0 then (cruciblelaw18_CommandReads.j0 k l0 a3 bt486.1 bt486.2 bt490.1 (bt494.2.2 != 0) l1_0 l1_1 l1_2 l1_3 a1_4 a1_5 a1_6 bt494.1 bt494.2.1) else (cruciblelaw18_CommandReads.j0 k l0 a3 bt486.1 bt486.2 bt490.1 true l1_0 l1_1 l1_2 l1_3 a1_4 a1_5 a1_6 bt494.1 bt494.2.1))) else (cruciblelaw18_CommandReads.j0 k l0 a3 bt486.1 bt486.2 bt490.1 true l1_0 l1_1 l1_2 l1_3 a1_4 a1_5 a1_6 bt494.1 bt494.2.1)))))) else (none))
set_option maxRecDepth 100000 in
theorem cruciblelaw18_CommandReads.mono_l : ∀ k, (∀ y0 y1 y2 y3 y4 y5 y6 y7 y8 y9 y10 y11 y12 y13 y14, LeO (cruciblelaw18_CommandReads.j0 k y0 y1 y2 y3 y4 y5 y6 y7 y8 y9 y10 y11 y12 y13 y14) (cruciblelaw18_CommandReads.j0 (k + 1) y0 y1 y2 y3 y4 y5 y6 y7 y8 y9 y10 y11 y12 y13 y14)) ∧ (∀ y0 y1 y2 y3 y4 y5 y6 y7 y8 y9 y10 y11 y12 y13, LeO (cruciblelaw18_CommandReads.l0 k y0 y1 y2 y3 y4 y5 y6 y7 y8 y9 y10 y11 y12 y13) (cruciblelaw18_CommandReads.l0 (k + 1) y0 y1 y2 y3 y4 y5 y6 y7 y8 y9 y10 y11 y12 y13))
 | 0 => ⟨fun _ _ _ _ _ _ _ _ _ _ _ _ _ _ _ r h => by simp [cruciblelaw18_CommandReads.j0] at h, fun _ _ _ _ _ _ _ _ _ _ _ _ _ _ r h => by simp [cruciblelaw18_CommandReads.l0] at h⟩
 | k + 1 => by
  obtain ⟨ih0, ih1⟩ := cruciblelaw18_CommandReads.mono_l k
  refine ⟨?_, ?_⟩
  ·
   intro y0 y1 y2 y3 y4 y5 y6 y7 y8 y9 y10 y11 y12 y13 y14
   unfold cruciblelaw18_CommandReads.j0
   repeat' first
   | (with_reducible exact ih0 _ _ _ _ _ _ _ _ _ _ _ _ _ _ _)
   | (with_reducible exact ih1 _ _ _ _ _ _ _ _ _ _ _ _ _ _)
   | (with_reducible exact command_Reads.mono _ _ _ _ _ _ _ _ _)
   | (with_reducible exact command_Run.mono _ _ _ _ _ _ _ _ _ _ _)
   | (with_reducible exact cruciblelaw0_SameInts.mono _ _ _)
   | (with_reducible exact crucibleref12_PutFile.mono _ _ _ _ _)
   | (with_reducible exact LeO.refl _)
   | (with_reducible exact LeO.none _)
   | (with_reducible refine LeO.ite ?_ ?_)
   | (with_reducible refine LeO.bind ?_ (fun _ => ?_))
   | exact ih0 _ _ _ _ _ _ _ _ _ _ _ _ _ _ _
   | exact ih1 _ _ _ _ _ _ _ _ _ _ _ _ _ _
   | exact command_Reads.mono _ _ _ _ _ _ _ _ _
   | exact command_Run.mono _ _ _ _ _ _ _ _ _ _ _
   | exact cruciblelaw0_SameInts.mono _ _ _
   | exact crucibleref12_PutFile.mono _ _ _ _ _
   | exact LeO.none _
   | refine LeO.ite ?_ ?_
   | refine LeO.bind ?_ (fun _ => ?_)
  ·
   intro y0 y1 y2 y3 y4 y5 y6 y7 y8 y9 y10 y11 y12 y13
   unfold cruciblelaw18_CommandReads.l0
   repeat' first
   | (with_reducible exact ih0 _ _ _ _ _ _ _ _ _ _ _ _ _ _ _)
   | (with_reducible exact ih1 _ _ _ _ _ _ _ _ _ _ _ _ _ _)
   | (with_reducible exact command_Reads.mono _ _ _ _ _ _ _ _ _)
   | (with_reducible exact command_Run.mono _ _ _ _ _ _ _ _ _ _ _)
   | (with_reducible exact cruciblelaw0_SameInts.mono _ _ _)
   | (with_reducible exact crucibleref12_PutFile.mono _ _ _ _ _)
   | (with_reducible exact LeO.refl _)
   | (with_reducible exact LeO.none _)
   | (with_reducible refine LeO.ite ?_ ?_)
   | (with_reducible refine LeO.bind ?_ (fun _ => ?_))
   | exact ih0 _ _ _ _ _ _ _ _ _ _ _ _ _ _ _
   | exact ih1 _ _ _ _ _ _ _ _ _ _ _ _ _ _
   | exact command_Reads.mono _ _ _ _ _ _ _ _ _
   | exact command_Run.mono _ _ _ _ _ _ _ _ _ _ _
   | exact cruciblelaw0_SameInts.mono _ _ _
   | exact crucibleref12_PutFile.mono _ _ _ _ _
   | exact LeO.none _
   | refine LeO.ite ?_ ?_
   | refine LeO.bind ?_ (fun _ => ?_)
theorem cruciblelaw18_CommandReads.mono : ∀ a0 a1 a2 a3 a4 a5 a6 a7 a8 a9 a10 a11 k, LeO (cruciblelaw18_CommandReads.f k a0 a1 a2 a3 a4 a5 a6 a7 a8 a9 a10 a11) (cruciblelaw18_CommandReads.f (k + 1) a0 a1 a2 a3 a4 a5 a6 a7 a8 a9 a10 a11) := by
 intro a0 a1 a2 a3 a4 a5 a6 a7 a8 a9 a10 a11 k
 obtain ⟨ih0, ih1⟩ := cruciblelaw18_CommandReads.mono_l k
 unfold cruciblelaw18_CommandReads.f
 repeat' first
   | (with_reducible exact ih0 _ _ _ _ _ _ _ _ _ _ _ _ _ _ _)
   | (with_reducible exact ih1 _ _ _ _ _ _ _ _ _ _ _ _ _ _)
   | (with_reducible exact command_Reads.mono _ _ _ _ _ _ _ _ _)
   | (with_reducible exact command_Run.mono _ _ _ _ _ _ _ _ _ _ _)
   | (with_reducible exact cruciblelaw0_SameInts.mono _ _ _)
   | (with_reducible exact crucibleref12_PutFile.mono _ _ _ _ _)
   | (with_reducible exact LeO.refl _)
   | (with_reducible exact LeO.none _)
   | (with_reducible refine LeO.ite ?_ ?_)
   | (with_reducible refine LeO.bind ?_ (fun _ => ?_))
   | exact ih0 _ _ _ _ _ _ _ _ _ _ _ _ _ _ _
   | exact ih1 _ _ _ _ _ _ _ _ _ _ _ _ _ _
   | exact command_Reads.mono _ _ _ _ _ _ _ _ _
   | exact command_Run.mono _ _ _ _ _ _ _ _ _ _ _
   | exact cruciblelaw0_SameInts.mono _ _ _
   | exact crucibleref12_PutFile.mono _ _ _ _ _
   | exact LeO.none _
   | refine LeO.ite ?_ ?_
   | refine LeO.bind ?_ (fun _ => ?_)
set_option maxHeartbeats 8000000 in
set_option maxRecDepth 100000 in
theorem cruciblelaw18_CommandReads.calls (k : Nat) (A0 : Option Addr) (c0 : Nat) (l0 : List (S33)) (A1_0 : Option Addr) (c1_0 : Nat) (l1_0 : List ByteArray) (A1_1 : Option Addr) (c1_1 : Nat) (l1_1 : List ByteArray) (A1_2 : Option Addr) (c1_2 : Nat) (l1_2 : List ByteArray) (A1_3 : Option Addr) (c1_3 : Nat) (l1_3 : List ByteArray) (a1_4 : ByteArray) (a1_5 : Bool) (a1_6 : ByteArray) (a2_0 : Int) (A2_1 : Option Addr) (c2_1 : Nat) (l2_1 : List (S72)) (a3 : ByteArray) (a4 : Int) (r : Bool) (w : World) (hr0 : Kd.C k33 w A0 l0.length l0) (hc0 : l0.length ≤ c0) (hr1_0 : Kd.C Kd.string w A1_0 l1_0.length l1_0) (hc1_0 : l1_0.length ≤ c1_0) (hr1_1 : Kd.C Kd.string w A1_1 l1_1.length l1_1) (hc1_1 : l1_1.length ≤ c1_1) (hr1_2 : Kd.C Kd.string w A1_2 l1_2.length l1_2) (hc1_2 : l1_2.length ≤ c1_2) (hr1_3 : Kd.C Kd.string w A1_3 l1_3.length l1_3) (hc1_3 : l1_3.length ≤ c1_3) (hr2_1 : Kd.C k72 w A2_1 l2_1.length l2_1) (hc2_1 : l2_1.length ≤ c2_1) (h : cruciblelaw18_CommandReads.f k l0 l1_0 l1_1 l1_2 l1_3 a1_4 a1_5 a1_6 a2_0 l2_1 a3 a4 = some r) :
  Calls Tryd.prog 5 #[.slice A0 l0.length c0, .agg #[.slice A1_0 l1_0.length c1_0, .slice A1_1 l1_1.length c1_1, .slice A1_2 l1_2.length c1_2, .slice A1_3 l1_3.length c1_3, .string a1_4, .bool a1_5, .string a1_6], .agg #[.int .i64 a2_0, .slice A2_1 l2_1.length c2_1], .string a3, .int .i64 a4] w fun e w' => e = .returned (.bool r) ∧ Below w.heap.size w w' := by
 have hu25 := Tryd.underlying25
 have hu28 := Tryd.underlying28
 have HR0 := Aside0.mk hr0
 have HC0 := Aside0.mk hc0
 clear hr0 hc0
 have HR1_0 := Aside0.mk hr1_0
 have HC1_0 := Aside0.mk hc1_0
 clear hr1_0 hc1_0
 have HR1_1 := Aside0.mk hr1_1
 have HC1_1 := Aside0.mk hc1_1
 clear hr1_1 hc1_1
 have HR1_2 := Aside0.mk hr1_2
 have HC1_2 := Aside0.mk hc1_2
 clear hr1_2 hc1_2
 have HR1_3 := Aside0.mk hr1_3
 have HC1_3 := Aside0.mk hc1_3
 clear hr1_3 hc1_3
 have HR2_1 := Aside0.mk hr2_1
 have HC2_1 := Aside0.mk hc2_1
 clear hr2_1 hc2_1
 have HB := Aside0.mk (Below.refl w.heap.size w)
 have H : ((cruciblelaw18_awake.f).bind fun t485 => (if t485 = true then ((command_Run.f k l0 l1_0 l1_1 l1_2 l1_3 a1_4 a1_5 a1_6 a2_0 l2_1).bind fun bt486 => ((command_Reads.f k l0 l1_0 l1_1 l1_2 l1_3 a1_4 a1_5 a1_6).bind fun bt490 => ((crucibleref12_PutFile.f k a2_0 l2_1 a3 (Go.bits .and .i64 a4 65535)).bind fun bt494 => ((cruciblelaw0_Num.f bt486.2).bind fun t500 => (if t500 = 0 then ((cruciblelaw0_Num.f bt490.2).bind fun t501 => (if t501 = 0 then (cruciblelaw18_CommandReads.j0 k l0 a3 bt486.1 bt486.2 bt490.1 (bt494.2.2 != 0) l1_0 l1_1 l1_2 l1_3 a1_4 a1_5 a1_6 bt494.1 bt494.2.1) else (cruciblelaw18_CommandReads.j0 k l0 a3 bt486.1 bt486.2 bt490.1 true l1_0 l1_1 l1_2 l1_3 a1_4 a1_5 a1_6 bt494.1 bt494.2.1))) else (cruciblelaw18_CommandReads.j0 k l0 a3 bt486.1 bt486.2 bt490.1 true l1_0 l1_1 l1_2 l1_3 a1_4 a1_5 a1_6 bt494.1 bt494.2.1)))))) else (none))) = some r := h
 clear h
 replace H := Option.bind_eq_some_iff.mp H
 obtain ⟨t485, A60, H⟩ := H
 replace H : (if t485 = true then ((command_Run.f k l0 l1_0 l1_1 l1_2 l1_3 a1_4 a1_5 a1_6 a2_0 l2_1).bind fun bt486 => ((command_Reads.f k l0 l1_0 l1_1 l1_2 l1_3 a1_4 a1_5 a1_6).bind fun bt490 => ((crucibleref12_PutFile.f k a2_0 l2_1 a3 (Go.bits .and .i64 a4 65535)).bind fun bt494 => ((cruciblelaw0_Num.f bt486.2).bind fun t500 => (if t500 = 0 then ((cruciblelaw0_Num.f bt490.2).bind fun t501 => (if t501 = 0 then (cruciblelaw18_CommandReads.j0 k l0 a3 bt486.1 bt486.2 bt490.1 (bt494.2.2 != 0) l1_0 l1_1 l1_2 l1_3 a1_4 a1_5 a1_6 bt494.1 bt494.2.1) else (cruciblelaw18_CommandReads.j0 k l0 a3 bt486.1 bt486.2 bt490.1 true l1_0 l1_1 l1_2 l1_3 a1_4 a1_5 a1_6 bt494.1 bt494.2.1))) else (cruciblelaw18_CommandReads.j0 k l0 a3 bt486.1 bt486.2 bt490.1 true l1_0 l1_1 l1_2 l1_3 a1_4 a1_5 a1_6 bt494.1 bt494.2.1)))))) else (none)) = some r := H
 have A6 := Aside0.mk A60
 clear A60
 by_cases c7 : t485 = true
 ·
  subst c7
  have H1 : ((command_Run.f k l0 l1_0 l1_1 l1_2 l1_3 a1_4 a1_5 a1_6 a2_0 l2_1).bind fun bt486 => ((command_Reads.f k l0 l1_0 l1_1 l1_2 l1_3 a1_4 a1_5 a1_6).bind fun bt490 => ((crucibleref12_PutFile.f k a2_0 l2_1 a3 (Go.bits .and .i64 a4 65535)).bind fun bt494 => ((cruciblelaw0_Num.f bt486.2).bind fun t500 => (if t500 = 0 then ((cruciblelaw0_Num.f bt490.2).bind fun t501 => (if t501 = 0 then (cruciblelaw18_CommandReads.j0 k l0 a3 bt486.1 bt486.2 bt490.1 (bt494.2.2 != 0) l1_0 l1_1 l1_2 l1_3 a1_4 a1_5 a1_6 bt494.1 bt494.2.1) else (cruciblelaw18_CommandReads.j0 k l0 a3 bt486.1 bt486.2 bt490.1 true l1_0 l1_1 l1_2 l1_3 a1_4 a1_5 a1_6 bt494.1 bt494.2.1))) else (cruciblelaw18_CommandReads.j0 k l0 a3 bt486.1 bt486.2 bt490.1 true l1_0 l1_1 l1_2 l1_3 a1_4 a1_5 a1_6 bt494.1 bt494.2.1)))))) = some r := by rw [if_pos rfl] at H; exact H
  clear H
  have H := H1
  clear H1
  replace H := Option.bind_eq_some_iff.mp H
  obtain ⟨⟨t486, t489⟩, A80, H⟩ := H
  replace H : ((command_Reads.f k l0 l1_0 l1_1 l1_2 l1_3 a1_4 a1_5 a1_6).bind fun bt490 => ((crucibleref12_PutFile.f k a2_0 l2_1 a3 (Go.bits .and .i64 a4 65535)).bind fun bt494 => ((cruciblelaw0_Num.f t489).bind fun t500 => (if t500 = 0 then ((cruciblelaw0_Num.f bt490.2).bind fun t501 => (if t501 = 0 then (cruciblelaw18_CommandReads.j0 k l0 a3 t486 t489 bt490.1 (bt494.2.2 != 0) l1_0 l1_1 l1_2 l1_3 a1_4 a1_5 a1_6 bt494.1 bt494.2.1) else (cruciblelaw18_CommandReads.j0 k l0 a3 t486 t489 bt490.1 true l1_0 l1_1 l1_2 l1_3 a1_4 a1_5 a1_6 bt494.1 bt494.2.1))) else (cruciblelaw18_CommandReads.j0 k l0 a3 t486 t489 bt490.1 true l1_0 l1_1 l1_2 l1_3 a1_4 a1_5 a1_6 bt494.1 bt494.2.1))))) = some r := H
  have A8 := Aside0.mk A80
  clear A80
  replace H := Option.bind_eq_some_iff.mp H
  obtain ⟨⟨t490, t493⟩, A90, H⟩ := H
  replace H : ((crucibleref12_PutFile.f k a2_0 l2_1 a3 (Go.bits .and .i64 a4 65535)).bind fun bt494 => ((cruciblelaw0_Num.f t489).bind fun t500 => (if t500 = 0 then ((cruciblelaw0_Num.f t493).bind fun t501 => (if t501 = 0 then (cruciblelaw18_CommandReads.j0 k l0 a3 t486 t489 t490 (bt494.2.2 != 0) l1_0 l1_1 l1_2 l1_3 a1_4 a1_5 a1_6 bt494.1 bt494.2.1) else (cruciblelaw18_CommandReads.j0 k l0 a3 t486 t489 t490 true l1_0 l1_1 l1_2 l1_3 a1_4 a1_5 a1_6 bt494.1 bt494.2.1))) else (cruciblelaw18_CommandReads.j0 k l0 a3 t486 t489 t490 true l1_0 l1_1 l1_2 l1_3 a1_4 a1_5 a1_6 bt494.1 bt494.2.1)))) = some r := H
  have A9 := Aside0.mk A90
  clear A90
  replace H := Option.bind_eq_some_iff.mp H
  obtain ⟨⟨t494, t495, t498⟩, A100, H⟩ := H
  replace H : ((cruciblelaw0_Num.f t489).bind fun t500 => (if t500 = 0 then ((cruciblelaw0_Num.f t493).bind fun t501 => (if t501 = 0 then (cruciblelaw18_CommandReads.j0 k l0 a3 t486 t489 t490 (t498 != 0) l1_0 l1_1 l1_2 l1_3 a1_4 a1_5 a1_6 t494 t495) else (cruciblelaw18_CommandReads.j0 k l0 a3 t486 t489 t490 true l1_0 l1_1 l1_2 l1_3 a1_4 a1_5 a1_6 t494 t495))) else (cruciblelaw18_CommandReads.j0 k l0 a3 t486 t489 t490 true l1_0 l1_1 l1_2 l1_3 a1_4 a1_5 a1_6 t494 t495))) = some r := H
  have A10 := Aside0.mk A100
  clear A100
  have HC11 := Aside0.mk H
  clear H
  go_enter Tryd.func5, Tryd.ntmps5
  go_upto_region 6 with (first | ((with_reducible refine gate_dst (N := 6) rfl ?_); (try (refine gate_guard (by rfl) ?_; dsimp only)); refine box_event ?hg (N := 6) ?hd (cs := #[.slice A1_0 l1_0.length c1_0, .slice A1_1 l1_1.length c1_1, .slice A1_2 l1_2.length c1_2, .slice A1_3 l1_3.length c1_3, .string a1_4, .bool a1_5, .string a1_6]) (t := 25) ?hr ?_; (case hd => rfl); (case hg => rfl); (case hr => first | (go_simp; done) | (go_simp; rfl)); intro gb483 hg w12 hbox hb; have n0_ := Aside0.mk (below_step (by repeat (first | (with_reducible first | exact HB.out | apply below_alloc | apply pw_below_drewN | apply below_drew1) | exact HB.out)) hb); have n1_ := Aside0.mk (hbox); have n2_ := Aside0.mk ((by rw [hg]; exact (below_size (by repeat (first | (with_reducible first | exact HB.out | apply below_alloc | apply pw_below_drewN | apply below_drew1) | exact HB.out))) : w.heap.size ≤ gb483)); have n3_ := Aside0.mk ((by rw [hg]; exact (below_size (by repeat (first | (with_reducible first | exact HB.out | apply below_alloc | apply pw_below_drewN | apply below_drew1) | exact HB.out))) : w.heap.size ≤ gb483)); clear HB; have HB := n0_; have BK483 := n1_; have GW483 := n2_; have GE483 := n3_; clear n0_ n1_ n2_ n3_; clear hb hbox hg) | ((with_reducible refine gate_dst (N := 7) rfl ?_); (try (refine gate_guard (by rfl) ?_; dsimp only)); refine box_event ?hg (N := 7) ?hd (cs := #[.int .i64 a2_0, .slice A2_1 l2_1.length c2_1]) (t := 28) ?hr ?_; (case hd => rfl); (case hg => rfl); (case hr => first | (go_simp; done) | (go_simp; rfl)); intro gb484 hg w13 hbox hb; have n0_ := Aside0.mk (blk_below (g := gb483) (o := .cells #[.slice A1_0 l1_0.length c1_0, .slice A1_1 l1_1.length c1_1, .slice A1_2 l1_2.length c1_2, .slice A1_3 l1_3.length c1_3, .string a1_4, .bool a1_5, .string a1_6] 25 (0, 0)) (by (with_reducible repeat (first | refine blk_drewN ?_ _ | refine blk_drew ?_ | refine blk_alloc ?_ _)); exact BK483.out) hb); have n1_ := Aside0.mk (below_step (by repeat (first | (with_reducible first | exact HB.out | apply below_alloc | apply pw_below_drewN | apply below_drew1 | refine below_set ?_ GE483.out) | exact HB.out)) hb); have n2_ := Aside0.mk (hbox); have n3_ := Aside0.mk ((by rw [hg]; exact (below_size (by repeat (first | (with_reducible first | exact HB.out | apply below_alloc | apply pw_below_drewN | apply below_drew1 | refine below_set ?_ GE483.out) | exact HB.out))) : w.heap.size ≤ gb484)); have n4_ := Aside0.mk ((by rw [hg]; exact (below_size (by repeat (first | (with_reducible first | exact HB.out | apply below_alloc | apply pw_below_drewN | apply below_drew1 | refine below_set ?_ GE483.out) | exact HB.out))) : w.heap.size ≤ gb484)); have n5_ := Aside0.mk ((by rw [hg]; exact Nat.ne_of_lt (blk_lt (g := gb483) (o := .cells #[.slice A1_0 l1_0.length c1_0, .slice A1_1 l1_1.length c1_1, .slice A1_2 l1_2.length c1_2, .slice A1_3 l1_3.length c1_3, .string a1_4, .bool a1_5, .string a1_6] 25 (0, 0)) (by (with_reducible repeat (first | refine blk_drewN ?_ _ | refine blk_drew ?_ | refine blk_alloc ?_ _)); exact BK483.out)) : gb483 ≠ gb484)); have n6_ := Aside0.mk ((by rw [hg]; exact Nat.ne_of_gt (blk_lt (g := gb483) (o := .cells #[.slice A1_0 l1_0.length c1_0, .slice A1_1 l1_1.length c1_1, .slice A1_2 l1_2.length c1_2, .slice A1_3 l1_3.length c1_3, .string a1_4, .bool a1_5, .string a1_6] 25 (0, 0)) (by (with_reducible repeat (first | refine blk_drewN ?_ _ | refine blk_drew ?_ | refine blk_alloc ?_ _)); exact BK483.out)) : gb484 ≠ gb483)); clear BK483; clear HB; have BK483 := n0_; have HB := n1_; have BK484 := n2_; have GW484 := n3_; have GE484 := n4_; have NB483_484 := n5_; have NB484_483 := n6_; clear n0_ n1_ n2_ n3_ n4_ n5_ n6_; clear hb hbox hg) | ((with_reducible refine gate_callee (f := 32) rfl ?_); refine goesL_ (some 21) rfl rfl Tryd.func32 (by kernel_rfl) rfl #[] rfl (by (try simp only [List.map_toArray, List.map_cons, List.map_nil]); first | done | rfl | (simp only [List.length_drop, List.length_take]; rfl)) ?_; (with_reducible refine (cruciblelaw18_awake.calls  true _ A6.out).mono ?_); rintro e w14 ⟨rfl, hb⟩; refine ⟨_, rfl, ?_⟩; have n0_ := Aside0.mk (blk_below (g := gb483) (o := .cells #[.slice A1_0 l1_0.length c1_0, .slice A1_1 l1_1.length c1_1, .slice A1_2 l1_2.length c1_2, .slice A1_3 l1_3.length c1_3, .string a1_4, .bool a1_5, .string a1_6] 25 (0, 0)) (by (with_reducible repeat (first | refine blk_drewN ?_ _ | refine blk_drew ?_ | refine blk_alloc ?_ _)); exact BK483.out) hb); have n1_ := Aside0.mk (blk_below (g := gb484) (o := .cells #[.int .i64 a2_0, .slice A2_1 l2_1.length c2_1] 28 (0, 0)) (by (with_reducible repeat (first | refine blk_drewN ?_ _ | refine blk_drew ?_ | refine blk_alloc ?_ _)); exact BK484.out) hb); have n2_ := Aside0.mk (below_step (by repeat (first | (with_reducible first | exact HB.out | apply below_alloc | apply pw_below_drewN | apply below_drew1 | refine below_set ?_ GE483.out | refine below_set ?_ GE484.out) | exact HB.out)) hb); clear BK483; clear BK484; clear HB; have BK483 := n0_; have BK484 := n1_; have HB := n2_; clear n0_ n1_ n2_; (try clear hb); (try clear hb2); (try clear hk); (try clear hi); have hnb15 := NB483_484.out; have hnc15 := NB484_483.out; have hcz16_0 : w14.cell? ⟨gb483, 0, none⟩ = some (.slice A1_0 l1_0.length c1_0) := (blk_cell BK483.out 0).trans rfl; have hcz16_1 : w14.cell? ⟨gb483, 1, none⟩ = some (.slice A1_1 l1_1.length c1_1) := (blk_cell BK483.out 1).trans rfl; have hcz16_2 : w14.cell? ⟨gb483, 2, none⟩ = some (.slice A1_2 l1_2.length c1_2) := (blk_cell BK483.out 2).trans rfl; have hcz16_3 : w14.cell? ⟨gb483, 3, none⟩ = some (.slice A1_3 l1_3.length c1_3) := (blk_cell BK483.out 3).trans rfl; have hcz16_4 : w14.cell? ⟨gb483, 4, none⟩ = some (.string a1_4) := (blk_cell BK483.out 4).trans rfl; have hcz16_5 : w14.cell? ⟨gb483, 5, none⟩ = some (.bool a1_5) := (blk_cell BK483.out 5).trans rfl; have hcz16_6 : w14.cell? ⟨gb483, 6, none⟩ = some (.string a1_6) := (blk_cell BK483.out 6).trans rfl; have hfz16_0 := blk_frozen BK483.out 0; have hfz16_1 := blk_frozen BK483.out 1; have hfz16_2 := blk_frozen BK483.out 2; have hfz16_3 := blk_frozen BK483.out 3; have hfz16_4 := blk_frozen BK483.out 4; have hfz16_5 := blk_frozen BK483.out 5; have hfz16_6 := blk_frozen BK483.out 6; have hcz17_0 : w14.cell? ⟨gb484, 0, none⟩ = some (.int .i64 a2_0) := (blk_cell BK484.out 0).trans rfl; have hcz17_1 : w14.cell? ⟨gb484, 1, none⟩ = some (.slice A2_1 l2_1.length c2_1) := (blk_cell BK484.out 1).trans rfl; have hfz17_0 := blk_frozen BK484.out 0; have hfz17_1 := blk_frozen BK484.out 1) | ((with_reducible refine gate_callee (f := 22) rfl ?_); refine goesL_ (some 27) rfl rfl Tryd.func22 (by kernel_rfl) rfl #[.slice A0 l0.length c0, .agg #[.slice A1_0 l1_0.length c1_0, .slice A1_1 l1_1.length c1_1, .slice A1_2 l1_2.length c1_2, .slice A1_3 l1_3.length c1_3, .string a1_4, .bool a1_5, .string a1_6], .agg #[.int .i64 a2_0, .slice A2_1 l2_1.length c2_1]] rfl (by (try simp only [List.map_toArray, List.map_cons, List.map_nil]); first | done | rfl | (simp only [List.length_drop, List.length_take]; rfl)) ?_; (with_reducible refine (command_Run.calls k _ _ l0 _ _ l1_0 _ _ l1_1 _ _ l1_2 _ _ l1_3 a1_4 a1_5 a1_6 a2_0 _ _ l2_1 t486 t489 _ ?side1 ?side2 ?side3 ?side4 ?side5 ?side6 ?side7 ?side8 ?side9 ?side10 ?side11 ?side12 A8.out).mono ?_); (case side1 => repeat (first | exact (Kd.C_below HR0.out HB.out) | (with_reducible refine Kd.C_alloc ?_ _) | (with_reducible refine Kd.C_drewN ?_ _) | (with_reducible refine Kd.C_drew ?_))); (case side2 => exact HC0.out); (case side3 => repeat (first | exact (Kd.C_below HR1_0.out HB.out) | (with_reducible refine Kd.C_alloc ?_ _) | (with_reducible refine Kd.C_drewN ?_ _) | (with_reducible refine Kd.C_drew ?_))); (case side4 => exact HC1_0.out); (case side5 => repeat (first | exact (Kd.C_below HR1_1.out HB.out) | (with_reducible refine Kd.C_alloc ?_ _) | (with_reducible refine Kd.C_drewN ?_ _) | (with_reducible refine Kd.C_drew ?_))); (case side6 => exact HC1_1.out); (case side7 => repeat (first | exact (Kd.C_below HR1_2.out HB.out) | (with_reducible refine Kd.C_alloc ?_ _) | (with_reducible refine Kd.C_drewN ?_ _) | (with_reducible refine Kd.C_drew ?_))); (case side8 => exact HC1_2.out); (case side9 => repeat (first | exact (Kd.C_below HR1_3.out HB.out) | (with_reducible refine Kd.C_alloc ?_ _) | (with_reducible refine Kd.C_drewN ?_ _) | (with_reducible refine Kd.C_drew ?_))); (case side10 => exact HC1_3.out); (case side11 => repeat (first | exact (Kd.C_below HR2_1.out HB.out) | (with_reducible refine Kd.C_alloc ?_ _) | (with_reducible refine Kd.C_drewN ?_ _) | (with_reducible refine Kd.C_drew ?_))); (case side12 => exact HC2_1.out); rintro e w18 ⟨v487, rfl, ho0, hb⟩; refine ⟨_, rfl, ?_⟩; have n0_ := Aside0.mk (Kd.R_lower ho0 (below_size (by repeat (first | (with_reducible first | exact HB.out | apply below_alloc | apply pw_below_drewN | apply below_drew1 | refine below_set ?_ GE483.out | refine below_set ?_ GE484.out) | exact HB.out)))); have n1_ := Aside0.mk (blk_below (g := gb483) (o := .cells #[.slice A1_0 l1_0.length c1_0, .slice A1_1 l1_1.length c1_1, .slice A1_2 l1_2.length c1_2, .slice A1_3 l1_3.length c1_3, .string a1_4, .bool a1_5, .string a1_6] 25 (0, 0)) (by (with_reducible repeat (first | refine blk_drewN ?_ _ | refine blk_drew ?_ | refine blk_alloc ?_ _)); exact BK483.out) hb); have n2_ := Aside0.mk (blk_below (g := gb484) (o := .cells #[.int .i64 a2_0, .slice A2_1 l2_1.length c2_1] 28 (0, 0)) (by (with_reducible repeat (first | refine blk_drewN ?_ _ | refine blk_drew ?_ | refine blk_alloc ?_ _)); exact BK484.out) hb); have n3_ := Aside0.mk (below_step (by repeat (first | (with_reducible first | exact HB.out | apply below_alloc | apply pw_below_drewN | apply below_drew1 | refine below_set ?_ GE483.out | refine below_set ?_ GE484.out) | exact HB.out)) hb); clear BK483; clear BK484; clear HB; have HO488 := n0_; have BK483 := n1_; have BK484 := n2_; have HB := n3_; clear n0_ n1_ n2_ n3_; (try clear hb); (try clear hb2); (try clear hk); (try clear hi); (try clear ho0); have hcz19_0 : w18.cell? ⟨gb483, 0, none⟩ = some (.slice A1_0 l1_0.length c1_0) := (blk_cell BK483.out 0).trans rfl; have hcz19_1 : w18.cell? ⟨gb483, 1, none⟩ = some (.slice A1_1 l1_1.length c1_1) := (blk_cell BK483.out 1).trans rfl; have hcz19_2 : w18.cell? ⟨gb483, 2, none⟩ = some (.slice A1_2 l1_2.length c1_2) := (blk_cell BK483.out 2).trans rfl; have hcz19_3 : w18.cell? ⟨gb483, 3, none⟩ = some (.slice A1_3 l1_3.length c1_3) := (blk_cell BK483.out 3).trans rfl; have hcz19_4 : w18.cell? ⟨gb483, 4, none⟩ = some (.string a1_4) := (blk_cell BK483.out 4).trans rfl; have hcz19_5 : w18.cell? ⟨gb483, 5, none⟩ = some (.bool a1_5) := (blk_cell BK483.out 5).trans rfl; have hcz19_6 : w18.cell? ⟨gb483, 6, none⟩ = some (.string a1_6) := (blk_cell BK483.out 6).trans rfl; have hfz19_0 := blk_frozen BK483.out 0; have hfz19_1 := blk_frozen BK483.out 1; have hfz19_2 := blk_frozen BK483.out 2; have hfz19_3 := blk_frozen BK483.out 3; have hfz19_4 := blk_frozen BK483.out 4; have hfz19_5 := blk_frozen BK483.out 5; have hfz19_6 := blk_frozen BK483.out 6) | ((with_reducible refine gate_callee (f := 20) rfl ?_); refine goesL_ (some 33) rfl rfl Tryd.func20 (by kernel_rfl) rfl #[.slice A0 l0.length c0, .agg #[.slice A1_0 l1_0.length c1_0, .slice A1_1 l1_1.length c1_1, .slice A1_2 l1_2.length c1_2, .slice A1_3 l1_3.length c1_3, .string a1_4, .bool a1_5, .string a1_6]] rfl (by (try simp only [List.map_toArray, List.map_cons, List.map_nil]); first | done | rfl | (simp only [List.length_drop, List.length_take]; rfl)) ?_; (with_reducible refine (command_Reads.calls k _ _ l0 _ _ l1_0 _ _ l1_1 _ _ l1_2 _ _ l1_3 a1_4 a1_5 a1_6 t490 t493 _ ?side1 ?side2 ?side3 ?side4 ?side5 ?side6 ?side7 ?side8 ?side9 ?side10 A9.out).mono ?_); (case side1 => repeat (first | exact (Kd.C_below HR0.out HB.out) | (with_reducible refine Kd.C_alloc ?_ _) | (with_reducible refine Kd.C_drewN ?_ _) | (with_reducible refine Kd.C_drew ?_))); (case side2 => exact HC0.out); (case side3 => repeat (first | exact (Kd.C_below HR1_0.out HB.out) | (with_reducible refine Kd.C_alloc ?_ _) | (with_reducible refine Kd.C_drewN ?_ _) | (with_reducible refine Kd.C_drew ?_))); (case side4 => exact HC1_0.out); (case side5 => repeat (first | exact (Kd.C_below HR1_1.out HB.out) | (with_reducible refine Kd.C_alloc ?_ _) | (with_reducible refine Kd.C_drewN ?_ _) | (with_reducible refine Kd.C_drew ?_))); (case side6 => exact HC1_1.out); (case side7 => repeat (first | exact (Kd.C_below HR1_2.out HB.out) | (with_reducible refine Kd.C_alloc ?_ _) | (with_reducible refine Kd.C_drewN ?_ _) | (with_reducible refine Kd.C_drew ?_))); (case side8 => exact HC1_2.out); (case side9 => repeat (first | exact (Kd.C_below HR1_3.out HB.out) | (with_reducible refine Kd.C_alloc ?_ _) | (with_reducible refine Kd.C_drewN ?_ _) | (with_reducible refine Kd.C_drew ?_))); (case side10 => exact HC1_3.out); rintro e w20 ⟨v491, rfl, ho0, hb⟩; refine ⟨_, rfl, ?_⟩; have n0_ := Aside0.mk (Kd.R_below (by (with_reducible repeat (first | apply Kd.R_alloc | apply Kd.R_drewN | apply Kd.R_drew)); exact HO488.out) hb); have n1_ := Aside0.mk (Kd.R_lower ho0 (below_size (by repeat (first | (with_reducible first | exact HB.out | apply below_alloc | apply pw_below_drewN | apply below_drew1 | refine below_set ?_ GE483.out | refine below_set ?_ GE484.out) | exact HB.out)))); have n2_ := Aside0.mk (blk_below (g := gb483) (o := .cells #[.slice A1_0 l1_0.length c1_0, .slice A1_1 l1_1.length c1_1, .slice A1_2 l1_2.length c1_2, .slice A1_3 l1_3.length c1_3, .string a1_4, .bool a1_5, .string a1_6] 25 (0, 0)) (by (with_reducible repeat (first | refine blk_drewN ?_ _ | refine blk_drew ?_ | refine blk_alloc ?_ _)); exact BK483.out) hb); have n3_ := Aside0.mk (blk_below (g := gb484) (o := .cells #[.int .i64 a2_0, .slice A2_1 l2_1.length c2_1] 28 (0, 0)) (by (with_reducible repeat (first | refine blk_drewN ?_ _ | refine blk_drew ?_ | refine blk_alloc ?_ _)); exact BK484.out) hb); have n4_ := Aside0.mk (below_step (by repeat (first | (with_reducible first | exact HB.out | apply below_alloc | apply pw_below_drewN | apply below_drew1 | refine below_set ?_ GE483.out | refine below_set ?_ GE484.out) | exact HB.out)) hb); clear HO488; clear BK483; clear BK484; clear HB; have HO488 := n0_; have HO492 := n1_; have BK483 := n2_; have BK484 := n3_; have HB := n4_; clear n0_ n1_ n2_ n3_ n4_; (try clear hb); (try clear hb2); (try clear hk); (try clear hi); (try clear ho0); have hcz21_0 : w20.cell? ⟨gb484, 0, none⟩ = some (.int .i64 a2_0) := (blk_cell BK484.out 0).trans rfl; have hcz21_1 : w20.cell? ⟨gb484, 1, none⟩ = some (.slice A2_1 l2_1.length c2_1) := (blk_cell BK484.out 1).trans rfl; have hfz21_0 := blk_frozen BK484.out 0; have hfz21_1 := blk_frozen BK484.out 1) | ((with_reducible refine gate_callee (f := 35) rfl ?_); refine goesL_ (some 41) rfl rfl Tryd.func35 (by kernel_rfl) rfl #[.agg #[.int .i64 a2_0, .slice A2_1 l2_1.length c2_1], .string a3, .int .i64 (Go.bits .and .i64 a4 65535)] rfl (by (try simp only [List.map_toArray, List.map_cons, List.map_nil]); first | done | rfl | (simp only [List.length_drop, List.length_take]; rfl)) ?_; (with_reducible refine (crucibleref12_PutFile.calls k a2_0 _ _ l2_1 a3 (Go.bits .and .i64 a4 65535) t494 t495 t498 _ ?side1 ?side2 A10.out).mono ?_); (case side1 => repeat (first | exact (Kd.C_below HR2_1.out HB.out) | (with_reducible refine Kd.C_alloc ?_ _) | (with_reducible refine Kd.C_drewN ?_ _) | (with_reducible refine Kd.C_drew ?_))); (case side2 => exact HC2_1.out); rintro e w22 ⟨v496, rfl, ho0, hb⟩; refine ⟨_, rfl, ?_⟩; have n0_ := Aside0.mk (Kd.R_below (by (with_reducible repeat (first | apply Kd.R_alloc | apply Kd.R_drewN | apply Kd.R_drew)); exact HO488.out) hb); have n1_ := Aside0.mk (Kd.R_below (by (with_reducible repeat (first | apply Kd.R_alloc | apply Kd.R_drewN | apply Kd.R_drew)); exact HO492.out) hb); have n2_ := Aside0.mk (Kd.R_lower ho0 (below_size (by repeat (first | (with_reducible first | exact HB.out | apply below_alloc | apply pw_below_drewN | apply below_drew1 | refine below_set ?_ GE483.out | refine below_set ?_ GE484.out) | exact HB.out)))); have n3_ := Aside0.mk (blk_below (g := gb483) (o := .cells #[.slice A1_0 l1_0.length c1_0, .slice A1_1 l1_1.length c1_1, .slice A1_2 l1_2.length c1_2, .slice A1_3 l1_3.length c1_3, .string a1_4, .bool a1_5, .string a1_6] 25 (0, 0)) (by (with_reducible repeat (first | refine blk_drewN ?_ _ | refine blk_drew ?_ | refine blk_alloc ?_ _)); exact BK483.out) hb); have n4_ := Aside0.mk (blk_below (g := gb484) (o := .cells #[.int .i64 a2_0, .slice A2_1 l2_1.length c2_1] 28 (0, 0)) (by (with_reducible repeat (first | refine blk_drewN ?_ _ | refine blk_drew ?_ | refine blk_alloc ?_ _)); exact BK484.out) hb); have n5_ := Aside0.mk (below_step (by repeat (first | (with_reducible first | exact HB.out | apply below_alloc | apply pw_below_drewN | apply below_drew1 | refine below_set ?_ GE483.out | refine below_set ?_ GE484.out) | exact HB.out)) hb); clear HO488; clear HO492; clear BK483; clear BK484; clear HB; have HO488 := n0_; have HO492 := n1_; have HO497 := n2_; have BK483 := n3_; have BK484 := n4_; have HB := n5_; clear n0_ n1_ n2_ n3_ n4_ n5_; (try clear hb); (try clear hb2); (try clear hk); (try clear hi); (try clear ho0)) | ((with_reducible refine gate_dst (N := 15) rfl ?_); (try (refine gate_guard (by rfl) ?_; dsimp only)); refine box_event ?hg (N := 15) ?hd (cs := #[.int .i64 0, .slice none 0 0]) (t := 28) ?hr ?_; (case hd => rfl); (case hg => rfl); (case hr => first | (go_simp; done) | (go_simp; rfl)); intro gb499 hg w23 hbox hb; have n0_ := Aside0.mk (Kd.R_below (by (with_reducible repeat (first | apply Kd.R_alloc | apply Kd.R_drewN | apply Kd.R_drew)); exact HO488.out) hb); have n1_ := Aside0.mk (Kd.R_below (by (with_reducible repeat (first | apply Kd.R_alloc | apply Kd.R_drewN | apply Kd.R_drew)); exact HO492.out) hb); have n2_ := Aside0.mk (Kd.R_below (by (with_reducible repeat (first | apply Kd.R_alloc | apply Kd.R_drewN | apply Kd.R_drew)); exact HO497.out) hb); have n3_ := Aside0.mk (blk_below (g := gb483) (o := .cells #[.slice A1_0 l1_0.length c1_0, .slice A1_1 l1_1.length c1_1, .slice A1_2 l1_2.length c1_2, .slice A1_3 l1_3.length c1_3, .string a1_4, .bool a1_5, .string a1_6] 25 (0, 0)) (by (with_reducible repeat (first | refine blk_drewN ?_ _ | refine blk_drew ?_ | refine blk_alloc ?_ _)); exact BK483.out) hb); have n4_ := Aside0.mk (blk_below (g := gb484) (o := .cells #[.int .i64 a2_0, .slice A2_1 l2_1.length c2_1] 28 (0, 0)) (by (with_reducible repeat (first | refine blk_drewN ?_ _ | refine blk_drew ?_ | refine blk_alloc ?_ _)); exact BK484.out) hb); have n5_ := Aside0.mk (below_step (by repeat (first | (with_reducible first | exact HB.out | apply below_alloc | apply pw_below_drewN | apply below_drew1 | refine below_set ?_ GE483.out | refine below_set ?_ GE484.out) | exact HB.out)) hb); have n6_ := Aside0.mk (hbox); have n7_ := Aside0.mk ((by rw [hg]; exact (below_size (by repeat (first | (with_reducible first | exact HB.out | apply below_alloc | apply pw_below_drewN | apply below_drew1 | refine below_set ?_ GE483.out | refine below_set ?_ GE484.out) | exact HB.out))) : w.heap.size ≤ gb499)); have n8_ := Aside0.mk ((by rw [hg]; exact (below_size (by repeat (first | (with_reducible first | exact HB.out | apply below_alloc | apply pw_below_drewN | apply below_drew1 | refine below_set ?_ GE483.out | refine below_set ?_ GE484.out) | exact HB.out))) : w.heap.size ≤ gb499)); have n9_ := Aside0.mk ((by rw [hg]; exact Nat.ne_of_lt (blk_lt (g := gb483) (o := .cells #[.slice A1_0 l1_0.length c1_0, .slice A1_1 l1_1.length c1_1, .slice A1_2 l1_2.length c1_2, .slice A1_3 l1_3.length c1_3, .string a1_4, .bool a1_5, .string a1_6] 25 (0, 0)) (by (with_reducible repeat (first | refine blk_drewN ?_ _ | refine blk_drew ?_ | refine blk_alloc ?_ _)); exact BK483.out)) : gb483 ≠ gb499)); have n10_ := Aside0.mk ((by rw [hg]; exact Nat.ne_of_gt (blk_lt (g := gb483) (o := .cells #[.slice A1_0 l1_0.length c1_0, .slice A1_1 l1_1.length c1_1, .slice A1_2 l1_2.length c1_2, .slice A1_3 l1_3.length c1_3, .string a1_4, .bool a1_5, .string a1_6] 25 (0, 0)) (by (with_reducible repeat (first | refine blk_drewN ?_ _ | refine blk_drew ?_ | refine blk_alloc ?_ _)); exact BK483.out)) : gb499 ≠ gb483)); have n11_ := Aside0.mk ((by rw [hg]; exact Nat.ne_of_lt (blk_lt (g := gb484) (o := .cells #[.int .i64 a2_0, .slice A2_1 l2_1.length c2_1] 28 (0, 0)) (by (with_reducible repeat (first | refine blk_drewN ?_ _ | refine blk_drew ?_ | refine blk_alloc ?_ _)); exact BK484.out)) : gb484 ≠ gb499)); have n12_ := Aside0.mk ((by rw [hg]; exact Nat.ne_of_gt (blk_lt (g := gb484) (o := .cells #[.int .i64 a2_0, .slice A2_1 l2_1.length c2_1] 28 (0, 0)) (by (with_reducible repeat (first | refine blk_drewN ?_ _ | refine blk_drew ?_ | refine blk_alloc ?_ _)); exact BK484.out)) : gb499 ≠ gb484)); clear HO488; clear HO492; clear HO497; clear BK483; clear BK484; clear HB; have HO488 := n0_; have HO492 := n1_; have HO497 := n2_; have BK483 := n3_; have BK484 := n4_; have HB := n5_; have BK499 := n6_; have GW499 := n7_; have GE499 := n8_; have NB483_499 := n9_; have NB499_483 := n10_; have NB484_499 := n11_; have NB499_484 := n12_; clear n0_ n1_ n2_ n3_ n4_ n5_ n6_ n7_ n8_ n9_ n10_ n11_ n12_; clear hb hbox hg; have hnb24 := NB499_483.out; have hnc24 := NB483_499.out; have hnb25 := NB499_484.out; have hnc25 := NB484_499.out; have hcz26_0 : w23.cell? ⟨gb499, 0, none⟩ = some (.int .i64 0) := (blk_cell BK499.out 0).trans rfl; have hcz26_1 : w23.cell? ⟨gb499, 1, none⟩ = some (.slice none 0 0) := (blk_cell BK499.out 1).trans rfl; have hfz26_0 := blk_frozen BK499.out 0; have hfz26_1 := blk_frozen BK499.out 1; obtain ⟨Ao27, co27, eo27⟩ := Kd.R_slice HO497.out; subst eo27))
  (try simp only [Act.put, List.setIfInBounds_toArray, List.set_cons_zero, List.set_cons_succ])
  go_cut [55] (fun v55 wc => ∃ (kq : Nat) (x55_10 : Bool), v55 = .bool x55_10 ∧ Aside0 (cruciblelaw18_CommandReads.j0 kq l0 a3 t486 t489 t490 x55_10 l1_0 l1_1 l1_2 l1_3 a1_4 a1_5 a1_6 t494 t495 = some r) ∧ Aside0 (kq ≤ k) ∧ Aside0 (Kd.R (Kd.int .i64) 3 wc w.heap.size (fun _ => True) v487 t486) ∧ Aside0 (Kd.R Kd.string 9 wc w.heap.size (fun _ => True) v491 t490) ∧ Aside0 (Kd.R k72 72 wc w.heap.size (fun _ => True) (.slice Ao27 t495.length co27) t495) ∧ Aside0 (wc.heap[gb483]? = some (.cells #[(.slice A1_0 l1_0.length c1_0), (.slice A1_1 l1_1.length c1_1), (.slice A1_2 l1_2.length c1_2), (.slice A1_3 l1_3.length c1_3), .string a1_4, .bool a1_5, .string a1_6] 25 (0, 0))) ∧ Aside0 (wc.heap[gb484]? = some (.cells #[.int .i64 a2_0, (.slice A2_1 l2_1.length c2_1)] 28 (0, 0))) ∧ Aside0 (wc.heap[gb499]? = some (.cells #[.int .i64 t494, (.slice Ao27 t495.length co27)] 28 (0, 0))) ∧ Aside0 (Below w.heap.size w wc))
  case first =>
   have H := HC11.out
   clear HC11
   replace H := Option.bind_eq_some_iff.mp H
   obtain ⟨t500, A280, H⟩ := H
   replace H : (if t500 = 0 then ((cruciblelaw0_Num.f t493).bind fun t501 => (if t501 = 0 then (cruciblelaw18_CommandReads.j0 k l0 a3 t486 t489 t490 (t498 != 0) l1_0 l1_1 l1_2 l1_3 a1_4 a1_5 a1_6 t494 t495) else (cruciblelaw18_CommandReads.j0 k l0 a3 t486 t489 t490 true l1_0 l1_1 l1_2 l1_3 a1_4 a1_5 a1_6 t494 t495))) else (cruciblelaw18_CommandReads.j0 k l0 a3 t486 t489 t490 true l1_0 l1_1 l1_2 l1_3 a1_4 a1_5 a1_6 t494 t495)) = some r := H
   have A28 := Aside0.mk A280
   clear A280
   by_cases c29 : t500 = 0
   ·
    rw [if_pos c29] at H
    have c29b0 : (t500 == 0) = true := beq_iff_eq.mpr c29
    have c29b1 : (t500 != 0) = false := bne_eq_false_iff_eq.mpr c29
    clear c29
    (first | rw [c29b0] | (simp only [i64_w, i32_w]; rw [c29b0]) | rw [c29b2] | skip)
    replace H := Option.bind_eq_some_iff.mp H
    obtain ⟨t501, A300, H⟩ := H
    replace H : (if t501 = 0 then (cruciblelaw18_CommandReads.j0 k l0 a3 t486 t489 t490 (t498 != 0) l1_0 l1_1 l1_2 l1_3 a1_4 a1_5 a1_6 t494 t495) else (cruciblelaw18_CommandReads.j0 k l0 a3 t486 t489 t490 true l1_0 l1_1 l1_2 l1_3 a1_4 a1_5 a1_6 t494 t495)) = some r := H
    have A30 := Aside0.mk A300
    clear A300
    by_cases c31 : t501 = 0
    ·
     rw [if_pos c31] at H
     have c31b0 : (t501 == 0) = true := beq_iff_eq.mpr c31
     have c31b1 : (t501 != 0) = false := bne_eq_false_iff_eq.mpr c31
     clear c31
     have H' := Aside0.mk H
     clear H
     go_wp2_with (first | ((with_reducible refine gate_callee (f := 25) rfl ?_); refine goesL_ (some 45) rfl rfl Tryd.func25 (by kernel_rfl) rfl #[.int .i64 t489] rfl (by (try simp only [List.map_toArray, List.map_cons, List.map_nil]); first | done | rfl | (simp only [List.length_drop, List.length_take]; rfl)) ?_; (with_reducible refine (cruciblelaw0_Num.calls t489 t500 _ A28.out).mono ?_); rintro e w' ⟨rfl, ⟨nd, rfl⟩⟩; refine ⟨_, rfl, ?_⟩) | (go_at_call 25; (with_reducible refine (cruciblelaw0_Num.calls t493 t501 _ A30.out).mono ?_); rintro e w' ⟨rfl, ⟨nd, rfl⟩⟩))
     go_meet
     case rel => exact ⟨_, ((t498 != 0)), (by first | rfl | (simp; done) | (simp [*]; done)), H', ⟨by first | omega | exact Nat.le_refl _⟩, ⟨by (with_reducible repeat (first | apply Kd.R_alloc | apply Kd.R_drewN | apply Kd.R_drew)); exact Kd.R_mono (Kd.R_far (p := ⟨gb499, 1, none⟩) (Kd.R_far (p := ⟨gb499, 0, none⟩) (Kd.R_types HO488.out BK499.out (by decide)) (fun _ hk => hk.2) (.int .i64 t494)) (fun _ hk => hk.2) (.slice Ao27 t495.length co27)) (fun _ hk => trivial)⟩, ⟨by (with_reducible repeat (first | apply Kd.R_alloc | apply Kd.R_drewN | apply Kd.R_drew)); exact Kd.R_mono (Kd.R_far (p := ⟨gb499, 1, none⟩) (Kd.R_far (p := ⟨gb499, 0, none⟩) (Kd.R_types HO492.out BK499.out (by decide)) (fun _ hk => hk.2) (.int .i64 t494)) (fun _ hk => hk.2) (.slice Ao27 t495.length co27)) (fun _ hk => trivial)⟩, ⟨by (with_reducible repeat (first | apply Kd.R_alloc | apply Kd.R_drewN | apply Kd.R_drew)); exact Kd.R_mono (Kd.R_far (p := ⟨gb499, 1, none⟩) (Kd.R_far (p := ⟨gb499, 0, none⟩) (Kd.R_types HO497.out BK499.out (by decide)) (fun _ hk => hk.2) (.int .i64 t494)) (fun _ hk => hk.2) (.slice Ao27 t495.length co27)) (fun _ hk => trivial)⟩, ⟨by (with_reducible repeat (first | refine blk_drewN ?_ _ | refine blk_drew ?_ | refine blk_alloc ?_ _)); refine blk_far ?_ NB483_499.out _; (with_reducible repeat (first | refine blk_drewN ?_ _ | refine blk_drew ?_ | refine blk_alloc ?_ _)); refine blk_far ?_ NB483_499.out _; (with_reducible repeat (first | refine blk_drewN ?_ _ | refine blk_drew ?_ | refine blk_alloc ?_ _)); exact BK483.out⟩, ⟨by (with_reducible repeat (first | refine blk_drewN ?_ _ | refine blk_drew ?_ | refine blk_alloc ?_ _)); refine blk_far ?_ NB484_499.out _; (with_reducible repeat (first | refine blk_drewN ?_ _ | refine blk_drew ?_ | refine blk_alloc ?_ _)); refine blk_far ?_ NB484_499.out _; (with_reducible repeat (first | refine blk_drewN ?_ _ | refine blk_drew ?_ | refine blk_alloc ?_ _)); exact BK484.out⟩, ⟨by (with_reducible repeat (first | refine blk_drewN ?_ _ | refine blk_drew ?_ | refine blk_alloc ?_ _)); refine blk_put (cs := #[.int .i64 t494, .slice none 0 0]) ?_ 1 _ rfl; (with_reducible repeat (first | refine blk_drewN ?_ _ | refine blk_drew ?_ | refine blk_alloc ?_ _)); refine blk_put (cs := #[.int .i64 0, .slice none 0 0]) ?_ 0 _ rfl; (with_reducible repeat (first | refine blk_drewN ?_ _ | refine blk_drew ?_ | refine blk_alloc ?_ _)); exact BK499.out⟩, ⟨by repeat (first | (with_reducible first | exact HB.out | apply below_alloc | apply pw_below_drewN | apply below_drew1 | refine below_set ?_ GE483.out | refine below_set ?_ GE484.out | refine below_set ?_ GE499.out) | exact HB.out)⟩⟩
    ·
     rw [if_neg c31] at H
     have c31b0 : (t501 == 0) = false := beq_eq_false_iff_ne.mpr c31
     have c31b1 : (t501 != 0) = true := bne_iff_ne.mpr c31
     have H' := Aside0.mk H
     clear H
     go_wp2_with (first | ((with_reducible refine gate_callee (f := 25) rfl ?_); refine goesL_ (some 45) rfl rfl Tryd.func25 (by kernel_rfl) rfl #[.int .i64 t489] rfl (by (try simp only [List.map_toArray, List.map_cons, List.map_nil]); first | done | rfl | (simp only [List.length_drop, List.length_take]; rfl)) ?_; (with_reducible refine (cruciblelaw0_Num.calls t489 t500 _ A28.out).mono ?_); rintro e w' ⟨rfl, ⟨nd, rfl⟩⟩; refine ⟨_, rfl, ?_⟩) | (go_at_call 25; (with_reducible refine (cruciblelaw0_Num.calls t493 t501 _ A30.out).mono ?_); rintro e w' ⟨rfl, ⟨nd, rfl⟩⟩))
     go_meet
     case rel => exact ⟨_, (true), (by first | rfl | (simp; done) | (simp [*]; done)), H', ⟨by first | omega | exact Nat.le_refl _⟩, ⟨by (with_reducible repeat (first | apply Kd.R_alloc | apply Kd.R_drewN | apply Kd.R_drew)); exact Kd.R_mono (Kd.R_far (p := ⟨gb499, 1, none⟩) (Kd.R_far (p := ⟨gb499, 0, none⟩) (Kd.R_types HO488.out BK499.out (by decide)) (fun _ hk => hk.2) (.int .i64 t494)) (fun _ hk => hk.2) (.slice Ao27 t495.length co27)) (fun _ hk => trivial)⟩, ⟨by (with_reducible repeat (first | apply Kd.R_alloc | apply Kd.R_drewN | apply Kd.R_drew)); exact Kd.R_mono (Kd.R_far (p := ⟨gb499, 1, none⟩) (Kd.R_far (p := ⟨gb499, 0, none⟩) (Kd.R_types HO492.out BK499.out (by decide)) (fun _ hk => hk.2) (.int .i64 t494)) (fun _ hk => hk.2) (.slice Ao27 t495.length co27)) (fun _ hk => trivial)⟩, ⟨by (with_reducible repeat (first | apply Kd.R_alloc | apply Kd.R_drewN | apply Kd.R_drew)); exact Kd.R_mono (Kd.R_far (p := ⟨gb499, 1, none⟩) (Kd.R_far (p := ⟨gb499, 0, none⟩) (Kd.R_types HO497.out BK499.out (by decide)) (fun _ hk => hk.2) (.int .i64 t494)) (fun _ hk => hk.2) (.slice Ao27 t495.length co27)) (fun _ hk => trivial)⟩, ⟨by (with_reducible repeat (first | refine blk_drewN ?_ _ | refine blk_drew ?_ | refine blk_alloc ?_ _)); refine blk_far ?_ NB483_499.out _; (with_reducible repeat (first | refine blk_drewN ?_ _ | refine blk_drew ?_ | refine blk_alloc ?_ _)); refine blk_far ?_ NB483_499.out _; (with_reducible repeat (first | refine blk_drewN ?_ _ | refine blk_drew ?_ | refine blk_alloc ?_ _)); exact BK483.out⟩, ⟨by (with_reducible repeat (first | refine blk_drewN ?_ _ | refine blk_drew ?_ | refine blk_alloc ?_ _)); refine blk_far ?_ NB484_499.out _; (with_reducible repeat (first | refine blk_drewN ?_ _ | refine blk_drew ?_ | refine blk_alloc ?_ _)); refine blk_far ?_ NB484_499.out _; (with_reducible repeat (first | refine blk_drewN ?_ _ | refine blk_drew ?_ | refine blk_alloc ?_ _)); exact BK484.out⟩, ⟨by (with_reducible repeat (first | refine blk_drewN ?_ _ | refine blk_drew ?_ | refine blk_alloc ?_ _)); refine blk_put (cs := #[.int .i64 t494, .slice none 0 0]) ?_ 1 _ rfl; (with_reducible repeat (first | refine blk_drewN ?_ _ | refine blk_drew ?_ | refine blk_alloc ?_ _)); refine blk_put (cs := #[.int .i64 0, .slice none 0 0]) ?_ 0 _ rfl; (with_reducible repeat (first | refine blk_drewN ?_ _ | refine blk_drew ?_ | refine blk_alloc ?_ _)); exact BK499.out⟩, ⟨by repeat (first | (with_reducible first | exact HB.out | apply below_alloc | apply pw_below_drewN | apply below_drew1 | refine below_set ?_ GE483.out | refine below_set ?_ GE484.out | refine below_set ?_ GE499.out) | exact HB.out)⟩⟩
   ·
    rw [if_neg c29] at H
    have c29b0 : (t500 == 0) = false := beq_eq_false_iff_ne.mpr c29
    have c29b1 : (t500 != 0) = true := bne_iff_ne.mpr c29
    (first | rw [c29b0] | (simp only [i64_w, i32_w]; rw [c29b0]) | rw [c29b2] | skip)
    have H' := Aside0.mk H
    clear H
    go_wp2_with (first | ((with_reducible refine gate_callee (f := 25) rfl ?_); refine goesL_ (some 45) rfl rfl Tryd.func25 (by kernel_rfl) rfl #[.int .i64 t489] rfl (by (try simp only [List.map_toArray, List.map_cons, List.map_nil]); first | done | rfl | (simp only [List.length_drop, List.length_take]; rfl)) ?_; (with_reducible refine (cruciblelaw0_Num.calls t489 t500 _ A28.out).mono ?_); rintro e w' ⟨rfl, ⟨nd, rfl⟩⟩; refine ⟨_, rfl, ?_⟩))
    go_meet
    case rel => exact ⟨_, (true), (by first | rfl | (simp; done) | (simp [*]; done)), H', ⟨by first | omega | exact Nat.le_refl _⟩, ⟨by (with_reducible repeat (first | apply Kd.R_alloc | apply Kd.R_drewN | apply Kd.R_drew)); exact Kd.R_mono (Kd.R_far (p := ⟨gb499, 1, none⟩) (Kd.R_far (p := ⟨gb499, 0, none⟩) (Kd.R_types HO488.out BK499.out (by decide)) (fun _ hk => hk.2) (.int .i64 t494)) (fun _ hk => hk.2) (.slice Ao27 t495.length co27)) (fun _ hk => trivial)⟩, ⟨by (with_reducible repeat (first | apply Kd.R_alloc | apply Kd.R_drewN | apply Kd.R_drew)); exact Kd.R_mono (Kd.R_far (p := ⟨gb499, 1, none⟩) (Kd.R_far (p := ⟨gb499, 0, none⟩) (Kd.R_types HO492.out BK499.out (by decide)) (fun _ hk => hk.2) (.int .i64 t494)) (fun _ hk => hk.2) (.slice Ao27 t495.length co27)) (fun _ hk => trivial)⟩, ⟨by (with_reducible repeat (first | apply Kd.R_alloc | apply Kd.R_drewN | apply Kd.R_drew)); exact Kd.R_mono (Kd.R_far (p := ⟨gb499, 1, none⟩) (Kd.R_far (p := ⟨gb499, 0, none⟩) (Kd.R_types HO497.out BK499.out (by decide)) (fun _ hk => hk.2) (.int .i64 t494)) (fun _ hk => hk.2) (.slice Ao27 t495.length co27)) (fun _ hk => trivial)⟩, ⟨by (with_reducible repeat (first | refine blk_drewN ?_ _ | refine blk_drew ?_ | refine blk_alloc ?_ _)); refine blk_far ?_ NB483_499.out _; (with_reducible repeat (first | refine blk_drewN ?_ _ | refine blk_drew ?_ | refine blk_alloc ?_ _)); refine blk_far ?_ NB483_499.out _; (with_reducible repeat (first | refine blk_drewN ?_ _ | refine blk_drew ?_ | refine blk_alloc ?_ _)); exact BK483.out⟩, ⟨by (with_reducible repeat (first | refine blk_drewN ?_ _ | refine blk_drew ?_ | refine blk_alloc ?_ _)); refine blk_far ?_ NB484_499.out _; (with_reducible repeat (first | refine blk_drewN ?_ _ | refine blk_drew ?_ | refine blk_alloc ?_ _)); refine blk_far ?_ NB484_499.out _; (with_reducible repeat (first | refine blk_drewN ?_ _ | refine blk_drew ?_ | refine blk_alloc ?_ _)); exact BK484.out⟩, ⟨by (with_reducible repeat (first | refine blk_drewN ?_ _ | refine blk_drew ?_ | refine blk_alloc ?_ _)); refine blk_put (cs := #[.int .i64 t494, .slice none 0 0]) ?_ 1 _ rfl; (with_reducible repeat (first | refine blk_drewN ?_ _ | refine blk_drew ?_ | refine blk_alloc ?_ _)); refine blk_put (cs := #[.int .i64 0, .slice none 0 0]) ?_ 0 _ rfl; (with_reducible repeat (first | refine blk_drewN ?_ _ | refine blk_drew ?_ | refine blk_alloc ?_ _)); exact BK499.out⟩, ⟨by repeat (first | (with_reducible first | exact HB.out | apply below_alloc | apply pw_below_drewN | apply below_drew1 | refine below_set ?_ GE483.out | refine below_set ?_ GE484.out | refine below_set ?_ GE499.out) | exact HB.out)⟩⟩
  case rest =>
   clear HC11
   try clear c1
   try clear c2
   try clear p2
   try clear c3
   try clear c5
   try clear c7
   try clear c15
   try clear c20
   try clear c22
   try clear c24
   try clear c25
   try clear c29
   try clear c29b0
   try clear c29b1
   try clear c29b2
   try clear c31
   try clear c31b0
   try clear c31b1
   try clear hcz16_0
   try clear hcz16_1
   try clear hcz16_2
   try clear hcz16_3
   try clear hcz16_4
   try clear hcz16_5
   try clear hcz16_6
   try clear hcz17_0
   try clear hcz17_1
   try clear hcz19_0
   try clear hcz19_1
   try clear hcz19_2
   try clear hcz19_3
   try clear hcz19_4
   try clear hcz19_5
   try clear hcz19_6
   try clear hcz21_0
   try clear hcz21_1
   try clear hcz26_0
   try clear hcz26_1
   try clear hfz16_0
   try clear hfz16_1
   try clear hfz16_2
   try clear hfz16_3
   try clear hfz16_4
   try clear hfz16_5
   try clear hfz16_6
   try clear hfz17_0
   try clear hfz17_1
   try clear hfz19_0
   try clear hfz19_1
   try clear hfz19_2
   try clear hfz19_3
   try clear hfz19_4
   try clear hfz19_5
   try clear hfz19_6
   try clear hfz21_0
   try clear hfz21_1
   try clear hfz26_0
   try clear hfz26_1
   obtain ⟨kq, x55_10, rfl, HA, HJ10, HO_11, HO_13, HO_500001, BK483, BK484, BK499, HB⟩ := hcut
   cases kq with
   | zero => exact absurd HA.out (by simp [cruciblelaw18_CommandReads.j0])
   | succ kj10 =>
    have H := HA.out
    clear HA
    simp only [cruciblelaw18_CommandReads.j0] at H
    by_cases c32 : x55_10 = true
    ·
     subst c32
     have H1 : ((cruciblelaw0_Num.f t489).bind fun t502 => (if t502 = 0 then (some true) else (some ((t486.length : Int) == 0)))) = some r := by rw [if_pos rfl] at H; exact H
     clear H
     have H := H1
     clear H1
     replace H := Option.bind_eq_some_iff.mp H
     obtain ⟨t502, A330, H⟩ := H
     replace H : (if t502 = 0 then (some true) else (some ((t486.length : Int) == 0))) = some r := H
     have A33 := Aside0.mk A330
     clear A330
     by_cases c34 : t502 = 0
     ·
      rw [if_pos c34] at H
      have c34b0 : (t502 == 0) = true := beq_iff_eq.mpr c34
      have c34b1 : (t502 != 0) = false := bne_eq_false_iff_eq.mpr c34
      clear c34
      obtain rfl := Option.some.inj H
      (try clear BK483)
      (try clear BK484)
      (try clear BK499)
      (try clear HO_11)
      (try clear HO_13)
      (try clear HO_500001)
      go_wp2_with (first | ((with_reducible refine gate_callee (f := 25) rfl ?_); refine goesL_ (some 57) rfl rfl Tryd.func25 (by kernel_rfl) rfl #[.int .i64 t489] rfl (by (try simp only [List.map_toArray, List.map_cons, List.map_nil]); first | done | rfl | (simp only [List.length_drop, List.length_take]; rfl)) ?_; (with_reducible refine (cruciblelaw0_Num.calls t489 t502 _ A33.out).mono ?_); rintro e w' ⟨rfl, ⟨nd, rfl⟩⟩; refine ⟨_, rfl, ?_⟩))
      go_ret
      exact ⟨by first | rfl | (simp [errW_none, errW_some] <;> rfl) | (simp [*, errW_none, errW_some] <;> rfl), by repeat (first | (with_reducible first | exact HB.out | apply below_alloc | apply pw_below_drewN | apply below_drew1) | exact HB.out)⟩
     ·
      rw [if_neg c34] at H
      have c34b0 : (t502 == 0) = false := beq_eq_false_iff_ne.mpr c34
      have c34b1 : (t502 != 0) = true := bne_iff_ne.mpr c34
      obtain rfl := Option.some.inj H
      (try clear BK483)
      (try clear BK484)
      (try clear BK499)
      (try clear HO_13)
      (try clear HO_500001)
      go_wp2_with (first | ((with_reducible refine gate_callee (f := 25) rfl ?_); refine goesL_ (some 57) rfl rfl Tryd.func25 (by kernel_rfl) rfl #[.int .i64 t489] rfl (by (try simp only [List.map_toArray, List.map_cons, List.map_nil]); first | done | rfl | (simp only [List.length_drop, List.length_take]; rfl)) ?_; (with_reducible refine (cruciblelaw0_Num.calls t489 t502 _ A33.out).mono ?_); rintro e w' ⟨rfl, ⟨nd, rfl⟩⟩; refine ⟨_, rfl, ?_⟩; obtain ⟨Ao35, co35, eo35⟩ := Kd.R_slice HO_11.out; subst eo35))
      go_ret
      exact ⟨by first | rfl | (simp [errW_none, errW_some] <;> rfl) | (simp [*, errW_none, errW_some] <;> rfl), by repeat (first | (with_reducible first | exact HB.out | apply below_alloc | apply pw_below_drewN | apply below_drew1) | exact HB.out)⟩
    ·
     replace c32 := Bool.eq_false_iff.mpr c32
     subst c32
     have H1 : ((some (([] : List ByteArray) : List ByteArray)).bind fun y503 => (if y503.length + l1_1.length < 8796093022208 then ((some (y503 ++ l1_1 : List ByteArray)).bind fun y506 => (if y506.length + l1_2.length < 8796093022208 then ((some (y506 ++ l1_2 : List ByteArray)).bind fun y509 => (if y509.length + t490.length < 8796093022208 then (cruciblelaw18_CommandReads.l0 kj10 l0 a3 t486 (y509 ++ t490) 0 l1_0 l1_1 l1_2 l1_3 a1_4 a1_5 a1_6 t494 t495) else (none))) else (none))) else (none))) = some r := by rw [if_neg (show ¬ (false = true) by decide)] at H; exact H
     clear H
     have H := H1
     clear H1
     obtain ⟨y503, hy503⟩ : ∃ y_ : List ByteArray, y_ = (([] : List ByteArray)) := ⟨_, rfl⟩
     replace H : (if y503.length + l1_1.length < 8796093022208 then ((some (y503 ++ l1_1 : List ByteArray)).bind fun y506 => (if y506.length + l1_2.length < 8796093022208 then ((some (y506 ++ l1_2 : List ByteArray)).bind fun y509 => (if y509.length + t490.length < 8796093022208 then (cruciblelaw18_CommandReads.l0 kj10 l0 a3 t486 (y509 ++ t490) 0 l1_0 l1_1 l1_2 l1_3 a1_4 a1_5 a1_6 t494 t495) else (none))) else (none))) else (none)) = some r := by first | (rw [hy503]; with_reducible exact H) | (have H2_ := (Option.bind_some _ _).symm.trans H; rw [hy503]; with_reducible exact H2_) | (have H2_ := (Option.bind_some _ _).symm.trans H; with_reducible exact H2_) | with_reducible exact H | (rw [hy503]; exact H) | exact H
     have Ny503 := Aside0.mk hy503
     clear hy503
     by_cases c36 : y503.length + l1_1.length < 8796093022208
     ·
      rw [if_pos c36] at H
      have LMc36 := Aside0.mk c36
      clear c36
      obtain ⟨y506, hy506⟩ : ∃ y_ : List ByteArray, y_ = (y503 ++ l1_1) := ⟨_, rfl⟩
      replace H : (if y506.length + l1_2.length < 8796093022208 then ((some (y506 ++ l1_2 : List ByteArray)).bind fun y509 => (if y509.length + t490.length < 8796093022208 then (cruciblelaw18_CommandReads.l0 kj10 l0 a3 t486 (y509 ++ t490) 0 l1_0 l1_1 l1_2 l1_3 a1_4 a1_5 a1_6 t494 t495) else (none))) else (none)) = some r := by first | (rw [hy506]; with_reducible exact H) | (have H2_ := (Option.bind_some _ _).symm.trans H; rw [hy506]; with_reducible exact H2_) | (have H2_ := (Option.bind_some _ _).symm.trans H; with_reducible exact H2_) | with_reducible exact H | (rw [hy506]; exact H) | exact H
      have Ny506 := Aside0.mk hy506
      clear hy506
      by_cases c37 : y506.length + l1_2.length < 8796093022208
      ·
       rw [if_pos c37] at H
       have LMc37 := Aside0.mk c37
       clear c37
       obtain ⟨y509, hy509⟩ : ∃ y_ : List ByteArray, y_ = (y506 ++ l1_2) := ⟨_, rfl⟩
       replace H : (if y509.length + t490.length < 8796093022208 then (cruciblelaw18_CommandReads.l0 kj10 l0 a3 t486 (y509 ++ t490) 0 l1_0 l1_1 l1_2 l1_3 a1_4 a1_5 a1_6 t494 t495) else (none)) = some r := by first | (rw [hy509]; with_reducible exact H) | (have H2_ := (Option.bind_some _ _).symm.trans H; rw [hy509]; with_reducible exact H2_) | (have H2_ := (Option.bind_some _ _).symm.trans H; with_reducible exact H2_) | with_reducible exact H | (rw [hy509]; exact H) | exact H
       have Ny509 := Aside0.mk hy509
       clear hy509
       by_cases c38 : y509.length + t490.length < 8796093022208
       ·
        rw [if_pos c38] at H
        have LMc38 := Aside0.mk c38
        clear c38
        obtain ⟨y512, hy512⟩ : ∃ y_ : List ByteArray, y_ = (y509 ++ t490) := ⟨_, rfl⟩
        replace H : (cruciblelaw18_CommandReads.l0 kj10 l0 a3 t486 y512 0 l1_0 l1_1 l1_2 l1_3 a1_4 a1_5 a1_6 t494 t495) = some r := by first | (rw [hy512]; with_reducible exact H) | (have H2_ := (Option.bind_some _ _).symm.trans H; rw [hy512]; with_reducible exact H2_) | (have H2_ := (Option.bind_some _ _).symm.trans H; with_reducible exact H2_) | with_reducible exact H | (rw [hy512]; exact H) | exact H
        have Ny512 := Aside0.mk hy512
        clear hy512
        have H' := Aside0.mk H
        clear H
        go_wp2_with (first | ((with_reducible refine gate_dst (N := 64) rfl ?_); (try (refine gate_guard (by rfl) ?_; dsimp only)); refine Kd.R_lit Kd.string _ 9 ?hg (N := 64) ?hd (xs := ([] : List ByteArray)) (inner := []) (ok := fun _ => True) (okp := fun _ => True) ?hr ?hp (fun _ hk => hk) trivial (Below.refl _ _) (Nat.le_refl _) (by simp) ?_; (case hd => rfl); (case hg => rfl); (case hr => first | (go_simp; done) | (go_simp; rfl)); (case hp => exact (Reps.none _ _)); intro v504 w39 ho40 hb hg_ hnew_; clear hg_ hnew_; (first | rw [← Ny503.out] at ho40 | (simp only [Int.reduceToNat] at ho40; rw [← Ny503.out] at ho40)); have n0_ := Aside0.mk (Kd.R_below (by (with_reducible repeat (first | apply Kd.R_alloc | apply Kd.R_drewN | apply Kd.R_drew)); exact HO_11.out) hb); have n1_ := Aside0.mk (Kd.R_elder' (by (with_reducible repeat (first | apply Kd.R_alloc | apply Kd.R_drewN | apply Kd.R_drew)); exact HO_13.out) (Kd.R_base ho40) hb); have n2_ := Aside0.mk (Kd.R_below (by (with_reducible repeat (first | apply Kd.R_alloc | apply Kd.R_drewN | apply Kd.R_drew)); exact HO_500001.out) hb); have n3_ := Aside0.mk (Kd.R_lower (Kd.R_new' ho40 (Kd.R_lt (by (with_reducible repeat (first | apply Kd.R_alloc | apply Kd.R_drewN | apply Kd.R_drew)); exact HO_13.out))) (below_size (by repeat (first | (with_reducible first | exact HB.out | apply below_alloc | apply pw_below_drewN | apply below_drew1 | refine below_set ?_ GE483.out | refine below_set ?_ GE484.out | refine below_set ?_ GE499.out) | exact HB.out)))); have n4_ := Aside0.mk (blk_below (g := gb483) (o := .cells #[.slice A1_0 l1_0.length c1_0, .slice A1_1 l1_1.length c1_1, .slice A1_2 l1_2.length c1_2, .slice A1_3 l1_3.length c1_3, .string a1_4, .bool a1_5, .string a1_6] 25 (0, 0)) (by (with_reducible repeat (first | refine blk_drewN ?_ _ | refine blk_drew ?_ | refine blk_alloc ?_ _)); exact BK483.out) hb); have n5_ := Aside0.mk (blk_below (g := gb484) (o := .cells #[.int .i64 a2_0, .slice A2_1 l2_1.length c2_1] 28 (0, 0)) (by (with_reducible repeat (first | refine blk_drewN ?_ _ | refine blk_drew ?_ | refine blk_alloc ?_ _)); exact BK484.out) hb); have n6_ := Aside0.mk (blk_below (g := gb499) (o := .cells #[.int .i64 t494, .slice Ao27 t495.length co27] 28 (0, 0)) (by (with_reducible repeat (first | refine blk_drewN ?_ _ | refine blk_drew ?_ | refine blk_alloc ?_ _)); exact BK499.out) hb); have n7_ := Aside0.mk (below_step (by repeat (first | (with_reducible first | exact HB.out | apply below_alloc | apply pw_below_drewN | apply below_drew1 | refine below_set ?_ GE483.out | refine below_set ?_ GE484.out | refine below_set ?_ GE499.out) | exact HB.out)) hb); clear HO_11; clear HO_13; clear HO_500001; clear BK483; clear BK484; clear BK499; clear HB; have HO_11 := n0_; have HO_13 := n1_; have HO_500001 := n2_; have HO505 := n3_; have BK483 := n4_; have BK484 := n5_; have BK499 := n6_; have HB := n7_; clear n0_ n1_ n2_ n3_ n4_ n5_ n6_ n7_; clear hb ho40; have hnb41 := NB483_484.out; have hnc41 := NB484_483.out; have hnb42 := NB483_499.out; have hnc42 := NB499_483.out; have hcz43_0 : w39.cell? ⟨gb483, 0, none⟩ = some (.slice A1_0 l1_0.length c1_0) := (blk_cell BK483.out 0).trans rfl; have hcz43_1 : w39.cell? ⟨gb483, 1, none⟩ = some (.slice A1_1 l1_1.length c1_1) := (blk_cell BK483.out 1).trans rfl; have hcz43_2 : w39.cell? ⟨gb483, 2, none⟩ = some (.slice A1_2 l1_2.length c1_2) := (blk_cell BK483.out 2).trans rfl; have hcz43_3 : w39.cell? ⟨gb483, 3, none⟩ = some (.slice A1_3 l1_3.length c1_3) := (blk_cell BK483.out 3).trans rfl; have hcz43_4 : w39.cell? ⟨gb483, 4, none⟩ = some (.string a1_4) := (blk_cell BK483.out 4).trans rfl; have hcz43_5 : w39.cell? ⟨gb483, 5, none⟩ = some (.bool a1_5) := (blk_cell BK483.out 5).trans rfl; have hcz43_6 : w39.cell? ⟨gb483, 6, none⟩ = some (.string a1_6) := (blk_cell BK483.out 6).trans rfl; have hfz43_0 := blk_frozen BK483.out 0; have hfz43_1 := blk_frozen BK483.out 1; have hfz43_2 := blk_frozen BK483.out 2; have hfz43_3 := blk_frozen BK483.out 3; have hfz43_4 := blk_frozen BK483.out 4; have hfz43_5 := blk_frozen BK483.out 5; have hfz43_6 := blk_frozen BK483.out 6) | ((with_reducible refine gate_builtin (b := .append) (xs := #[.tmp 64, .tmp 66]) rfl ?_); (try (refine gate_guard (by rfl) ?_; dsimp only)); at_builtin; refine Kd.R_append_rows Kd.string (w0 := w) w.heap.size rfl (.tmp 64) (.tmp 66) 23 9 (.string ⟨#[]⟩) 16 rfl Tryd.underlying23 info9 rfl (by decide) (by omega) v504 y503 l1_1 _ _ _ (fun k_ => some k_ ≠ (v491 : Value).ownBlock) (fun _ => False) rfl rfl ?aO ?aR (fun _ _ h => h) (fun _ h => h.elim) ?aF ?aB ?aS ?aL ?_; (case aR => repeat (first | exact (Kd.C_below HR1_1.out HB.out) | (with_reducible refine Kd.C_alloc ?_ _) | (with_reducible refine Kd.C_drewN ?_ _) | (with_reducible refine Kd.C_drew ?_))); (case aB => exact (by repeat (first | (with_reducible first | exact HB.out | apply below_alloc | apply pw_below_drewN | apply below_drew1 | refine below_set ?_ GE483.out | refine below_set ?_ GE484.out | refine below_set ?_ GE499.out) | exact HB.out))); (case aF => exact (fun k_ hk => Kd.fresh' (Kd.R_lt (by (with_reducible repeat (first | apply Kd.R_alloc | apply Kd.R_drewN | apply Kd.R_drew)); exact HO_13.out)) k_ hk)); (case aO => exact (by (with_reducible repeat (first | apply Kd.R_alloc | apply Kd.R_drewN | apply Kd.R_drew)); exact Kd.R_mono HO505.out (fun _ hk => hk.2))); (case aS => exact (below_size (by repeat (first | (with_reducible first | exact HB.out | apply below_alloc | apply pw_below_drewN | apply below_drew1 | refine below_set ?_ GE483.out | refine below_set ?_ GE484.out | refine below_set ?_ GE499.out) | exact HB.out)))); (case aL => have := LMc36.out; omega); intro v507 w44 ho hb hg hat; rw [← Ny506.out] at ho; have n0_ := Aside0.mk (Kd.R_over' (by (with_reducible repeat (first | apply Kd.R_alloc | apply Kd.R_drewN | apply Kd.R_drew)); exact HO_11.out) (Kd.R_typed (by (with_reducible repeat (first | apply Kd.R_alloc | apply Kd.R_drewN | apply Kd.R_drew)); exact HO505.out)) (by decide) hg); have n1_ := Aside0.mk (Kd.R_after (ok := (fun _ => True)) (by (with_reducible repeat (first | apply Kd.R_alloc | apply Kd.R_drewN | apply Kd.R_drew)); exact HO_13.out) hg hat); have n2_ := Aside0.mk (Kd.R_over' (by (with_reducible repeat (first | apply Kd.R_alloc | apply Kd.R_drewN | apply Kd.R_drew)); exact HO_500001.out) (Kd.R_typed (by (with_reducible repeat (first | apply Kd.R_alloc | apply Kd.R_drewN | apply Kd.R_drew)); exact HO505.out)) (by decide) hg); have n3_ := Aside0.mk (blk_grown (g := gb483) (o := .cells #[.slice A1_0 l1_0.length c1_0, .slice A1_1 l1_1.length c1_1, .slice A1_2 l1_2.length c1_2, .slice A1_3 l1_3.length c1_3, .string a1_4, .bool a1_5, .string a1_6] 25 (0, 0)) (by (with_reducible repeat (first | refine blk_drewN ?_ _ | refine blk_drew ?_ | refine blk_alloc ?_ _)); exact BK483.out) hg (Kd.R_ne HO505.out BK483.out (by decide))); have n4_ := Aside0.mk (blk_grown (g := gb484) (o := .cells #[.int .i64 a2_0, .slice A2_1 l2_1.length c2_1] 28 (0, 0)) (by (with_reducible repeat (first | refine blk_drewN ?_ _ | refine blk_drew ?_ | refine blk_alloc ?_ _)); exact BK484.out) hg (Kd.R_ne HO505.out BK484.out (by decide))); have n5_ := Aside0.mk (blk_grown (g := gb499) (o := .cells #[.int .i64 t494, .slice Ao27 t495.length co27] 28 (0, 0)) (by (with_reducible repeat (first | refine blk_drewN ?_ _ | refine blk_drew ?_ | refine blk_alloc ?_ _)); exact BK499.out) hg (Kd.R_ne HO505.out BK499.out (by decide))); have n6_ := Aside0.mk (hb); have n7_ := Aside0.mk (ho); clear HO_11; clear HO_13; clear HO_500001; clear BK483; clear BK484; clear BK499; clear HB; clear HO505; have HO_11 := n0_; have HO_13 := n1_; have HO_500001 := n2_; have BK483 := n3_; have BK484 := n4_; have BK499 := n5_; have HB := n6_; have HO508 := n7_; clear n0_ n1_ n2_ n3_ n4_ n5_ n6_ n7_; clear ho hb hg hat; have hcz45_0 : w44.cell? ⟨gb483, 0, none⟩ = some (.slice A1_0 l1_0.length c1_0) := (blk_cell BK483.out 0).trans rfl; have hcz45_1 : w44.cell? ⟨gb483, 1, none⟩ = some (.slice A1_1 l1_1.length c1_1) := (blk_cell BK483.out 1).trans rfl; have hcz45_2 : w44.cell? ⟨gb483, 2, none⟩ = some (.slice A1_2 l1_2.length c1_2) := (blk_cell BK483.out 2).trans rfl; have hcz45_3 : w44.cell? ⟨gb483, 3, none⟩ = some (.slice A1_3 l1_3.length c1_3) := (blk_cell BK483.out 3).trans rfl; have hcz45_4 : w44.cell? ⟨gb483, 4, none⟩ = some (.string a1_4) := (blk_cell BK483.out 4).trans rfl; have hcz45_5 : w44.cell? ⟨gb483, 5, none⟩ = some (.bool a1_5) := (blk_cell BK483.out 5).trans rfl; have hcz45_6 : w44.cell? ⟨gb483, 6, none⟩ = some (.string a1_6) := (blk_cell BK483.out 6).trans rfl; have hfz45_0 := blk_frozen BK483.out 0; have hfz45_1 := blk_frozen BK483.out 1; have hfz45_2 := blk_frozen BK483.out 2; have hfz45_3 := blk_frozen BK483.out 3; have hfz45_4 := blk_frozen BK483.out 4; have hfz45_5 := blk_frozen BK483.out 5; have hfz45_6 := blk_frozen BK483.out 6) | ((with_reducible refine gate_builtin (b := .append) (xs := #[.tmp 68, .tmp 70]) rfl ?_); (try (refine gate_guard (by rfl) ?_; dsimp only)); at_builtin; refine Kd.R_append_rows Kd.string (w0 := w) w.heap.size rfl (.tmp 68) (.tmp 70) 23 9 (.string ⟨#[]⟩) 16 rfl Tryd.underlying23 info9 rfl (by decide) (by omega) v507 y506 l1_2 _ _ _ (fun k_ => some k_ ≠ (v491 : Value).ownBlock) (fun _ => False) rfl rfl ?aO ?aR (fun _ _ h => h) (fun _ h => h.elim) ?aF ?aB ?aS ?aL ?_; (case aR => repeat (first | exact (Kd.C_below HR1_2.out HB.out) | (with_reducible refine Kd.C_alloc ?_ _) | (with_reducible refine Kd.C_drewN ?_ _) | (with_reducible refine Kd.C_drew ?_))); (case aB => exact (by repeat (first | (with_reducible first | exact HB.out | apply below_alloc | apply pw_below_drewN | apply below_drew1 | refine below_set ?_ GE483.out | refine below_set ?_ GE484.out | refine below_set ?_ GE499.out) | exact HB.out))); (case aF => exact (fun k_ hk => Kd.fresh' (Kd.R_lt (by (with_reducible repeat (first | apply Kd.R_alloc | apply Kd.R_drewN | apply Kd.R_drew)); exact HO_13.out)) k_ hk)); (case aO => exact (by (with_reducible repeat (first | apply Kd.R_alloc | apply Kd.R_drewN | apply Kd.R_drew)); exact HO508.out)); (case aS => exact (below_size (by repeat (first | (with_reducible first | exact HB.out | apply below_alloc | apply pw_below_drewN | apply below_drew1 | refine below_set ?_ GE483.out | refine below_set ?_ GE484.out | refine below_set ?_ GE499.out) | exact HB.out)))); (case aL => have := LMc37.out; omega); intro v510 w46 ho hb hg hat; rw [← Ny509.out] at ho; have n0_ := Aside0.mk (Kd.R_over' (by (with_reducible repeat (first | apply Kd.R_alloc | apply Kd.R_drewN | apply Kd.R_drew)); exact HO_11.out) (Kd.R_typed (by (with_reducible repeat (first | apply Kd.R_alloc | apply Kd.R_drewN | apply Kd.R_drew)); exact HO508.out)) (by decide) hg); have n1_ := Aside0.mk (Kd.R_after (ok := (fun _ => True)) (by (with_reducible repeat (first | apply Kd.R_alloc | apply Kd.R_drewN | apply Kd.R_drew)); exact HO_13.out) hg hat); have n2_ := Aside0.mk (Kd.R_over' (by (with_reducible repeat (first | apply Kd.R_alloc | apply Kd.R_drewN | apply Kd.R_drew)); exact HO_500001.out) (Kd.R_typed (by (with_reducible repeat (first | apply Kd.R_alloc | apply Kd.R_drewN | apply Kd.R_drew)); exact HO508.out)) (by decide) hg); have n3_ := Aside0.mk (blk_grown (g := gb483) (o := .cells #[.slice A1_0 l1_0.length c1_0, .slice A1_1 l1_1.length c1_1, .slice A1_2 l1_2.length c1_2, .slice A1_3 l1_3.length c1_3, .string a1_4, .bool a1_5, .string a1_6] 25 (0, 0)) (by (with_reducible repeat (first | refine blk_drewN ?_ _ | refine blk_drew ?_ | refine blk_alloc ?_ _)); exact BK483.out) hg (Kd.R_ne HO508.out BK483.out (by decide))); have n4_ := Aside0.mk (blk_grown (g := gb484) (o := .cells #[.int .i64 a2_0, .slice A2_1 l2_1.length c2_1] 28 (0, 0)) (by (with_reducible repeat (first | refine blk_drewN ?_ _ | refine blk_drew ?_ | refine blk_alloc ?_ _)); exact BK484.out) hg (Kd.R_ne HO508.out BK484.out (by decide))); have n5_ := Aside0.mk (blk_grown (g := gb499) (o := .cells #[.int .i64 t494, .slice Ao27 t495.length co27] 28 (0, 0)) (by (with_reducible repeat (first | refine blk_drewN ?_ _ | refine blk_drew ?_ | refine blk_alloc ?_ _)); exact BK499.out) hg (Kd.R_ne HO508.out BK499.out (by decide))); have n6_ := Aside0.mk (hb); have n7_ := Aside0.mk (ho); clear HO_11; clear HO_13; clear HO_500001; clear BK483; clear BK484; clear BK499; clear HB; clear HO508; have HO_11 := n0_; have HO_13 := n1_; have HO_500001 := n2_; have BK483 := n3_; have BK484 := n4_; have BK499 := n5_; have HB := n6_; have HO511 := n7_; clear n0_ n1_ n2_ n3_ n4_ n5_ n6_ n7_; clear ho hb hg hat; obtain ⟨Ao48, co48, eo48⟩ := Kd.R_slice HO_13.out; subst eo48) | ((with_reducible refine gate_builtin (b := .append) (xs := #[.tmp 72, .tmp 73]) rfl ?_); (try (refine gate_guard (by rfl) ?_; dsimp only)); at_builtin; refine Kd.R_append_rows Kd.string (w0 := w) w.heap.size rfl (.tmp 72) (.tmp 73) 23 9 (.string ⟨#[]⟩) 16 rfl Tryd.underlying23 info9 rfl (by decide) (by omega) v510 y509 t490 _ _ _ (fun k_ => some k_ ≠ (.slice Ao48 t490.length co48 : Value).ownBlock) (fun _ => False) rfl rfl ?aO ?aR (fun _ _ h => h) (fun _ h => h.elim) ?aF ?aB ?aS ?aL ?_; (case aR => repeat (first | exact (Kd.R_reads' HO_13.out).2.2 | (with_reducible refine Kd.C_alloc ?_ _) | (with_reducible refine Kd.C_drewN ?_ _) | (with_reducible refine Kd.C_drew ?_))); (case aB => exact (by repeat (first | (with_reducible first | exact HB.out | apply below_alloc | apply pw_below_drewN | apply below_drew1 | refine below_set ?_ GE483.out | refine below_set ?_ GE484.out | refine below_set ?_ GE499.out) | exact HB.out))); (case aF => exact (fun k_ hk => Kd.fresh' (Kd.R_lt (by (with_reducible repeat (first | apply Kd.R_alloc | apply Kd.R_drewN | apply Kd.R_drew)); exact HO_13.out)) k_ hk)); (case aO => exact (by (with_reducible repeat (first | apply Kd.R_alloc | apply Kd.R_drewN | apply Kd.R_drew)); exact HO511.out)); (case aS => exact (below_size (by repeat (first | (with_reducible first | exact HB.out | apply below_alloc | apply pw_below_drewN | apply below_drew1 | refine below_set ?_ GE483.out | refine below_set ?_ GE484.out | refine below_set ?_ GE499.out) | exact HB.out)))); (case aL => have := LMc38.out; omega); intro v513 w47 ho hb hg hat; rw [← Ny512.out] at ho; have n0_ := Aside0.mk (Kd.R_over' (by (with_reducible repeat (first | apply Kd.R_alloc | apply Kd.R_drewN | apply Kd.R_drew)); exact HO_11.out) (Kd.R_typed (by (with_reducible repeat (first | apply Kd.R_alloc | apply Kd.R_drewN | apply Kd.R_drew)); exact HO511.out)) (by decide) hg); have n1_ := Aside0.mk (Kd.R_after (ok := (fun _ => True)) (by (with_reducible repeat (first | apply Kd.R_alloc | apply Kd.R_drewN | apply Kd.R_drew)); exact HO_13.out) hg hat); have n2_ := Aside0.mk (Kd.R_over' (by (with_reducible repeat (first | apply Kd.R_alloc | apply Kd.R_drewN | apply Kd.R_drew)); exact HO_500001.out) (Kd.R_typed (by (with_reducible repeat (first | apply Kd.R_alloc | apply Kd.R_drewN | apply Kd.R_drew)); exact HO511.out)) (by decide) hg); have n3_ := Aside0.mk (blk_grown (g := gb483) (o := .cells #[.slice A1_0 l1_0.length c1_0, .slice A1_1 l1_1.length c1_1, .slice A1_2 l1_2.length c1_2, .slice A1_3 l1_3.length c1_3, .string a1_4, .bool a1_5, .string a1_6] 25 (0, 0)) (by (with_reducible repeat (first | refine blk_drewN ?_ _ | refine blk_drew ?_ | refine blk_alloc ?_ _)); exact BK483.out) hg (Kd.R_ne HO511.out BK483.out (by decide))); have n4_ := Aside0.mk (blk_grown (g := gb484) (o := .cells #[.int .i64 a2_0, .slice A2_1 l2_1.length c2_1] 28 (0, 0)) (by (with_reducible repeat (first | refine blk_drewN ?_ _ | refine blk_drew ?_ | refine blk_alloc ?_ _)); exact BK484.out) hg (Kd.R_ne HO511.out BK484.out (by decide))); have n5_ := Aside0.mk (blk_grown (g := gb499) (o := .cells #[.int .i64 t494, .slice Ao27 t495.length co27] 28 (0, 0)) (by (with_reducible repeat (first | refine blk_drewN ?_ _ | refine blk_drew ?_ | refine blk_alloc ?_ _)); exact BK499.out) hg (Kd.R_ne HO511.out BK499.out (by decide))); have n6_ := Aside0.mk (hb); have n7_ := Aside0.mk (ho); clear HO_11; clear HO_13; clear HO_500001; clear BK483; clear BK484; clear BK499; clear HB; clear HO511; have HO_11 := n0_; have HO_13 := n1_; have HO_500001 := n2_; have BK483 := n3_; have BK484 := n4_; have BK499 := n5_; have HB := n6_; have HO514 := n7_; clear n0_ n1_ n2_ n3_ n4_ n5_ n6_ n7_; clear ho hb hg hat))
        go_loopg [18] kj10 (fun kq v18 w' => ∃ (x18_2 : Int), v18 = .int .i64 x18_2 ∧ Aside0 (cruciblelaw18_CommandReads.l0 kq l0 a3 t486 y512 x18_2 l1_0 l1_1 l1_2 l1_3 a1_4 a1_5 a1_6 t494 t495 = some r) ∧ Aside0 (kq ≤ kj10) ∧ Aside0 (Kd.R (Kd.int .i64) 3 w' w.heap.size (fun _ => True) v487 t486) ∧ Aside0 (Kd.R Kd.string 9 w' w.heap.size (fun _ => True) v513 y512) ∧ Aside0 (Kd.R k72 72 w' w.heap.size (fun _ => True) (.slice Ao27 t495.length co27) t495) ∧ Aside0 (w'.heap[gb483]? = some (.cells #[(.slice A1_0 l1_0.length c1_0), (.slice A1_1 l1_1.length c1_1), (.slice A1_2 l1_2.length c1_2), (.slice A1_3 l1_3.length c1_3), .string a1_4, .bool a1_5, .string a1_6] 25 (0, 0))) ∧ Aside0 (w'.heap[gb484]? = some (.cells #[.int .i64 a2_0, (.slice A2_1 l2_1.length c2_1)] 28 (0, 0))) ∧ Aside0 (w'.heap[gb499]? = some (.cells #[.int .i64 t494, (.slice Ao27 t495.length co27)] 28 (0, 0))) ∧ Aside0 (Below w.heap.size w w'))
        case atStart => exact ⟨(0), (by first | rfl | (simp; done) | (simp [*]; done)), H', ⟨Nat.le_refl _⟩, ⟨by (with_reducible repeat (first | apply Kd.R_alloc | apply Kd.R_drewN | apply Kd.R_drew)); first | exact HO_11.out | exact own_len HO_11.out⟩, ⟨by (with_reducible repeat (first | apply Kd.R_alloc | apply Kd.R_drewN | apply Kd.R_drew)); exact Kd.R_mono HO514.out (fun _ hk => trivial)⟩, ⟨by (with_reducible repeat (first | apply Kd.R_alloc | apply Kd.R_drewN | apply Kd.R_drew)); first | exact HO_500001.out | exact own_len HO_500001.out⟩, ⟨by (with_reducible repeat (first | refine blk_drewN ?_ _ | refine blk_drew ?_ | refine blk_alloc ?_ _)); exact BK483.out⟩, ⟨by (with_reducible repeat (first | refine blk_drewN ?_ _ | refine blk_drew ?_ | refine blk_alloc ?_ _)); exact BK484.out⟩, ⟨by (with_reducible repeat (first | refine blk_drewN ?_ _ | refine blk_drew ?_ | refine blk_alloc ?_ _)); exact BK499.out⟩, ⟨by repeat (first | (with_reducible first | exact HB.out | apply below_alloc | apply pw_below_drewN | apply below_drew1 | refine below_set ?_ GE483.out | refine below_set ?_ GE484.out | refine below_set ?_ GE499.out) | exact HB.out)⟩⟩
        case round =>
         clear H'
         try clear c1
         try clear c2
         try clear p2
         try clear c3
         try clear c4
         try clear c5
         try clear c7
         try clear c15
         try clear c20
         try clear c22
         try clear c24
         try clear c25
         try clear c29
         try clear c29b0
         try clear c29b1
         try clear c29b2
         try clear c31
         try clear c31b0
         try clear c31b1
         try clear c32
         try clear c34
         try clear c34b0
         try clear c34b1
         try clear c35
         try clear c36
         try clear c37
         try clear c38
         try clear c41
         try clear c42
         try clear hcz16_0
         try clear hcz16_1
         try clear hcz16_2
         try clear hcz16_3
         try clear hcz16_4
         try clear hcz16_5
         try clear hcz16_6
         try clear hcz17_0
         try clear hcz17_1
         try clear hcz19_0
         try clear hcz19_1
         try clear hcz19_2
         try clear hcz19_3
         try clear hcz19_4
         try clear hcz19_5
         try clear hcz19_6
         try clear hcz21_0
         try clear hcz21_1
         try clear hcz26_0
         try clear hcz26_1
         try clear hcz43_0
         try clear hcz43_1
         try clear hcz43_2
         try clear hcz43_3
         try clear hcz43_4
         try clear hcz43_5
         try clear hcz43_6
         try clear hcz45_0
         try clear hcz45_1
         try clear hcz45_2
         try clear hcz45_3
         try clear hcz45_4
         try clear hcz45_5
         try clear hcz45_6
         try clear hfz16_0
         try clear hfz16_1
         try clear hfz16_2
         try clear hfz16_3
         try clear hfz16_4
         try clear hfz16_5
         try clear hfz16_6
         try clear hfz17_0
         try clear hfz17_1
         try clear hfz19_0
         try clear hfz19_1
         try clear hfz19_2
         try clear hfz19_3
         try clear hfz19_4
         try clear hfz19_5
         try clear hfz19_6
         try clear hfz21_0
         try clear hfz21_1
         try clear hfz26_0
         try clear hfz26_1
         try clear hfz43_0
         try clear hfz43_1
         try clear hfz43_2
         try clear hfz43_3
         try clear hfz43_4
         try clear hfz43_5
         try clear hfz43_6
         try clear hfz45_0
         try clear hfz45_1
         try clear hfz45_2
         try clear hfz45_3
         try clear hfz45_4
         try clear hfz45_5
         try clear hfz45_6
         try clear p2
         obtain ⟨x18_2, rfl, HA, HK2, HO_11, HO_17, HO_500001, BK483, BK484, BK499, HB⟩ := hrel
         cases gk with
         | zero => exact absurd HA.out (by simp [cruciblelaw18_CommandReads.l0])
         | succ k2 =>
          have H := HA.out
          clear HA
          simp only [cruciblelaw18_CommandReads.l0] at H
          by_cases c49 : x18_2 < (y512.length : Int)
          ·
           rw [if_pos c49] at H
           have c49b0 : decide (x18_2 < (y512.length : Int)) = true := decide_eq_true c49
           clear c49
           by_cases c50 : 0 ≤ x18_2
           ·
            rw [if_pos c50] at H
            have c50b0 : decide (0 ≤ x18_2) = true := decide_eq_true c50
            clear c50
            by_cases c51 : (rdOf ByteArray.empty y512 x18_2).toList = a3.toList
            ·
             rw [if_pos c51] at H
             have c51b0 : ((rdOf ByteArray.empty y512 x18_2).toList == a3.toList) = true := beq_iff_eq.mpr c51
             have c51b1 : ((rdOf ByteArray.empty y512 x18_2).toList != a3.toList) = false := bne_eq_false_iff_eq.mpr c51
             clear c51
             obtain rfl := Option.some.inj H
             obtain ⟨Ao52, co52, eo52⟩ := Kd.R_slice HO_17.out
             subst eo52
             have p515 : 0 ≤ (x18_2 : Int) := of_decide_eq_true (by first | (with_reducible assumption) | assumption)
             have q515 : x18_2 < (y512.length : Int) := of_decide_eq_true (by first | (with_reducible assumption) | assumption)
             obtain ⟨ad515, e515, hx515_0⟩ := Kd.at_string (Kd.R_reads' HO_17.out).2.2 x18_2 p515 q515
             cases e515
             replace p515 := eq_true p515
             replace q515 := eq_true q515
             obtain ⟨Ao53, co53, eo53⟩ := Kd.R_slice HO_11.out
             subst eo53
             have hnb54 := NB483_484.out
             have hnc54 := NB484_483.out
             have hnb55 := NB483_499.out
             have hnc55 := NB499_483.out
             have hcz56_0 : wr.cell? ⟨gb483, 0, none⟩ = some (.slice A1_0 l1_0.length c1_0) := (blk_cell BK483.out 0).trans rfl
             have hcz56_1 : wr.cell? ⟨gb483, 1, none⟩ = some (.slice A1_1 l1_1.length c1_1) := (blk_cell BK483.out 1).trans rfl
             have hcz56_2 : wr.cell? ⟨gb483, 2, none⟩ = some (.slice A1_2 l1_2.length c1_2) := (blk_cell BK483.out 2).trans rfl
             have hcz56_3 : wr.cell? ⟨gb483, 3, none⟩ = some (.slice A1_3 l1_3.length c1_3) := (blk_cell BK483.out 3).trans rfl
             have hcz56_4 : wr.cell? ⟨gb483, 4, none⟩ = some (.string a1_4) := (blk_cell BK483.out 4).trans rfl
             have hcz56_5 : wr.cell? ⟨gb483, 5, none⟩ = some (.bool a1_5) := (blk_cell BK483.out 5).trans rfl
             have hcz56_6 : wr.cell? ⟨gb483, 6, none⟩ = some (.string a1_6) := (blk_cell BK483.out 6).trans rfl
             have hfz56_0 := blk_frozen BK483.out 0
             have hfz56_1 := blk_frozen BK483.out 1
             have hfz56_2 := blk_frozen BK483.out 2
             have hfz56_3 := blk_frozen BK483.out 3
             have hfz56_4 := blk_frozen BK483.out 4
             have hfz56_5 := blk_frozen BK483.out 5
             have hfz56_6 := blk_frozen BK483.out 6
             go_wp2
             go_ret
             exact ⟨by first | rfl | (simp [errW_none, errW_some] <;> rfl) | (simp [*, errW_none, errW_some] <;> rfl), by repeat (first | (with_reducible first | exact HB.out | apply below_alloc | apply pw_below_drewN | apply below_drew1 | refine below_set ?_ GE483.out | refine below_set ?_ GE484.out | refine below_set ?_ GE499.out) | exact HB.out)⟩
            ·
             rw [if_neg c51] at H
             have c51b0 : ((rdOf ByteArray.empty y512 x18_2).toList == a3.toList) = false := beq_eq_false_iff_ne.mpr c51
             have c51b1 : ((rdOf ByteArray.empty y512 x18_2).toList != a3.toList) = true := bne_iff_ne.mpr c51
             have H' := Aside0.mk H
             clear H
             obtain ⟨Ao57, co57, eo57⟩ := Kd.R_slice HO_17.out
             subst eo57
             have p515 : 0 ≤ (x18_2 : Int) := of_decide_eq_true (by first | (with_reducible assumption) | assumption)
             have q515 : x18_2 < (y512.length : Int) := of_decide_eq_true (by first | (with_reducible assumption) | assumption)
             obtain ⟨ad515, e515, hx515_0⟩ := Kd.at_string (Kd.R_reads' HO_17.out).2.2 x18_2 p515 q515
             cases e515
             replace p515 := eq_true p515
             replace q515 := eq_true q515
             go_wp2
             go_roundg k2
             case measure => have := HJ10.out; have := HK2.out; omega
             case rel => exact ⟨(wrap64 (x18_2 + 1)), (by first | rfl | (simp; done) | (simp [*]; done)), H', ⟨by have := HJ10.out; have := HK2.out; omega⟩, ⟨by (with_reducible repeat (first | apply Kd.R_alloc | apply Kd.R_drewN | apply Kd.R_drew)); first | exact HO_11.out | exact own_len HO_11.out⟩, ⟨by (with_reducible repeat (first | apply Kd.R_alloc | apply Kd.R_drewN | apply Kd.R_drew)); first | exact HO_17.out | exact own_len HO_17.out⟩, ⟨by (with_reducible repeat (first | apply Kd.R_alloc | apply Kd.R_drewN | apply Kd.R_drew)); first | exact HO_500001.out | exact own_len HO_500001.out⟩, ⟨by (with_reducible repeat (first | refine blk_drewN ?_ _ | refine blk_drew ?_ | refine blk_alloc ?_ _)); exact BK483.out⟩, ⟨by (with_reducible repeat (first | refine blk_drewN ?_ _ | refine blk_drew ?_ | refine blk_alloc ?_ _)); exact BK484.out⟩, ⟨by (with_reducible repeat (first | refine blk_drewN ?_ _ | refine blk_drew ?_ | refine blk_alloc ?_ _)); exact BK499.out⟩, ⟨by repeat (first | (with_reducible first | exact HB.out | apply below_alloc | apply pw_below_drewN | apply below_drew1 | refine below_set ?_ GE483.out | refine below_set ?_ GE484.out | refine below_set ?_ GE499.out) | exact HB.out)⟩⟩
           ·
            rw [if_neg c50] at H
            exact absurd H (by simp)
          ·
           rw [if_neg c49] at H
           have c49b0 : decide (x18_2 < (y512.length : Int)) = false := decide_eq_false c49
           clear c49
           replace H := Option.bind_eq_some_iff.mp H
           obtain ⟨⟨t516, t519⟩, A580, H⟩ := H
           replace H : ((cruciblelaw0_Num.f t519).bind fun t520 => (if t520 = 0 then ((cruciblelaw0_SameInts.f k2 t486 t516).bind fun t521 => (if t521 = true then (some ((t486.length : Int) == (l1_0.length : Int))) else (none))) else (none))) = some r := H
           have A58 := Aside0.mk A580
           clear A580
           replace H := Option.bind_eq_some_iff.mp H
           obtain ⟨t520, A590, H⟩ := H
           replace H : (if t520 = 0 then ((cruciblelaw0_SameInts.f k2 t486 t516).bind fun t521 => (if t521 = true then (some ((t486.length : Int) == (l1_0.length : Int))) else (none))) else (none)) = some r := H
           have A59 := Aside0.mk A590
           clear A590
           by_cases c60 : t520 = 0
           ·
            rw [if_pos c60] at H
            have c60b0 : (t520 == 0) = true := beq_iff_eq.mpr c60
            have c60b1 : (t520 != 0) = false := bne_eq_false_iff_eq.mpr c60
            clear c60
            replace H := Option.bind_eq_some_iff.mp H
            obtain ⟨t521, A610, H⟩ := H
            replace H : (if t521 = true then (some ((t486.length : Int) == (l1_0.length : Int))) else (none)) = some r := H
            have A61 := Aside0.mk A610
            clear A610
            by_cases c62 : t521 = true
            ·
             subst c62
             have H1 : (some ((t486.length : Int) == (l1_0.length : Int))) = some r := by rw [if_pos rfl] at H; exact H
             clear H
             have H := H1
             clear H1
             obtain rfl := Option.some.inj H
             obtain ⟨Ao63, co63, eo63⟩ := Kd.R_slice HO_17.out
             subst eo63
             have hnb64 := NB483_484.out
             have hnc64 := NB484_483.out
             have hnb65 := NB483_499.out
             have hnc65 := NB499_483.out
             have hcz66_0 : wr.cell? ⟨gb483, 0, none⟩ = some (.slice A1_0 l1_0.length c1_0) := (blk_cell BK483.out 0).trans rfl
             have hcz66_1 : wr.cell? ⟨gb483, 1, none⟩ = some (.slice A1_1 l1_1.length c1_1) := (blk_cell BK483.out 1).trans rfl
             have hcz66_2 : wr.cell? ⟨gb483, 2, none⟩ = some (.slice A1_2 l1_2.length c1_2) := (blk_cell BK483.out 2).trans rfl
             have hcz66_3 : wr.cell? ⟨gb483, 3, none⟩ = some (.slice A1_3 l1_3.length c1_3) := (blk_cell BK483.out 3).trans rfl
             have hcz66_4 : wr.cell? ⟨gb483, 4, none⟩ = some (.string a1_4) := (blk_cell BK483.out 4).trans rfl
             have hcz66_5 : wr.cell? ⟨gb483, 5, none⟩ = some (.bool a1_5) := (blk_cell BK483.out 5).trans rfl
             have hcz66_6 : wr.cell? ⟨gb483, 6, none⟩ = some (.string a1_6) := (blk_cell BK483.out 6).trans rfl
             have hfz66_0 := blk_frozen BK483.out 0
             have hfz66_1 := blk_frozen BK483.out 1
             have hfz66_2 := blk_frozen BK483.out 2
             have hfz66_3 := blk_frozen BK483.out 3
             have hfz66_4 := blk_frozen BK483.out 4
             have hfz66_5 := blk_frozen BK483.out 5
             have hfz66_6 := blk_frozen BK483.out 6
             have hnb67 := NB499_484.out
             have hnc67 := NB484_499.out
             have hcz68_0 : wr.cell? ⟨gb499, 0, none⟩ = some (.int .i64 t494) := (blk_cell BK499.out 0).trans rfl
             have hcz68_1 : wr.cell? ⟨gb499, 1, none⟩ = some (.slice Ao27 t495.length co27) := (blk_cell BK499.out 1).trans rfl
             have hfz68_0 := blk_frozen BK499.out 0
             have hfz68_1 := blk_frozen BK499.out 1
             (try clear BK484)
             (try clear BK499)
             (try clear HO_17)
             go_wp2_with (first | ((with_reducible refine gate_callee (f := 22) rfl ?_); refine goesL_ (some 97) rfl rfl Tryd.func22 (by kernel_rfl) rfl #[.slice A0 l0.length c0, .agg #[.slice A1_0 l1_0.length c1_0, .slice A1_1 l1_1.length c1_1, .slice A1_2 l1_2.length c1_2, .slice A1_3 l1_3.length c1_3, .string a1_4, .bool a1_5, .string a1_6], .agg #[.int .i64 t494, .slice Ao27 t495.length co27]] rfl (by (try simp only [List.map_toArray, List.map_cons, List.map_nil]); first | done | rfl | (simp only [List.length_drop, List.length_take]; rfl)) ?_; (with_reducible refine (command_Run.calls k2 _ _ l0 _ _ l1_0 _ _ l1_1 _ _ l1_2 _ _ l1_3 a1_4 a1_5 a1_6 t494 _ _ t495 t516 t519 _ ?side1 ?side2 ?side3 ?side4 ?side5 ?side6 ?side7 ?side8 ?side9 ?side10 ?side11 ?side12 A58.out).mono ?_); (case side1 => repeat (first | exact (Kd.C_below HR0.out HB.out) | (with_reducible refine Kd.C_alloc ?_ _) | (with_reducible refine Kd.C_drewN ?_ _) | (with_reducible refine Kd.C_drew ?_))); (case side2 => exact HC0.out); (case side3 => repeat (first | exact (Kd.C_below HR1_0.out HB.out) | (with_reducible refine Kd.C_alloc ?_ _) | (with_reducible refine Kd.C_drewN ?_ _) | (with_reducible refine Kd.C_drew ?_))); (case side4 => exact HC1_0.out); (case side5 => repeat (first | exact (Kd.C_below HR1_1.out HB.out) | (with_reducible refine Kd.C_alloc ?_ _) | (with_reducible refine Kd.C_drewN ?_ _) | (with_reducible refine Kd.C_drew ?_))); (case side6 => exact HC1_1.out); (case side7 => repeat (first | exact (Kd.C_below HR1_2.out HB.out) | (with_reducible refine Kd.C_alloc ?_ _) | (with_reducible refine Kd.C_drewN ?_ _) | (with_reducible refine Kd.C_drew ?_))); (case side8 => exact HC1_2.out); (case side9 => repeat (first | exact (Kd.C_below HR1_3.out HB.out) | (with_reducible refine Kd.C_alloc ?_ _) | (with_reducible refine Kd.C_drewN ?_ _) | (with_reducible refine Kd.C_drew ?_))); (case side10 => exact HC1_3.out); (case side11 => repeat (first | exact (Kd.R_reads' HO_500001.out).2.2 | (with_reducible refine Kd.C_alloc ?_ _) | (with_reducible refine Kd.C_drewN ?_ _) | (with_reducible refine Kd.C_drew ?_))); (case side12 => exact (Kd.R_reads' HO_500001.out).2.1); rintro e w69 ⟨v517, rfl, ho0, hb⟩; refine ⟨_, rfl, ?_⟩; have n0_ := Aside0.mk (Kd.R_elder' (by (with_reducible repeat (first | apply Kd.R_alloc | apply Kd.R_drewN | apply Kd.R_drew)); exact HO_11.out) (Kd.R_base ho0) hb); have n1_ := Aside0.mk (Kd.R_below (by (with_reducible repeat (first | apply Kd.R_alloc | apply Kd.R_drewN | apply Kd.R_drew)); exact HO_500001.out) hb); have n2_ := Aside0.mk (Kd.R_lower (Kd.R_new' ho0 (Kd.R_lt (by (with_reducible repeat (first | apply Kd.R_alloc | apply Kd.R_drewN | apply Kd.R_drew)); exact HO_11.out))) (below_size (by repeat (first | (with_reducible first | exact HB.out | apply below_alloc | apply pw_below_drewN | apply below_drew1 | refine below_set ?_ GE483.out) | exact HB.out)))); have n3_ := Aside0.mk (blk_below (g := gb483) (o := .cells #[.slice A1_0 l1_0.length c1_0, .slice A1_1 l1_1.length c1_1, .slice A1_2 l1_2.length c1_2, .slice A1_3 l1_3.length c1_3, .string a1_4, .bool a1_5, .string a1_6] 25 (0, 0)) (by (with_reducible repeat (first | refine blk_drewN ?_ _ | refine blk_drew ?_ | refine blk_alloc ?_ _)); exact BK483.out) hb); have n4_ := Aside0.mk (below_step (by repeat (first | (with_reducible first | exact HB.out | apply below_alloc | apply pw_below_drewN | apply below_drew1 | refine below_set ?_ GE483.out) | exact HB.out)) hb); clear HO_11; clear HO_500001; clear BK483; clear HB; have HO_11 := n0_; have HO_500001 := n1_; have HO518 := n2_; have BK483 := n3_; have HB := n4_; clear n0_ n1_ n2_ n3_ n4_; (try clear hb); (try clear hb2); (try clear hk); (try clear hi); (try clear ho0); (try clear HO_500001)) | ((with_reducible refine gate_callee (f := 25) rfl ?_); refine goesL_ (some 101) rfl rfl Tryd.func25 (by kernel_rfl) rfl #[.int .i64 t519] rfl (by (try simp only [List.map_toArray, List.map_cons, List.map_nil]); first | done | rfl | (simp only [List.length_drop, List.length_take]; rfl)) ?_; (with_reducible refine (cruciblelaw0_Num.calls t519 t520 _ A59.out).mono ?_); rintro e w' ⟨rfl, ⟨nd, rfl⟩⟩; refine ⟨_, rfl, ?_⟩; obtain ⟨Ao70, co70, eo70⟩ := Kd.R_slice HO_11.out; subst eo70; obtain ⟨Ao71, co71, eo71⟩ := Kd.R_slice HO518.out; subst eo71) | (go_at_call 26; (with_reducible refine (cruciblelaw0_SameInts.calls k2 _ _ t486 _ _ t516 true _ ?side1 ?side2 ?side3 ?side4 A61.out).mono ?_); (case side1 => repeat (first | exact (Kd.R_reads' HO_11.out).2.2 | (with_reducible refine Kd.C_alloc ?_ _) | (with_reducible refine Kd.C_drewN ?_ _) | (with_reducible refine Kd.C_drew ?_))); (case side2 => exact (Kd.R_reads' HO_11.out).2.1); (case side3 => repeat (first | exact (Kd.R_reads' HO518.out).2.2 | (with_reducible refine Kd.C_alloc ?_ _) | (with_reducible refine Kd.C_drewN ?_ _) | (with_reducible refine Kd.C_drew ?_))); (case side4 => exact (Kd.R_reads' HO518.out).2.1); rintro e w' ⟨rfl, ⟨nd, rfl⟩⟩; have hcz72_0 : w69.cell? ⟨gb483, 0, none⟩ = some (.slice A1_0 l1_0.length c1_0) := (blk_cell BK483.out 0).trans rfl; have hcz72_1 : w69.cell? ⟨gb483, 1, none⟩ = some (.slice A1_1 l1_1.length c1_1) := (blk_cell BK483.out 1).trans rfl; have hcz72_2 : w69.cell? ⟨gb483, 2, none⟩ = some (.slice A1_2 l1_2.length c1_2) := (blk_cell BK483.out 2).trans rfl; have hcz72_3 : w69.cell? ⟨gb483, 3, none⟩ = some (.slice A1_3 l1_3.length c1_3) := (blk_cell BK483.out 3).trans rfl; have hcz72_4 : w69.cell? ⟨gb483, 4, none⟩ = some (.string a1_4) := (blk_cell BK483.out 4).trans rfl; have hcz72_5 : w69.cell? ⟨gb483, 5, none⟩ = some (.bool a1_5) := (blk_cell BK483.out 5).trans rfl; have hcz72_6 : w69.cell? ⟨gb483, 6, none⟩ = some (.string a1_6) := (blk_cell BK483.out 6).trans rfl; have hfz72_0 := blk_frozen BK483.out 0; have hfz72_1 := blk_frozen BK483.out 1; have hfz72_2 := blk_frozen BK483.out 2; have hfz72_3 := blk_frozen BK483.out 3; have hfz72_4 := blk_frozen BK483.out 4; have hfz72_5 := blk_frozen BK483.out 5; have hfz72_6 := blk_frozen BK483.out 6))
             go_ret
             exact ⟨by first | rfl | (simp [errW_none, errW_some] <;> rfl) | (simp [*, errW_none, errW_some] <;> rfl), by repeat (first | (with_reducible first | exact HB.out | apply below_alloc | apply pw_below_drewN | apply below_drew1 | refine below_set ?_ GE483.out) | exact HB.out)⟩
            ·
             replace c62 := Bool.eq_false_iff.mpr c62
             subst c62
             have H1 : (none) = some r := by rw [if_neg (show ¬ (false = true) by decide)] at H; exact H
             clear H
             have H := H1
             clear H1
             exact absurd H (by simp)
           ·
            rw [if_neg c60] at H
            exact absurd H (by simp)
       ·
        rw [if_neg c38] at H
        exact absurd H (by simp)
      ·
       rw [if_neg c37] at H
       exact absurd H (by simp)
     ·
      rw [if_neg c36] at H
      exact absurd H (by simp)
 ·
  replace c7 := Bool.eq_false_iff.mpr c7
  subst c7
  have H1 : (none) = some r := by rw [if_neg (show ¬ (false = true) by decide)] at H; exact H
  clear H
  have H := H1
  clear H1
  exact absurd H (by simp)

end Go.Proofs.YtilnamobmjngbaaDoor.P
