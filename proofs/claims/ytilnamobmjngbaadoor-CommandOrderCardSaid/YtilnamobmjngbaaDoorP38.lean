-- Made by a program of this work's own (wip/myprint.py) over the kit's print; leaves by hand.
import Derived.Test.YtilnamobmjngbaaDoorP0
import Derived.Test.YtilnamobmjngbaaDoorWTab
import Derived.Test.YtilnamobmjngbaaDoorWRepsOne
import Derived.Test.YtilnamobmjngbaaDoorWGuard
import Derived.Test.YtilnamobmjngbaaDoorP22
import Derived.Test.YtilnamobmjngbaaDoorP24
import Derived.Test.YtilnamobmjngbaaDoorP27
import Derived.Test.YtilnamobmjngbaaDoorP32
import Derived.Test.YtilnamobmjngbaaDoorP37
namespace Go.Proofs.YtilnamobmjngbaaDoor.P
open Go.RowKit Go.Proofs.YtilnamobmjngbaaDoorW.PrintWords Go.Proofs.YtilnamobmjngbaaDoorW.PrintLast Go.Proofs.YtilnamobmjngbaaDoorW.PrintMore
attribute [local go_sem] max2_int min2_int max_two min_two max_three min_three max_four min_four   -- for this text's walks alone
set_option linter.unusedVariables false
set_option linter.unusedSimpArgs false

/-! ### cruciblelaw18_CommandOrder: function 7 -/
def cruciblelaw18_CommandOrder.f (k : Nat) (a0 : Int) (a1 : Int) (a2 : ByteArray) : Option (Bool) := (cruciblelaw18_awake.f).bind fun t544 => (if t544 = true then ((cruciblelaw18_plain.f k a2).bind fun t545 => (if t545 = true then ((some (([(⟨(⟨#[112]⟩ : ByteArray), Go.bits .and .i64 a0 65535, 1⟩ : S72), (⟨(⟨#[113]⟩ : ByteArray), Go.bits .and .i64 a1 65535, 2⟩ : S72)] : List (S72)) : List (S72))).bind fun y546 => ((command_Run.f k ([] : List (S33)) (([(⟨#[111]⟩ : ByteArray)] : List ByteArray)) (([(⟨#[112]⟩ : ByteArray), (⟨#[113]⟩ : ByteArray)] : List ByteArray)) ([] : List ByteArray) ([] : List ByteArray) a2 false (⟨#[]⟩ : ByteArray) 2 y546).bind fun bt556 => ((command_Run.f k ([] : List (S33)) (([(⟨#[111]⟩ : ByteArray)] : List ByteArray)) (([(⟨#[113]⟩ : ByteArray)] : List ByteArray)) (([(⟨#[112]⟩ : ByteArray)] : List ByteArray)) ([] : List ByteArray) a2 false (⟨#[]⟩ : ByteArray) 2 y546).bind fun bt569 => ((command_Run.f k ([] : List (S33)) (([(⟨#[111]⟩ : ByteArray)] : List ByteArray)) (([(⟨#[112]⟩ : ByteArray)] : List ByteArray)) (([(⟨#[113]⟩ : ByteArray)] : List ByteArray)) (([(⟨#[110, 111, 110, 101]⟩ : ByteArray)] : List ByteArray)) a2 false (⟨#[]⟩ : ByteArray) 2 y546).bind fun bt585 => ((cruciblelaw0_Num.f bt556.2).bind fun t589 => (if t589 = 0 then ((cruciblelaw0_Num.f bt569.2).bind fun t590 => (if t590 = 0 then ((cruciblelaw0_Num.f bt585.2).bind fun t591 => (if t591 = 0 then (if (bt556.1.length : Int) = 1 then (if (bt569.1.length : Int) = 1 then (if (bt585.1.length : Int) = 1 then (if 0 < (bt556.1.length : Int) then (if 0 < (bt585.1.length : Int) then (if (rd bt556.1 0) = (rd bt585.1 0) then (if 0 < (bt569.1.length : Int) then (if (((rd bt556.1 0) == (rd bt569.1 0)) == ((Go.bits .and .i64 a0 65535) == (Go.bits .and .i64 a1 65535))) = true then ((crucibleref12_DiskMay.f k 2 y546).bind fun t596 => (some t596)) else (none)) else (none)) else (none)) else (none)) else (none)) else (none)) else (none)) else (none)) else (none))) else (none))) else (none))))))) else (some true))) else (none))
theorem cruciblelaw18_CommandOrder.mono : ∀ a0 a1 a2 k, LeO (cruciblelaw18_CommandOrder.f k a0 a1 a2) (cruciblelaw18_CommandOrder.f (k + 1) a0 a1 a2) := by
 intro a0 a1 a2 k
 unfold cruciblelaw18_CommandOrder.f
 repeat' first
   | (with_reducible exact command_Run.mono _ _ _ _ _ _ _ _ _ _ _)
   | (with_reducible exact cruciblelaw18_plain.mono _ _)
   | (with_reducible exact crucibleref12_DiskMay.mono _ _ _)
   | (with_reducible exact LeO.refl _)
   | (with_reducible exact LeO.none _)
   | (with_reducible refine LeO.ite ?_ ?_)
   | (with_reducible refine LeO.bind ?_ (fun _ => ?_))
   | exact command_Run.mono _ _ _ _ _ _ _ _ _ _ _
   | exact cruciblelaw18_plain.mono _ _
   | exact crucibleref12_DiskMay.mono _ _ _
   | exact LeO.none _
   | refine LeO.ite ?_ ?_
   | refine LeO.bind ?_ (fun _ => ?_)
def cruciblelaw18_CommandOrder.T12 : Bool × List (List Nat × List Nat) := (true, [([], []), ([0], [0]), ([1], [1]), ([], []), ([3], [3]), ([4], [4]), ([2, 5], [2, 5]), ([6], [6]), ([7], [7]), ([8, 7], [7, 8]), ([9, 7], [7, 9]), ([7], [7]), ([11, 7], [7, 11]), ([12, 7], [7, 12]), ([10, 13, 7], [7, 10, 13]), ([7], [7]), ([7], [7]), ([15, 16, 7], [7, 15, 16]), ([14, 17, 7], [7, 14, 17]), ([7, 18], [7, 18]), ([19, 7], [19]), ([20], [20]), ([21, 20, 20], [20, 21]), ([20, 22], [20, 22]), ([23, 22, 0, 1, 2, 3, 4, 5, 6, 7, 8, 9, 10, 11, 12, 13, 14, 15, 16, 17, 18, 19, 20, 21, 22, 23], [23])])
def cruciblelaw18_CommandOrder.B12 : List Nat := [0, 1, 3, 0, 8, 24, 63, 127, 255, 511, 1023, 255, 2303, 6399, 16383, 255, 255, 98559, 262143, 524287, 1048575, 2097151, 4194303, 8388607, 16777215]
theorem cruciblelaw18_CommandOrder.tab12 : rtab .any (opsOf Tryd.f7 12) = cruciblelaw18_CommandOrder.T12 := by kernel_rfl
theorem cruciblelaw18_CommandOrder.bits12 : waitsOk cruciblelaw18_CommandOrder.T12.2 cruciblelaw18_CommandOrder.B12 = true := by kernel_rfl
set_option maxHeartbeats 8000000 in
set_option maxRecDepth 100000 in
theorem cruciblelaw18_CommandOrder.calls (k : Nat) (a0 : Int) (a1 : Int) (a2 : ByteArray) (r : Bool) (w : World) (h : cruciblelaw18_CommandOrder.f k a0 a1 a2 = some r) :
  Calls Tryd.prog 7 #[.int .i64 a0, .int .i64 a1, .string a2] w fun e w' => e = .returned (.bool r) ∧ Below w.heap.size w w' := by
 have hu72 := Tryd.underlying72
 have hu28 := Tryd.underlying28
 have hu25 := Tryd.underlying25
 have HB := Aside0.mk (Below.refl w.heap.size w)
 have H : ((cruciblelaw18_awake.f).bind fun t544 => (if t544 = true then ((cruciblelaw18_plain.f k a2).bind fun t545 => (if t545 = true then ((some (([(⟨(⟨#[112]⟩ : ByteArray), Go.bits .and .i64 a0 65535, 1⟩ : S72), (⟨(⟨#[113]⟩ : ByteArray), Go.bits .and .i64 a1 65535, 2⟩ : S72)] : List (S72)) : List (S72))).bind fun y546 => ((command_Run.f k ([] : List (S33)) (([(⟨#[111]⟩ : ByteArray)] : List ByteArray)) (([(⟨#[112]⟩ : ByteArray), (⟨#[113]⟩ : ByteArray)] : List ByteArray)) ([] : List ByteArray) ([] : List ByteArray) a2 false (⟨#[]⟩ : ByteArray) 2 y546).bind fun bt556 => ((command_Run.f k ([] : List (S33)) (([(⟨#[111]⟩ : ByteArray)] : List ByteArray)) (([(⟨#[113]⟩ : ByteArray)] : List ByteArray)) (([(⟨#[112]⟩ : ByteArray)] : List ByteArray)) ([] : List ByteArray) a2 false (⟨#[]⟩ : ByteArray) 2 y546).bind fun bt569 => ((command_Run.f k ([] : List (S33)) (([(⟨#[111]⟩ : ByteArray)] : List ByteArray)) (([(⟨#[112]⟩ : ByteArray)] : List ByteArray)) (([(⟨#[113]⟩ : ByteArray)] : List ByteArray)) (([(⟨#[110, 111, 110, 101]⟩ : ByteArray)] : List ByteArray)) a2 false (⟨#[]⟩ : ByteArray) 2 y546).bind fun bt585 => ((cruciblelaw0_Num.f bt556.2).bind fun t589 => (if t589 = 0 then ((cruciblelaw0_Num.f bt569.2).bind fun t590 => (if t590 = 0 then ((cruciblelaw0_Num.f bt585.2).bind fun t591 => (if t591 = 0 then (if (bt556.1.length : Int) = 1 then (if (bt569.1.length : Int) = 1 then (if (bt585.1.length : Int) = 1 then (if 0 < (bt556.1.length : Int) then (if 0 < (bt585.1.length : Int) then (if (rd bt556.1 0) = (rd bt585.1 0) then (if 0 < (bt569.1.length : Int) then (if (((rd bt556.1 0) == (rd bt569.1 0)) == ((Go.bits .and .i64 a0 65535) == (Go.bits .and .i64 a1 65535))) = true then ((crucibleref12_DiskMay.f k 2 y546).bind fun t596 => (some t596)) else (none)) else (none)) else (none)) else (none)) else (none)) else (none)) else (none)) else (none)) else (none))) else (none))) else (none))))))) else (some true))) else (none))) = some r := h
 clear h
 replace H := Option.bind_eq_some_iff.mp H
 obtain ⟨t544, A40, H⟩ := H
 replace H : (if t544 = true then ((cruciblelaw18_plain.f k a2).bind fun t545 => (if t545 = true then ((some (([(⟨(⟨#[112]⟩ : ByteArray), Go.bits .and .i64 a0 65535, 1⟩ : S72), (⟨(⟨#[113]⟩ : ByteArray), Go.bits .and .i64 a1 65535, 2⟩ : S72)] : List (S72)) : List (S72))).bind fun y546 => ((command_Run.f k ([] : List (S33)) (([(⟨#[111]⟩ : ByteArray)] : List ByteArray)) (([(⟨#[112]⟩ : ByteArray), (⟨#[113]⟩ : ByteArray)] : List ByteArray)) ([] : List ByteArray) ([] : List ByteArray) a2 false (⟨#[]⟩ : ByteArray) 2 y546).bind fun bt556 => ((command_Run.f k ([] : List (S33)) (([(⟨#[111]⟩ : ByteArray)] : List ByteArray)) (([(⟨#[113]⟩ : ByteArray)] : List ByteArray)) (([(⟨#[112]⟩ : ByteArray)] : List ByteArray)) ([] : List ByteArray) a2 false (⟨#[]⟩ : ByteArray) 2 y546).bind fun bt569 => ((command_Run.f k ([] : List (S33)) (([(⟨#[111]⟩ : ByteArray)] : List ByteArray)) (([(⟨#[112]⟩ : ByteArray)] : List ByteArray)) (([(⟨#[113]⟩ : ByteArray)] : List ByteArray)) (([(⟨#[110, 111, 110, 101]⟩ : ByteArray)] : List ByteArray)) a2 false (⟨#[]⟩ : ByteArray) 2 y546).bind fun bt585 => ((cruciblelaw0_Num.f bt556.2).bind fun t589 => (if t589 = 0 then ((cruciblelaw0_Num.f bt569.2).bind fun t590 => (if t590 = 0 then ((cruciblelaw0_Num.f bt585.2).bind fun t591 => (if t591 = 0 then (if (bt556.1.length : Int) = 1 then (if (bt569.1.length : Int) = 1 then (if (bt585.1.length : Int) = 1 then (if 0 < (bt556.1.length : Int) then (if 0 < (bt585.1.length : Int) then (if (rd bt556.1 0) = (rd bt585.1 0) then (if 0 < (bt569.1.length : Int) then (if (((rd bt556.1 0) == (rd bt569.1 0)) == ((Go.bits .and .i64 a0 65535) == (Go.bits .and .i64 a1 65535))) = true then ((crucibleref12_DiskMay.f k 2 y546).bind fun t596 => (some t596)) else (none)) else (none)) else (none)) else (none)) else (none)) else (none)) else (none)) else (none)) else (none))) else (none))) else (none))))))) else (some true))) else (none)) = some r := H
 have A4 := Aside0.mk A40
 clear A40
 by_cases c5 : t544 = true
 ·
  subst c5
  have H1 : ((cruciblelaw18_plain.f k a2).bind fun t545 => (if t545 = true then ((some (([(⟨(⟨#[112]⟩ : ByteArray), Go.bits .and .i64 a0 65535, 1⟩ : S72), (⟨(⟨#[113]⟩ : ByteArray), Go.bits .and .i64 a1 65535, 2⟩ : S72)] : List (S72)) : List (S72))).bind fun y546 => ((command_Run.f k ([] : List (S33)) (([(⟨#[111]⟩ : ByteArray)] : List ByteArray)) (([(⟨#[112]⟩ : ByteArray), (⟨#[113]⟩ : ByteArray)] : List ByteArray)) ([] : List ByteArray) ([] : List ByteArray) a2 false (⟨#[]⟩ : ByteArray) 2 y546).bind fun bt556 => ((command_Run.f k ([] : List (S33)) (([(⟨#[111]⟩ : ByteArray)] : List ByteArray)) (([(⟨#[113]⟩ : ByteArray)] : List ByteArray)) (([(⟨#[112]⟩ : ByteArray)] : List ByteArray)) ([] : List ByteArray) a2 false (⟨#[]⟩ : ByteArray) 2 y546).bind fun bt569 => ((command_Run.f k ([] : List (S33)) (([(⟨#[111]⟩ : ByteArray)] : List ByteArray)) (([(⟨#[112]⟩ : ByteArray)] : List ByteArray)) (([(⟨#[113]⟩ : ByteArray)] : List ByteArray)) (([(⟨#[110, 111, 110, 101]⟩ : ByteArray)] : List ByteArray)) a2 false (⟨#[]⟩ : ByteArray) 2 y546).bind fun bt585 => ((cruciblelaw0_Num.f bt556.2).bind fun t589 => (if t589 = 0 then ((cruciblelaw0_Num.f bt569.2).bind fun t590 => (if t590 = 0 then ((cruciblelaw0_Num.f bt585.2).bind fun t591 => (if t591 = 0 then (if (bt556.1.length : Int) = 1 then (if (bt569.1.length : Int) = 1 then (if (bt585.1.length : Int) = 1 then (if 0 < (bt556.1.length : Int) then (if 0 < (bt585.1.length : Int) then (if (rd bt556.1 0) = (rd bt585.1 0) then (if 0 < (bt569.1.length : Int) then (if (((rd bt556.1 0) == (rd bt569.1 0)) == ((Go.bits .and .i64 a0 65535) == (Go.bits .and .i64 a1 65535))) = true then ((crucibleref12_DiskMay.f k 2 y546).bind fun t596 => (some t596)) else (none)) else (none)) else (none)) else (none)) else (none)) else (none)) else (none)) else (none)) else (none))) else (none))) else (none))))))) else (some true))) = some r := by rw [if_pos rfl] at H; exact H
  clear H
  have H := H1
  clear H1
  replace H := Option.bind_eq_some_iff.mp H
  obtain ⟨t545, A60, H⟩ := H
  replace H : (if t545 = true then ((some (([(⟨(⟨#[112]⟩ : ByteArray), Go.bits .and .i64 a0 65535, 1⟩ : S72), (⟨(⟨#[113]⟩ : ByteArray), Go.bits .and .i64 a1 65535, 2⟩ : S72)] : List (S72)) : List (S72))).bind fun y546 => ((command_Run.f k ([] : List (S33)) (([(⟨#[111]⟩ : ByteArray)] : List ByteArray)) (([(⟨#[112]⟩ : ByteArray), (⟨#[113]⟩ : ByteArray)] : List ByteArray)) ([] : List ByteArray) ([] : List ByteArray) a2 false (⟨#[]⟩ : ByteArray) 2 y546).bind fun bt556 => ((command_Run.f k ([] : List (S33)) (([(⟨#[111]⟩ : ByteArray)] : List ByteArray)) (([(⟨#[113]⟩ : ByteArray)] : List ByteArray)) (([(⟨#[112]⟩ : ByteArray)] : List ByteArray)) ([] : List ByteArray) a2 false (⟨#[]⟩ : ByteArray) 2 y546).bind fun bt569 => ((command_Run.f k ([] : List (S33)) (([(⟨#[111]⟩ : ByteArray)] : List ByteArray)) (([(⟨#[112]⟩ : ByteArray)] : List ByteArray)) (([(⟨#[113]⟩ : ByteArray)] : List ByteArray)) (([(⟨#[110, 111, 110, 101]⟩ : ByteArray)] : List ByteArray)) a2 false (⟨#[]⟩ : ByteArray) 2 y546).bind fun bt585 => ((cruciblelaw0_Num.f bt556.2).bind fun t589 => (if t589 = 0 then ((cruciblelaw0_Num.f bt569.2).bind fun t590 => (if t590 = 0 then ((cruciblelaw0_Num.f bt585.2).bind fun t591 => (if t591 = 0 then (if (bt556.1.length : Int) = 1 then (if (bt569.1.length : Int) = 1 then (if (bt585.1.length : Int) = 1 then (if 0 < (bt556.1.length : Int) then (if 0 < (bt585.1.length : Int) then (if (rd bt556.1 0) = (rd bt585.1 0) then (if 0 < (bt569.1.length : Int) then (if (((rd bt556.1 0) == (rd bt569.1 0)) == ((Go.bits .and .i64 a0 65535) == (Go.bits .and .i64 a1 65535))) = true then ((crucibleref12_DiskMay.f k 2 y546).bind fun t596 => (some t596)) else (none)) else (none)) else (none)) else (none)) else (none)) else (none)) else (none)) else (none)) else (none))) else (none))) else (none))))))) else (some true)) = some r := H
  have A6 := Aside0.mk A60
  clear A60
  by_cases c7 : t545 = true
  ·
   subst c7
   have H1 : ((some (([(⟨(⟨#[112]⟩ : ByteArray), Go.bits .and .i64 a0 65535, 1⟩ : S72), (⟨(⟨#[113]⟩ : ByteArray), Go.bits .and .i64 a1 65535, 2⟩ : S72)] : List (S72)) : List (S72))).bind fun y546 => ((command_Run.f k ([] : List (S33)) (([(⟨#[111]⟩ : ByteArray)] : List ByteArray)) (([(⟨#[112]⟩ : ByteArray), (⟨#[113]⟩ : ByteArray)] : List ByteArray)) ([] : List ByteArray) ([] : List ByteArray) a2 false (⟨#[]⟩ : ByteArray) 2 y546).bind fun bt556 => ((command_Run.f k ([] : List (S33)) (([(⟨#[111]⟩ : ByteArray)] : List ByteArray)) (([(⟨#[113]⟩ : ByteArray)] : List ByteArray)) (([(⟨#[112]⟩ : ByteArray)] : List ByteArray)) ([] : List ByteArray) a2 false (⟨#[]⟩ : ByteArray) 2 y546).bind fun bt569 => ((command_Run.f k ([] : List (S33)) (([(⟨#[111]⟩ : ByteArray)] : List ByteArray)) (([(⟨#[112]⟩ : ByteArray)] : List ByteArray)) (([(⟨#[113]⟩ : ByteArray)] : List ByteArray)) (([(⟨#[110, 111, 110, 101]⟩ : ByteArray)] : List ByteArray)) a2 false (⟨#[]⟩ : ByteArray) 2 y546).bind fun bt585 => ((cruciblelaw0_Num.f bt556.2).bind fun t589 => (if t589 = 0 then ((cruciblelaw0_Num.f bt569.2).bind fun t590 => (if t590 = 0 then ((cruciblelaw0_Num.f bt585.2).bind fun t591 => (if t591 = 0 then (if (bt556.1.length : Int) = 1 then (if (bt569.1.length : Int) = 1 then (if (bt585.1.length : Int) = 1 then (if 0 < (bt556.1.length : Int) then (if 0 < (bt585.1.length : Int) then (if (rd bt556.1 0) = (rd bt585.1 0) then (if 0 < (bt569.1.length : Int) then (if (((rd bt556.1 0) == (rd bt569.1 0)) == ((Go.bits .and .i64 a0 65535) == (Go.bits .and .i64 a1 65535))) = true then ((crucibleref12_DiskMay.f k 2 y546).bind fun t596 => (some t596)) else (none)) else (none)) else (none)) else (none)) else (none)) else (none)) else (none)) else (none)) else (none))) else (none))) else (none))))))) = some r := by rw [if_pos rfl] at H; exact H
   clear H
   have H := H1
   clear H1
   obtain ⟨y546, hy546⟩ : ∃ y_ : List (S72), y_ = (([(⟨(⟨#[112]⟩ : ByteArray), Go.bits .and .i64 a0 65535, 1⟩ : S72), (⟨(⟨#[113]⟩ : ByteArray), Go.bits .and .i64 a1 65535, 2⟩ : S72)] : List (S72))) := ⟨_, rfl⟩
   replace H : ((command_Run.f k ([] : List (S33)) (([(⟨#[111]⟩ : ByteArray)] : List ByteArray)) (([(⟨#[112]⟩ : ByteArray), (⟨#[113]⟩ : ByteArray)] : List ByteArray)) ([] : List ByteArray) ([] : List ByteArray) a2 false (⟨#[]⟩ : ByteArray) 2 y546).bind fun bt556 => ((command_Run.f k ([] : List (S33)) (([(⟨#[111]⟩ : ByteArray)] : List ByteArray)) (([(⟨#[113]⟩ : ByteArray)] : List ByteArray)) (([(⟨#[112]⟩ : ByteArray)] : List ByteArray)) ([] : List ByteArray) a2 false (⟨#[]⟩ : ByteArray) 2 y546).bind fun bt569 => ((command_Run.f k ([] : List (S33)) (([(⟨#[111]⟩ : ByteArray)] : List ByteArray)) (([(⟨#[112]⟩ : ByteArray)] : List ByteArray)) (([(⟨#[113]⟩ : ByteArray)] : List ByteArray)) (([(⟨#[110, 111, 110, 101]⟩ : ByteArray)] : List ByteArray)) a2 false (⟨#[]⟩ : ByteArray) 2 y546).bind fun bt585 => ((cruciblelaw0_Num.f bt556.2).bind fun t589 => (if t589 = 0 then ((cruciblelaw0_Num.f bt569.2).bind fun t590 => (if t590 = 0 then ((cruciblelaw0_Num.f bt585.2).bind fun t591 => (if t591 = 0 then (if (bt556.1.length : Int) = 1 then (if (bt569.1.length : Int) = 1 then (if (bt585.1.length : Int) = 1 then (if 0 < (bt556.1.length : Int) then (if 0 < (bt585.1.length : Int) then (if (rd bt556.1 0) = (rd bt585.1 0) then (if 0 < (bt569.1.length : Int) then (if (((rd bt556.1 0) == (rd bt569.1 0)) == ((Go.bits .and .i64 a0 65535) == (Go.bits .and .i64 a1 65535))) = true then ((crucibleref12_DiskMay.f k 2 y546).bind fun t596 => (some t596)) else (none)) else (none)) else (none)) else (none)) else (none)) else (none)) else (none)) else (none)) else (none))) else (none))) else (none)))))) = some r := by first | (rw [hy546]; with_reducible exact H) | (have H2_ := (Option.bind_some _ _).symm.trans H; rw [hy546]; with_reducible exact H2_) | (have H2_ := (Option.bind_some _ _).symm.trans H; with_reducible exact H2_) | with_reducible exact H | (rw [hy546]; exact H) | exact H
   have Ny546 := Aside0.mk hy546
   clear hy546
   obtain ⟨y550, hy550⟩ : ∃ y_ : List ByteArray, y_ = (([(⟨#[111]⟩ : ByteArray)] : List ByteArray)) := ⟨_, rfl⟩
   replace H : ((command_Run.f k ([] : List (S33)) y550 (([(⟨#[112]⟩ : ByteArray), (⟨#[113]⟩ : ByteArray)] : List ByteArray)) ([] : List ByteArray) ([] : List ByteArray) a2 false (⟨#[]⟩ : ByteArray) 2 y546).bind fun bt556 => ((command_Run.f k ([] : List (S33)) (([(⟨#[111]⟩ : ByteArray)] : List ByteArray)) (([(⟨#[113]⟩ : ByteArray)] : List ByteArray)) (([(⟨#[112]⟩ : ByteArray)] : List ByteArray)) ([] : List ByteArray) a2 false (⟨#[]⟩ : ByteArray) 2 y546).bind fun bt569 => ((command_Run.f k ([] : List (S33)) (([(⟨#[111]⟩ : ByteArray)] : List ByteArray)) (([(⟨#[112]⟩ : ByteArray)] : List ByteArray)) (([(⟨#[113]⟩ : ByteArray)] : List ByteArray)) (([(⟨#[110, 111, 110, 101]⟩ : ByteArray)] : List ByteArray)) a2 false (⟨#[]⟩ : ByteArray) 2 y546).bind fun bt585 => ((cruciblelaw0_Num.f bt556.2).bind fun t589 => (if t589 = 0 then ((cruciblelaw0_Num.f bt569.2).bind fun t590 => (if t590 = 0 then ((cruciblelaw0_Num.f bt585.2).bind fun t591 => (if t591 = 0 then (if (bt556.1.length : Int) = 1 then (if (bt569.1.length : Int) = 1 then (if (bt585.1.length : Int) = 1 then (if 0 < (bt556.1.length : Int) then (if 0 < (bt585.1.length : Int) then (if (rd bt556.1 0) = (rd bt585.1 0) then (if 0 < (bt569.1.length : Int) then (if (((rd bt556.1 0) == (rd bt569.1 0)) == ((Go.bits .and .i64 a0 65535) == (Go.bits .and .i64 a1 65535))) = true then ((crucibleref12_DiskMay.f k 2 y546).bind fun t596 => (some t596)) else (none)) else (none)) else (none)) else (none)) else (none)) else (none)) else (none)) else (none)) else (none))) else (none))) else (none)))))) = some r := by first | (rw [hy550]; with_reducible exact H) | (have H2_ := (Option.bind_some _ _).symm.trans H; rw [hy550]; with_reducible exact H2_) | (have H2_ := (Option.bind_some _ _).symm.trans H; with_reducible exact H2_) | with_reducible exact H | (rw [hy550]; exact H) | exact H
   have Ny550 := Aside0.mk hy550
   clear hy550
   obtain ⟨y553, hy553⟩ : ∃ y_ : List ByteArray, y_ = (([(⟨#[112]⟩ : ByteArray), (⟨#[113]⟩ : ByteArray)] : List ByteArray)) := ⟨_, rfl⟩
   replace H : ((command_Run.f k ([] : List (S33)) y550 y553 ([] : List ByteArray) ([] : List ByteArray) a2 false (⟨#[]⟩ : ByteArray) 2 y546).bind fun bt556 => ((command_Run.f k ([] : List (S33)) (([(⟨#[111]⟩ : ByteArray)] : List ByteArray)) (([(⟨#[113]⟩ : ByteArray)] : List ByteArray)) (([(⟨#[112]⟩ : ByteArray)] : List ByteArray)) ([] : List ByteArray) a2 false (⟨#[]⟩ : ByteArray) 2 y546).bind fun bt569 => ((command_Run.f k ([] : List (S33)) (([(⟨#[111]⟩ : ByteArray)] : List ByteArray)) (([(⟨#[112]⟩ : ByteArray)] : List ByteArray)) (([(⟨#[113]⟩ : ByteArray)] : List ByteArray)) (([(⟨#[110, 111, 110, 101]⟩ : ByteArray)] : List ByteArray)) a2 false (⟨#[]⟩ : ByteArray) 2 y546).bind fun bt585 => ((cruciblelaw0_Num.f bt556.2).bind fun t589 => (if t589 = 0 then ((cruciblelaw0_Num.f bt569.2).bind fun t590 => (if t590 = 0 then ((cruciblelaw0_Num.f bt585.2).bind fun t591 => (if t591 = 0 then (if (bt556.1.length : Int) = 1 then (if (bt569.1.length : Int) = 1 then (if (bt585.1.length : Int) = 1 then (if 0 < (bt556.1.length : Int) then (if 0 < (bt585.1.length : Int) then (if (rd bt556.1 0) = (rd bt585.1 0) then (if 0 < (bt569.1.length : Int) then (if (((rd bt556.1 0) == (rd bt569.1 0)) == ((Go.bits .and .i64 a0 65535) == (Go.bits .and .i64 a1 65535))) = true then ((crucibleref12_DiskMay.f k 2 y546).bind fun t596 => (some t596)) else (none)) else (none)) else (none)) else (none)) else (none)) else (none)) else (none)) else (none)) else (none))) else (none))) else (none)))))) = some r := by first | (rw [hy553]; with_reducible exact H) | (have H2_ := (Option.bind_some _ _).symm.trans H; rw [hy553]; with_reducible exact H2_) | (have H2_ := (Option.bind_some _ _).symm.trans H; with_reducible exact H2_) | with_reducible exact H | (rw [hy553]; exact H) | exact H
   have Ny553 := Aside0.mk hy553
   clear hy553
   replace H := Option.bind_eq_some_iff.mp H
   obtain ⟨⟨t556, t559⟩, A80, H⟩ := H
   replace H : ((command_Run.f k ([] : List (S33)) (([(⟨#[111]⟩ : ByteArray)] : List ByteArray)) (([(⟨#[113]⟩ : ByteArray)] : List ByteArray)) (([(⟨#[112]⟩ : ByteArray)] : List ByteArray)) ([] : List ByteArray) a2 false (⟨#[]⟩ : ByteArray) 2 y546).bind fun bt569 => ((command_Run.f k ([] : List (S33)) (([(⟨#[111]⟩ : ByteArray)] : List ByteArray)) (([(⟨#[112]⟩ : ByteArray)] : List ByteArray)) (([(⟨#[113]⟩ : ByteArray)] : List ByteArray)) (([(⟨#[110, 111, 110, 101]⟩ : ByteArray)] : List ByteArray)) a2 false (⟨#[]⟩ : ByteArray) 2 y546).bind fun bt585 => ((cruciblelaw0_Num.f t559).bind fun t589 => (if t589 = 0 then ((cruciblelaw0_Num.f bt569.2).bind fun t590 => (if t590 = 0 then ((cruciblelaw0_Num.f bt585.2).bind fun t591 => (if t591 = 0 then (if (t556.length : Int) = 1 then (if (bt569.1.length : Int) = 1 then (if (bt585.1.length : Int) = 1 then (if 0 < (t556.length : Int) then (if 0 < (bt585.1.length : Int) then (if (rd t556 0) = (rd bt585.1 0) then (if 0 < (bt569.1.length : Int) then (if (((rd t556 0) == (rd bt569.1 0)) == ((Go.bits .and .i64 a0 65535) == (Go.bits .and .i64 a1 65535))) = true then ((crucibleref12_DiskMay.f k 2 y546).bind fun t596 => (some t596)) else (none)) else (none)) else (none)) else (none)) else (none)) else (none)) else (none)) else (none)) else (none))) else (none))) else (none))))) = some r := H
   have A8 := Aside0.mk A80
   clear A80
   obtain ⟨y560, hy560⟩ : ∃ y_ : List ByteArray, y_ = (([(⟨#[111]⟩ : ByteArray)] : List ByteArray)) := ⟨_, rfl⟩
   replace H : ((command_Run.f k ([] : List (S33)) y560 (([(⟨#[113]⟩ : ByteArray)] : List ByteArray)) (([(⟨#[112]⟩ : ByteArray)] : List ByteArray)) ([] : List ByteArray) a2 false (⟨#[]⟩ : ByteArray) 2 y546).bind fun bt569 => ((command_Run.f k ([] : List (S33)) (([(⟨#[111]⟩ : ByteArray)] : List ByteArray)) (([(⟨#[112]⟩ : ByteArray)] : List ByteArray)) (([(⟨#[113]⟩ : ByteArray)] : List ByteArray)) (([(⟨#[110, 111, 110, 101]⟩ : ByteArray)] : List ByteArray)) a2 false (⟨#[]⟩ : ByteArray) 2 y546).bind fun bt585 => ((cruciblelaw0_Num.f t559).bind fun t589 => (if t589 = 0 then ((cruciblelaw0_Num.f bt569.2).bind fun t590 => (if t590 = 0 then ((cruciblelaw0_Num.f bt585.2).bind fun t591 => (if t591 = 0 then (if (t556.length : Int) = 1 then (if (bt569.1.length : Int) = 1 then (if (bt585.1.length : Int) = 1 then (if 0 < (t556.length : Int) then (if 0 < (bt585.1.length : Int) then (if (rd t556 0) = (rd bt585.1 0) then (if 0 < (bt569.1.length : Int) then (if (((rd t556 0) == (rd bt569.1 0)) == ((Go.bits .and .i64 a0 65535) == (Go.bits .and .i64 a1 65535))) = true then ((crucibleref12_DiskMay.f k 2 y546).bind fun t596 => (some t596)) else (none)) else (none)) else (none)) else (none)) else (none)) else (none)) else (none)) else (none)) else (none))) else (none))) else (none))))) = some r := by first | (rw [hy560]; with_reducible exact H) | (have H2_ := (Option.bind_some _ _).symm.trans H; rw [hy560]; with_reducible exact H2_) | (have H2_ := (Option.bind_some _ _).symm.trans H; with_reducible exact H2_) | with_reducible exact H | (rw [hy560]; exact H) | exact H
   have Ny560 := Aside0.mk hy560
   clear hy560
   obtain ⟨y563, hy563⟩ : ∃ y_ : List ByteArray, y_ = (([(⟨#[113]⟩ : ByteArray)] : List ByteArray)) := ⟨_, rfl⟩
   replace H : ((command_Run.f k ([] : List (S33)) y560 y563 (([(⟨#[112]⟩ : ByteArray)] : List ByteArray)) ([] : List ByteArray) a2 false (⟨#[]⟩ : ByteArray) 2 y546).bind fun bt569 => ((command_Run.f k ([] : List (S33)) (([(⟨#[111]⟩ : ByteArray)] : List ByteArray)) (([(⟨#[112]⟩ : ByteArray)] : List ByteArray)) (([(⟨#[113]⟩ : ByteArray)] : List ByteArray)) (([(⟨#[110, 111, 110, 101]⟩ : ByteArray)] : List ByteArray)) a2 false (⟨#[]⟩ : ByteArray) 2 y546).bind fun bt585 => ((cruciblelaw0_Num.f t559).bind fun t589 => (if t589 = 0 then ((cruciblelaw0_Num.f bt569.2).bind fun t590 => (if t590 = 0 then ((cruciblelaw0_Num.f bt585.2).bind fun t591 => (if t591 = 0 then (if (t556.length : Int) = 1 then (if (bt569.1.length : Int) = 1 then (if (bt585.1.length : Int) = 1 then (if 0 < (t556.length : Int) then (if 0 < (bt585.1.length : Int) then (if (rd t556 0) = (rd bt585.1 0) then (if 0 < (bt569.1.length : Int) then (if (((rd t556 0) == (rd bt569.1 0)) == ((Go.bits .and .i64 a0 65535) == (Go.bits .and .i64 a1 65535))) = true then ((crucibleref12_DiskMay.f k 2 y546).bind fun t596 => (some t596)) else (none)) else (none)) else (none)) else (none)) else (none)) else (none)) else (none)) else (none)) else (none))) else (none))) else (none))))) = some r := by first | (rw [hy563]; with_reducible exact H) | (have H2_ := (Option.bind_some _ _).symm.trans H; rw [hy563]; with_reducible exact H2_) | (have H2_ := (Option.bind_some _ _).symm.trans H; with_reducible exact H2_) | with_reducible exact H | (rw [hy563]; exact H) | exact H
   have Ny563 := Aside0.mk hy563
   clear hy563
   obtain ⟨y566, hy566⟩ : ∃ y_ : List ByteArray, y_ = (([(⟨#[112]⟩ : ByteArray)] : List ByteArray)) := ⟨_, rfl⟩
   replace H : ((command_Run.f k ([] : List (S33)) y560 y563 y566 ([] : List ByteArray) a2 false (⟨#[]⟩ : ByteArray) 2 y546).bind fun bt569 => ((command_Run.f k ([] : List (S33)) (([(⟨#[111]⟩ : ByteArray)] : List ByteArray)) (([(⟨#[112]⟩ : ByteArray)] : List ByteArray)) (([(⟨#[113]⟩ : ByteArray)] : List ByteArray)) (([(⟨#[110, 111, 110, 101]⟩ : ByteArray)] : List ByteArray)) a2 false (⟨#[]⟩ : ByteArray) 2 y546).bind fun bt585 => ((cruciblelaw0_Num.f t559).bind fun t589 => (if t589 = 0 then ((cruciblelaw0_Num.f bt569.2).bind fun t590 => (if t590 = 0 then ((cruciblelaw0_Num.f bt585.2).bind fun t591 => (if t591 = 0 then (if (t556.length : Int) = 1 then (if (bt569.1.length : Int) = 1 then (if (bt585.1.length : Int) = 1 then (if 0 < (t556.length : Int) then (if 0 < (bt585.1.length : Int) then (if (rd t556 0) = (rd bt585.1 0) then (if 0 < (bt569.1.length : Int) then (if (((rd t556 0) == (rd bt569.1 0)) == ((Go.bits .and .i64 a0 65535) == (Go.bits .and .i64 a1 65535))) = true then ((crucibleref12_DiskMay.f k 2 y546).bind fun t596 => (some t596)) else (none)) else (none)) else (none)) else (none)) else (none)) else (none)) else (none)) else (none)) else (none))) else (none))) else (none))))) = some r := by first | (rw [hy566]; with_reducible exact H) | (have H2_ := (Option.bind_some _ _).symm.trans H; rw [hy566]; with_reducible exact H2_) | (have H2_ := (Option.bind_some _ _).symm.trans H; with_reducible exact H2_) | with_reducible exact H | (rw [hy566]; exact H) | exact H
   have Ny566 := Aside0.mk hy566
   clear hy566
   replace H := Option.bind_eq_some_iff.mp H
   obtain ⟨⟨t569, t572⟩, A90, H⟩ := H
   replace H : ((command_Run.f k ([] : List (S33)) (([(⟨#[111]⟩ : ByteArray)] : List ByteArray)) (([(⟨#[112]⟩ : ByteArray)] : List ByteArray)) (([(⟨#[113]⟩ : ByteArray)] : List ByteArray)) (([(⟨#[110, 111, 110, 101]⟩ : ByteArray)] : List ByteArray)) a2 false (⟨#[]⟩ : ByteArray) 2 y546).bind fun bt585 => ((cruciblelaw0_Num.f t559).bind fun t589 => (if t589 = 0 then ((cruciblelaw0_Num.f t572).bind fun t590 => (if t590 = 0 then ((cruciblelaw0_Num.f bt585.2).bind fun t591 => (if t591 = 0 then (if (t556.length : Int) = 1 then (if (t569.length : Int) = 1 then (if (bt585.1.length : Int) = 1 then (if 0 < (t556.length : Int) then (if 0 < (bt585.1.length : Int) then (if (rd t556 0) = (rd bt585.1 0) then (if 0 < (t569.length : Int) then (if (((rd t556 0) == (rd t569 0)) == ((Go.bits .and .i64 a0 65535) == (Go.bits .and .i64 a1 65535))) = true then ((crucibleref12_DiskMay.f k 2 y546).bind fun t596 => (some t596)) else (none)) else (none)) else (none)) else (none)) else (none)) else (none)) else (none)) else (none)) else (none))) else (none))) else (none)))) = some r := H
   have A9 := Aside0.mk A90
   clear A90
   obtain ⟨y573, hy573⟩ : ∃ y_ : List ByteArray, y_ = (([(⟨#[111]⟩ : ByteArray)] : List ByteArray)) := ⟨_, rfl⟩
   replace H : ((command_Run.f k ([] : List (S33)) y573 (([(⟨#[112]⟩ : ByteArray)] : List ByteArray)) (([(⟨#[113]⟩ : ByteArray)] : List ByteArray)) (([(⟨#[110, 111, 110, 101]⟩ : ByteArray)] : List ByteArray)) a2 false (⟨#[]⟩ : ByteArray) 2 y546).bind fun bt585 => ((cruciblelaw0_Num.f t559).bind fun t589 => (if t589 = 0 then ((cruciblelaw0_Num.f t572).bind fun t590 => (if t590 = 0 then ((cruciblelaw0_Num.f bt585.2).bind fun t591 => (if t591 = 0 then (if (t556.length : Int) = 1 then (if (t569.length : Int) = 1 then (if (bt585.1.length : Int) = 1 then (if 0 < (t556.length : Int) then (if 0 < (bt585.1.length : Int) then (if (rd t556 0) = (rd bt585.1 0) then (if 0 < (t569.length : Int) then (if (((rd t556 0) == (rd t569 0)) == ((Go.bits .and .i64 a0 65535) == (Go.bits .and .i64 a1 65535))) = true then ((crucibleref12_DiskMay.f k 2 y546).bind fun t596 => (some t596)) else (none)) else (none)) else (none)) else (none)) else (none)) else (none)) else (none)) else (none)) else (none))) else (none))) else (none)))) = some r := by first | (rw [hy573]; with_reducible exact H) | (have H2_ := (Option.bind_some _ _).symm.trans H; rw [hy573]; with_reducible exact H2_) | (have H2_ := (Option.bind_some _ _).symm.trans H; with_reducible exact H2_) | with_reducible exact H | (rw [hy573]; exact H) | exact H
   have Ny573 := Aside0.mk hy573
   clear hy573
   obtain ⟨y576, hy576⟩ : ∃ y_ : List ByteArray, y_ = (([(⟨#[112]⟩ : ByteArray)] : List ByteArray)) := ⟨_, rfl⟩
   replace H : ((command_Run.f k ([] : List (S33)) y573 y576 (([(⟨#[113]⟩ : ByteArray)] : List ByteArray)) (([(⟨#[110, 111, 110, 101]⟩ : ByteArray)] : List ByteArray)) a2 false (⟨#[]⟩ : ByteArray) 2 y546).bind fun bt585 => ((cruciblelaw0_Num.f t559).bind fun t589 => (if t589 = 0 then ((cruciblelaw0_Num.f t572).bind fun t590 => (if t590 = 0 then ((cruciblelaw0_Num.f bt585.2).bind fun t591 => (if t591 = 0 then (if (t556.length : Int) = 1 then (if (t569.length : Int) = 1 then (if (bt585.1.length : Int) = 1 then (if 0 < (t556.length : Int) then (if 0 < (bt585.1.length : Int) then (if (rd t556 0) = (rd bt585.1 0) then (if 0 < (t569.length : Int) then (if (((rd t556 0) == (rd t569 0)) == ((Go.bits .and .i64 a0 65535) == (Go.bits .and .i64 a1 65535))) = true then ((crucibleref12_DiskMay.f k 2 y546).bind fun t596 => (some t596)) else (none)) else (none)) else (none)) else (none)) else (none)) else (none)) else (none)) else (none)) else (none))) else (none))) else (none)))) = some r := by first | (rw [hy576]; with_reducible exact H) | (have H2_ := (Option.bind_some _ _).symm.trans H; rw [hy576]; with_reducible exact H2_) | (have H2_ := (Option.bind_some _ _).symm.trans H; with_reducible exact H2_) | with_reducible exact H | (rw [hy576]; exact H) | exact H
   have Ny576 := Aside0.mk hy576
   clear hy576
   obtain ⟨y579, hy579⟩ : ∃ y_ : List ByteArray, y_ = (([(⟨#[113]⟩ : ByteArray)] : List ByteArray)) := ⟨_, rfl⟩
   replace H : ((command_Run.f k ([] : List (S33)) y573 y576 y579 (([(⟨#[110, 111, 110, 101]⟩ : ByteArray)] : List ByteArray)) a2 false (⟨#[]⟩ : ByteArray) 2 y546).bind fun bt585 => ((cruciblelaw0_Num.f t559).bind fun t589 => (if t589 = 0 then ((cruciblelaw0_Num.f t572).bind fun t590 => (if t590 = 0 then ((cruciblelaw0_Num.f bt585.2).bind fun t591 => (if t591 = 0 then (if (t556.length : Int) = 1 then (if (t569.length : Int) = 1 then (if (bt585.1.length : Int) = 1 then (if 0 < (t556.length : Int) then (if 0 < (bt585.1.length : Int) then (if (rd t556 0) = (rd bt585.1 0) then (if 0 < (t569.length : Int) then (if (((rd t556 0) == (rd t569 0)) == ((Go.bits .and .i64 a0 65535) == (Go.bits .and .i64 a1 65535))) = true then ((crucibleref12_DiskMay.f k 2 y546).bind fun t596 => (some t596)) else (none)) else (none)) else (none)) else (none)) else (none)) else (none)) else (none)) else (none)) else (none))) else (none))) else (none)))) = some r := by first | (rw [hy579]; with_reducible exact H) | (have H2_ := (Option.bind_some _ _).symm.trans H; rw [hy579]; with_reducible exact H2_) | (have H2_ := (Option.bind_some _ _).symm.trans H; with_reducible exact H2_) | with_reducible exact H | (rw [hy579]; exact H) | exact H
   have Ny579 := Aside0.mk hy579
   clear hy579
   obtain ⟨y582, hy582⟩ : ∃ y_ : List ByteArray, y_ = (([(⟨#[110, 111, 110, 101]⟩ : ByteArray)] : List ByteArray)) := ⟨_, rfl⟩
   replace H : ((command_Run.f k ([] : List (S33)) y573 y576 y579 y582 a2 false (⟨#[]⟩ : ByteArray) 2 y546).bind fun bt585 => ((cruciblelaw0_Num.f t559).bind fun t589 => (if t589 = 0 then ((cruciblelaw0_Num.f t572).bind fun t590 => (if t590 = 0 then ((cruciblelaw0_Num.f bt585.2).bind fun t591 => (if t591 = 0 then (if (t556.length : Int) = 1 then (if (t569.length : Int) = 1 then (if (bt585.1.length : Int) = 1 then (if 0 < (t556.length : Int) then (if 0 < (bt585.1.length : Int) then (if (rd t556 0) = (rd bt585.1 0) then (if 0 < (t569.length : Int) then (if (((rd t556 0) == (rd t569 0)) == ((Go.bits .and .i64 a0 65535) == (Go.bits .and .i64 a1 65535))) = true then ((crucibleref12_DiskMay.f k 2 y546).bind fun t596 => (some t596)) else (none)) else (none)) else (none)) else (none)) else (none)) else (none)) else (none)) else (none)) else (none))) else (none))) else (none)))) = some r := by first | (rw [hy582]; with_reducible exact H) | (have H2_ := (Option.bind_some _ _).symm.trans H; rw [hy582]; with_reducible exact H2_) | (have H2_ := (Option.bind_some _ _).symm.trans H; with_reducible exact H2_) | with_reducible exact H | (rw [hy582]; exact H) | exact H
   have Ny582 := Aside0.mk hy582
   clear hy582
   replace H := Option.bind_eq_some_iff.mp H
   obtain ⟨⟨t585, t588⟩, A100, H⟩ := H
   replace H : ((cruciblelaw0_Num.f t559).bind fun t589 => (if t589 = 0 then ((cruciblelaw0_Num.f t572).bind fun t590 => (if t590 = 0 then ((cruciblelaw0_Num.f t588).bind fun t591 => (if t591 = 0 then (if (t556.length : Int) = 1 then (if (t569.length : Int) = 1 then (if (t585.length : Int) = 1 then (if 0 < (t556.length : Int) then (if 0 < (t585.length : Int) then (if (rd t556 0) = (rd t585 0) then (if 0 < (t569.length : Int) then (if (((rd t556 0) == (rd t569 0)) == ((Go.bits .and .i64 a0 65535) == (Go.bits .and .i64 a1 65535))) = true then ((crucibleref12_DiskMay.f k 2 y546).bind fun t596 => (some t596)) else (none)) else (none)) else (none)) else (none)) else (none)) else (none)) else (none)) else (none)) else (none))) else (none))) else (none))) = some r := H
   have A10 := Aside0.mk A100
   clear A100
   replace H := Option.bind_eq_some_iff.mp H
   obtain ⟨t589, A110, H⟩ := H
   replace H : (if t589 = 0 then ((cruciblelaw0_Num.f t572).bind fun t590 => (if t590 = 0 then ((cruciblelaw0_Num.f t588).bind fun t591 => (if t591 = 0 then (if (t556.length : Int) = 1 then (if (t569.length : Int) = 1 then (if (t585.length : Int) = 1 then (if 0 < (t556.length : Int) then (if 0 < (t585.length : Int) then (if (rd t556 0) = (rd t585 0) then (if 0 < (t569.length : Int) then (if (((rd t556 0) == (rd t569 0)) == ((Go.bits .and .i64 a0 65535) == (Go.bits .and .i64 a1 65535))) = true then ((crucibleref12_DiskMay.f k 2 y546).bind fun t596 => (some t596)) else (none)) else (none)) else (none)) else (none)) else (none)) else (none)) else (none)) else (none)) else (none))) else (none))) else (none)) = some r := H
   have A11 := Aside0.mk A110
   clear A110
   by_cases c12 : t589 = 0
   ·
    rw [if_pos c12] at H
    have c12b0 : (t589 == 0) = true := beq_iff_eq.mpr c12
    have c12b1 : (t589 != 0) = false := bne_eq_false_iff_eq.mpr c12
    clear c12
    replace H := Option.bind_eq_some_iff.mp H
    obtain ⟨t590, A130, H⟩ := H
    replace H : (if t590 = 0 then ((cruciblelaw0_Num.f t588).bind fun t591 => (if t591 = 0 then (if (t556.length : Int) = 1 then (if (t569.length : Int) = 1 then (if (t585.length : Int) = 1 then (if 0 < (t556.length : Int) then (if 0 < (t585.length : Int) then (if (rd t556 0) = (rd t585 0) then (if 0 < (t569.length : Int) then (if (((rd t556 0) == (rd t569 0)) == ((Go.bits .and .i64 a0 65535) == (Go.bits .and .i64 a1 65535))) = true then ((crucibleref12_DiskMay.f k 2 y546).bind fun t596 => (some t596)) else (none)) else (none)) else (none)) else (none)) else (none)) else (none)) else (none)) else (none)) else (none))) else (none)) = some r := H
    have A13 := Aside0.mk A130
    clear A130
    by_cases c14 : t590 = 0
    ·
     rw [if_pos c14] at H
     have c14b0 : (t590 == 0) = true := beq_iff_eq.mpr c14
     have c14b1 : (t590 != 0) = false := bne_eq_false_iff_eq.mpr c14
     clear c14
     replace H := Option.bind_eq_some_iff.mp H
     obtain ⟨t591, A150, H⟩ := H
     replace H : (if t591 = 0 then (if (t556.length : Int) = 1 then (if (t569.length : Int) = 1 then (if (t585.length : Int) = 1 then (if 0 < (t556.length : Int) then (if 0 < (t585.length : Int) then (if (rd t556 0) = (rd t585 0) then (if 0 < (t569.length : Int) then (if (((rd t556 0) == (rd t569 0)) == ((Go.bits .and .i64 a0 65535) == (Go.bits .and .i64 a1 65535))) = true then ((crucibleref12_DiskMay.f k 2 y546).bind fun t596 => (some t596)) else (none)) else (none)) else (none)) else (none)) else (none)) else (none)) else (none)) else (none)) else (none)) = some r := H
     have A15 := Aside0.mk A150
     clear A150
     by_cases c16 : t591 = 0
     ·
      rw [if_pos c16] at H
      have c16b0 : (t591 == 0) = true := beq_iff_eq.mpr c16
      have c16b1 : (t591 != 0) = false := bne_eq_false_iff_eq.mpr c16
      clear c16
      by_cases c17 : (t556.length : Int) = 1
      ·
       rw [if_pos c17] at H
       have c17b0 : ((t556.length : Int) == 1) = true := beq_iff_eq.mpr c17
       have c17b1 : ((t556.length : Int) != 1) = false := bne_eq_false_iff_eq.mpr c17
       clear c17
       by_cases c18 : (t569.length : Int) = 1
       ·
        rw [if_pos c18] at H
        have c18b0 : ((t569.length : Int) == 1) = true := beq_iff_eq.mpr c18
        have c18b1 : ((t569.length : Int) != 1) = false := bne_eq_false_iff_eq.mpr c18
        clear c18
        by_cases c19 : (t585.length : Int) = 1
        ·
         rw [if_pos c19] at H
         have c19b0 : ((t585.length : Int) == 1) = true := beq_iff_eq.mpr c19
         have c19b1 : ((t585.length : Int) != 1) = false := bne_eq_false_iff_eq.mpr c19
         clear c19
         by_cases c20 : 0 < (t556.length : Int)
         ·
          rw [if_pos c20] at H
          have c20b0 : decide (0 < (t556.length : Int)) = true := decide_eq_true c20
          have c20b1 : decide (0 < t556.length) = true := decide_eq_true (by omega)
          clear c20
          by_cases c21 : 0 < (t585.length : Int)
          ·
           rw [if_pos c21] at H
           have c21b0 : decide (0 < (t585.length : Int)) = true := decide_eq_true c21
           have c21b1 : decide (0 < t585.length) = true := decide_eq_true (by omega)
           clear c21
           by_cases c22 : (rd t556 0) = (rd t585 0)
           ·
            rw [if_pos c22] at H
            have c22b0 : ((rd t556 0) == (rd t585 0)) = true := beq_iff_eq.mpr c22
            have c22b1 : ((rd t556 0) != (rd t585 0)) = false := bne_eq_false_iff_eq.mpr c22
            clear c22
            by_cases c23 : 0 < (t569.length : Int)
            ·
             rw [if_pos c23] at H
             have c23b0 : decide (0 < (t569.length : Int)) = true := decide_eq_true c23
             have c23b1 : decide (0 < t569.length) = true := decide_eq_true (by omega)
             clear c23
             by_cases c24 : (((rd t556 0) == (rd t569 0)) == ((Go.bits .and .i64 a0 65535) == (Go.bits .and .i64 a1 65535))) = true
             ·
              rw [if_pos c24] at H
              have c24b0 : (((rd t556 0) == (rd t569 0)) == ((Go.bits .and .i64 a0 65535) == (Go.bits .and .i64 a1 65535))) = true := c24
              (try (have c24b1 : decide (((rd t556 0) == (rd t569 0)) = ((Go.bits .and .i64 a0 65535) == (Go.bits .and .i64 a1 65535))) = true := by simpa using c24))
              (try (have c24b2 : (((rd t556 0) == (rd t569 0)) == ((Go.bits .and .i64 a0 65535) == (Go.bits .and .i64 a1 65535))) = true := by simpa using c24))
              clear c24
              replace H := Option.bind_eq_some_iff.mp H
              obtain ⟨t596, A250, H⟩ := H
              replace H : (some t596) = some r := H
              have A25 := Aside0.mk A250
              clear A250
              obtain rfl := Option.some.inj H
              go_enter Tryd.func7, Tryd.ntmps7
              try go_wp2_with (first | ((with_reducible refine gate_callee (f := 32) rfl ?_); refine goesL_ (some 16) rfl rfl Tryd.func32 (by kernel_rfl) rfl #[] rfl (by (try simp only [List.map_toArray, List.map_cons, List.map_nil]); first | done | rfl | (simp only [List.length_drop, List.length_take]; rfl)) ?_; (with_reducible refine (cruciblelaw18_awake.calls  true _ A4.out).mono ?_); rintro e w26 ⟨rfl, hb⟩; refine ⟨_, rfl, ?_⟩; have n0_ := Aside0.mk (below_step (by repeat (first | (with_reducible first | exact HB.out | apply below_alloc | apply pw_below_drewN | apply below_drew1) | exact HB.out)) hb); clear HB; have HB := n0_; clear n0_; (try clear hb); (try clear hb2); (try clear hk); (try clear hi)) | ((with_reducible refine gate_callee (f := 36) rfl ?_); refine goesL_ (some 23) rfl rfl Tryd.func36 (by kernel_rfl) rfl #[.string a2] rfl (by (try simp only [List.map_toArray, List.map_cons, List.map_nil]); first | done | rfl | (simp only [List.length_drop, List.length_take]; rfl)) ?_; (with_reducible refine (cruciblelaw18_plain.calls k a2 true _ A6.out).mono ?_); rintro e w' ⟨rfl, ⟨nd, rfl⟩⟩; refine ⟨_, rfl, ?_⟩; (try (rw [drewN_self w26]; generalize hq_ : World.drewN w26 _ = w26; have n0_ : Aside0 (Below w.heap.size w w26) := ⟨by rw [← hq_]; exact (by repeat (first | (with_reducible first | exact HB.out | apply below_alloc | apply pw_below_drewN | apply below_drew1) | exact HB.out))⟩; clear HB hq_; have HB := n0_; clear n0_))) | ((with_reducible refine gate_dst (N := 29) rfl ?_); (try (refine gate_guard (by rfl) ?_; dsimp only)); refine Kd.R_lit k72 _ 72 ?hg (N := 29) ?hd (xs := ([(⟨(⟨#[112]⟩ : ByteArray), Go.bits .and .i64 a0 65535, 1⟩ : S72), (⟨(⟨#[113]⟩ : ByteArray), Go.bits .and .i64 a1 65535, 2⟩ : S72)] : List (S72))) (inner := [.string (⟨#[112]⟩ : ByteArray), .int .i64 (Go.bits .and .i64 a0 65535), .int .i64 1, .string (⟨#[113]⟩ : ByteArray), .int .i64 (Go.bits .and .i64 a1 65535), .int .i64 2]) (ok := fun _ => True) (okp := fun _ => True) ?hr ?hp (fun _ hk => hk) trivial (Below.refl _ _) (Nat.le_refl _) (by simp) ?_; (case hd => rfl); (case hg => rfl); (case hr => first | (go_simp; done) | (go_simp; rfl)); (case hp => exact (Reps.c3 (show Kd.M k72 _ _ _ (⟨(⟨#[112]⟩ : ByteArray), Go.bits .and .i64 a0 65535, 1⟩ : S72) [.string (⟨#[112]⟩ : ByteArray), .int .i64 (Go.bits .and .i64 a0 65535), .int .i64 1] from (k72_mkM _ _ _ (⟨(⟨#[112]⟩ : ByteArray), Go.bits .and .i64 a0 65535, 1⟩ : S72) )) (Reps.c3 (show Kd.M k72 _ _ _ (⟨(⟨#[113]⟩ : ByteArray), Go.bits .and .i64 a1 65535, 2⟩ : S72) [.string (⟨#[113]⟩ : ByteArray), .int .i64 (Go.bits .and .i64 a1 65535), .int .i64 2] from (k72_mkM _ _ _ (⟨(⟨#[113]⟩ : ByteArray), Go.bits .and .i64 a1 65535, 2⟩ : S72) )) (Reps.none _ _)))); intro v547 w27 ho28 hb hg_ hnew_; clear hg_ hnew_; (first | rw [← Ny546.out] at ho28 | (simp only [Int.reduceToNat] at ho28; rw [← Ny546.out] at ho28)); have n0_ := Aside0.mk (Kd.R_lower ho28 (below_size (by repeat (first | (with_reducible first | exact HB.out | apply below_alloc | apply pw_below_drewN | apply below_drew1) | exact HB.out)))); have n1_ := Aside0.mk (below_step (by repeat (first | (with_reducible first | exact HB.out | apply below_alloc | apply pw_below_drewN | apply below_drew1) | exact HB.out)) hb); clear HB; have HO548 := n0_; have HB := n1_; clear n0_ n1_; clear hb ho28; obtain ⟨Ao29, co29, eo29⟩ := Kd.R_slice HO548.out; subst eo29) | ((with_reducible refine gate_dst (N := 9) rfl ?_); (try (refine gate_guard (by rfl) ?_; dsimp only)); refine box_event ?hg (N := 9) ?hd (cs := #[.int .i64 0, .slice none 0 0]) (t := 28) ?hr ?_; (case hd => rfl); (case hg => rfl); (case hr => first | (go_simp; done) | (go_simp; rfl)); intro gb549 hg w30 hbox hb; have n0_ := Aside0.mk (Kd.R_below (by (with_reducible repeat (first | apply Kd.R_alloc | apply Kd.R_drewN | apply Kd.R_drew)); exact HO548.out) hb); have n1_ := Aside0.mk (below_step (by repeat (first | (with_reducible first | exact HB.out | apply below_alloc | apply pw_below_drewN | apply below_drew1) | exact HB.out)) hb); have n2_ := Aside0.mk (hbox); have n3_ := Aside0.mk ((by rw [hg]; exact (below_size (by repeat (first | (with_reducible first | exact HB.out | apply below_alloc | apply pw_below_drewN | apply below_drew1) | exact HB.out))) : w.heap.size ≤ gb549)); have n4_ := Aside0.mk ((by rw [hg]; exact (below_size (by repeat (first | (with_reducible first | exact HB.out | apply below_alloc | apply pw_below_drewN | apply below_drew1) | exact HB.out))) : w.heap.size ≤ gb549)); clear HO548; clear HB; have HO548 := n0_; have HB := n1_; have BK549 := n2_; have GW549 := n3_; have GE549 := n4_; clear n0_ n1_ n2_ n3_ n4_; clear hb hbox hg; have hcz31_0 : w30.cell? ⟨gb549, 0, none⟩ = some (.int .i64 0) := (blk_cell BK549.out 0).trans rfl; have hcz31_1 : w30.cell? ⟨gb549, 1, none⟩ = some (.slice none 0 0) := (blk_cell BK549.out 1).trans rfl; have hfz31_0 := blk_frozen BK549.out 0; have hfz31_1 := blk_frozen BK549.out 1) | ((with_reducible refine gate_dst (N := 32) rfl ?_); (try (refine gate_guard (by rfl) ?_; dsimp only)); refine Kd.R_lit Kd.string _ 9 ?hg (N := 32) ?hd (xs := ([(⟨#[111]⟩ : ByteArray)] : List ByteArray)) (inner := [.string (⟨#[111]⟩ : ByteArray)]) (ok := fun _ => True) (okp := fun _ => True) ?hr ?hp (fun _ hk => hk) trivial (Below.refl _ _) (Nat.le_refl _) (by simp) ?_; (case hd => rfl); (case hg => rfl); (case hr => first | (go_simp; done) | (go_simp; rfl)); (case hp => exact (Reps.one (show Kd.M Kd.string _ _ _ (⟨#[111]⟩ : ByteArray) [.string (⟨#[111]⟩ : ByteArray)] from rfl) (Reps.none _ _))); intro v551 w32 ho33 hb hg_ hnew_; clear hg_ hnew_; (first | rw [← Ny550.out] at ho33 | (simp only [Int.reduceToNat] at ho33; rw [← Ny550.out] at ho33)); have n0_ := Aside0.mk (Kd.R_below (by (with_reducible repeat (first | apply Kd.R_alloc | apply Kd.R_drewN | apply Kd.R_drew)); exact (Kd.R_mono (Kd.R_far (p := ⟨gb549, 1, none⟩) (Kd.R_far (p := ⟨gb549, 0, none⟩) (Kd.R_types HO548.out BK549.out (by decide)) (fun _ hk => hk.2) (.int .i64 2)) (fun _ hk => hk.2) (.slice Ao29 y546.length co29)) (fun _ h_ => h_.1))) hb); have n1_ := Aside0.mk (Kd.R_lower ho33 (below_size (by repeat (first | (with_reducible first | exact HB.out | apply below_alloc | apply pw_below_drewN | apply below_drew1 | refine below_set ?_ GE549.out) | exact HB.out)))); have n2_ := Aside0.mk (blk_below (g := gb549) (o := .cells #[.int .i64 2, .slice Ao29 y546.length co29] 28 (0, 0)) (by (with_reducible repeat (first | refine blk_drewN ?_ _ | refine blk_drew ?_ | refine blk_alloc ?_ _)); refine blk_put (cs := #[.int .i64 2, .slice none 0 0]) ?_ 1 _ rfl; (with_reducible repeat (first | refine blk_drewN ?_ _ | refine blk_drew ?_ | refine blk_alloc ?_ _)); refine blk_put (cs := #[.int .i64 0, .slice none 0 0]) ?_ 0 _ rfl; (with_reducible repeat (first | refine blk_drewN ?_ _ | refine blk_drew ?_ | refine blk_alloc ?_ _)); exact BK549.out) hb); have n3_ := Aside0.mk (below_step (by repeat (first | (with_reducible first | exact HB.out | apply below_alloc | apply pw_below_drewN | apply below_drew1 | refine below_set ?_ GE549.out) | exact HB.out)) hb); clear HO548; clear BK549; clear HB; have HO548 := n0_; have HO552 := n1_; have BK549 := n2_; have HB := n3_; clear n0_ n1_ n2_ n3_; clear hb ho33) | ((with_reducible refine gate_dst (N := 33) rfl ?_); (try (refine gate_guard (by rfl) ?_; dsimp only)); refine Kd.R_lit Kd.string _ 9 ?hg (N := 33) ?hd (xs := ([(⟨#[112]⟩ : ByteArray), (⟨#[113]⟩ : ByteArray)] : List ByteArray)) (inner := [.string (⟨#[112]⟩ : ByteArray), .string (⟨#[113]⟩ : ByteArray)]) (ok := fun _ => True) (okp := fun _ => True) ?hr ?hp (fun _ hk => hk) trivial (Below.refl _ _) (Nat.le_refl _) (by simp) ?_; (case hd => rfl); (case hg => rfl); (case hr => first | (go_simp; done) | (go_simp; rfl)); (case hp => exact (Reps.one (show Kd.M Kd.string _ _ _ (⟨#[112]⟩ : ByteArray) [.string (⟨#[112]⟩ : ByteArray)] from rfl) (Reps.one (show Kd.M Kd.string _ _ _ (⟨#[113]⟩ : ByteArray) [.string (⟨#[113]⟩ : ByteArray)] from rfl) (Reps.none _ _)))); intro v554 w34 ho35 hb hg_ hnew_; clear hg_ hnew_; (first | rw [← Ny553.out] at ho35 | (simp only [Int.reduceToNat] at ho35; rw [← Ny553.out] at ho35)); have n0_ := Aside0.mk (Kd.R_below (by (with_reducible repeat (first | apply Kd.R_alloc | apply Kd.R_drewN | apply Kd.R_drew)); exact HO548.out) hb); have n1_ := Aside0.mk (Kd.R_elder' (by (with_reducible repeat (first | apply Kd.R_alloc | apply Kd.R_drewN | apply Kd.R_drew)); exact HO552.out) (Kd.R_base ho35) hb); have n2_ := Aside0.mk (Kd.R_lower (Kd.R_new' ho35 (Kd.R_lt (by (with_reducible repeat (first | apply Kd.R_alloc | apply Kd.R_drewN | apply Kd.R_drew)); exact HO552.out))) (below_size (by repeat (first | (with_reducible first | exact HB.out | apply below_alloc | apply pw_below_drewN | apply below_drew1 | refine below_set ?_ GE549.out) | exact HB.out)))); have n3_ := Aside0.mk (blk_below (g := gb549) (o := .cells #[.int .i64 2, .slice Ao29 y546.length co29] 28 (0, 0)) (by (with_reducible repeat (first | refine blk_drewN ?_ _ | refine blk_drew ?_ | refine blk_alloc ?_ _)); exact BK549.out) hb); have n4_ := Aside0.mk (below_step (by repeat (first | (with_reducible first | exact HB.out | apply below_alloc | apply pw_below_drewN | apply below_drew1 | refine below_set ?_ GE549.out) | exact HB.out)) hb); clear HO548; clear HO552; clear BK549; clear HB; have HO548 := n0_; have HO552 := n1_; have HO555 := n2_; have BK549 := n3_; have HB := n4_; clear n0_ n1_ n2_ n3_ n4_; clear hb ho35; obtain ⟨Ao36, co36, eo36⟩ := Kd.R_slice HO555.out; subst eo36; obtain ⟨Ao37, co37, eo37⟩ := Kd.R_slice HO552.out; subst eo37; have hcz38_0 : w34.cell? ⟨gb549, 0, none⟩ = some (.int .i64 2) := (blk_cell BK549.out 0).trans rfl; have hcz38_1 : w34.cell? ⟨gb549, 1, none⟩ = some (.slice Ao29 y546.length co29) := (blk_cell BK549.out 1).trans rfl; have hfz38_0 := blk_frozen BK549.out 0; have hfz38_1 := blk_frozen BK549.out 1) | ((with_reducible refine gate_callee (f := 22) rfl ?_); refine goesL_ (some 37) rfl rfl Tryd.func22 (by kernel_rfl) rfl #[.slice none 0 0, .agg #[.slice Ao37 y550.length co37, .slice Ao36 y553.length co36, .slice none 0 0, .slice none 0 0, .string a2, .bool false, .string (⟨#[]⟩ : ByteArray)], .agg #[.int .i64 2, .slice Ao29 y546.length co29]] rfl (by (try simp only [List.map_toArray, List.map_cons, List.map_nil]); first | done | rfl | (simp only [List.length_drop, List.length_take]; rfl)) ?_; (refine (command_Run.calls k _ _ ([] : List (S33)) _ _ y550 _ _ y553 _ _ ([] : List ByteArray) _ _ ([] : List ByteArray) a2 false (⟨#[]⟩ : ByteArray) 2 _ _ y546 t556 t559 _ ?side1 ?side2 ?side3 ?side4 ?side5 ?side6 ?side7 ?side8 ?side9 ?side10 ?side11 ?side12 A8.out).mono ?_); (case side1 => exact Kd.C_nil _ _); (case side2 => exact Nat.le_refl _); (case side3 => repeat (first | exact (Kd.R_reads' HO552.out).2.2 | (with_reducible refine Kd.C_alloc ?_ _) | (with_reducible refine Kd.C_drewN ?_ _) | (with_reducible refine Kd.C_drew ?_))); (case side4 => exact (Kd.R_reads' HO552.out).2.1); (case side5 => repeat (first | exact (Kd.R_reads' HO555.out).2.2 | (with_reducible refine Kd.C_alloc ?_ _) | (with_reducible refine Kd.C_drewN ?_ _) | (with_reducible refine Kd.C_drew ?_))); (case side6 => exact (Kd.R_reads' HO555.out).2.1); (case side7 => exact Kd.C_nil _ _); (case side8 => exact Nat.le_refl _); (case side9 => exact Kd.C_nil _ _); (case side10 => exact Nat.le_refl _); (case side11 => repeat (first | exact (Kd.R_reads' HO548.out).2.2 | (with_reducible refine Kd.C_alloc ?_ _) | (with_reducible refine Kd.C_drewN ?_ _) | (with_reducible refine Kd.C_drew ?_))); (case side12 => exact (Kd.R_reads' HO548.out).2.1); rintro e w39 ⟨v557, rfl, ho0, hb⟩; refine ⟨_, rfl, ?_⟩; have n0_ := Aside0.mk (Kd.R_below (by (with_reducible repeat (first | apply Kd.R_alloc | apply Kd.R_drewN | apply Kd.R_drew)); exact HO548.out) hb); have n1_ := Aside0.mk (Kd.R_below (by (with_reducible repeat (first | apply Kd.R_alloc | apply Kd.R_drewN | apply Kd.R_drew)); exact HO552.out) hb); have n2_ := Aside0.mk (Kd.R_below (by (with_reducible repeat (first | apply Kd.R_alloc | apply Kd.R_drewN | apply Kd.R_drew)); exact HO555.out) hb); have n3_ := Aside0.mk (Kd.R_lower ho0 (below_size (by repeat (first | (with_reducible first | exact HB.out | apply below_alloc | apply pw_below_drewN | apply below_drew1 | refine below_set ?_ GE549.out) | exact HB.out)))); have n4_ := Aside0.mk (blk_below (g := gb549) (o := .cells #[.int .i64 2, .slice Ao29 y546.length co29] 28 (0, 0)) (by (with_reducible repeat (first | refine blk_drewN ?_ _ | refine blk_drew ?_ | refine blk_alloc ?_ _)); exact BK549.out) hb); have n5_ := Aside0.mk (below_step (by repeat (first | (with_reducible first | exact HB.out | apply below_alloc | apply pw_below_drewN | apply below_drew1 | refine below_set ?_ GE549.out) | exact HB.out)) hb); clear HO548; clear HO552; clear HO555; clear BK549; clear HB; have HO548 := n0_; have HO552 := n1_; have HO555 := n2_; have HO558 := n3_; have BK549 := n4_; have HB := n5_; clear n0_ n1_ n2_ n3_ n4_ n5_; (try clear hb); (try clear hb2); (try clear hk); (try clear hi); (try clear ho0)) | ((with_reducible refine gate_dst (N := 41) rfl ?_); (try (refine gate_guard (by rfl) ?_; dsimp only)); refine Kd.R_lit Kd.string _ 9 ?hg (N := 41) ?hd (xs := ([(⟨#[111]⟩ : ByteArray)] : List ByteArray)) (inner := [.string (⟨#[111]⟩ : ByteArray)]) (ok := fun _ => True) (okp := fun _ => True) ?hr ?hp (fun _ hk => hk) trivial (Below.refl _ _) (Nat.le_refl _) (by simp) ?_; (case hd => rfl); (case hg => rfl); (case hr => first | (go_simp; done) | (go_simp; rfl)); (case hp => exact (Reps.one (show Kd.M Kd.string _ _ _ (⟨#[111]⟩ : ByteArray) [.string (⟨#[111]⟩ : ByteArray)] from rfl) (Reps.none _ _))); intro v561 w40 ho41 hb hg_ hnew_; clear hg_ hnew_; (first | rw [← Ny560.out] at ho41 | (simp only [Int.reduceToNat] at ho41; rw [← Ny560.out] at ho41)); have n0_ := Aside0.mk (Kd.R_below (by (with_reducible repeat (first | apply Kd.R_alloc | apply Kd.R_drewN | apply Kd.R_drew)); exact HO548.out) hb); have n1_ := Aside0.mk (Kd.R_elder' (by (with_reducible repeat (first | apply Kd.R_alloc | apply Kd.R_drewN | apply Kd.R_drew)); exact HO552.out) (Kd.R_base ho41) hb); have n2_ := Aside0.mk (Kd.R_elder' (by (with_reducible repeat (first | apply Kd.R_alloc | apply Kd.R_drewN | apply Kd.R_drew)); exact HO555.out) (Kd.R_base ho41) hb); have n3_ := Aside0.mk (Kd.R_below (by (with_reducible repeat (first | apply Kd.R_alloc | apply Kd.R_drewN | apply Kd.R_drew)); exact HO558.out) hb); have n4_ := Aside0.mk (Kd.R_lower (Kd.R_new' (Kd.R_new' ho41 (Kd.R_lt (by (with_reducible repeat (first | apply Kd.R_alloc | apply Kd.R_drewN | apply Kd.R_drew)); exact HO552.out))) (Kd.R_lt (by (with_reducible repeat (first | apply Kd.R_alloc | apply Kd.R_drewN | apply Kd.R_drew)); exact HO555.out))) (below_size (by repeat (first | (with_reducible first | exact HB.out | apply below_alloc | apply pw_below_drewN | apply below_drew1 | refine below_set ?_ GE549.out) | exact HB.out)))); have n5_ := Aside0.mk (blk_below (g := gb549) (o := .cells #[.int .i64 2, .slice Ao29 y546.length co29] 28 (0, 0)) (by (with_reducible repeat (first | refine blk_drewN ?_ _ | refine blk_drew ?_ | refine blk_alloc ?_ _)); exact BK549.out) hb); have n6_ := Aside0.mk (below_step (by repeat (first | (with_reducible first | exact HB.out | apply below_alloc | apply pw_below_drewN | apply below_drew1 | refine below_set ?_ GE549.out) | exact HB.out)) hb); clear HO548; clear HO552; clear HO555; clear HO558; clear BK549; clear HB; have HO548 := n0_; have HO552 := n1_; have HO555 := n2_; have HO558 := n3_; have HO562 := n4_; have BK549 := n5_; have HB := n6_; clear n0_ n1_ n2_ n3_ n4_ n5_ n6_; clear hb ho41) | ((with_reducible refine gate_dst (N := 42) rfl ?_); (try (refine gate_guard (by rfl) ?_; dsimp only)); refine Kd.R_lit Kd.string _ 9 ?hg (N := 42) ?hd (xs := ([(⟨#[113]⟩ : ByteArray)] : List ByteArray)) (inner := [.string (⟨#[113]⟩ : ByteArray)]) (ok := fun _ => True) (okp := fun _ => True) ?hr ?hp (fun _ hk => hk) trivial (Below.refl _ _) (Nat.le_refl _) (by simp) ?_; (case hd => rfl); (case hg => rfl); (case hr => first | (go_simp; done) | (go_simp; rfl)); (case hp => exact (Reps.one (show Kd.M Kd.string _ _ _ (⟨#[113]⟩ : ByteArray) [.string (⟨#[113]⟩ : ByteArray)] from rfl) (Reps.none _ _))); intro v564 w42 ho43 hb hg_ hnew_; clear hg_ hnew_; (first | rw [← Ny563.out] at ho43 | (simp only [Int.reduceToNat] at ho43; rw [← Ny563.out] at ho43)); have n0_ := Aside0.mk (Kd.R_below (by (with_reducible repeat (first | apply Kd.R_alloc | apply Kd.R_drewN | apply Kd.R_drew)); exact HO548.out) hb); have n1_ := Aside0.mk (Kd.R_elder' (by (with_reducible repeat (first | apply Kd.R_alloc | apply Kd.R_drewN | apply Kd.R_drew)); exact HO552.out) (Kd.R_base ho43) hb); have n2_ := Aside0.mk (Kd.R_elder' (by (with_reducible repeat (first | apply Kd.R_alloc | apply Kd.R_drewN | apply Kd.R_drew)); exact HO555.out) (Kd.R_base ho43) hb); have n3_ := Aside0.mk (Kd.R_below (by (with_reducible repeat (first | apply Kd.R_alloc | apply Kd.R_drewN | apply Kd.R_drew)); exact HO558.out) hb); have n4_ := Aside0.mk (Kd.R_elder' (by (with_reducible repeat (first | apply Kd.R_alloc | apply Kd.R_drewN | apply Kd.R_drew)); exact HO562.out) (Kd.R_base ho43) hb); have n5_ := Aside0.mk (Kd.R_lower (Kd.R_new' (Kd.R_new' (Kd.R_new' ho43 (Kd.R_lt (by (with_reducible repeat (first | apply Kd.R_alloc | apply Kd.R_drewN | apply Kd.R_drew)); exact HO552.out))) (Kd.R_lt (by (with_reducible repeat (first | apply Kd.R_alloc | apply Kd.R_drewN | apply Kd.R_drew)); exact HO555.out))) (Kd.R_lt (by (with_reducible repeat (first | apply Kd.R_alloc | apply Kd.R_drewN | apply Kd.R_drew)); exact HO562.out))) (below_size (by repeat (first | (with_reducible first | exact HB.out | apply below_alloc | apply pw_below_drewN | apply below_drew1 | refine below_set ?_ GE549.out) | exact HB.out)))); have n6_ := Aside0.mk (blk_below (g := gb549) (o := .cells #[.int .i64 2, .slice Ao29 y546.length co29] 28 (0, 0)) (by (with_reducible repeat (first | refine blk_drewN ?_ _ | refine blk_drew ?_ | refine blk_alloc ?_ _)); exact BK549.out) hb); have n7_ := Aside0.mk (below_step (by repeat (first | (with_reducible first | exact HB.out | apply below_alloc | apply pw_below_drewN | apply below_drew1 | refine below_set ?_ GE549.out) | exact HB.out)) hb); clear HO548; clear HO552; clear HO555; clear HO558; clear HO562; clear BK549; clear HB; have HO548 := n0_; have HO552 := n1_; have HO555 := n2_; have HO558 := n3_; have HO562 := n4_; have HO565 := n5_; have BK549 := n6_; have HB := n7_; clear n0_ n1_ n2_ n3_ n4_ n5_ n6_ n7_; clear hb ho43) | ((with_reducible refine gate_dst (N := 43) rfl ?_); (try (refine gate_guard (by rfl) ?_; dsimp only)); refine Kd.R_lit Kd.string _ 9 ?hg (N := 43) ?hd (xs := ([(⟨#[112]⟩ : ByteArray)] : List ByteArray)) (inner := [.string (⟨#[112]⟩ : ByteArray)]) (ok := fun _ => True) (okp := fun _ => True) ?hr ?hp (fun _ hk => hk) trivial (Below.refl _ _) (Nat.le_refl _) (by simp) ?_; (case hd => rfl); (case hg => rfl); (case hr => first | (go_simp; done) | (go_simp; rfl)); (case hp => exact (Reps.one (show Kd.M Kd.string _ _ _ (⟨#[112]⟩ : ByteArray) [.string (⟨#[112]⟩ : ByteArray)] from rfl) (Reps.none _ _))); intro v567 w44 ho45 hb hg_ hnew_; clear hg_ hnew_; (first | rw [← Ny566.out] at ho45 | (simp only [Int.reduceToNat] at ho45; rw [← Ny566.out] at ho45)); have n0_ := Aside0.mk (Kd.R_below (by (with_reducible repeat (first | apply Kd.R_alloc | apply Kd.R_drewN | apply Kd.R_drew)); exact HO548.out) hb); have n1_ := Aside0.mk (Kd.R_elder' (by (with_reducible repeat (first | apply Kd.R_alloc | apply Kd.R_drewN | apply Kd.R_drew)); exact HO552.out) (Kd.R_base ho45) hb); have n2_ := Aside0.mk (Kd.R_elder' (by (with_reducible repeat (first | apply Kd.R_alloc | apply Kd.R_drewN | apply Kd.R_drew)); exact HO555.out) (Kd.R_base ho45) hb); have n3_ := Aside0.mk (Kd.R_below (by (with_reducible repeat (first | apply Kd.R_alloc | apply Kd.R_drewN | apply Kd.R_drew)); exact HO558.out) hb); have n4_ := Aside0.mk (Kd.R_elder' (by (with_reducible repeat (first | apply Kd.R_alloc | apply Kd.R_drewN | apply Kd.R_drew)); exact HO562.out) (Kd.R_base ho45) hb); have n5_ := Aside0.mk (Kd.R_elder' (by (with_reducible repeat (first | apply Kd.R_alloc | apply Kd.R_drewN | apply Kd.R_drew)); exact HO565.out) (Kd.R_base ho45) hb); have n6_ := Aside0.mk (Kd.R_lower (Kd.R_new' (Kd.R_new' (Kd.R_new' (Kd.R_new' ho45 (Kd.R_lt (by (with_reducible repeat (first | apply Kd.R_alloc | apply Kd.R_drewN | apply Kd.R_drew)); exact HO552.out))) (Kd.R_lt (by (with_reducible repeat (first | apply Kd.R_alloc | apply Kd.R_drewN | apply Kd.R_drew)); exact HO555.out))) (Kd.R_lt (by (with_reducible repeat (first | apply Kd.R_alloc | apply Kd.R_drewN | apply Kd.R_drew)); exact HO562.out))) (Kd.R_lt (by (with_reducible repeat (first | apply Kd.R_alloc | apply Kd.R_drewN | apply Kd.R_drew)); exact HO565.out))) (below_size (by repeat (first | (with_reducible first | exact HB.out | apply below_alloc | apply pw_below_drewN | apply below_drew1 | refine below_set ?_ GE549.out) | exact HB.out)))); have n7_ := Aside0.mk (blk_below (g := gb549) (o := .cells #[.int .i64 2, .slice Ao29 y546.length co29] 28 (0, 0)) (by (with_reducible repeat (first | refine blk_drewN ?_ _ | refine blk_drew ?_ | refine blk_alloc ?_ _)); exact BK549.out) hb); have n8_ := Aside0.mk (below_step (by repeat (first | (with_reducible first | exact HB.out | apply below_alloc | apply pw_below_drewN | apply below_drew1 | refine below_set ?_ GE549.out) | exact HB.out)) hb); clear HO548; clear HO552; clear HO555; clear HO558; clear HO562; clear HO565; clear BK549; clear HB; have HO548 := n0_; have HO552 := n1_; have HO555 := n2_; have HO558 := n3_; have HO562 := n4_; have HO565 := n5_; have HO568 := n6_; have BK549 := n7_; have HB := n8_; clear n0_ n1_ n2_ n3_ n4_ n5_ n6_ n7_ n8_; clear hb ho45; obtain ⟨Ao46, co46, eo46⟩ := Kd.R_slice HO568.out; subst eo46; obtain ⟨Ao47, co47, eo47⟩ := Kd.R_slice HO565.out; subst eo47; obtain ⟨Ao48, co48, eo48⟩ := Kd.R_slice HO562.out; subst eo48; have hcz49_0 : w44.cell? ⟨gb549, 0, none⟩ = some (.int .i64 2) := (blk_cell BK549.out 0).trans rfl; have hcz49_1 : w44.cell? ⟨gb549, 1, none⟩ = some (.slice Ao29 y546.length co29) := (blk_cell BK549.out 1).trans rfl; have hfz49_0 := blk_frozen BK549.out 0; have hfz49_1 := blk_frozen BK549.out 1) | ((with_reducible refine gate_callee (f := 22) rfl ?_); refine goesL_ (some 47) rfl rfl Tryd.func22 (by kernel_rfl) rfl #[.slice none 0 0, .agg #[.slice Ao48 y560.length co48, .slice Ao47 y563.length co47, .slice Ao46 y566.length co46, .slice none 0 0, .string a2, .bool false, .string (⟨#[]⟩ : ByteArray)], .agg #[.int .i64 2, .slice Ao29 y546.length co29]] rfl (by (try simp only [List.map_toArray, List.map_cons, List.map_nil]); first | done | rfl | (simp only [List.length_drop, List.length_take]; rfl)) ?_; (refine (command_Run.calls k _ _ ([] : List (S33)) _ _ y560 _ _ y563 _ _ y566 _ _ ([] : List ByteArray) a2 false (⟨#[]⟩ : ByteArray) 2 _ _ y546 t569 t572 _ ?side1 ?side2 ?side3 ?side4 ?side5 ?side6 ?side7 ?side8 ?side9 ?side10 ?side11 ?side12 A9.out).mono ?_); (case side1 => exact Kd.C_nil _ _); (case side2 => exact Nat.le_refl _); (case side3 => repeat (first | exact (Kd.R_reads' HO562.out).2.2 | (with_reducible refine Kd.C_alloc ?_ _) | (with_reducible refine Kd.C_drewN ?_ _) | (with_reducible refine Kd.C_drew ?_))); (case side4 => exact (Kd.R_reads' HO562.out).2.1); (case side5 => repeat (first | exact (Kd.R_reads' HO565.out).2.2 | (with_reducible refine Kd.C_alloc ?_ _) | (with_reducible refine Kd.C_drewN ?_ _) | (with_reducible refine Kd.C_drew ?_))); (case side6 => exact (Kd.R_reads' HO565.out).2.1); (case side7 => repeat (first | exact (Kd.R_reads' HO568.out).2.2 | (with_reducible refine Kd.C_alloc ?_ _) | (with_reducible refine Kd.C_drewN ?_ _) | (with_reducible refine Kd.C_drew ?_))); (case side8 => exact (Kd.R_reads' HO568.out).2.1); (case side9 => exact Kd.C_nil _ _); (case side10 => exact Nat.le_refl _); (case side11 => repeat (first | exact (Kd.R_reads' HO548.out).2.2 | (with_reducible refine Kd.C_alloc ?_ _) | (with_reducible refine Kd.C_drewN ?_ _) | (with_reducible refine Kd.C_drew ?_))); (case side12 => exact (Kd.R_reads' HO548.out).2.1); rintro e w50 ⟨v570, rfl, ho0, hb⟩; refine ⟨_, rfl, ?_⟩; have n0_ := Aside0.mk (Kd.R_below (by (with_reducible repeat (first | apply Kd.R_alloc | apply Kd.R_drewN | apply Kd.R_drew)); exact HO548.out) hb); have n1_ := Aside0.mk (Kd.R_below (by (with_reducible repeat (first | apply Kd.R_alloc | apply Kd.R_drewN | apply Kd.R_drew)); exact HO552.out) hb); have n2_ := Aside0.mk (Kd.R_below (by (with_reducible repeat (first | apply Kd.R_alloc | apply Kd.R_drewN | apply Kd.R_drew)); exact HO555.out) hb); have n3_ := Aside0.mk (Kd.R_elder' (by (with_reducible repeat (first | apply Kd.R_alloc | apply Kd.R_drewN | apply Kd.R_drew)); exact HO558.out) (Kd.R_base ho0) hb); have n4_ := Aside0.mk (Kd.R_below (by (with_reducible repeat (first | apply Kd.R_alloc | apply Kd.R_drewN | apply Kd.R_drew)); exact HO562.out) hb); have n5_ := Aside0.mk (Kd.R_below (by (with_reducible repeat (first | apply Kd.R_alloc | apply Kd.R_drewN | apply Kd.R_drew)); exact HO565.out) hb); have n6_ := Aside0.mk (Kd.R_below (by (with_reducible repeat (first | apply Kd.R_alloc | apply Kd.R_drewN | apply Kd.R_drew)); exact HO568.out) hb); have n7_ := Aside0.mk (Kd.R_lower (Kd.R_new' ho0 (Kd.R_lt (by (with_reducible repeat (first | apply Kd.R_alloc | apply Kd.R_drewN | apply Kd.R_drew)); exact HO558.out))) (below_size (by repeat (first | (with_reducible first | exact HB.out | apply below_alloc | apply pw_below_drewN | apply below_drew1 | refine below_set ?_ GE549.out) | exact HB.out)))); have n8_ := Aside0.mk (blk_below (g := gb549) (o := .cells #[.int .i64 2, .slice Ao29 y546.length co29] 28 (0, 0)) (by (with_reducible repeat (first | refine blk_drewN ?_ _ | refine blk_drew ?_ | refine blk_alloc ?_ _)); exact BK549.out) hb); have n9_ := Aside0.mk (below_step (by repeat (first | (with_reducible first | exact HB.out | apply below_alloc | apply pw_below_drewN | apply below_drew1 | refine below_set ?_ GE549.out) | exact HB.out)) hb); clear HO548; clear HO552; clear HO555; clear HO558; clear HO562; clear HO565; clear HO568; clear BK549; clear HB; have HO548 := n0_; have HO552 := n1_; have HO555 := n2_; have HO558 := n3_; have HO562 := n4_; have HO565 := n5_; have HO568 := n6_; have HO571 := n7_; have BK549 := n8_; have HB := n9_; clear n0_ n1_ n2_ n3_ n4_ n5_ n6_ n7_ n8_ n9_; (try clear hb); (try clear hb2); (try clear hk); (try clear hi); (try clear ho0)) | ((with_reducible refine gate_dst (N := 51) rfl ?_); (try (refine gate_guard (by rfl) ?_; dsimp only)); refine Kd.R_lit Kd.string _ 9 ?hg (N := 51) ?hd (xs := ([(⟨#[111]⟩ : ByteArray)] : List ByteArray)) (inner := [.string (⟨#[111]⟩ : ByteArray)]) (ok := fun _ => True) (okp := fun _ => True) ?hr ?hp (fun _ hk => hk) trivial (Below.refl _ _) (Nat.le_refl _) (by simp) ?_; (case hd => rfl); (case hg => rfl); (case hr => first | (go_simp; done) | (go_simp; rfl)); (case hp => exact (Reps.one (show Kd.M Kd.string _ _ _ (⟨#[111]⟩ : ByteArray) [.string (⟨#[111]⟩ : ByteArray)] from rfl) (Reps.none _ _))); intro v574 w51 ho52 hb hg_ hnew_; clear hg_ hnew_; (first | rw [← Ny573.out] at ho52 | (simp only [Int.reduceToNat] at ho52; rw [← Ny573.out] at ho52)); have n0_ := Aside0.mk (Kd.R_below (by (with_reducible repeat (first | apply Kd.R_alloc | apply Kd.R_drewN | apply Kd.R_drew)); exact HO548.out) hb); have n1_ := Aside0.mk (Kd.R_elder' (by (with_reducible repeat (first | apply Kd.R_alloc | apply Kd.R_drewN | apply Kd.R_drew)); exact HO552.out) (Kd.R_base ho52) hb); have n2_ := Aside0.mk (Kd.R_elder' (by (with_reducible repeat (first | apply Kd.R_alloc | apply Kd.R_drewN | apply Kd.R_drew)); exact HO555.out) (Kd.R_base ho52) hb); have n3_ := Aside0.mk (Kd.R_below (by (with_reducible repeat (first | apply Kd.R_alloc | apply Kd.R_drewN | apply Kd.R_drew)); exact HO558.out) hb); have n4_ := Aside0.mk (Kd.R_elder' (by (with_reducible repeat (first | apply Kd.R_alloc | apply Kd.R_drewN | apply Kd.R_drew)); exact HO562.out) (Kd.R_base ho52) hb); have n5_ := Aside0.mk (Kd.R_elder' (by (with_reducible repeat (first | apply Kd.R_alloc | apply Kd.R_drewN | apply Kd.R_drew)); exact HO565.out) (Kd.R_base ho52) hb); have n6_ := Aside0.mk (Kd.R_elder' (by (with_reducible repeat (first | apply Kd.R_alloc | apply Kd.R_drewN | apply Kd.R_drew)); exact HO568.out) (Kd.R_base ho52) hb); have n7_ := Aside0.mk (Kd.R_below (by (with_reducible repeat (first | apply Kd.R_alloc | apply Kd.R_drewN | apply Kd.R_drew)); exact HO571.out) hb); have n8_ := Aside0.mk (Kd.R_lower (Kd.R_new' (Kd.R_new' (Kd.R_new' (Kd.R_new' (Kd.R_new' ho52 (Kd.R_lt (by (with_reducible repeat (first | apply Kd.R_alloc | apply Kd.R_drewN | apply Kd.R_drew)); exact HO552.out))) (Kd.R_lt (by (with_reducible repeat (first | apply Kd.R_alloc | apply Kd.R_drewN | apply Kd.R_drew)); exact HO555.out))) (Kd.R_lt (by (with_reducible repeat (first | apply Kd.R_alloc | apply Kd.R_drewN | apply Kd.R_drew)); exact HO562.out))) (Kd.R_lt (by (with_reducible repeat (first | apply Kd.R_alloc | apply Kd.R_drewN | apply Kd.R_drew)); exact HO565.out))) (Kd.R_lt (by (with_reducible repeat (first | apply Kd.R_alloc | apply Kd.R_drewN | apply Kd.R_drew)); exact HO568.out))) (below_size (by repeat (first | (with_reducible first | exact HB.out | apply below_alloc | apply pw_below_drewN | apply below_drew1 | refine below_set ?_ GE549.out) | exact HB.out)))); have n9_ := Aside0.mk (blk_below (g := gb549) (o := .cells #[.int .i64 2, .slice Ao29 y546.length co29] 28 (0, 0)) (by (with_reducible repeat (first | refine blk_drewN ?_ _ | refine blk_drew ?_ | refine blk_alloc ?_ _)); exact BK549.out) hb); have n10_ := Aside0.mk (below_step (by repeat (first | (with_reducible first | exact HB.out | apply below_alloc | apply pw_below_drewN | apply below_drew1 | refine below_set ?_ GE549.out) | exact HB.out)) hb); clear HO548; clear HO552; clear HO555; clear HO558; clear HO562; clear HO565; clear HO568; clear HO571; clear BK549; clear HB; have HO548 := n0_; have HO552 := n1_; have HO555 := n2_; have HO558 := n3_; have HO562 := n4_; have HO565 := n5_; have HO568 := n6_; have HO571 := n7_; have HO575 := n8_; have BK549 := n9_; have HB := n10_; clear n0_ n1_ n2_ n3_ n4_ n5_ n6_ n7_ n8_ n9_ n10_; clear hb ho52) | ((with_reducible refine gate_dst (N := 52) rfl ?_); (try (refine gate_guard (by rfl) ?_; dsimp only)); refine Kd.R_lit Kd.string _ 9 ?hg (N := 52) ?hd (xs := ([(⟨#[112]⟩ : ByteArray)] : List ByteArray)) (inner := [.string (⟨#[112]⟩ : ByteArray)]) (ok := fun _ => True) (okp := fun _ => True) ?hr ?hp (fun _ hk => hk) trivial (Below.refl _ _) (Nat.le_refl _) (by simp) ?_; (case hd => rfl); (case hg => rfl); (case hr => first | (go_simp; done) | (go_simp; rfl)); (case hp => exact (Reps.one (show Kd.M Kd.string _ _ _ (⟨#[112]⟩ : ByteArray) [.string (⟨#[112]⟩ : ByteArray)] from rfl) (Reps.none _ _))); intro v577 w53 ho54 hb hg_ hnew_; clear hg_ hnew_; (first | rw [← Ny576.out] at ho54 | (simp only [Int.reduceToNat] at ho54; rw [← Ny576.out] at ho54)); have n0_ := Aside0.mk (Kd.R_below (by (with_reducible repeat (first | apply Kd.R_alloc | apply Kd.R_drewN | apply Kd.R_drew)); exact HO548.out) hb); have n1_ := Aside0.mk (Kd.R_elder' (by (with_reducible repeat (first | apply Kd.R_alloc | apply Kd.R_drewN | apply Kd.R_drew)); exact HO552.out) (Kd.R_base ho54) hb); have n2_ := Aside0.mk (Kd.R_elder' (by (with_reducible repeat (first | apply Kd.R_alloc | apply Kd.R_drewN | apply Kd.R_drew)); exact HO555.out) (Kd.R_base ho54) hb); have n3_ := Aside0.mk (Kd.R_below (by (with_reducible repeat (first | apply Kd.R_alloc | apply Kd.R_drewN | apply Kd.R_drew)); exact HO558.out) hb); have n4_ := Aside0.mk (Kd.R_elder' (by (with_reducible repeat (first | apply Kd.R_alloc | apply Kd.R_drewN | apply Kd.R_drew)); exact HO562.out) (Kd.R_base ho54) hb); have n5_ := Aside0.mk (Kd.R_elder' (by (with_reducible repeat (first | apply Kd.R_alloc | apply Kd.R_drewN | apply Kd.R_drew)); exact HO565.out) (Kd.R_base ho54) hb); have n6_ := Aside0.mk (Kd.R_elder' (by (with_reducible repeat (first | apply Kd.R_alloc | apply Kd.R_drewN | apply Kd.R_drew)); exact HO568.out) (Kd.R_base ho54) hb); have n7_ := Aside0.mk (Kd.R_below (by (with_reducible repeat (first | apply Kd.R_alloc | apply Kd.R_drewN | apply Kd.R_drew)); exact HO571.out) hb); have n8_ := Aside0.mk (Kd.R_elder' (by (with_reducible repeat (first | apply Kd.R_alloc | apply Kd.R_drewN | apply Kd.R_drew)); exact HO575.out) (Kd.R_base ho54) hb); have n9_ := Aside0.mk (Kd.R_lower (Kd.R_new' (Kd.R_new' (Kd.R_new' (Kd.R_new' (Kd.R_new' (Kd.R_new' ho54 (Kd.R_lt (by (with_reducible repeat (first | apply Kd.R_alloc | apply Kd.R_drewN | apply Kd.R_drew)); exact HO552.out))) (Kd.R_lt (by (with_reducible repeat (first | apply Kd.R_alloc | apply Kd.R_drewN | apply Kd.R_drew)); exact HO555.out))) (Kd.R_lt (by (with_reducible repeat (first | apply Kd.R_alloc | apply Kd.R_drewN | apply Kd.R_drew)); exact HO562.out))) (Kd.R_lt (by (with_reducible repeat (first | apply Kd.R_alloc | apply Kd.R_drewN | apply Kd.R_drew)); exact HO565.out))) (Kd.R_lt (by (with_reducible repeat (first | apply Kd.R_alloc | apply Kd.R_drewN | apply Kd.R_drew)); exact HO568.out))) (Kd.R_lt (by (with_reducible repeat (first | apply Kd.R_alloc | apply Kd.R_drewN | apply Kd.R_drew)); exact HO575.out))) (below_size (by repeat (first | (with_reducible first | exact HB.out | apply below_alloc | apply pw_below_drewN | apply below_drew1 | refine below_set ?_ GE549.out) | exact HB.out)))); have n10_ := Aside0.mk (blk_below (g := gb549) (o := .cells #[.int .i64 2, .slice Ao29 y546.length co29] 28 (0, 0)) (by (with_reducible repeat (first | refine blk_drewN ?_ _ | refine blk_drew ?_ | refine blk_alloc ?_ _)); exact BK549.out) hb); have n11_ := Aside0.mk (below_step (by repeat (first | (with_reducible first | exact HB.out | apply below_alloc | apply pw_below_drewN | apply below_drew1 | refine below_set ?_ GE549.out) | exact HB.out)) hb); clear HO548; clear HO552; clear HO555; clear HO558; clear HO562; clear HO565; clear HO568; clear HO571; clear HO575; clear BK549; clear HB; have HO548 := n0_; have HO552 := n1_; have HO555 := n2_; have HO558 := n3_; have HO562 := n4_; have HO565 := n5_; have HO568 := n6_; have HO571 := n7_; have HO575 := n8_; have HO578 := n9_; have BK549 := n10_; have HB := n11_; clear n0_ n1_ n2_ n3_ n4_ n5_ n6_ n7_ n8_ n9_ n10_ n11_; clear hb ho54) | ((with_reducible refine gate_dst (N := 53) rfl ?_); (try (refine gate_guard (by rfl) ?_; dsimp only)); refine Kd.R_lit Kd.string _ 9 ?hg (N := 53) ?hd (xs := ([(⟨#[113]⟩ : ByteArray)] : List ByteArray)) (inner := [.string (⟨#[113]⟩ : ByteArray)]) (ok := fun _ => True) (okp := fun _ => True) ?hr ?hp (fun _ hk => hk) trivial (Below.refl _ _) (Nat.le_refl _) (by simp) ?_; (case hd => rfl); (case hg => rfl); (case hr => first | (go_simp; done) | (go_simp; rfl)); (case hp => exact (Reps.one (show Kd.M Kd.string _ _ _ (⟨#[113]⟩ : ByteArray) [.string (⟨#[113]⟩ : ByteArray)] from rfl) (Reps.none _ _))); intro v580 w55 ho56 hb hg_ hnew_; clear hg_ hnew_; (first | rw [← Ny579.out] at ho56 | (simp only [Int.reduceToNat] at ho56; rw [← Ny579.out] at ho56)); have n0_ := Aside0.mk (Kd.R_below (by (with_reducible repeat (first | apply Kd.R_alloc | apply Kd.R_drewN | apply Kd.R_drew)); exact HO548.out) hb); have n1_ := Aside0.mk (Kd.R_elder' (by (with_reducible repeat (first | apply Kd.R_alloc | apply Kd.R_drewN | apply Kd.R_drew)); exact HO552.out) (Kd.R_base ho56) hb); have n2_ := Aside0.mk (Kd.R_elder' (by (with_reducible repeat (first | apply Kd.R_alloc | apply Kd.R_drewN | apply Kd.R_drew)); exact HO555.out) (Kd.R_base ho56) hb); have n3_ := Aside0.mk (Kd.R_below (by (with_reducible repeat (first | apply Kd.R_alloc | apply Kd.R_drewN | apply Kd.R_drew)); exact HO558.out) hb); have n4_ := Aside0.mk (Kd.R_elder' (by (with_reducible repeat (first | apply Kd.R_alloc | apply Kd.R_drewN | apply Kd.R_drew)); exact HO562.out) (Kd.R_base ho56) hb); have n5_ := Aside0.mk (Kd.R_elder' (by (with_reducible repeat (first | apply Kd.R_alloc | apply Kd.R_drewN | apply Kd.R_drew)); exact HO565.out) (Kd.R_base ho56) hb); have n6_ := Aside0.mk (Kd.R_elder' (by (with_reducible repeat (first | apply Kd.R_alloc | apply Kd.R_drewN | apply Kd.R_drew)); exact HO568.out) (Kd.R_base ho56) hb); have n7_ := Aside0.mk (Kd.R_below (by (with_reducible repeat (first | apply Kd.R_alloc | apply Kd.R_drewN | apply Kd.R_drew)); exact HO571.out) hb); have n8_ := Aside0.mk (Kd.R_elder' (by (with_reducible repeat (first | apply Kd.R_alloc | apply Kd.R_drewN | apply Kd.R_drew)); exact HO575.out) (Kd.R_base ho56) hb); have n9_ := Aside0.mk (Kd.R_elder' (by (with_reducible repeat (first | apply Kd.R_alloc | apply Kd.R_drewN | apply Kd.R_drew)); exact HO578.out) (Kd.R_base ho56) hb); have n10_ := Aside0.mk (Kd.R_lower (Kd.R_new' (Kd.R_new' (Kd.R_new' (Kd.R_new' (Kd.R_new' (Kd.R_new' (Kd.R_new' ho56 (Kd.R_lt (by (with_reducible repeat (first | apply Kd.R_alloc | apply Kd.R_drewN | apply Kd.R_drew)); exact HO552.out))) (Kd.R_lt (by (with_reducible repeat (first | apply Kd.R_alloc | apply Kd.R_drewN | apply Kd.R_drew)); exact HO555.out))) (Kd.R_lt (by (with_reducible repeat (first | apply Kd.R_alloc | apply Kd.R_drewN | apply Kd.R_drew)); exact HO562.out))) (Kd.R_lt (by (with_reducible repeat (first | apply Kd.R_alloc | apply Kd.R_drewN | apply Kd.R_drew)); exact HO565.out))) (Kd.R_lt (by (with_reducible repeat (first | apply Kd.R_alloc | apply Kd.R_drewN | apply Kd.R_drew)); exact HO568.out))) (Kd.R_lt (by (with_reducible repeat (first | apply Kd.R_alloc | apply Kd.R_drewN | apply Kd.R_drew)); exact HO575.out))) (Kd.R_lt (by (with_reducible repeat (first | apply Kd.R_alloc | apply Kd.R_drewN | apply Kd.R_drew)); exact HO578.out))) (below_size (by repeat (first | (with_reducible first | exact HB.out | apply below_alloc | apply pw_below_drewN | apply below_drew1 | refine below_set ?_ GE549.out) | exact HB.out)))); have n11_ := Aside0.mk (blk_below (g := gb549) (o := .cells #[.int .i64 2, .slice Ao29 y546.length co29] 28 (0, 0)) (by (with_reducible repeat (first | refine blk_drewN ?_ _ | refine blk_drew ?_ | refine blk_alloc ?_ _)); exact BK549.out) hb); have n12_ := Aside0.mk (below_step (by repeat (first | (with_reducible first | exact HB.out | apply below_alloc | apply pw_below_drewN | apply below_drew1 | refine below_set ?_ GE549.out) | exact HB.out)) hb); clear HO548; clear HO552; clear HO555; clear HO558; clear HO562; clear HO565; clear HO568; clear HO571; clear HO575; clear HO578; clear BK549; clear HB; have HO548 := n0_; have HO552 := n1_; have HO555 := n2_; have HO558 := n3_; have HO562 := n4_; have HO565 := n5_; have HO568 := n6_; have HO571 := n7_; have HO575 := n8_; have HO578 := n9_; have HO581 := n10_; have BK549 := n11_; have HB := n12_; clear n0_ n1_ n2_ n3_ n4_ n5_ n6_ n7_ n8_ n9_ n10_ n11_ n12_; clear hb ho56) | ((with_reducible refine gate_dst (N := 54) rfl ?_); (try (refine gate_guard (by rfl) ?_; dsimp only)); refine Kd.R_lit Kd.string _ 9 ?hg (N := 54) ?hd (xs := ([(⟨#[110, 111, 110, 101]⟩ : ByteArray)] : List ByteArray)) (inner := [.string (⟨#[110, 111, 110, 101]⟩ : ByteArray)]) (ok := fun _ => True) (okp := fun _ => True) ?hr ?hp (fun _ hk => hk) trivial (Below.refl _ _) (Nat.le_refl _) (by simp) ?_; (case hd => rfl); (case hg => rfl); (case hr => first | (go_simp; done) | (go_simp; rfl)); (case hp => exact (Reps.one (show Kd.M Kd.string _ _ _ (⟨#[110, 111, 110, 101]⟩ : ByteArray) [.string (⟨#[110, 111, 110, 101]⟩ : ByteArray)] from rfl) (Reps.none _ _))); intro v583 w57 ho58 hb hg_ hnew_; clear hg_ hnew_; (first | rw [← Ny582.out] at ho58 | (simp only [Int.reduceToNat] at ho58; rw [← Ny582.out] at ho58)); have n0_ := Aside0.mk (Kd.R_below (by (with_reducible repeat (first | apply Kd.R_alloc | apply Kd.R_drewN | apply Kd.R_drew)); exact HO548.out) hb); have n1_ := Aside0.mk (Kd.R_elder' (by (with_reducible repeat (first | apply Kd.R_alloc | apply Kd.R_drewN | apply Kd.R_drew)); exact HO552.out) (Kd.R_base ho58) hb); have n2_ := Aside0.mk (Kd.R_elder' (by (with_reducible repeat (first | apply Kd.R_alloc | apply Kd.R_drewN | apply Kd.R_drew)); exact HO555.out) (Kd.R_base ho58) hb); have n3_ := Aside0.mk (Kd.R_below (by (with_reducible repeat (first | apply Kd.R_alloc | apply Kd.R_drewN | apply Kd.R_drew)); exact HO558.out) hb); have n4_ := Aside0.mk (Kd.R_elder' (by (with_reducible repeat (first | apply Kd.R_alloc | apply Kd.R_drewN | apply Kd.R_drew)); exact HO562.out) (Kd.R_base ho58) hb); have n5_ := Aside0.mk (Kd.R_elder' (by (with_reducible repeat (first | apply Kd.R_alloc | apply Kd.R_drewN | apply Kd.R_drew)); exact HO565.out) (Kd.R_base ho58) hb); have n6_ := Aside0.mk (Kd.R_elder' (by (with_reducible repeat (first | apply Kd.R_alloc | apply Kd.R_drewN | apply Kd.R_drew)); exact HO568.out) (Kd.R_base ho58) hb); have n7_ := Aside0.mk (Kd.R_below (by (with_reducible repeat (first | apply Kd.R_alloc | apply Kd.R_drewN | apply Kd.R_drew)); exact HO571.out) hb); have n8_ := Aside0.mk (Kd.R_elder' (by (with_reducible repeat (first | apply Kd.R_alloc | apply Kd.R_drewN | apply Kd.R_drew)); exact HO575.out) (Kd.R_base ho58) hb); have n9_ := Aside0.mk (Kd.R_elder' (by (with_reducible repeat (first | apply Kd.R_alloc | apply Kd.R_drewN | apply Kd.R_drew)); exact HO578.out) (Kd.R_base ho58) hb); have n10_ := Aside0.mk (Kd.R_elder' (by (with_reducible repeat (first | apply Kd.R_alloc | apply Kd.R_drewN | apply Kd.R_drew)); exact HO581.out) (Kd.R_base ho58) hb); have n11_ := Aside0.mk (Kd.R_lower (Kd.R_new' (Kd.R_new' (Kd.R_new' (Kd.R_new' (Kd.R_new' (Kd.R_new' (Kd.R_new' (Kd.R_new' ho58 (Kd.R_lt (by (with_reducible repeat (first | apply Kd.R_alloc | apply Kd.R_drewN | apply Kd.R_drew)); exact HO552.out))) (Kd.R_lt (by (with_reducible repeat (first | apply Kd.R_alloc | apply Kd.R_drewN | apply Kd.R_drew)); exact HO555.out))) (Kd.R_lt (by (with_reducible repeat (first | apply Kd.R_alloc | apply Kd.R_drewN | apply Kd.R_drew)); exact HO562.out))) (Kd.R_lt (by (with_reducible repeat (first | apply Kd.R_alloc | apply Kd.R_drewN | apply Kd.R_drew)); exact HO565.out))) (Kd.R_lt (by (with_reducible repeat (first | apply Kd.R_alloc | apply Kd.R_drewN | apply Kd.R_drew)); exact HO568.out))) (Kd.R_lt (by (with_reducible repeat (first | apply Kd.R_alloc | apply Kd.R_drewN | apply Kd.R_drew)); exact HO575.out))) (Kd.R_lt (by (with_reducible repeat (first | apply Kd.R_alloc | apply Kd.R_drewN | apply Kd.R_drew)); exact HO578.out))) (Kd.R_lt (by (with_reducible repeat (first | apply Kd.R_alloc | apply Kd.R_drewN | apply Kd.R_drew)); exact HO581.out))) (below_size (by repeat (first | (with_reducible first | exact HB.out | apply below_alloc | apply pw_below_drewN | apply below_drew1 | refine below_set ?_ GE549.out) | exact HB.out)))); have n12_ := Aside0.mk (blk_below (g := gb549) (o := .cells #[.int .i64 2, .slice Ao29 y546.length co29] 28 (0, 0)) (by (with_reducible repeat (first | refine blk_drewN ?_ _ | refine blk_drew ?_ | refine blk_alloc ?_ _)); exact BK549.out) hb); have n13_ := Aside0.mk (below_step (by repeat (first | (with_reducible first | exact HB.out | apply below_alloc | apply pw_below_drewN | apply below_drew1 | refine below_set ?_ GE549.out) | exact HB.out)) hb); clear HO548; clear HO552; clear HO555; clear HO558; clear HO562; clear HO565; clear HO568; clear HO571; clear HO575; clear HO578; clear HO581; clear BK549; clear HB; have HO548 := n0_; have HO552 := n1_; have HO555 := n2_; have HO558 := n3_; have HO562 := n4_; have HO565 := n5_; have HO568 := n6_; have HO571 := n7_; have HO575 := n8_; have HO578 := n9_; have HO581 := n10_; have HO584 := n11_; have BK549 := n12_; have HB := n13_; clear n0_ n1_ n2_ n3_ n4_ n5_ n6_ n7_ n8_ n9_ n10_ n11_ n12_ n13_; clear hb ho58; obtain ⟨Ao59, co59, eo59⟩ := Kd.R_slice HO584.out; subst eo59; obtain ⟨Ao60, co60, eo60⟩ := Kd.R_slice HO581.out; subst eo60; obtain ⟨Ao61, co61, eo61⟩ := Kd.R_slice HO578.out; subst eo61; obtain ⟨Ao62, co62, eo62⟩ := Kd.R_slice HO575.out; subst eo62; have hcz63_0 : w57.cell? ⟨gb549, 0, none⟩ = some (.int .i64 2) := (blk_cell BK549.out 0).trans rfl; have hcz63_1 : w57.cell? ⟨gb549, 1, none⟩ = some (.slice Ao29 y546.length co29) := (blk_cell BK549.out 1).trans rfl; have hfz63_0 := blk_frozen BK549.out 0; have hfz63_1 := blk_frozen BK549.out 1) | ((with_reducible refine gate_callee (f := 22) rfl ?_); refine goesL_ (some 58) rfl rfl Tryd.func22 (by kernel_rfl) rfl #[.slice none 0 0, .agg #[.slice Ao62 y573.length co62, .slice Ao61 y576.length co61, .slice Ao60 y579.length co60, .slice Ao59 y582.length co59, .string a2, .bool false, .string (⟨#[]⟩ : ByteArray)], .agg #[.int .i64 2, .slice Ao29 y546.length co29]] rfl (by (try simp only [List.map_toArray, List.map_cons, List.map_nil]); first | done | rfl | (simp only [List.length_drop, List.length_take]; rfl)) ?_; (refine (command_Run.calls k _ _ ([] : List (S33)) _ _ y573 _ _ y576 _ _ y579 _ _ y582 a2 false (⟨#[]⟩ : ByteArray) 2 _ _ y546 t585 t588 _ ?side1 ?side2 ?side3 ?side4 ?side5 ?side6 ?side7 ?side8 ?side9 ?side10 ?side11 ?side12 A10.out).mono ?_); (case side1 => exact Kd.C_nil _ _); (case side2 => exact Nat.le_refl _); (case side3 => repeat (first | exact (Kd.R_reads' HO575.out).2.2 | (with_reducible refine Kd.C_alloc ?_ _) | (with_reducible refine Kd.C_drewN ?_ _) | (with_reducible refine Kd.C_drew ?_))); (case side4 => exact (Kd.R_reads' HO575.out).2.1); (case side5 => repeat (first | exact (Kd.R_reads' HO578.out).2.2 | (with_reducible refine Kd.C_alloc ?_ _) | (with_reducible refine Kd.C_drewN ?_ _) | (with_reducible refine Kd.C_drew ?_))); (case side6 => exact (Kd.R_reads' HO578.out).2.1); (case side7 => repeat (first | exact (Kd.R_reads' HO581.out).2.2 | (with_reducible refine Kd.C_alloc ?_ _) | (with_reducible refine Kd.C_drewN ?_ _) | (with_reducible refine Kd.C_drew ?_))); (case side8 => exact (Kd.R_reads' HO581.out).2.1); (case side9 => repeat (first | exact (Kd.R_reads' HO584.out).2.2 | (with_reducible refine Kd.C_alloc ?_ _) | (with_reducible refine Kd.C_drewN ?_ _) | (with_reducible refine Kd.C_drew ?_))); (case side10 => exact (Kd.R_reads' HO584.out).2.1); (case side11 => repeat (first | exact (Kd.R_reads' HO548.out).2.2 | (with_reducible refine Kd.C_alloc ?_ _) | (with_reducible refine Kd.C_drewN ?_ _) | (with_reducible refine Kd.C_drew ?_))); (case side12 => exact (Kd.R_reads' HO548.out).2.1); rintro e w64 ⟨v586, rfl, ho0, hb⟩; refine ⟨_, rfl, ?_⟩; have n0_ := Aside0.mk (Kd.R_below (by (with_reducible repeat (first | apply Kd.R_alloc | apply Kd.R_drewN | apply Kd.R_drew)); exact HO548.out) hb); have n1_ := Aside0.mk (Kd.R_below (by (with_reducible repeat (first | apply Kd.R_alloc | apply Kd.R_drewN | apply Kd.R_drew)); exact HO552.out) hb); have n2_ := Aside0.mk (Kd.R_below (by (with_reducible repeat (first | apply Kd.R_alloc | apply Kd.R_drewN | apply Kd.R_drew)); exact HO555.out) hb); have n3_ := Aside0.mk (Kd.R_elder' (by (with_reducible repeat (first | apply Kd.R_alloc | apply Kd.R_drewN | apply Kd.R_drew)); exact HO558.out) (Kd.R_base ho0) hb); have n4_ := Aside0.mk (Kd.R_below (by (with_reducible repeat (first | apply Kd.R_alloc | apply Kd.R_drewN | apply Kd.R_drew)); exact HO562.out) hb); have n5_ := Aside0.mk (Kd.R_below (by (with_reducible repeat (first | apply Kd.R_alloc | apply Kd.R_drewN | apply Kd.R_drew)); exact HO565.out) hb); have n6_ := Aside0.mk (Kd.R_below (by (with_reducible repeat (first | apply Kd.R_alloc | apply Kd.R_drewN | apply Kd.R_drew)); exact HO568.out) hb); have n7_ := Aside0.mk (Kd.R_elder' (by (with_reducible repeat (first | apply Kd.R_alloc | apply Kd.R_drewN | apply Kd.R_drew)); exact HO571.out) (Kd.R_base ho0) hb); have n8_ := Aside0.mk (Kd.R_below (by (with_reducible repeat (first | apply Kd.R_alloc | apply Kd.R_drewN | apply Kd.R_drew)); exact HO575.out) hb); have n9_ := Aside0.mk (Kd.R_below (by (with_reducible repeat (first | apply Kd.R_alloc | apply Kd.R_drewN | apply Kd.R_drew)); exact HO578.out) hb); have n10_ := Aside0.mk (Kd.R_below (by (with_reducible repeat (first | apply Kd.R_alloc | apply Kd.R_drewN | apply Kd.R_drew)); exact HO581.out) hb); have n11_ := Aside0.mk (Kd.R_below (by (with_reducible repeat (first | apply Kd.R_alloc | apply Kd.R_drewN | apply Kd.R_drew)); exact HO584.out) hb); have n12_ := Aside0.mk (Kd.R_lower (Kd.R_new' (Kd.R_new' ho0 (Kd.R_lt (by (with_reducible repeat (first | apply Kd.R_alloc | apply Kd.R_drewN | apply Kd.R_drew)); exact HO558.out))) (Kd.R_lt (by (with_reducible repeat (first | apply Kd.R_alloc | apply Kd.R_drewN | apply Kd.R_drew)); exact HO571.out))) (below_size (by repeat (first | (with_reducible first | exact HB.out | apply below_alloc | apply pw_below_drewN | apply below_drew1 | refine below_set ?_ GE549.out) | exact HB.out)))); have n13_ := Aside0.mk (blk_below (g := gb549) (o := .cells #[.int .i64 2, .slice Ao29 y546.length co29] 28 (0, 0)) (by (with_reducible repeat (first | refine blk_drewN ?_ _ | refine blk_drew ?_ | refine blk_alloc ?_ _)); exact BK549.out) hb); have n14_ := Aside0.mk (below_step (by repeat (first | (with_reducible first | exact HB.out | apply below_alloc | apply pw_below_drewN | apply below_drew1 | refine below_set ?_ GE549.out) | exact HB.out)) hb); clear HO548; clear HO552; clear HO555; clear HO558; clear HO562; clear HO565; clear HO568; clear HO571; clear HO575; clear HO578; clear HO581; clear HO584; clear BK549; clear HB; have HO548 := n0_; have HO552 := n1_; have HO555 := n2_; have HO558 := n3_; have HO562 := n4_; have HO565 := n5_; have HO568 := n6_; have HO571 := n7_; have HO575 := n8_; have HO578 := n9_; have HO581 := n10_; have HO584 := n11_; have HO587 := n12_; have BK549 := n13_; have HB := n14_; clear n0_ n1_ n2_ n3_ n4_ n5_ n6_ n7_ n8_ n9_ n10_ n11_ n12_ n13_ n14_; (try clear hb); (try clear hb2); (try clear hk); (try clear hi); (try clear ho0)) | ((with_reducible refine gate_callee (f := 25) rfl ?_); refine goesL_ (some 62) rfl rfl Tryd.func25 (by kernel_rfl) rfl #[.int .i64 t559] rfl (by (try simp only [List.map_toArray, List.map_cons, List.map_nil]); first | done | rfl | (simp only [List.length_drop, List.length_take]; rfl)) ?_; (with_reducible refine (cruciblelaw0_Num.calls t559 t589 _ A11.out).mono ?_); rintro e w' ⟨rfl, ⟨nd, rfl⟩⟩; refine ⟨_, rfl, ?_⟩) | (go_at_call 25; (with_reducible refine (cruciblelaw0_Num.calls t572 t590 _ A13.out).mono ?_); rintro e w' ⟨rfl, ⟨nd, rfl⟩⟩) | (go_at_call 25; (with_reducible refine (cruciblelaw0_Num.calls t588 t591 _ A15.out).mono ?_); rintro e w' ⟨rfl, ⟨nd, rfl⟩⟩; obtain ⟨Ao65, co65, eo65⟩ := Kd.R_slice HO558.out; subst eo65; obtain ⟨Ao66, co66, eo66⟩ := Kd.R_slice HO571.out; subst eo66; obtain ⟨Ao67, co67, eo67⟩ := Kd.R_slice HO587.out; subst eo67))
              (try (rw [drewN_self w64]; generalize hq_ : World.drewN w64 _ = w64; have n0_ : Aside0 (Kd.R k72 72 w64 w.heap.size (fun _ => True) (.slice Ao29 y546.length co29) y546) := ⟨by rw [← hq_]; exact (by (with_reducible repeat (first | apply Kd.R_alloc | apply Kd.R_drewN | apply Kd.R_drew)); exact HO548.out)⟩; have n1_ : Aside0 (Kd.R Kd.string 9 w64 w.heap.size (fun k_ => some k_ ≠ (.slice Ao36 y553.length co36 : Value).ownBlock ∧ some k_ ≠ (.slice Ao48 y560.length co48 : Value).ownBlock ∧ some k_ ≠ (.slice Ao47 y563.length co47 : Value).ownBlock ∧ some k_ ≠ (.slice Ao46 y566.length co46 : Value).ownBlock ∧ some k_ ≠ (.slice Ao62 y573.length co62 : Value).ownBlock ∧ some k_ ≠ (.slice Ao61 y576.length co61 : Value).ownBlock ∧ some k_ ≠ (.slice Ao60 y579.length co60 : Value).ownBlock ∧ some k_ ≠ (.slice Ao59 y582.length co59 : Value).ownBlock) (.slice Ao37 y550.length co37) y550) := ⟨by rw [← hq_]; exact (by (with_reducible repeat (first | apply Kd.R_alloc | apply Kd.R_drewN | apply Kd.R_drew)); exact Kd.R_mono HO552.out (fun _ hk => ⟨hk.1.1.1.1.1.1.1.2, ⟨hk.1.1.1.1.1.1.2, ⟨hk.1.1.1.1.1.2, ⟨hk.1.1.1.1.2, ⟨hk.1.1.1.2, ⟨hk.1.1.2, ⟨hk.1.2, hk.2⟩⟩⟩⟩⟩⟩⟩))⟩; have n2_ : Aside0 (Kd.R Kd.string 9 w64 w.heap.size (fun k_ => some k_ ≠ (.slice Ao37 y550.length co37 : Value).ownBlock ∧ some k_ ≠ (.slice Ao48 y560.length co48 : Value).ownBlock ∧ some k_ ≠ (.slice Ao47 y563.length co47 : Value).ownBlock ∧ some k_ ≠ (.slice Ao46 y566.length co46 : Value).ownBlock ∧ some k_ ≠ (.slice Ao62 y573.length co62 : Value).ownBlock ∧ some k_ ≠ (.slice Ao61 y576.length co61 : Value).ownBlock ∧ some k_ ≠ (.slice Ao60 y579.length co60 : Value).ownBlock ∧ some k_ ≠ (.slice Ao59 y582.length co59 : Value).ownBlock) (.slice Ao36 y553.length co36) y553) := ⟨by rw [← hq_]; exact (by (with_reducible repeat (first | apply Kd.R_alloc | apply Kd.R_drewN | apply Kd.R_drew)); exact Kd.R_mono HO555.out (fun _ hk => ⟨hk.1.1.1.1.1.1.1.2, ⟨hk.1.1.1.1.1.1.2, ⟨hk.1.1.1.1.1.2, ⟨hk.1.1.1.1.2, ⟨hk.1.1.1.2, ⟨hk.1.1.2, ⟨hk.1.2, hk.2⟩⟩⟩⟩⟩⟩⟩))⟩; have n3_ : Aside0 (Kd.R (Kd.int .i64) 3 w64 w.heap.size (fun k_ => some k_ ≠ (.slice Ao66 t569.length co66 : Value).ownBlock ∧ some k_ ≠ (.slice Ao67 t585.length co67 : Value).ownBlock) (.slice Ao65 t556.length co65) t556) := ⟨by rw [← hq_]; exact (by (with_reducible repeat (first | apply Kd.R_alloc | apply Kd.R_drewN | apply Kd.R_drew)); exact Kd.R_mono HO558.out (fun _ hk => ⟨hk.1.2, hk.2⟩))⟩; have n4_ : Aside0 (Kd.R Kd.string 9 w64 w.heap.size (fun k_ => some k_ ≠ (.slice Ao37 y550.length co37 : Value).ownBlock ∧ some k_ ≠ (.slice Ao36 y553.length co36 : Value).ownBlock ∧ some k_ ≠ (.slice Ao47 y563.length co47 : Value).ownBlock ∧ some k_ ≠ (.slice Ao46 y566.length co46 : Value).ownBlock ∧ some k_ ≠ (.slice Ao62 y573.length co62 : Value).ownBlock ∧ some k_ ≠ (.slice Ao61 y576.length co61 : Value).ownBlock ∧ some k_ ≠ (.slice Ao60 y579.length co60 : Value).ownBlock ∧ some k_ ≠ (.slice Ao59 y582.length co59 : Value).ownBlock) (.slice Ao48 y560.length co48) y560) := ⟨by rw [← hq_]; exact (by (with_reducible repeat (first | apply Kd.R_alloc | apply Kd.R_drewN | apply Kd.R_drew)); exact Kd.R_mono HO562.out (fun _ hk => ⟨hk.1.1.1.1.1.1.1.2, ⟨hk.1.1.1.1.1.1.2, ⟨hk.1.1.1.1.1.2, ⟨hk.1.1.1.1.2, ⟨hk.1.1.1.2, ⟨hk.1.1.2, ⟨hk.1.2, hk.2⟩⟩⟩⟩⟩⟩⟩))⟩; have n5_ : Aside0 (Kd.R Kd.string 9 w64 w.heap.size (fun k_ => some k_ ≠ (.slice Ao37 y550.length co37 : Value).ownBlock ∧ some k_ ≠ (.slice Ao36 y553.length co36 : Value).ownBlock ∧ some k_ ≠ (.slice Ao48 y560.length co48 : Value).ownBlock ∧ some k_ ≠ (.slice Ao46 y566.length co46 : Value).ownBlock ∧ some k_ ≠ (.slice Ao62 y573.length co62 : Value).ownBlock ∧ some k_ ≠ (.slice Ao61 y576.length co61 : Value).ownBlock ∧ some k_ ≠ (.slice Ao60 y579.length co60 : Value).ownBlock ∧ some k_ ≠ (.slice Ao59 y582.length co59 : Value).ownBlock) (.slice Ao47 y563.length co47) y563) := ⟨by rw [← hq_]; exact (by (with_reducible repeat (first | apply Kd.R_alloc | apply Kd.R_drewN | apply Kd.R_drew)); exact Kd.R_mono HO565.out (fun _ hk => ⟨hk.1.1.1.1.1.1.1.2, ⟨hk.1.1.1.1.1.1.2, ⟨hk.1.1.1.1.1.2, ⟨hk.1.1.1.1.2, ⟨hk.1.1.1.2, ⟨hk.1.1.2, ⟨hk.1.2, hk.2⟩⟩⟩⟩⟩⟩⟩))⟩; have n6_ : Aside0 (Kd.R Kd.string 9 w64 w.heap.size (fun k_ => some k_ ≠ (.slice Ao37 y550.length co37 : Value).ownBlock ∧ some k_ ≠ (.slice Ao36 y553.length co36 : Value).ownBlock ∧ some k_ ≠ (.slice Ao48 y560.length co48 : Value).ownBlock ∧ some k_ ≠ (.slice Ao47 y563.length co47 : Value).ownBlock ∧ some k_ ≠ (.slice Ao62 y573.length co62 : Value).ownBlock ∧ some k_ ≠ (.slice Ao61 y576.length co61 : Value).ownBlock ∧ some k_ ≠ (.slice Ao60 y579.length co60 : Value).ownBlock ∧ some k_ ≠ (.slice Ao59 y582.length co59 : Value).ownBlock) (.slice Ao46 y566.length co46) y566) := ⟨by rw [← hq_]; exact (by (with_reducible repeat (first | apply Kd.R_alloc | apply Kd.R_drewN | apply Kd.R_drew)); exact Kd.R_mono HO568.out (fun _ hk => ⟨hk.1.1.1.1.1.1.1.2, ⟨hk.1.1.1.1.1.1.2, ⟨hk.1.1.1.1.1.2, ⟨hk.1.1.1.1.2, ⟨hk.1.1.1.2, ⟨hk.1.1.2, ⟨hk.1.2, hk.2⟩⟩⟩⟩⟩⟩⟩))⟩; have n7_ : Aside0 (Kd.R (Kd.int .i64) 3 w64 w.heap.size (fun k_ => some k_ ≠ (.slice Ao65 t556.length co65 : Value).ownBlock ∧ some k_ ≠ (.slice Ao67 t585.length co67 : Value).ownBlock) (.slice Ao66 t569.length co66) t569) := ⟨by rw [← hq_]; exact (by (with_reducible repeat (first | apply Kd.R_alloc | apply Kd.R_drewN | apply Kd.R_drew)); exact Kd.R_mono HO571.out (fun _ hk => ⟨hk.1.2, hk.2⟩))⟩; have n8_ : Aside0 (Kd.R Kd.string 9 w64 w.heap.size (fun k_ => some k_ ≠ (.slice Ao37 y550.length co37 : Value).ownBlock ∧ some k_ ≠ (.slice Ao36 y553.length co36 : Value).ownBlock ∧ some k_ ≠ (.slice Ao48 y560.length co48 : Value).ownBlock ∧ some k_ ≠ (.slice Ao47 y563.length co47 : Value).ownBlock ∧ some k_ ≠ (.slice Ao46 y566.length co46 : Value).ownBlock ∧ some k_ ≠ (.slice Ao61 y576.length co61 : Value).ownBlock ∧ some k_ ≠ (.slice Ao60 y579.length co60 : Value).ownBlock ∧ some k_ ≠ (.slice Ao59 y582.length co59 : Value).ownBlock) (.slice Ao62 y573.length co62) y573) := ⟨by rw [← hq_]; exact (by (with_reducible repeat (first | apply Kd.R_alloc | apply Kd.R_drewN | apply Kd.R_drew)); exact Kd.R_mono HO575.out (fun _ hk => ⟨hk.1.1.1.1.1.1.1.2, ⟨hk.1.1.1.1.1.1.2, ⟨hk.1.1.1.1.1.2, ⟨hk.1.1.1.1.2, ⟨hk.1.1.1.2, ⟨hk.1.1.2, ⟨hk.1.2, hk.2⟩⟩⟩⟩⟩⟩⟩))⟩; have n9_ : Aside0 (Kd.R Kd.string 9 w64 w.heap.size (fun k_ => some k_ ≠ (.slice Ao37 y550.length co37 : Value).ownBlock ∧ some k_ ≠ (.slice Ao36 y553.length co36 : Value).ownBlock ∧ some k_ ≠ (.slice Ao48 y560.length co48 : Value).ownBlock ∧ some k_ ≠ (.slice Ao47 y563.length co47 : Value).ownBlock ∧ some k_ ≠ (.slice Ao46 y566.length co46 : Value).ownBlock ∧ some k_ ≠ (.slice Ao62 y573.length co62 : Value).ownBlock ∧ some k_ ≠ (.slice Ao60 y579.length co60 : Value).ownBlock ∧ some k_ ≠ (.slice Ao59 y582.length co59 : Value).ownBlock) (.slice Ao61 y576.length co61) y576) := ⟨by rw [← hq_]; exact (by (with_reducible repeat (first | apply Kd.R_alloc | apply Kd.R_drewN | apply Kd.R_drew)); exact Kd.R_mono HO578.out (fun _ hk => ⟨hk.1.1.1.1.1.1.1.2, ⟨hk.1.1.1.1.1.1.2, ⟨hk.1.1.1.1.1.2, ⟨hk.1.1.1.1.2, ⟨hk.1.1.1.2, ⟨hk.1.1.2, ⟨hk.1.2, hk.2⟩⟩⟩⟩⟩⟩⟩))⟩; have n10_ : Aside0 (Kd.R Kd.string 9 w64 w.heap.size (fun k_ => some k_ ≠ (.slice Ao37 y550.length co37 : Value).ownBlock ∧ some k_ ≠ (.slice Ao36 y553.length co36 : Value).ownBlock ∧ some k_ ≠ (.slice Ao48 y560.length co48 : Value).ownBlock ∧ some k_ ≠ (.slice Ao47 y563.length co47 : Value).ownBlock ∧ some k_ ≠ (.slice Ao46 y566.length co46 : Value).ownBlock ∧ some k_ ≠ (.slice Ao62 y573.length co62 : Value).ownBlock ∧ some k_ ≠ (.slice Ao61 y576.length co61 : Value).ownBlock ∧ some k_ ≠ (.slice Ao59 y582.length co59 : Value).ownBlock) (.slice Ao60 y579.length co60) y579) := ⟨by rw [← hq_]; exact (by (with_reducible repeat (first | apply Kd.R_alloc | apply Kd.R_drewN | apply Kd.R_drew)); exact Kd.R_mono HO581.out (fun _ hk => ⟨hk.1.1.1.1.1.1.1.2, ⟨hk.1.1.1.1.1.1.2, ⟨hk.1.1.1.1.1.2, ⟨hk.1.1.1.1.2, ⟨hk.1.1.1.2, ⟨hk.1.1.2, ⟨hk.1.2, hk.2⟩⟩⟩⟩⟩⟩⟩))⟩; have n11_ : Aside0 (Kd.R Kd.string 9 w64 w.heap.size (fun k_ => some k_ ≠ (.slice Ao37 y550.length co37 : Value).ownBlock ∧ some k_ ≠ (.slice Ao36 y553.length co36 : Value).ownBlock ∧ some k_ ≠ (.slice Ao48 y560.length co48 : Value).ownBlock ∧ some k_ ≠ (.slice Ao47 y563.length co47 : Value).ownBlock ∧ some k_ ≠ (.slice Ao46 y566.length co46 : Value).ownBlock ∧ some k_ ≠ (.slice Ao62 y573.length co62 : Value).ownBlock ∧ some k_ ≠ (.slice Ao61 y576.length co61 : Value).ownBlock ∧ some k_ ≠ (.slice Ao60 y579.length co60 : Value).ownBlock) (.slice Ao59 y582.length co59) y582) := ⟨by rw [← hq_]; exact (by (with_reducible repeat (first | apply Kd.R_alloc | apply Kd.R_drewN | apply Kd.R_drew)); exact Kd.R_mono HO584.out (fun _ hk => ⟨hk.1.1.1.1.1.1.1.2, ⟨hk.1.1.1.1.1.1.2, ⟨hk.1.1.1.1.1.2, ⟨hk.1.1.1.1.2, ⟨hk.1.1.1.2, ⟨hk.1.1.2, ⟨hk.1.2, hk.2⟩⟩⟩⟩⟩⟩⟩))⟩; have n12_ : Aside0 (Kd.R (Kd.int .i64) 3 w64 w.heap.size (fun k_ => some k_ ≠ (.slice Ao65 t556.length co65 : Value).ownBlock ∧ some k_ ≠ (.slice Ao66 t569.length co66 : Value).ownBlock) (.slice Ao67 t585.length co67) t585) := ⟨by rw [← hq_]; exact (by (with_reducible repeat (first | apply Kd.R_alloc | apply Kd.R_drewN | apply Kd.R_drew)); exact Kd.R_mono HO587.out (fun _ hk => ⟨hk.1.2, hk.2⟩))⟩; have n13_ : Aside0 (w64.heap[gb549]? = some (.cells #[.int .i64 2, .slice Ao29 y546.length co29] 28 (0, 0))) := ⟨by rw [← hq_]; exact (by (with_reducible repeat (first | refine blk_drewN ?_ _ | refine blk_drew ?_ | refine blk_alloc ?_ _)); exact BK549.out)⟩; have n14_ : Aside0 (Below w.heap.size w w64) := ⟨by rw [← hq_]; exact (by repeat (first | (with_reducible first | exact HB.out | apply below_alloc | apply pw_below_drewN | apply below_drew1 | refine below_set ?_ GE549.out) | exact HB.out))⟩; clear HO548 HO552 HO555 HO558 HO562 HO565 HO568 HO571 HO575 HO578 HO581 HO584 HO587 BK549 HB hq_; have HO548 := n0_; have HO552 := n1_; have HO555 := n2_; have HO558 := n3_; have HO562 := n4_; have HO565 := n5_; have HO568 := n6_; have HO571 := n7_; have HO575 := n8_; have HO578 := n9_; have HO581 := n10_; have HO584 := n11_; have HO587 := n12_; have BK549 := n13_; have HB := n14_; clear n0_ n1_ n2_ n3_ n4_ n5_ n6_ n7_ n8_ n9_ n10_ n11_ n12_ n13_ n14_))
              have n0_ := Aside0.mk (Kd.R_drew HO548.out)
              have n1_ := Aside0.mk (Kd.R_drew HO552.out)
              have n2_ := Aside0.mk (Kd.R_drew HO555.out)
              have n3_ := Aside0.mk (Kd.R_drew HO558.out)
              have n4_ := Aside0.mk (Kd.R_drew HO562.out)
              have n5_ := Aside0.mk (Kd.R_drew HO565.out)
              have n6_ := Aside0.mk (Kd.R_drew HO568.out)
              have n7_ := Aside0.mk (Kd.R_drew HO571.out)
              have n8_ := Aside0.mk (Kd.R_drew HO575.out)
              have n9_ := Aside0.mk (Kd.R_drew HO578.out)
              have n10_ := Aside0.mk (Kd.R_drew HO581.out)
              have n11_ := Aside0.mk (Kd.R_drew HO584.out)
              have n12_ := Aside0.mk (Kd.R_drew HO587.out)
              have n13_ := Aside0.mk (blk_drew BK549.out)
              have n14_ := Aside0.mk (below_drew1 HB.out)
              clear HO548
              clear HO552
              clear HO555
              clear HO558
              clear HO562
              clear HO565
              clear HO568
              clear HO571
              clear HO575
              clear HO578
              clear HO581
              clear HO584
              clear HO587
              clear BK549
              clear HB
              have HO548 := n0_
              have HO552 := n1_
              have HO555 := n2_
              have HO558 := n3_
              have HO562 := n4_
              have HO565 := n5_
              have HO568 := n6_
              have HO571 := n7_
              have HO575 := n8_
              have HO578 := n9_
              have HO581 := n10_
              have HO584 := n11_
              have HO587 := n12_
              have BK549 := n13_
              have HB := n14_
              clear n0_ n1_ n2_ n3_ n4_ n5_ n6_ n7_ n8_ n9_ n10_ n11_ n12_ n13_ n14_
              have p592 : 0 ≤ (0 : Int) := (by omega)
              have q592 : 0 < (t556.length : Int) := of_decide_eq_true (by first | (with_reducible assumption) | assumption)
              obtain ⟨ad592, e592, hx592_0⟩ := Kd.at_int (Kd.R_reads' HO558.out).2.2 0 p592 q592
              cases e592
              have qi592 : (0 < t556.length) = True := eq_true (by omega)
              (try rw [show ((0 : Int)).toNat = 0 from rfl] at hx592_0)
              (try rw [Addr.add_zero'] at hx592_0)
              replace p592 := eq_true p592
              replace q592 := eq_true q592
              have p593 : 0 ≤ (0 : Int) := (by omega)
              have q593 : 0 < (t585.length : Int) := of_decide_eq_true (by first | (with_reducible assumption) | assumption)
              obtain ⟨ad593, e593, hx593_0⟩ := Kd.at_int (Kd.R_reads' HO587.out).2.2 0 p593 q593
              cases e593
              have qi593 : (0 < t585.length) = True := eq_true (by omega)
              (try rw [show ((0 : Int)).toNat = 0 from rfl] at hx593_0)
              (try rw [Addr.add_zero'] at hx593_0)
              replace p593 := eq_true p593
              replace q593 := eq_true q593
              have p594 : 0 ≤ (0 : Int) := (by omega)
              have q594 : 0 < (t556.length : Int) := of_decide_eq_true (by first | (with_reducible assumption) | assumption)
              obtain ⟨ad594, e594, hx594_0⟩ := Kd.at_int (Kd.R_reads' HO558.out).2.2 0 p594 q594
              obtain rfl : ad592 = ad594 := (by injection e594)
              have qi594 : (0 < t556.length) = True := eq_true (by omega)
              (try rw [show ((0 : Int)).toNat = 0 from rfl] at hx594_0)
              (try rw [Addr.add_zero'] at hx594_0)
              replace p594 := eq_true p594
              replace q594 := eq_true q594
              have p595 : 0 ≤ (0 : Int) := (by omega)
              have q595 : 0 < (t569.length : Int) := of_decide_eq_true (by first | (with_reducible assumption) | assumption)
              obtain ⟨ad595, e595, hx595_0⟩ := Kd.at_int (Kd.R_reads' HO571.out).2.2 0 p595 q595
              cases e595
              have qi595 : (0 < t569.length) = True := eq_true (by omega)
              (try rw [show ((0 : Int)).toNat = 0 from rfl] at hx595_0)
              (try rw [Addr.add_zero'] at hx595_0)
              replace p595 := eq_true p595
              replace q595 := eq_true q595
              refine start_ (n := 25) (S := fun w' => w'.cell? ⟨gb549, 0, none⟩ = some (.int .i64 2) ∧ w'.cell? ⟨gb549, 1, none⟩ = some (.slice Ao29 y546.length co29) ∧ w'.cell? ad592 = some (.int .i64 (rd t556 0)) ∧ w'.cell? ad593 = some (.int .i64 (rd t585 0)) ∧ w'.cell? ad592 = some (.int .i64 (rd t556 0)) ∧ w'.cell? ad595 = some (.int .i64 (rd t569 0))) (ds := []) #[false, false, false, false, false, false, false, false, false, false, false, false, false, false, false, false, false, false, false, false, false, false, false, false, false] (by kernel_rfl) rfl rfl ⟨(blk_cell BK549.out 0).trans rfl, (blk_cell BK549.out 1).trans rfl, hx592_0, hx593_0, hx594_0, hx595_0⟩ (fun hHeld => ?_); refine with_tabW cruciblelaw18_CommandOrder.tab12 cruciblelaw18_CommandOrder.bits12 (fun HT_ HW_ => ?_)
              generalize w64.drew = w68 at HO548 HO552 HO555 HO558 HO562 HO565 HO568 HO571 HO575 HO578 HO581 HO584 HO587 BK549 HB hx592_0 hx593_0 hx594_0 hx595_0 hHeld ⊢
              refine pure_ (i := 0) (N := some 89) (v := ?_) (a' := ?_) #[true, false, false, false, false, false, false, false, false, false, false, false, false, false, false, false, false, false, false, false, false, false, false, false, false] rfl rfl (any_of HT_.out (by kernel_rfl)) (fun _ _ _ h => h) (Or.inl ⟨by rfl, ?_⟩) ?_ ?_
              rotate_left
              ·
               intro w'
               go_simp
               with_reducible rfl
              rotate_left
              ·
               simp only [Act.put, List.setIfInBounds_toArray, List.set_cons_zero, List.set_cons_succ, i64_w, i32_w]
               rfl
              refine pure_ (i := 1) (N := some 90) (v := ?_) (a' := ?_) #[true, true, false, false, false, false, false, false, false, false, false, false, false, false, false, false, false, false, false, false, false, false, false, false, false] rfl rfl (any_of HT_.out (by kernel_rfl)) (fun _ _ _ h => h) (Or.inl ⟨by rfl, ?_⟩) ?_ ?_
              rotate_left
              ·
               intro w'
               go_simp
               with_reducible rfl
              rotate_left
              ·
               simp only [Act.put, List.setIfInBounds_toArray, List.set_cons_zero, List.set_cons_succ, i64_w, i32_w]
               rfl
              refine pure_ (i := 3) (N := some 92) (v := ?_) (a' := ?_) #[true, true, false, true, false, false, false, false, false, false, false, false, false, false, false, false, false, false, false, false, false, false, false, false, false] rfl rfl (any_of HT_.out (by kernel_rfl)) (fun _ _ _ h => h) (Or.inl ⟨by rfl, ?_⟩) ?_ ?_
              rotate_left
              ·
               intro w'
               go_simp
               with_reducible rfl
              rotate_left
              ·
               simp only [Act.put, List.setIfInBounds_toArray, List.set_cons_zero, List.set_cons_succ, i64_w, i32_w]
               rfl
              refine pure_ (i := 4) (N := some 93) (v := ?_) (a' := ?_) #[true, true, false, true, true, false, false, false, false, false, false, false, false, false, false, false, false, false, false, false, false, false, false, false, false] rfl rfl (any_of HT_.out (by kernel_rfl)) (fun _ _ _ h => h) (Or.inl ⟨by rfl, ?_⟩) ?_ ?_
              rotate_left
              ·
               intro w'
               go_simp
               with_reducible rfl
              rotate_left
              ·
               simp only [Act.put, List.setIfInBounds_toArray, List.set_cons_zero, List.set_cons_succ, i64_w, i32_w]
               rfl
              refine take_ (i := 2) (N := some 91) (v := ?_) (a' := ?_) #[true, true, true, true, true, false, false, false, false, false, false, false, false, false, false, false, false, false, false, false, false, false, false, false, false] rfl rfl (take_ofW HT_.out HW_.out (by kernel_rfl)) (fun _ _ _ h => h) (Or.inl ⟨by rfl, ?_⟩) hHeld ?_ ?_
              rotate_left
              ·
               rintro w' ⟨s0, s1, s2, s3, s4, s5⟩
               go_simp
               with_reducible rfl
              rotate_left
              ·
               simp only [Act.put, List.setIfInBounds_toArray, List.set_cons_zero, List.set_cons_succ, i64_w, i32_w]
               rfl
              refine take_ (i := 5) (N := some 94) (v := ?_) (a' := ?_) #[true, true, true, true, true, true, false, false, false, false, false, false, false, false, false, false, false, false, false, false, false, false, false, false, false] rfl rfl (take_ofW HT_.out HW_.out (by kernel_rfl)) (fun _ _ _ h => h) (Or.inl ⟨by rfl, ?_⟩) hHeld ?_ ?_
              rotate_left
              ·
               rintro w' ⟨s0, s1, s2, s3, s4, s5⟩
               go_simp
               with_reducible rfl
              rotate_left
              ·
               simp only [Act.put, List.setIfInBounds_toArray, List.set_cons_zero, List.set_cons_succ, i64_w, i32_w]
               rfl
              refine pure_ (i := 6) (N := some 95) (v := ?_) (a' := ?_) #[true, true, true, true, true, true, true, false, false, false, false, false, false, false, false, false, false, false, false, false, false, false, false, false, false] rfl rfl (any_of HT_.out (by kernel_rfl)) (fun _ _ _ h => h) (Or.inl ⟨by rfl, ?_⟩) ?_ ?_
              rotate_left
              ·
               intro w'
               go_simp
               with_reducible rfl
              rotate_left
              ·
               simp only [Act.put, List.setIfInBounds_toArray, List.set_cons_zero, List.set_cons_succ, i64_w, i32_w]
               rfl
              refine pure_ (i := 7) (N := some 96) (v := ?_) (a' := ?_) #[true, true, true, true, true, true, true, true, false, false, false, false, false, false, false, false, false, false, false, false, false, false, false, false, false] rfl rfl (any_of HT_.out (by kernel_rfl)) (fun _ _ _ h => h) (Or.inl ⟨by rfl, ?_⟩) ?_ ?_
              rotate_left
              ·
               intro w'
               go_simp
               with_reducible rfl
              rotate_left
              ·
               simp only [Act.put, List.setIfInBounds_toArray, List.set_cons_zero, List.set_cons_succ, i64_w, i32_w]
               rfl
              refine pure_ (i := 8) (N := some 97) (v := ?_) (a' := ?_) #[true, true, true, true, true, true, true, true, true, false, false, false, false, false, false, false, false, false, false, false, false, false, false, false, false] rfl rfl (any_of HT_.out (by kernel_rfl)) (fun _ _ _ h => h) (Or.inl ⟨by rfl, ?_⟩) ?_ ?_
              rotate_left
              ·
               intro w'
               go_simp
               with_reducible rfl
              rotate_left
              ·
               simp only [Act.put, List.setIfInBounds_toArray, List.set_cons_zero, List.set_cons_succ, i64_w, i32_w]
               rfl
              refine pure_ (i := 9) (N := some 98) (v := ?_) (a' := ?_) #[true, true, true, true, true, true, true, true, true, true, false, false, false, false, false, false, false, false, false, false, false, false, false, false, false] rfl rfl (any_of HT_.out (by kernel_rfl)) (fun _ _ _ h => h) (Or.inl ⟨by rfl, ?_⟩) ?_ ?_
              rotate_left
              ·
               intro w'
               go_simp
               with_reducible rfl
              rotate_left
              ·
               simp only [Act.put, List.setIfInBounds_toArray, List.set_cons_zero, List.set_cons_succ, i64_w, i32_w]
               rfl
              refine pure_ (i := 11) (N := some 100) (v := ?_) (a' := ?_) #[true, true, true, true, true, true, true, true, true, true, false, true, false, false, false, false, false, false, false, false, false, false, false, false, false] rfl rfl (any_of HT_.out (by kernel_rfl)) (fun _ _ _ h => h) (Or.inl ⟨by rfl, ?_⟩) ?_ ?_
              rotate_left
              ·
               intro w'
               go_simp
               with_reducible rfl
              rotate_left
              ·
               simp only [Act.put, List.setIfInBounds_toArray, List.set_cons_zero, List.set_cons_succ, i64_w, i32_w]
               rfl
              refine pure_ (i := 12) (N := some 101) (v := ?_) (a' := ?_) #[true, true, true, true, true, true, true, true, true, true, false, true, true, false, false, false, false, false, false, false, false, false, false, false, false] rfl rfl (any_of HT_.out (by kernel_rfl)) (fun _ _ _ h => h) (Or.inl ⟨by rfl, ?_⟩) ?_ ?_
              rotate_left
              ·
               intro w'
               go_simp
               with_reducible rfl
              rotate_left
              ·
               simp only [Act.put, List.setIfInBounds_toArray, List.set_cons_zero, List.set_cons_succ, i64_w, i32_w]
               rfl
              refine pure_ (i := 15) (N := some 104) (v := ?_) (a' := ?_) #[true, true, true, true, true, true, true, true, true, true, false, true, true, false, false, true, false, false, false, false, false, false, false, false, false] rfl rfl (any_of HT_.out (by kernel_rfl)) (fun _ _ _ h => h) (Or.inl ⟨by rfl, ?_⟩) ?_ ?_
              rotate_left
              ·
               intro w'
               go_simp
               with_reducible rfl
              rotate_left
              ·
               simp only [Act.put, List.setIfInBounds_toArray, List.set_cons_zero, List.set_cons_succ, i64_w, i32_w]
               rfl
              refine pure_ (i := 16) (N := some 105) (v := ?_) (a' := ?_) #[true, true, true, true, true, true, true, true, true, true, false, true, true, false, false, true, true, false, false, false, false, false, false, false, false] rfl rfl (any_of HT_.out (by kernel_rfl)) (fun _ _ _ h => h) (Or.inl ⟨by rfl, ?_⟩) ?_ ?_
              rotate_left
              ·
               intro w'
               go_simp
               with_reducible rfl
              rotate_left
              ·
               simp only [Act.put, List.setIfInBounds_toArray, List.set_cons_zero, List.set_cons_succ, i64_w, i32_w]
               rfl
              refine pure_ (i := 17) (N := some 106) (v := ?_) (a' := ?_) #[true, true, true, true, true, true, true, true, true, true, false, true, true, false, false, true, true, true, false, false, false, false, false, false, false] rfl rfl (any_of HT_.out (by kernel_rfl)) (fun _ _ _ h => h) (Or.inl ⟨by rfl, ?_⟩) ?_ ?_
              rotate_left
              ·
               intro w'
               go_simp
               with_reducible rfl
              rotate_left
              ·
               simp only [Act.put, List.setIfInBounds_toArray, List.set_cons_zero, List.set_cons_succ, i64_w, i32_w]
               rfl
              refine take_ (i := 10) (N := some 99) (v := ?_) (a' := ?_) #[true, true, true, true, true, true, true, true, true, true, true, true, true, false, false, true, true, true, false, false, false, false, false, false, false] rfl rfl (take_ofW HT_.out HW_.out (by kernel_rfl)) (fun _ _ _ h => h) (Or.inl ⟨by rfl, ?_⟩) hHeld ?_ ?_
              rotate_left
              ·
               rintro w' ⟨s0, s1, s2, s3, s4, s5⟩
               go_simp
               with_reducible rfl
              rotate_left
              ·
               simp only [Act.put, List.setIfInBounds_toArray, List.set_cons_zero, List.set_cons_succ, i64_w, i32_w]
               rfl
              refine take_ (i := 13) (N := some 102) (v := ?_) (a' := ?_) #[true, true, true, true, true, true, true, true, true, true, true, true, true, true, false, true, true, true, false, false, false, false, false, false, false] rfl rfl (take_ofW HT_.out HW_.out (by kernel_rfl)) (fun _ _ _ h => h) (Or.inl ⟨by rfl, ?_⟩) hHeld ?_ ?_
              rotate_left
              ·
               rintro w' ⟨s0, s1, s2, s3, s4, s5⟩
               go_simp
               with_reducible rfl
              rotate_left
              ·
               simp only [Act.put, List.setIfInBounds_toArray, List.set_cons_zero, List.set_cons_succ, i64_w, i32_w]
               rfl
              refine pure_ (i := 14) (N := some 103) (v := ?_) (a' := ?_) #[true, true, true, true, true, true, true, true, true, true, true, true, true, true, true, true, true, true, false, false, false, false, false, false, false] rfl rfl (any_of HT_.out (by kernel_rfl)) (fun _ _ _ h => h) (Or.inl ⟨by rfl, ?_⟩) ?_ ?_
              rotate_left
              ·
               intro w'
               go_simp
               with_reducible rfl
              rotate_left
              ·
               simp only [Act.put, List.setIfInBounds_toArray, List.set_cons_zero, List.set_cons_succ, i64_w, i32_w]
               rfl
              refine pure_ (i := 18) (N := some 107) (v := ?_) (a' := ?_) #[true, true, true, true, true, true, true, true, true, true, true, true, true, true, true, true, true, true, true, false, false, false, false, false, false] rfl rfl (any_of HT_.out (by kernel_rfl)) (fun _ _ _ h => h) (Or.inl ⟨by rfl, ?_⟩) ?_ ?_
              rotate_left
              ·
               intro w'
               go_simp
               with_reducible rfl
              rotate_left
              ·
               simp only [Act.put, List.setIfInBounds_toArray, List.set_cons_zero, List.set_cons_succ, i64_w, i32_w]
               rfl
              refine pure_ (i := 19) (N := some 108) (v := ?_) (a' := ?_) #[true, true, true, true, true, true, true, true, true, true, true, true, true, true, true, true, true, true, true, true, false, false, false, false, false] rfl rfl (any_of HT_.out (by kernel_rfl)) (fun _ _ _ h => h) (Or.inl ⟨by rfl, ?_⟩) ?_ ?_
              rotate_left
              ·
               intro w'
               go_simp
               with_reducible rfl
              rotate_left
              ·
               simp only [Act.put, List.setIfInBounds_toArray, List.set_cons_zero, List.set_cons_succ, i64_w, i32_w]
               rfl
              refine pure_ (i := 20) (N := some 109) (v := ?_) (a' := ?_) #[true, true, true, true, true, true, true, true, true, true, true, true, true, true, true, true, true, true, true, true, true, false, false, false, false] rfl rfl (any_of HT_.out (by kernel_rfl)) (fun _ _ _ h => h) (Or.inl ⟨by rfl, ?_⟩) ?_ ?_
              rotate_left
              ·
               intro w'
               go_simp
               with_reducible rfl
              rotate_left
              ·
               simp only [Act.put, List.setIfInBounds_toArray, List.set_cons_zero, List.set_cons_succ, i64_w, i32_w]
               rfl
              refine take_ (i := 21) (N := some 110) (v := ?_) (a' := ?_) #[true, true, true, true, true, true, true, true, true, true, true, true, true, true, true, true, true, true, true, true, true, true, false, false, false] rfl rfl (take_ofW HT_.out HW_.out (by kernel_rfl)) (fun _ _ _ h => h) (Or.inl ⟨by rfl, ?_⟩) hHeld ?_ ?_
              rotate_left
              ·
               rintro w' ⟨s0, s1, s2, s3, s4, s5⟩
               go_simp
               with_reducible rfl
              rotate_left
              ·
               simp only [Act.put, List.setIfInBounds_toArray, List.set_cons_zero, List.set_cons_succ, i64_w, i32_w]
               rfl
              refine one_ (i := 22) (N := some 111) #[true, true, true, true, true, true, true, true, true, true, true, true, true, true, true, true, true, true, true, true, true, true, true, false, false] rfl rfl (one_of HT_.out (by kernel_rfl)) (by decide) (fun K hK => ?_)
              refine goes_ Tryd.func37 (by kernel_rfl) rfl #[.agg #[.int .i64 2, .slice Ao29 y546.length co29]] (by rfl) rfl rfl (by (try simp only [List.map_toArray, List.map_cons, List.map_nil]); first | done | rfl | (simp only [List.length_drop, List.length_take]; rfl)) ?_
              with_reducible refine (crucibleref12_DiskMay.calls k 2 _ _ y546 t596 _ ?side1 ?side2 A25.out).mono ?_
              (case side1 => repeat (first | exact (Kd.R_reads' HO548.out).2.2 | (with_reducible refine Kd.C_alloc ?_ _) | (with_reducible refine Kd.C_drewN ?_ _) | (with_reducible refine Kd.C_drew ?_)))
              (case side2 => exact (Kd.R_reads' HO548.out).2.1)
              rintro e w69 ⟨rfl, hb⟩
              have HS2_ := (hb.cell (World.block_lt_of_cell? _ _ (hHeld.2.2.1))).trans (hHeld.2.2.1)
              have HS3_ := (hb.cell (World.block_lt_of_cell? _ _ (hHeld.2.2.2.1))).trans (hHeld.2.2.2.1)
              have HS4_ := (hb.cell (World.block_lt_of_cell? _ _ (hHeld.2.2.2.2.1))).trans (hHeld.2.2.2.2.1)
              have HS5_ := (hb.cell (World.block_lt_of_cell? _ _ (hHeld.2.2.2.2.2))).trans (hHeld.2.2.2.2.2)
              refine ⟨_, rfl, ?_⟩
              have n0_ := Aside0.mk (Kd.R_below (by (with_reducible repeat (first | apply Kd.R_alloc | apply Kd.R_drewN | apply Kd.R_drew)); exact HO548.out) hb)
              have n1_ := Aside0.mk (Kd.R_below (by (with_reducible repeat (first | apply Kd.R_alloc | apply Kd.R_drewN | apply Kd.R_drew)); exact HO552.out) hb)
              have n2_ := Aside0.mk (Kd.R_below (by (with_reducible repeat (first | apply Kd.R_alloc | apply Kd.R_drewN | apply Kd.R_drew)); exact HO555.out) hb)
              have n3_ := Aside0.mk (Kd.R_below (by (with_reducible repeat (first | apply Kd.R_alloc | apply Kd.R_drewN | apply Kd.R_drew)); exact HO558.out) hb)
              have n4_ := Aside0.mk (Kd.R_below (by (with_reducible repeat (first | apply Kd.R_alloc | apply Kd.R_drewN | apply Kd.R_drew)); exact HO562.out) hb)
              have n5_ := Aside0.mk (Kd.R_below (by (with_reducible repeat (first | apply Kd.R_alloc | apply Kd.R_drewN | apply Kd.R_drew)); exact HO565.out) hb)
              have n6_ := Aside0.mk (Kd.R_below (by (with_reducible repeat (first | apply Kd.R_alloc | apply Kd.R_drewN | apply Kd.R_drew)); exact HO568.out) hb)
              have n7_ := Aside0.mk (Kd.R_below (by (with_reducible repeat (first | apply Kd.R_alloc | apply Kd.R_drewN | apply Kd.R_drew)); exact HO571.out) hb)
              have n8_ := Aside0.mk (Kd.R_below (by (with_reducible repeat (first | apply Kd.R_alloc | apply Kd.R_drewN | apply Kd.R_drew)); exact HO575.out) hb)
              have n9_ := Aside0.mk (Kd.R_below (by (with_reducible repeat (first | apply Kd.R_alloc | apply Kd.R_drewN | apply Kd.R_drew)); exact HO578.out) hb)
              have n10_ := Aside0.mk (Kd.R_below (by (with_reducible repeat (first | apply Kd.R_alloc | apply Kd.R_drewN | apply Kd.R_drew)); exact HO581.out) hb)
              have n11_ := Aside0.mk (Kd.R_below (by (with_reducible repeat (first | apply Kd.R_alloc | apply Kd.R_drewN | apply Kd.R_drew)); exact HO584.out) hb)
              have n12_ := Aside0.mk (Kd.R_below (by (with_reducible repeat (first | apply Kd.R_alloc | apply Kd.R_drewN | apply Kd.R_drew)); exact HO587.out) hb)
              have n13_ := Aside0.mk (blk_below (g := gb549) (o := .cells #[.int .i64 2, .slice Ao29 y546.length co29] 28 (0, 0)) (by (with_reducible repeat (first | refine blk_drewN ?_ _ | refine blk_drew ?_ | refine blk_alloc ?_ _)); exact BK549.out) hb)
              have n14_ := Aside0.mk (below_step (by repeat (first | (with_reducible first | exact HB.out | apply below_alloc | apply pw_below_drewN | apply below_drew1 | refine below_set ?_ GE549.out) | exact HB.out)) hb)
              clear HO548
              clear HO552
              clear HO555
              clear HO558
              clear HO562
              clear HO565
              clear HO568
              clear HO571
              clear HO575
              clear HO578
              clear HO581
              clear HO584
              clear HO587
              clear BK549
              clear HB
              have HO548 := n0_
              have HO552 := n1_
              have HO555 := n2_
              have HO558 := n3_
              have HO562 := n4_
              have HO565 := n5_
              have HO568 := n6_
              have HO571 := n7_
              have HO575 := n8_
              have HO578 := n9_
              have HO581 := n10_
              have HO584 := n11_
              have HO587 := n12_
              have BK549 := n13_
              have HB := n14_
              clear n0_ n1_ n2_ n3_ n4_ n5_ n6_ n7_ n8_ n9_ n10_ n11_ n12_ n13_ n14_
              (try clear hb)
              (try clear hb2)
              (try clear hk)
              (try clear hi)
              refine hK.out _ _ ⟨(blk_cell BK549.out 0).trans rfl, (blk_cell BK549.out 1).trans rfl, HS2_, HS3_, HS4_, HS5_⟩ (fun hHeld => ?_)
              clear hK K
              refine norm_ (a' := ?_) ?_ ?_
              rotate_left
              ·
               show Act.put _ (some 111) _ = _
               simp only [Act.put, List.setIfInBounds_toArray, List.set_cons_zero, List.set_cons_succ, i64_w, i32_w]
               rfl
              refine pure_ (i := 23) (N := some 112) (v := ?_) (a' := ?_) #[true, true, true, true, true, true, true, true, true, true, true, true, true, true, true, true, true, true, true, true, true, true, true, true, false] rfl rfl (any_of HT_.out (by kernel_rfl)) (fun _ _ _ h => h) (Or.inl ⟨by rfl, ?_⟩) ?_ ?_
              rotate_left
              ·
               intro w'
               go_simp
               with_reducible rfl
              rotate_left
              ·
               simp only [Act.put, List.setIfInBounds_toArray, List.set_cons_zero, List.set_cons_succ, i64_w, i32_w]
               rfl
              refine pure_ (i := 24) (N := some 6) (v := ?_) (a' := ?_) #[true, true, true, true, true, true, true, true, true, true, true, true, true, true, true, true, true, true, true, true, true, true, true, true, true] rfl rfl (any_of HT_.out (by kernel_rfl)) (fun _ _ _ h => h) (Or.inl ⟨by rfl, ?_⟩) ?_ ?_
              rotate_left
              ·
               intro w'
               go_simp
               with_reducible rfl
              rotate_left
              ·
               simp only [Act.put, List.setIfInBounds_toArray, List.set_cons_zero, List.set_cons_succ, i64_w, i32_w]
               rfl
              refine done_ (done_of HT_.out (by kernel_rfl)) ?_
              try go_wp2
              go_ret
              exact ⟨by first | rfl | (simp [errW_none, errW_some] <;> rfl) | (simp [*, errW_none, errW_some] <;> rfl), by repeat (first | (with_reducible first | exact HB.out | apply below_alloc | apply pw_below_drewN | apply below_drew1 | refine below_set ?_ GE549.out) | exact HB.out)⟩
             ·
              rw [if_neg c24] at H
              exact absurd H (by simp)
            ·
             rw [if_neg c23] at H
             exact absurd H (by simp)
           ·
            rw [if_neg c22] at H
            exact absurd H (by simp)
          ·
           rw [if_neg c21] at H
           exact absurd H (by simp)
         ·
          rw [if_neg c20] at H
          exact absurd H (by simp)
        ·
         rw [if_neg c19] at H
         exact absurd H (by simp)
       ·
        rw [if_neg c18] at H
        exact absurd H (by simp)
      ·
       rw [if_neg c17] at H
       exact absurd H (by simp)
     ·
      rw [if_neg c16] at H
      exact absurd H (by simp)
    ·
     rw [if_neg c14] at H
     exact absurd H (by simp)
   ·
    rw [if_neg c12] at H
    exact absurd H (by simp)
  ·
   replace c7 := Bool.eq_false_iff.mpr c7
   subst c7
   have H1 : (some true) = some r := by rw [if_neg (show ¬ (false = true) by decide)] at H; exact H
   clear H
   have H := H1
   clear H1
   obtain rfl := Option.some.inj H
   go_enter Tryd.func7, Tryd.ntmps7
   go_wp2_with (first | ((with_reducible refine gate_callee (f := 32) rfl ?_); refine goesL_ (some 16) rfl rfl Tryd.func32 (by kernel_rfl) rfl #[] rfl (by (try simp only [List.map_toArray, List.map_cons, List.map_nil]); first | done | rfl | (simp only [List.length_drop, List.length_take]; rfl)) ?_; (with_reducible refine (cruciblelaw18_awake.calls  true _ A4.out).mono ?_); rintro e w70 ⟨rfl, hb⟩; refine ⟨_, rfl, ?_⟩; have n0_ := Aside0.mk (below_step (by repeat (first | (with_reducible first | exact HB.out | apply below_alloc | apply pw_below_drewN | apply below_drew1) | exact HB.out)) hb); clear HB; have HB := n0_; clear n0_; (try clear hb); (try clear hb2); (try clear hk); (try clear hi)) | ((with_reducible refine gate_callee (f := 36) rfl ?_); refine goesL_ (some 23) rfl rfl Tryd.func36 (by kernel_rfl) rfl #[.string a2] rfl (by (try simp only [List.map_toArray, List.map_cons, List.map_nil]); first | done | rfl | (simp only [List.length_drop, List.length_take]; rfl)) ?_; (with_reducible refine (cruciblelaw18_plain.calls k a2 false _ A6.out).mono ?_); rintro e w' ⟨rfl, ⟨nd, rfl⟩⟩; refine ⟨_, rfl, ?_⟩))
   go_ret
   exact ⟨by first | rfl | (simp [errW_none, errW_some] <;> rfl) | (simp [*, errW_none, errW_some] <;> rfl), by repeat (first | (with_reducible first | exact HB.out | apply below_alloc | apply pw_below_drewN | apply below_drew1) | exact HB.out)⟩
 ·
  replace c5 := Bool.eq_false_iff.mpr c5
  subst c5
  have H1 : (none) = some r := by rw [if_neg (show ¬ (false = true) by decide)] at H; exact H
  clear H
  have H := H1
  clear H1
  exact absurd H (by simp)

/-- THE ONE PURE STATEMENT of cruciblelaw18_CommandOrder: yours. -/
def cruciblelaw18_CommandOrder.Pure : Prop := ∀ (a0 : Int) (a1 : Int) (a2 : ByteArray), (Lit.int .i64 a0).wf = true → (Lit.int .i64 a1).wf = true → a2.size ≤ 140737488351232 → ∃ k, cruciblelaw18_CommandOrder.f k a0 a1 a2 = some true
theorem cruciblelaw18_CommandOrder.walk (P : cruciblelaw18_CommandOrder.Pure) (a0 : Int) (a1 : Int) (a2 : ByteArray) (w : World) (w0 : (Lit.int .i64 a0).wf = true) (w1 : (Lit.int .i64 a1).wf = true) (w2 : a2.size ≤ 140737488351232) :
  Calls Tryd.prog 7 #[.int .i64 a0, .int .i64 a1, .string a2] w fun e w' => e = .returned (.bool true) ∧ Below w.heap.size w w' := by
 obtain ⟨k, h⟩ := P a0 a1 a2 w0 w1 w2
 refine (cruciblelaw18_CommandOrder.calls k a0 a1 a2 true w h).mono ?_
 rintro e w' ⟨rfl, hd⟩
 exact ⟨rfl, hd⟩

end Go.Proofs.YtilnamobmjngbaaDoor.P
