-- Made by a program of this work's own (wip/myprint.py) over the kit's print; leaves by hand.
import Derived.Test.YtilnamobmjngbaaDoorP0
import Derived.Test.YtilnamobmjngbaaDoorWTab
import Derived.Test.YtilnamobmjngbaaDoorWRepsOne
import Derived.Test.YtilnamobmjngbaaDoorPlus
import Derived.Test.YtilnamobmjngbaaDoorP2
import Derived.Test.YtilnamobmjngbaaDoorP12
import Derived.Test.YtilnamobmjngbaaDoorP15
import Derived.Test.YtilnamobmjngbaaDoorP17
import Derived.Test.YtilnamobmjngbaaDoorP20
import Derived.Test.YtilnamobmjngbaaDoorP22
namespace Go.Proofs.YtilnamobmjngbaaDoor.P
open Go.Proofs.YtilnamobmjngbaaDoor.Plus
open Go.RowKit Go.Proofs.YtilnamobmjngbaaDoorW.PrintWords Go.Proofs.YtilnamobmjngbaaDoorW.PrintLast Go.Proofs.YtilnamobmjngbaaDoorW.PrintMore
attribute [local go_sem] max2_int min2_int max_two min_two max_three min_three max_four min_four   -- for this text's walks alone
set_option linter.unusedVariables false
set_option linter.unusedSimpArgs false

/-! ### cruciblelaw12_DiskForms: function 10 -/
def cruciblelaw12_DiskForms.j0 : Nat → Int → Int → Int → List (S72) → Int → List (S72) → Option (Bool)
 | 0, _, _, _, _, _, _ => none
 | k + 1, x0, x5, x209000, x209001, x216000, x216001 => (disk_Put.f k x216000 x216001 (⟨#[120]⟩ : ByteArray) 1).bind fun bt224 => ((disk_Remove.f k x216000 x216001 (⟨#[98]⟩ : ByteArray)).bind fun bt230 => ((disk_Find.f k x216000 x216001 (⟨#[98]⟩ : ByteArray)).bind fun bt236 => ((some (([wrap64 (-x5), wrap64 (2147483647 + x5)] : List Int) : List Int)).bind fun y241 => (if 0 ≤ (Go.bits .and .i64 x0 1) then (if (Go.bits .and .i64 x0 1) < (y241.length : Int) then ((disk_Put.f k x209000 x209001 (⟨#[120]⟩ : ByteArray) (rd y241 (Go.bits .and .i64 x0 1))).bind fun bt245 => ((disk_Remove.f k x209000 x209001 (⟨#[47, 97]⟩ : ByteArray)).bind fun bt251 => ((disk_Remove.f k x209000 x209001 (⟨#[120]⟩ : ByteArray)).bind fun bt257 => ((disk_Put.f k 1048576 x209001 (⟨#[97]⟩ : ByteArray) 1).bind fun bt263 => ((disk_May.f k 1048576 x209001).bind fun t269 => (if t269 = true then ((disk_May.f k x216000 x216001).bind fun t270 => (if t270 = true then (none) else ((cruciblelaw0_Num.f bt224.2.2).bind fun t271 => (if t271 = 1200 then ((cruciblelaw0_Num.f bt230.2.2).bind fun t272 => (if t272 = 1200 then (if bt236.2.2.2 = true then (none) else ((cruciblelaw0_Num.f bt245.2.2).bind fun t273 => (if t273 = 1200 then ((cruciblelaw0_Num.f bt251.2.2).bind fun t274 => (if t274 = 1200 then ((cruciblelaw0_Num.f bt257.2.2).bind fun t275 => (if t275 = 1202 then ((cruciblelaw0_Num.f bt263.2.2).bind fun t276 => (some (t276 == 1201))) else (none))) else (none))) else (none)))) else (none))) else (none))))) else (none))))))) else (none)) else (none)))))
def cruciblelaw12_DiskForms.f (k : Nat) (a0 : Int) (a1 : Int) : Option (Bool) := (cruciblelaw12_awake.f).bind fun t204 => (if t204 = true then ((some (([(⟨(⟨#[97]⟩ : ByteArray), 3, 4⟩ : S72), (⟨(⟨#[98]⟩ : ByteArray), 0, 2⟩ : S72)] : List (S72)) : List (S72))).bind fun y205 => ((some (([] : List (S72)) : List (S72))).bind fun y209 => (if y209.length + y205.length < 4398046511104 then ((some (y209 ++ y205 : List (S72))).bind fun y212 => (if (Int.tmod (IntKind.u64.wrap (a0)) 10) = 0 then (cruciblelaw12_DiskForms.j0 k a0 (wrap64 (1 + (Go.bits .and .i64 a1 1023))) 5 y205 (wrap64 (-(wrap64 (1 + (Go.bits .and .i64 a1 1023))))) y212) else (if (Int.tmod (IntKind.u64.wrap (a0)) 10) = 1 then (cruciblelaw12_DiskForms.j0 k a0 (wrap64 (1 + (Go.bits .and .i64 a1 1023))) 5 y205 (wrap64 (1048576 + (wrap64 (1 + (Go.bits .and .i64 a1 1023))))) y212) else (if (Int.tmod (IntKind.u64.wrap (a0)) 10) = 2 then (if 0 < (y212.length : Int) then (cruciblelaw12_DiskForms.j0 k a0 (wrap64 (1 + (Go.bits .and .i64 a1 1023))) 5 y205 5 (y212.set (0 : Int).toNat (⟨(⟨#[99]⟩ : ByteArray), (rd_T72 y212 0).f1, (rd_T72 y212 0).f2⟩ : S72))) else (none)) else (if (Int.tmod (IntKind.u64.wrap (a0)) 10) = 3 then (if 0 < (y212.length : Int) then (cruciblelaw12_DiskForms.j0 k a0 (wrap64 (1 + (Go.bits .and .i64 a1 1023))) 5 y205 5 (y212.set (0 : Int).toNat (⟨(⟨#[46, 47, 97]⟩ : ByteArray), (rd_T72 y212 0).f1, (rd_T72 y212 0).f2⟩ : S72))) else (none)) else (if (Int.tmod (IntKind.u64.wrap (a0)) 10) = 4 then (if 0 < (y212.length : Int) then (cruciblelaw12_DiskForms.j0 k a0 (wrap64 (1 + (Go.bits .and .i64 a1 1023))) 5 y205 5 (y212.set (0 : Int).toNat (⟨(rd_T72 y212 0).f0, wrap64 (-(wrap64 (1 + (Go.bits .and .i64 a1 1023)))), (rd_T72 y212 0).f2⟩ : S72))) else (none)) else (if (Int.tmod (IntKind.u64.wrap (a0)) 10) = 5 then (if 0 < (y212.length : Int) then (cruciblelaw12_DiskForms.j0 k a0 (wrap64 (1 + (Go.bits .and .i64 a1 1023))) 5 y205 5 (y212.set (0 : Int).toNat (⟨(rd_T72 y212 0).f0, wrap64 (2147483647 + (wrap64 (1 + (Go.bits .and .i64 a1 1023)))), (rd_T72 y212 0).f2⟩ : S72))) else (none)) else (if (Int.tmod (IntKind.u64.wrap (a0)) 10) = 6 then (if 0 < (y212.length : Int) then (cruciblelaw12_DiskForms.j0 k a0 (wrap64 (1 + (Go.bits .and .i64 a1 1023))) 5 y205 5 (y212.set (0 : Int).toNat (⟨(rd_T72 y212 0).f0, (rd_T72 y212 0).f1, wrap64 (1 - (wrap64 (1 + (Go.bits .and .i64 a1 1023))))⟩ : S72))) else (none)) else (if (Int.tmod (IntKind.u64.wrap (a0)) 10) = 7 then (if 0 < (y212.length : Int) then (cruciblelaw12_DiskForms.j0 k a0 (wrap64 (1 + (Go.bits .and .i64 a1 1023))) 5 y205 5 (y212.set (0 : Int).toNat (⟨(rd_T72 y212 0).f0, (rd_T72 y212 0).f1, wrap64 (5 + (wrap64 (1 + (Go.bits .and .i64 a1 1023))))⟩ : S72))) else (none)) else (if (Int.tmod (IntKind.u64.wrap (a0)) 10) = 8 then (if 0 < (y212.length : Int) then (cruciblelaw12_DiskForms.j0 k a0 (wrap64 (1 + (Go.bits .and .i64 a1 1023))) 5 y205 5 (y212.set (0 : Int).toNat (⟨(rd_T72 y212 0).f0, (rd_T72 y212 0).f1, 2⟩ : S72))) else (none)) else (if 1 < (y212.length : Int) then (cruciblelaw12_DiskForms.j0 k a0 (wrap64 (1 + (Go.bits .and .i64 a1 1023))) 5 y205 5 (y212.set (1 : Int).toNat (⟨(⟨#[97]⟩ : ByteArray), (rd_T72 y212 1).f1, (rd_T72 y212 1).f2⟩ : S72))) else (none)))))))))))) else (none)))) else (none))
set_option maxRecDepth 100000 in
theorem cruciblelaw12_DiskForms.mono_l : ∀ k, (∀ y0 y1 y2 y3 y4 y5, LeO (cruciblelaw12_DiskForms.j0 k y0 y1 y2 y3 y4 y5) (cruciblelaw12_DiskForms.j0 (k + 1) y0 y1 y2 y3 y4 y5))
 | 0 => fun _ _ _ _ _ _ r h => by simp [cruciblelaw12_DiskForms.j0] at h
 | k + 1 => by
  have ih0 := cruciblelaw12_DiskForms.mono_l k
  ·
   intro y0 y1 y2 y3 y4 y5
   unfold cruciblelaw12_DiskForms.j0
   repeat' first
   | (with_reducible exact ih0 _ _ _ _ _ _)
   | (with_reducible exact disk_Find.mono _ _ _ _)
   | (with_reducible exact disk_May.mono _ _ _)
   | (with_reducible exact disk_Put.mono _ _ _ _ _)
   | (with_reducible exact disk_Remove.mono _ _ _ _)
   | (with_reducible exact LeO.refl _)
   | (with_reducible exact LeO.none _)
   | (with_reducible refine LeO.ite ?_ ?_)
   | (with_reducible refine LeO.bind ?_ (fun _ => ?_))
   | exact ih0 _ _ _ _ _ _
   | exact disk_Find.mono _ _ _ _
   | exact disk_May.mono _ _ _
   | exact disk_Put.mono _ _ _ _ _
   | exact disk_Remove.mono _ _ _ _
   | exact LeO.none _
   | refine LeO.ite ?_ ?_
   | refine LeO.bind ?_ (fun _ => ?_)
theorem cruciblelaw12_DiskForms.mono : ∀ a0 a1 k, LeO (cruciblelaw12_DiskForms.f k a0 a1) (cruciblelaw12_DiskForms.f (k + 1) a0 a1) := by
 intro a0 a1 k
 have ih0 := cruciblelaw12_DiskForms.mono_l k
 unfold cruciblelaw12_DiskForms.f
 repeat' first
   | (with_reducible exact ih0 _ _ _ _ _ _)
   | (with_reducible exact disk_Find.mono _ _ _ _)
   | (with_reducible exact disk_May.mono _ _ _)
   | (with_reducible exact disk_Put.mono _ _ _ _ _)
   | (with_reducible exact disk_Remove.mono _ _ _ _)
   | (with_reducible exact LeO.refl _)
   | (with_reducible exact LeO.none _)
   | (with_reducible refine LeO.ite ?_ ?_)
   | (with_reducible refine LeO.bind ?_ (fun _ => ?_))
   | exact ih0 _ _ _ _ _ _
   | exact disk_Find.mono _ _ _ _
   | exact disk_May.mono _ _ _
   | exact disk_Put.mono _ _ _ _ _
   | exact disk_Remove.mono _ _ _ _
   | exact LeO.none _
   | refine LeO.ite ?_ ?_
   | refine LeO.bind ?_ (fun _ => ?_)
def cruciblelaw12_DiskForms.T5 : Bool × List (List Nat × List Nat) := (true, [([], []), ([0], [0]), ([], []), ([], []), ([3], [3]), ([2, 4], [2, 4]), ([1, 5], [1, 5]), ([], []), ([7, 6, 5, 0, 1, 2, 3, 4, 5, 6, 7], [6, 7])])
def cruciblelaw12_DiskForms.B5 : List Nat := [0, 1, 0, 0, 8, 28, 63, 0, 255]
theorem cruciblelaw12_DiskForms.tab5 : rtab .any (opsOf Tryd.f10 5) = cruciblelaw12_DiskForms.T5 := by kernel_rfl
theorem cruciblelaw12_DiskForms.bits5 : waitsOk cruciblelaw12_DiskForms.T5.2 cruciblelaw12_DiskForms.B5 = true := by kernel_rfl
def cruciblelaw12_DiskForms.T29 : Bool × List (List Nat × List Nat) := (true, [([], []), ([], []), ([1], [1]), ([], []), ([3], [3]), ([2, 4], [2, 4]), ([], []), ([6], [6]), ([5, 7], [5, 7]), ([8], [8]), ([0, 9], [0, 9]), ([10], [10]), ([11], [11]), ([11], [11]), ([], []), ([14, 12, 10, 0, 1, 2, 3, 4, 5, 6, 7, 8, 9, 10, 11, 12, 14], [12, 14]), ([13, 15, 0, 1, 2, 3, 4, 5, 6, 7, 8, 9, 10, 11, 12, 13, 14, 15], [13])])
def cruciblelaw12_DiskForms.B29 : List Nat := [0, 0, 2, 0, 8, 30, 0, 64, 254, 510, 1023, 2047, 4095, 4095, 0, 24575, 65535]
theorem cruciblelaw12_DiskForms.tab29 : rtab .any (opsOf Tryd.f10 29) = cruciblelaw12_DiskForms.T29 := by kernel_rfl
theorem cruciblelaw12_DiskForms.bits29 : waitsOk cruciblelaw12_DiskForms.T29.2 cruciblelaw12_DiskForms.B29 = true := by kernel_rfl
set_option maxHeartbeats 8000000 in
set_option maxRecDepth 100000 in
theorem cruciblelaw12_DiskForms.calls (k : Nat) (a0 : Int) (a1 : Int) (r : Bool) (w : World) (h : cruciblelaw12_DiskForms.f k a0 a1 = some r) :
  Calls Tryd.prog 10 #[.int .i64 a0, .int .i64 a1] w fun e w' => e = .returned (.bool r) ∧ Below w.heap.size w w' := by
 have hu72 := Tryd.underlying72
 have hu28 := Tryd.underlying28
 have HB := Aside0.mk (Below.refl w.heap.size w)
 have H : ((cruciblelaw12_awake.f).bind fun t204 => (if t204 = true then ((some (([(⟨(⟨#[97]⟩ : ByteArray), 3, 4⟩ : S72), (⟨(⟨#[98]⟩ : ByteArray), 0, 2⟩ : S72)] : List (S72)) : List (S72))).bind fun y205 => ((some (([] : List (S72)) : List (S72))).bind fun y209 => (if y209.length + y205.length < 4398046511104 then ((some (y209 ++ y205 : List (S72))).bind fun y212 => (if (Int.tmod (IntKind.u64.wrap (a0)) 10) = 0 then (cruciblelaw12_DiskForms.j0 k a0 (wrap64 (1 + (Go.bits .and .i64 a1 1023))) 5 y205 (wrap64 (-(wrap64 (1 + (Go.bits .and .i64 a1 1023))))) y212) else (if (Int.tmod (IntKind.u64.wrap (a0)) 10) = 1 then (cruciblelaw12_DiskForms.j0 k a0 (wrap64 (1 + (Go.bits .and .i64 a1 1023))) 5 y205 (wrap64 (1048576 + (wrap64 (1 + (Go.bits .and .i64 a1 1023))))) y212) else (if (Int.tmod (IntKind.u64.wrap (a0)) 10) = 2 then (if 0 < (y212.length : Int) then (cruciblelaw12_DiskForms.j0 k a0 (wrap64 (1 + (Go.bits .and .i64 a1 1023))) 5 y205 5 (y212.set (0 : Int).toNat (⟨(⟨#[99]⟩ : ByteArray), (rd_T72 y212 0).f1, (rd_T72 y212 0).f2⟩ : S72))) else (none)) else (if (Int.tmod (IntKind.u64.wrap (a0)) 10) = 3 then (if 0 < (y212.length : Int) then (cruciblelaw12_DiskForms.j0 k a0 (wrap64 (1 + (Go.bits .and .i64 a1 1023))) 5 y205 5 (y212.set (0 : Int).toNat (⟨(⟨#[46, 47, 97]⟩ : ByteArray), (rd_T72 y212 0).f1, (rd_T72 y212 0).f2⟩ : S72))) else (none)) else (if (Int.tmod (IntKind.u64.wrap (a0)) 10) = 4 then (if 0 < (y212.length : Int) then (cruciblelaw12_DiskForms.j0 k a0 (wrap64 (1 + (Go.bits .and .i64 a1 1023))) 5 y205 5 (y212.set (0 : Int).toNat (⟨(rd_T72 y212 0).f0, wrap64 (-(wrap64 (1 + (Go.bits .and .i64 a1 1023)))), (rd_T72 y212 0).f2⟩ : S72))) else (none)) else (if (Int.tmod (IntKind.u64.wrap (a0)) 10) = 5 then (if 0 < (y212.length : Int) then (cruciblelaw12_DiskForms.j0 k a0 (wrap64 (1 + (Go.bits .and .i64 a1 1023))) 5 y205 5 (y212.set (0 : Int).toNat (⟨(rd_T72 y212 0).f0, wrap64 (2147483647 + (wrap64 (1 + (Go.bits .and .i64 a1 1023)))), (rd_T72 y212 0).f2⟩ : S72))) else (none)) else (if (Int.tmod (IntKind.u64.wrap (a0)) 10) = 6 then (if 0 < (y212.length : Int) then (cruciblelaw12_DiskForms.j0 k a0 (wrap64 (1 + (Go.bits .and .i64 a1 1023))) 5 y205 5 (y212.set (0 : Int).toNat (⟨(rd_T72 y212 0).f0, (rd_T72 y212 0).f1, wrap64 (1 - (wrap64 (1 + (Go.bits .and .i64 a1 1023))))⟩ : S72))) else (none)) else (if (Int.tmod (IntKind.u64.wrap (a0)) 10) = 7 then (if 0 < (y212.length : Int) then (cruciblelaw12_DiskForms.j0 k a0 (wrap64 (1 + (Go.bits .and .i64 a1 1023))) 5 y205 5 (y212.set (0 : Int).toNat (⟨(rd_T72 y212 0).f0, (rd_T72 y212 0).f1, wrap64 (5 + (wrap64 (1 + (Go.bits .and .i64 a1 1023))))⟩ : S72))) else (none)) else (if (Int.tmod (IntKind.u64.wrap (a0)) 10) = 8 then (if 0 < (y212.length : Int) then (cruciblelaw12_DiskForms.j0 k a0 (wrap64 (1 + (Go.bits .and .i64 a1 1023))) 5 y205 5 (y212.set (0 : Int).toNat (⟨(rd_T72 y212 0).f0, (rd_T72 y212 0).f1, 2⟩ : S72))) else (none)) else (if 1 < (y212.length : Int) then (cruciblelaw12_DiskForms.j0 k a0 (wrap64 (1 + (Go.bits .and .i64 a1 1023))) 5 y205 5 (y212.set (1 : Int).toNat (⟨(⟨#[97]⟩ : ByteArray), (rd_T72 y212 1).f1, (rd_T72 y212 1).f2⟩ : S72))) else (none)))))))))))) else (none)))) else (none))) = some r := h
 clear h
 replace H := Option.bind_eq_some_iff.mp H
 obtain ⟨t204, A30, H⟩ := H
 (try dsimp only at H)
 have A3 := Aside0.mk A30
 clear A30
 by_cases c4 : t204 = true
 ·
  subst c4
  have H1 := H; rw [if_pos rfl] at H1
  clear H
  have H := H1
  clear H1
  obtain ⟨y205, hy205⟩ : ∃ y_ : List (S72), y_ = (([(⟨(⟨#[97]⟩ : ByteArray), 3, 4⟩ : S72), (⟨(⟨#[98]⟩ : ByteArray), 0, 2⟩ : S72)] : List (S72))) := ⟨_, rfl⟩
  replace H : ((some (([] : List (S72)) : List (S72))).bind fun y209 => (if y209.length + y205.length < 4398046511104 then ((some (y209 ++ y205 : List (S72))).bind fun y212 => (if (Int.tmod (IntKind.u64.wrap (a0)) 10) = 0 then (cruciblelaw12_DiskForms.j0 k a0 (wrap64 (1 + (Go.bits .and .i64 a1 1023))) 5 y205 (wrap64 (-(wrap64 (1 + (Go.bits .and .i64 a1 1023))))) y212) else (if (Int.tmod (IntKind.u64.wrap (a0)) 10) = 1 then (cruciblelaw12_DiskForms.j0 k a0 (wrap64 (1 + (Go.bits .and .i64 a1 1023))) 5 y205 (wrap64 (1048576 + (wrap64 (1 + (Go.bits .and .i64 a1 1023))))) y212) else (if (Int.tmod (IntKind.u64.wrap (a0)) 10) = 2 then (if 0 < (y212.length : Int) then (cruciblelaw12_DiskForms.j0 k a0 (wrap64 (1 + (Go.bits .and .i64 a1 1023))) 5 y205 5 (y212.set (0 : Int).toNat (⟨(⟨#[99]⟩ : ByteArray), (rd_T72 y212 0).f1, (rd_T72 y212 0).f2⟩ : S72))) else (none)) else (if (Int.tmod (IntKind.u64.wrap (a0)) 10) = 3 then (if 0 < (y212.length : Int) then (cruciblelaw12_DiskForms.j0 k a0 (wrap64 (1 + (Go.bits .and .i64 a1 1023))) 5 y205 5 (y212.set (0 : Int).toNat (⟨(⟨#[46, 47, 97]⟩ : ByteArray), (rd_T72 y212 0).f1, (rd_T72 y212 0).f2⟩ : S72))) else (none)) else (if (Int.tmod (IntKind.u64.wrap (a0)) 10) = 4 then (if 0 < (y212.length : Int) then (cruciblelaw12_DiskForms.j0 k a0 (wrap64 (1 + (Go.bits .and .i64 a1 1023))) 5 y205 5 (y212.set (0 : Int).toNat (⟨(rd_T72 y212 0).f0, wrap64 (-(wrap64 (1 + (Go.bits .and .i64 a1 1023)))), (rd_T72 y212 0).f2⟩ : S72))) else (none)) else (if (Int.tmod (IntKind.u64.wrap (a0)) 10) = 5 then (if 0 < (y212.length : Int) then (cruciblelaw12_DiskForms.j0 k a0 (wrap64 (1 + (Go.bits .and .i64 a1 1023))) 5 y205 5 (y212.set (0 : Int).toNat (⟨(rd_T72 y212 0).f0, wrap64 (2147483647 + (wrap64 (1 + (Go.bits .and .i64 a1 1023)))), (rd_T72 y212 0).f2⟩ : S72))) else (none)) else (if (Int.tmod (IntKind.u64.wrap (a0)) 10) = 6 then (if 0 < (y212.length : Int) then (cruciblelaw12_DiskForms.j0 k a0 (wrap64 (1 + (Go.bits .and .i64 a1 1023))) 5 y205 5 (y212.set (0 : Int).toNat (⟨(rd_T72 y212 0).f0, (rd_T72 y212 0).f1, wrap64 (1 - (wrap64 (1 + (Go.bits .and .i64 a1 1023))))⟩ : S72))) else (none)) else (if (Int.tmod (IntKind.u64.wrap (a0)) 10) = 7 then (if 0 < (y212.length : Int) then (cruciblelaw12_DiskForms.j0 k a0 (wrap64 (1 + (Go.bits .and .i64 a1 1023))) 5 y205 5 (y212.set (0 : Int).toNat (⟨(rd_T72 y212 0).f0, (rd_T72 y212 0).f1, wrap64 (5 + (wrap64 (1 + (Go.bits .and .i64 a1 1023))))⟩ : S72))) else (none)) else (if (Int.tmod (IntKind.u64.wrap (a0)) 10) = 8 then (if 0 < (y212.length : Int) then (cruciblelaw12_DiskForms.j0 k a0 (wrap64 (1 + (Go.bits .and .i64 a1 1023))) 5 y205 5 (y212.set (0 : Int).toNat (⟨(rd_T72 y212 0).f0, (rd_T72 y212 0).f1, 2⟩ : S72))) else (none)) else (if 1 < (y212.length : Int) then (cruciblelaw12_DiskForms.j0 k a0 (wrap64 (1 + (Go.bits .and .i64 a1 1023))) 5 y205 5 (y212.set (1 : Int).toNat (⟨(⟨#[97]⟩ : ByteArray), (rd_T72 y212 1).f1, (rd_T72 y212 1).f2⟩ : S72))) else (none)))))))))))) else (none))) = some r := by first | (rw [hy205]; with_reducible exact H) | (have H2_ := (Option.bind_some _ _).symm.trans H; rw [hy205]; with_reducible exact H2_) | (have H2_ := (Option.bind_some _ _).symm.trans H; with_reducible exact H2_) | with_reducible exact H | (rw [hy205]; exact H) | exact H
  have Ny205 := Aside0.mk hy205
  clear hy205
  obtain ⟨y209, hy209⟩ : ∃ y_ : List (S72), y_ = (([] : List (S72))) := ⟨_, rfl⟩
  replace H : (if y209.length + y205.length < 4398046511104 then ((some (y209 ++ y205 : List (S72))).bind fun y212 => (if (Int.tmod (IntKind.u64.wrap (a0)) 10) = 0 then (cruciblelaw12_DiskForms.j0 k a0 (wrap64 (1 + (Go.bits .and .i64 a1 1023))) 5 y205 (wrap64 (-(wrap64 (1 + (Go.bits .and .i64 a1 1023))))) y212) else (if (Int.tmod (IntKind.u64.wrap (a0)) 10) = 1 then (cruciblelaw12_DiskForms.j0 k a0 (wrap64 (1 + (Go.bits .and .i64 a1 1023))) 5 y205 (wrap64 (1048576 + (wrap64 (1 + (Go.bits .and .i64 a1 1023))))) y212) else (if (Int.tmod (IntKind.u64.wrap (a0)) 10) = 2 then (if 0 < (y212.length : Int) then (cruciblelaw12_DiskForms.j0 k a0 (wrap64 (1 + (Go.bits .and .i64 a1 1023))) 5 y205 5 (y212.set (0 : Int).toNat (⟨(⟨#[99]⟩ : ByteArray), (rd_T72 y212 0).f1, (rd_T72 y212 0).f2⟩ : S72))) else (none)) else (if (Int.tmod (IntKind.u64.wrap (a0)) 10) = 3 then (if 0 < (y212.length : Int) then (cruciblelaw12_DiskForms.j0 k a0 (wrap64 (1 + (Go.bits .and .i64 a1 1023))) 5 y205 5 (y212.set (0 : Int).toNat (⟨(⟨#[46, 47, 97]⟩ : ByteArray), (rd_T72 y212 0).f1, (rd_T72 y212 0).f2⟩ : S72))) else (none)) else (if (Int.tmod (IntKind.u64.wrap (a0)) 10) = 4 then (if 0 < (y212.length : Int) then (cruciblelaw12_DiskForms.j0 k a0 (wrap64 (1 + (Go.bits .and .i64 a1 1023))) 5 y205 5 (y212.set (0 : Int).toNat (⟨(rd_T72 y212 0).f0, wrap64 (-(wrap64 (1 + (Go.bits .and .i64 a1 1023)))), (rd_T72 y212 0).f2⟩ : S72))) else (none)) else (if (Int.tmod (IntKind.u64.wrap (a0)) 10) = 5 then (if 0 < (y212.length : Int) then (cruciblelaw12_DiskForms.j0 k a0 (wrap64 (1 + (Go.bits .and .i64 a1 1023))) 5 y205 5 (y212.set (0 : Int).toNat (⟨(rd_T72 y212 0).f0, wrap64 (2147483647 + (wrap64 (1 + (Go.bits .and .i64 a1 1023)))), (rd_T72 y212 0).f2⟩ : S72))) else (none)) else (if (Int.tmod (IntKind.u64.wrap (a0)) 10) = 6 then (if 0 < (y212.length : Int) then (cruciblelaw12_DiskForms.j0 k a0 (wrap64 (1 + (Go.bits .and .i64 a1 1023))) 5 y205 5 (y212.set (0 : Int).toNat (⟨(rd_T72 y212 0).f0, (rd_T72 y212 0).f1, wrap64 (1 - (wrap64 (1 + (Go.bits .and .i64 a1 1023))))⟩ : S72))) else (none)) else (if (Int.tmod (IntKind.u64.wrap (a0)) 10) = 7 then (if 0 < (y212.length : Int) then (cruciblelaw12_DiskForms.j0 k a0 (wrap64 (1 + (Go.bits .and .i64 a1 1023))) 5 y205 5 (y212.set (0 : Int).toNat (⟨(rd_T72 y212 0).f0, (rd_T72 y212 0).f1, wrap64 (5 + (wrap64 (1 + (Go.bits .and .i64 a1 1023))))⟩ : S72))) else (none)) else (if (Int.tmod (IntKind.u64.wrap (a0)) 10) = 8 then (if 0 < (y212.length : Int) then (cruciblelaw12_DiskForms.j0 k a0 (wrap64 (1 + (Go.bits .and .i64 a1 1023))) 5 y205 5 (y212.set (0 : Int).toNat (⟨(rd_T72 y212 0).f0, (rd_T72 y212 0).f1, 2⟩ : S72))) else (none)) else (if 1 < (y212.length : Int) then (cruciblelaw12_DiskForms.j0 k a0 (wrap64 (1 + (Go.bits .and .i64 a1 1023))) 5 y205 5 (y212.set (1 : Int).toNat (⟨(⟨#[97]⟩ : ByteArray), (rd_T72 y212 1).f1, (rd_T72 y212 1).f2⟩ : S72))) else (none)))))))))))) else (none)) = some r := by first | (rw [hy209]; with_reducible exact H) | (have H2_ := (Option.bind_some _ _).symm.trans H; rw [hy209]; with_reducible exact H2_) | (have H2_ := (Option.bind_some _ _).symm.trans H; with_reducible exact H2_) | with_reducible exact H | (rw [hy209]; exact H) | exact H
  have Ny209 := Aside0.mk hy209
  clear hy209
  by_cases c5 : y209.length + y205.length < 4398046511104
  ·
   rw [if_pos c5] at H
   have LMc5 := Aside0.mk c5
   clear c5
   obtain ⟨y212, hy212⟩ : ∃ y_ : List (S72), y_ = (y209 ++ y205) := ⟨_, rfl⟩
   replace H : (if (Int.tmod (IntKind.u64.wrap (a0)) 10) = 0 then (cruciblelaw12_DiskForms.j0 k a0 (wrap64 (1 + (Go.bits .and .i64 a1 1023))) 5 y205 (wrap64 (-(wrap64 (1 + (Go.bits .and .i64 a1 1023))))) y212) else (if (Int.tmod (IntKind.u64.wrap (a0)) 10) = 1 then (cruciblelaw12_DiskForms.j0 k a0 (wrap64 (1 + (Go.bits .and .i64 a1 1023))) 5 y205 (wrap64 (1048576 + (wrap64 (1 + (Go.bits .and .i64 a1 1023))))) y212) else (if (Int.tmod (IntKind.u64.wrap (a0)) 10) = 2 then (if 0 < (y212.length : Int) then (cruciblelaw12_DiskForms.j0 k a0 (wrap64 (1 + (Go.bits .and .i64 a1 1023))) 5 y205 5 (y212.set (0 : Int).toNat (⟨(⟨#[99]⟩ : ByteArray), (rd_T72 y212 0).f1, (rd_T72 y212 0).f2⟩ : S72))) else (none)) else (if (Int.tmod (IntKind.u64.wrap (a0)) 10) = 3 then (if 0 < (y212.length : Int) then (cruciblelaw12_DiskForms.j0 k a0 (wrap64 (1 + (Go.bits .and .i64 a1 1023))) 5 y205 5 (y212.set (0 : Int).toNat (⟨(⟨#[46, 47, 97]⟩ : ByteArray), (rd_T72 y212 0).f1, (rd_T72 y212 0).f2⟩ : S72))) else (none)) else (if (Int.tmod (IntKind.u64.wrap (a0)) 10) = 4 then (if 0 < (y212.length : Int) then (cruciblelaw12_DiskForms.j0 k a0 (wrap64 (1 + (Go.bits .and .i64 a1 1023))) 5 y205 5 (y212.set (0 : Int).toNat (⟨(rd_T72 y212 0).f0, wrap64 (-(wrap64 (1 + (Go.bits .and .i64 a1 1023)))), (rd_T72 y212 0).f2⟩ : S72))) else (none)) else (if (Int.tmod (IntKind.u64.wrap (a0)) 10) = 5 then (if 0 < (y212.length : Int) then (cruciblelaw12_DiskForms.j0 k a0 (wrap64 (1 + (Go.bits .and .i64 a1 1023))) 5 y205 5 (y212.set (0 : Int).toNat (⟨(rd_T72 y212 0).f0, wrap64 (2147483647 + (wrap64 (1 + (Go.bits .and .i64 a1 1023)))), (rd_T72 y212 0).f2⟩ : S72))) else (none)) else (if (Int.tmod (IntKind.u64.wrap (a0)) 10) = 6 then (if 0 < (y212.length : Int) then (cruciblelaw12_DiskForms.j0 k a0 (wrap64 (1 + (Go.bits .and .i64 a1 1023))) 5 y205 5 (y212.set (0 : Int).toNat (⟨(rd_T72 y212 0).f0, (rd_T72 y212 0).f1, wrap64 (1 - (wrap64 (1 + (Go.bits .and .i64 a1 1023))))⟩ : S72))) else (none)) else (if (Int.tmod (IntKind.u64.wrap (a0)) 10) = 7 then (if 0 < (y212.length : Int) then (cruciblelaw12_DiskForms.j0 k a0 (wrap64 (1 + (Go.bits .and .i64 a1 1023))) 5 y205 5 (y212.set (0 : Int).toNat (⟨(rd_T72 y212 0).f0, (rd_T72 y212 0).f1, wrap64 (5 + (wrap64 (1 + (Go.bits .and .i64 a1 1023))))⟩ : S72))) else (none)) else (if (Int.tmod (IntKind.u64.wrap (a0)) 10) = 8 then (if 0 < (y212.length : Int) then (cruciblelaw12_DiskForms.j0 k a0 (wrap64 (1 + (Go.bits .and .i64 a1 1023))) 5 y205 5 (y212.set (0 : Int).toNat (⟨(rd_T72 y212 0).f0, (rd_T72 y212 0).f1, 2⟩ : S72))) else (none)) else (if 1 < (y212.length : Int) then (cruciblelaw12_DiskForms.j0 k a0 (wrap64 (1 + (Go.bits .and .i64 a1 1023))) 5 y205 5 (y212.set (1 : Int).toNat (⟨(⟨#[97]⟩ : ByteArray), (rd_T72 y212 1).f1, (rd_T72 y212 1).f2⟩ : S72))) else (none))))))))))) = some r := by first | (rw [hy212]; with_reducible exact H) | (have H2_ := (Option.bind_some _ _).symm.trans H; rw [hy212]; with_reducible exact H2_) | (have H2_ := (Option.bind_some _ _).symm.trans H; with_reducible exact H2_) | with_reducible exact H | (rw [hy212]; exact H) | exact H
   have Ny212 := Aside0.mk hy212
   clear hy212
   have HC6 := Aside0.mk H
   clear H
   go_enter Tryd.func10, Tryd.ntmps10
   try go_wp2_with (first | ((with_reducible refine gate_callee (f := 45) rfl ?_); refine goesL_ (some 22) rfl rfl Tryd.func45 (by kernel_rfl) rfl #[] rfl (by (try simp only [List.map_toArray, List.map_cons, List.map_nil]); first | done | rfl | (simp only [List.length_drop, List.length_take]; rfl)) ?_; (with_reducible refine (cruciblelaw12_awake.calls  true _ A3.out).mono ?_); rintro e w7 ⟨rfl, hb⟩; refine ⟨_, rfl, ?_⟩; have n0_ := Aside0.mk (below_step (by repeat (first | (with_reducible first | exact HB.out | apply below_alloc | apply pw_below_drewN | apply below_drew1) | exact HB.out)) hb); clear HB; have HB := n0_; clear n0_; (try clear hb); (try clear hb2); (try clear hk); (try clear hi)) | ((with_reducible refine gate_dst (N := 29) rfl ?_); refine Kd.R_lit k72 _ 72 ?hg (N := 29) ?hd (xs := ([(⟨(⟨#[97]⟩ : ByteArray), 3, 4⟩ : S72), (⟨(⟨#[98]⟩ : ByteArray), 0, 2⟩ : S72)] : List (S72))) (inner := [.string (⟨#[97]⟩ : ByteArray), .int .i64 3, .int .i64 4, .string (⟨#[98]⟩ : ByteArray), .int .i64 0, .int .i64 2]) (ok := fun _ => True) (okp := fun _ => True) ?hr ?hp (fun _ hk => hk) trivial (Below.refl _ _) (Nat.le_refl _) (by simp) ?_; (case hd => rfl); (case hg => rfl); (case hr => first | (go_simp; done) | (go_simp; rfl)); (case hp => exact (Reps.c3 (show Kd.M k72 _ _ _ (⟨(⟨#[97]⟩ : ByteArray), 3, 4⟩ : S72) [.string (⟨#[97]⟩ : ByteArray), .int .i64 3, .int .i64 4] from (k72_mkM _ _ _ (⟨(⟨#[97]⟩ : ByteArray), 3, 4⟩ : S72) )) (Reps.c3 (show Kd.M k72 _ _ _ (⟨(⟨#[98]⟩ : ByteArray), 0, 2⟩ : S72) [.string (⟨#[98]⟩ : ByteArray), .int .i64 0, .int .i64 2] from (k72_mkM _ _ _ (⟨(⟨#[98]⟩ : ByteArray), 0, 2⟩ : S72) )) (Reps.none _ _)))); intro v206 w8 ho9 hb hg_ hnew_; clear hg_ hnew_; (first | rw [← Ny205.out] at ho9 | (simp only [Int.reduceToNat] at ho9; rw [← Ny205.out] at ho9)); have n0_ := Aside0.mk (Kd.R_lower ho9 (below_size (by repeat (first | (with_reducible first | exact HB.out | apply below_alloc | apply pw_below_drewN | apply below_drew1) | exact HB.out)))); have n1_ := Aside0.mk (below_step (by repeat (first | (with_reducible first | exact HB.out | apply below_alloc | apply pw_below_drewN | apply below_drew1) | exact HB.out)) hb); clear HB; have HO207 := n0_; have HB := n1_; clear n0_ n1_; clear hb ho9; obtain ⟨Ao10, co10, eo10⟩ := Kd.R_slice HO207.out; subst eo10) | ((with_reducible refine gate_dst (N := 6) rfl ?_); refine box_event ?hg (N := 6) ?hd (cs := #[.int .i64 0, .slice none 0 0]) (t := 28) ?hr ?_; (case hd => rfl); (case hg => rfl); (case hr => first | (go_simp; done) | (go_simp; rfl)); intro gb208 hg w11 hbox hb; have n0_ := Aside0.mk (Kd.R_below (by exact HO207.out) hb); have n1_ := Aside0.mk (below_step (by repeat (first | (with_reducible first | exact HB.out | apply below_alloc | apply pw_below_drewN | apply below_drew1) | exact HB.out)) hb); have n2_ := Aside0.mk (hbox); have n3_ := Aside0.mk ((by rw [hg]; exact (below_size (by repeat (first | (with_reducible first | exact HB.out | apply below_alloc | apply pw_below_drewN | apply below_drew1) | exact HB.out))) : w.heap.size ≤ gb208)); have n4_ := Aside0.mk ((by rw [hg]; exact (below_size (by repeat (first | (with_reducible first | exact HB.out | apply below_alloc | apply pw_below_drewN | apply below_drew1) | exact HB.out))) : w.heap.size ≤ gb208)); clear HO207; clear HB; have HO207 := n0_; have HB := n1_; have BK208 := n2_; have GW208 := n3_; have GE208 := n4_; clear n0_ n1_ n2_ n3_ n4_; clear hb hbox hg; have hcz12_0 : w11.cell? ⟨gb208, 0, none⟩ = some (.int .i64 0) := (blk_cell BK208.out 0).trans rfl; have hcz12_1 : w11.cell? ⟨gb208, 1, none⟩ = some (.slice none 0 0) := (blk_cell BK208.out 1).trans rfl; have hfz12_0 := blk_frozen BK208.out 0; have hfz12_1 := blk_frozen BK208.out 1))
   have n0_ : Aside0 (Kd.R k72 72 ((w11.setCell ⟨gb208, 0, none⟩ (.int .i64 5)).setCell ⟨gb208, 1, none⟩ (.slice Ao10 y205.length co10)) w.heap.size (fun _ => True) (.slice Ao10 y205.length co10) y205) := ⟨by exact Kd.R_mono (Kd.R_far (p := ⟨gb208, 1, none⟩) (Kd.R_far (p := ⟨gb208, 0, none⟩) (Kd.R_types HO207.out BK208.out (by decide)) (fun _ hk => hk.2) (.int .i64 5)) (fun _ hk => hk.2) (.slice Ao10 y205.length co10)) (fun _ hk => trivial)⟩
   have n1_ : Aside0 (((w11.setCell ⟨gb208, 0, none⟩ (.int .i64 5)).setCell ⟨gb208, 1, none⟩ (.slice Ao10 y205.length co10)).heap[gb208]? = some (.cells #[.int .i64 5, .slice Ao10 y205.length co10] 28 (0, 0))) := ⟨by refine blk_put (cs := #[.int .i64 5, .slice none 0 0]) ?_ 1 _ rfl; refine blk_put (cs := #[.int .i64 0, .slice none 0 0]) ?_ 0 _ rfl; exact BK208.out⟩
   have n2_ : Aside0 (Below w.heap.size w ((w11.setCell ⟨gb208, 0, none⟩ (.int .i64 5)).setCell ⟨gb208, 1, none⟩ (.slice Ao10 y205.length co10))) := ⟨by repeat (first | (with_reducible first | exact HB.out | apply below_alloc | apply pw_below_drewN | apply below_drew1 | refine below_set ?_ GE208.out) | exact HB.out)⟩
   (try clear HO207)
   (try clear BK208)
   (try clear HB)
   generalize ((w11.setCell ⟨gb208, 0, none⟩ (.int .i64 5)).setCell ⟨gb208, 1, none⟩ (.slice Ao10 y205.length co10)) = w13 at n0_ n1_ n2_ ⊢
   have HO207 := n0_
   have BK208 := n1_
   have HB := n2_
   clear n0_ n1_ n2_
   have n0_ := Aside0.mk (Kd.R_drew HO207.out)
   have n1_ := Aside0.mk (blk_drew BK208.out)
   have n2_ := Aside0.mk (below_drew1 HB.out)
   clear HO207
   clear BK208
   clear HB
   have HO207 := n0_
   have BK208 := n1_
   have HB := n2_
   clear n0_ n1_ n2_
   refine start_ (n := 9) (S := fun w' => w'.cell? ⟨gb208, 0, none⟩ = some (.int .i64 5) ∧ w'.cell? ⟨gb208, 1, none⟩ = some (.slice Ao10 y205.length co10)) (ds := []) #[false, false, false, false, false, false, false, false, false] (by kernel_rfl) rfl rfl ⟨(blk_cell BK208.out 0).trans rfl, (blk_cell BK208.out 1).trans rfl⟩ (fun hHeld => ?_); refine with_tabW cruciblelaw12_DiskForms.tab5 cruciblelaw12_DiskForms.bits5 (fun HT_ HW_ => ?_)
   generalize w13.drew = w14 at HO207 BK208 HB hHeld ⊢
   refine pure_ (i := 0) (N := some 31) (v := ?_) (a' := ?_) #[true, false, false, false, false, false, false, false, false] rfl rfl (any_of HT_.out (by kernel_rfl)) (fun _ _ _ h => h) (Or.inl ⟨by rfl, ?_⟩) ?_ ?_
   rotate_left
   ·
    intro w'
    go_simp
    with_reducible rfl
   rotate_left
   ·
    simp only [Act.put, List.setIfInBounds_toArray, List.set_cons_zero, List.set_cons_succ, i64_w, i32_w]
    rfl
   refine pure_ (i := 3) (N := some 34) (v := ?_) (a' := ?_) #[true, false, false, true, false, false, false, false, false] rfl rfl (any_of HT_.out (by kernel_rfl)) (fun _ _ _ h => h) (Or.inl ⟨by rfl, ?_⟩) ?_ ?_
   rotate_left
   ·
    intro w'
    go_simp
    with_reducible rfl
   rotate_left
   ·
    simp only [Act.put, List.setIfInBounds_toArray, List.set_cons_zero, List.set_cons_succ, i64_w, i32_w]
    rfl
   refine take_ (i := 1) (N := some 32) (v := ?_) (a' := ?_) #[true, true, false, true, false, false, false, false, false] rfl rfl (take_ofW HT_.out HW_.out (by kernel_rfl)) (fun _ _ _ h => h) (Or.inl ⟨by rfl, ?_⟩) hHeld ?_ ?_
   rotate_left
   ·
    rintro w' ⟨s0, s1⟩
    go_simp
    with_reducible rfl
   rotate_left
   ·
    simp only [Act.put, List.setIfInBounds_toArray, List.set_cons_zero, List.set_cons_succ, i64_w, i32_w]
    rfl
   refine take_ (i := 4) (N := some 35) (v := ?_) (a' := ?_) #[true, true, false, true, true, false, false, false, false] rfl rfl (take_ofW HT_.out HW_.out (by kernel_rfl)) (fun _ _ _ h => h) (Or.inl ⟨by rfl, ?_⟩) hHeld ?_ ?_
   rotate_left
   ·
    rintro w' ⟨s0, s1⟩
    go_simp
    with_reducible rfl
   rotate_left
   ·
    simp only [Act.put, List.setIfInBounds_toArray, List.set_cons_zero, List.set_cons_succ, i64_w, i32_w]
    rfl
   refine join_ (σ := Value × Value × Nat) 1 #[true, true, true, true, true, true, true, true, false] (fun s_ => [(33, s_.1), (36, s_.2.1), (7, .pointer (some ⟨s_.2.2, 0, none⟩)), (37, .agg #[.int .i64 5, s_.2.1])]) (fun s_ w' => (w'.cell? ⟨gb208, 0, none⟩ = some (.int .i64 5) ∧ w'.cell? ⟨gb208, 1, none⟩ = some (.slice Ao10 y205.length co10)) ∧ (Kd.R k72 72 w' w.heap.size (fun k_ => some k_ ≠ (s_.2.1 : Value).ownBlock) (.slice Ao10 y205.length co10) y205) ∧ (Kd.R k72 72 w' w.heap.size (fun k_ => some k_ ≠ (.slice Ao10 y205.length co10 : Value).ownBlock) s_.2.1 y212) ∧ (w'.heap[gb208]? = some (.cells #[.int .i64 5, .slice Ao10 y205.length co10] 28 (0, 0))) ∧ (w'.heap[s_.2.2]? = some (.cells #[.int .i64 0, .slice none 0 0] 28 (0, 0))) ∧ (w.heap.size ≤ s_.2.2) ∧ (w.heap.size ≤ s_.2.2) ∧ (gb208 ≠ s_.2.2) ∧ (s_.2.2 ≠ gb208) ∧ (Below w.heap.size w w')) ?_ ?_
   rotate_left
   ·
    intro hCont
    refine two_ (i := 2) (j := 7) (Ni := some 33) (Nj := some 7) #[true, true, true, true, true, false, false, false, false] #[true, true, false, true, true, false, false, true, false] rfl rfl rfl rfl (two_of HT_.out (by kernel_rfl)) (by decide) (by decide) (fun K hK => ?_) (fun K hK => ?_)
    ·
     skip
     refine Kd.R_lit_step k72 _ 72 ?hg (N := 33) ?hd (xs := ([] : List (S72))) (inner := []) (ok := fun _ => True) (okp := fun _ => True) ?hr ?hp (fun _ hk => hk) trivial (Below.refl _ _) (Nat.le_refl _) (by simp) ?_; (case hd => rfl); (case hg => rfl); (case hr => first | (go_simp; done) | (go_simp; rfl)); (case hp => exact (Reps.none _ _))
     intro v210 w15 ho16 hb hg_ hnew_
     clear hg_ hnew_
     (first | rw [← Ny209.out] at ho16 | (simp only [Int.reduceToNat] at ho16; rw [← Ny209.out] at ho16))
     have n0_ := Aside0.mk (Kd.R_elder' (by exact HO207.out) (Kd.R_base ho16) hb)
     have n1_ := Aside0.mk (Kd.R_lower (Kd.R_new' ho16 (Kd.R_lt (by exact HO207.out))) (below_size (by repeat (first | (with_reducible first | exact HB.out | apply below_alloc | apply pw_below_drewN | apply below_drew1 | refine below_set ?_ GE208.out) | exact HB.out))))
     have n2_ := Aside0.mk (blk_below (g := gb208) (o := .cells #[.int .i64 5, .slice Ao10 y205.length co10] 28 (0, 0)) (by exact BK208.out) hb)
     have n3_ := Aside0.mk (below_step (by repeat (first | (with_reducible first | exact HB.out | apply below_alloc | apply pw_below_drewN | apply below_drew1 | refine below_set ?_ GE208.out) | exact HB.out)) hb)
     clear HO207
     clear BK208
     clear HB
     have HO207 := n0_
     have HO211 := n1_
     have BK208 := n2_
     have HB := n3_
     clear n0_ n1_ n2_ n3_
     clear hb ho16
     refine hK.out _ _ ⟨(blk_cell BK208.out 0).trans rfl, (blk_cell BK208.out 1).trans rfl⟩ (fun hHeld => ?_)
     clear hK K
     refine norm_ (a' := ?_) ?_ ?_
     rotate_left
     ·
      show Act.put _ (some 33) _ = _
      simp only [Act.put, List.setIfInBounds_toArray, List.set_cons_zero, List.set_cons_succ, i64_w, i32_w]
      rfl
     refine two_ (i := 5) (j := 7) (Ni := some 36) (Nj := some 7) #[true, true, true, true, true, true, false, false, false] #[true, true, true, true, true, false, false, true, false] rfl rfl rfl rfl (two_of HT_.out (by kernel_rfl)) (by decide) (by decide) (fun K hK => ?_) (fun K hK => ?_)
     ·
      skip
      refine Kd.R_append_rows_step k72 (w0 := w) w.heap.size (by rfl) (.tmp 33) (.tmp 35) 26 72 (.agg #[(.string ⟨#[]⟩), (.int .i64 0), (.int .i64 0)]) 32 rfl Tryd.underlying26 info72 rfl (by decide) (by omega) v210 y209 y205 _ _ _ (fun k_ => some k_ ≠ (.slice Ao10 y205.length co10 : Value).ownBlock) (fun _ => False) rfl rfl ?aO ?aR (fun _ _ h => h) (fun _ h => h.elim) ?aF ?aB ?aS ?aL ?_
      (case aR => repeat (first | exact (Kd.R_reads' HO207.out).2.2 | (with_reducible refine Kd.C_alloc ?_ _) | (with_reducible refine Kd.C_drewN ?_ _) | (with_reducible refine Kd.C_drew ?_)))
      (case aB => exact (by repeat (first | (with_reducible first | exact HB.out | apply below_alloc | apply pw_below_drewN | apply below_drew1 | refine below_set ?_ GE208.out) | exact HB.out)))
      (case aF => exact (fun k_ hk => Kd.fresh' (Kd.R_lt (by exact HO207.out)) k_ hk))
      (case aO => exact (by exact Kd.R_mono HO211.out (fun _ hk => hk.2)))
      (case aS => exact (below_size (by repeat (first | (with_reducible first | exact HB.out | apply below_alloc | apply pw_below_drewN | apply below_drew1 | refine below_set ?_ GE208.out) | exact HB.out))))
      (case aL => have := LMc5.out; omega)
      intro v213 w17 ho hb hg hat
      rw [← Ny212.out] at ho
      have n0_ := Aside0.mk (Kd.R_after (ok := (fun _ => True)) (by exact HO207.out) hg hat)
      have n1_ := Aside0.mk (blk_grown (g := gb208) (o := .cells #[.int .i64 5, .slice Ao10 y205.length co10] 28 (0, 0)) (by exact BK208.out) hg (Kd.R_ne HO211.out BK208.out (by decide)))
      have n2_ := Aside0.mk (hb)
      have n3_ := Aside0.mk (ho)
      clear HO207
      clear BK208
      clear HB
      clear HO211
      have HO207 := n0_
      have BK208 := n1_
      have HB := n2_
      have HO214 := n3_
      clear n0_ n1_ n2_ n3_
      clear ho hb hg hat
      obtain ⟨Ao18, co18, eo18⟩ := Kd.R_slice HO214.out
      (first | subst eo18 | (injection eo18 with f1_ f2_ f3_; have f4_ := f1_.symm; have f5_ := f3_.symm; clear f1_ f2_ f3_; subst f4_; subst f5_))
      refine hK.out _ _ ⟨(blk_cell BK208.out 0).trans rfl, (blk_cell BK208.out 1).trans rfl⟩ (fun hHeld => ?_)
      clear hK K
      refine norm_ (a' := ?_) ?_ ?_
      rotate_left
      ·
       show Act.put _ (some 36) _ = _
       simp only [Act.put, List.setIfInBounds_toArray, List.set_cons_zero, List.set_cons_succ, i64_w, i32_w]
       rfl
      refine pure_ (i := 6) (N := some 37) (v := ?_) (a' := ?_) #[true, true, true, true, true, true, true, false, false] rfl rfl (any_of HT_.out (by kernel_rfl)) (fun _ _ _ h => h) (Or.inl ⟨by rfl, ?_⟩) ?_ ?_
      rotate_left
      ·
       intro w'
       go_simp
       with_reducible rfl
      rotate_left
      ·
       simp only [Act.put, List.setIfInBounds_toArray, List.set_cons_zero, List.set_cons_succ, i64_w, i32_w]
       rfl
      refine one_ (i := 7) (N := some 7) #[true, true, true, true, true, true, true, true, false] rfl rfl (one_of HT_.out (by kernel_rfl)) (by decide) (fun K hK => ?_)
      refine box_step ?hg (N := 7) ?hd (cs := #[.int .i64 0, .slice none 0 0]) (t := 28) ?hr ?_; (case hd => rfl); (case hg => rfl); (case hr => first | (go_simp; done) | (go_simp; rfl))
      intro gb215 hg w19 hbox hb
      have n0_ := Aside0.mk (Kd.R_below (by exact HO207.out) hb)
      have n1_ := Aside0.mk (Kd.R_below (by exact HO214.out) hb)
      have n2_ := Aside0.mk (blk_below (g := gb208) (o := .cells #[.int .i64 5, .slice Ao10 y205.length co10] 28 (0, 0)) (by exact BK208.out) hb)
      have n3_ := Aside0.mk (below_step (by repeat (first | (with_reducible first | exact HB.out | apply below_alloc | apply pw_below_drewN | apply below_drew1 | refine below_set ?_ GE208.out) | exact HB.out)) hb)
      have n4_ := Aside0.mk (hbox)
      have n5_ := Aside0.mk ((by rw [hg]; exact (below_size (by repeat (first | (with_reducible first | exact HB.out | apply below_alloc | apply pw_below_drewN | apply below_drew1 | refine below_set ?_ GE208.out) | exact HB.out))) : w.heap.size ≤ gb215))
      have n6_ := Aside0.mk ((by rw [hg]; exact (below_size (by repeat (first | (with_reducible first | exact HB.out | apply below_alloc | apply pw_below_drewN | apply below_drew1 | refine below_set ?_ GE208.out) | exact HB.out))) : w.heap.size ≤ gb215))
      have n7_ := Aside0.mk ((by rw [hg]; exact Nat.ne_of_lt (blk_lt (g := gb208) (o := .cells #[.int .i64 5, .slice Ao10 y205.length co10] 28 (0, 0)) (by exact BK208.out)) : gb208 ≠ gb215))
      have n8_ := Aside0.mk ((by rw [hg]; exact Nat.ne_of_gt (blk_lt (g := gb208) (o := .cells #[.int .i64 5, .slice Ao10 y205.length co10] 28 (0, 0)) (by exact BK208.out)) : gb215 ≠ gb208))
      clear HO207
      clear HO214
      clear BK208
      clear HB
      have HO207 := n0_
      have HO214 := n1_
      have BK208 := n2_
      have HB := n3_
      have BK215 := n4_
      have GW215 := n5_
      have GE215 := n6_
      have NB208_215 := n7_
      have NB215_208 := n8_
      clear n0_ n1_ n2_ n3_ n4_ n5_ n6_ n7_ n8_
      clear hb hbox hg
      refine hK.out _ _ ⟨(blk_cell BK208.out 0).trans rfl, (blk_cell BK208.out 1).trans rfl⟩ (fun hHeld => ?_)
      clear hK K
      refine norm_ (a' := ?_) ?_ ?_
      rotate_left
      ·
       show Act.put _ (some 7) _ = _
       simp only [Act.put, List.setIfInBounds_toArray, List.set_cons_zero, List.set_cons_succ, i64_w, i32_w]
       rfl
      exact norm_ (by simp only [putAll, Act.put, List.setIfInBounds_toArray, List.set_cons_zero, List.set_cons_succ]) (hCont (v210, .slice Ao18 y212.length co18, gb215) _ ⟨hHeld, (by exact Kd.R_mono HO207.out (fun _ hk => hk.2)), (by exact HO214.out), (by exact BK208.out), (by exact BK215.out), GW215.out, GE215.out, NB208_215.out, NB215_208.out, (by repeat (first | (with_reducible first | exact HB.out | apply below_alloc | apply pw_below_drewN | apply below_drew1 | refine below_set ?_ GE208.out | refine below_set ?_ GE215.out) | exact HB.out))⟩)
     ·
      skip
      refine box_step ?hg (N := 7) ?hd (cs := #[.int .i64 0, .slice none 0 0]) (t := 28) ?hr ?_; (case hd => rfl); (case hg => rfl); (case hr => first | (go_simp; done) | (go_simp; rfl))
      intro gb215 hg w17 hbox hb
      have n0_ := Aside0.mk (Kd.R_below (by exact HO207.out) hb)
      have n1_ := Aside0.mk (Kd.R_below (by exact HO211.out) hb)
      have n2_ := Aside0.mk (blk_below (g := gb208) (o := .cells #[.int .i64 5, .slice Ao10 y205.length co10] 28 (0, 0)) (by exact BK208.out) hb)
      have n3_ := Aside0.mk (below_step (by repeat (first | (with_reducible first | exact HB.out | apply below_alloc | apply pw_below_drewN | apply below_drew1 | refine below_set ?_ GE208.out) | exact HB.out)) hb)
      have n4_ := Aside0.mk (hbox)
      have n5_ := Aside0.mk ((by rw [hg]; exact (below_size (by repeat (first | (with_reducible first | exact HB.out | apply below_alloc | apply pw_below_drewN | apply below_drew1 | refine below_set ?_ GE208.out) | exact HB.out))) : w.heap.size ≤ gb215))
      have n6_ := Aside0.mk ((by rw [hg]; exact (below_size (by repeat (first | (with_reducible first | exact HB.out | apply below_alloc | apply pw_below_drewN | apply below_drew1 | refine below_set ?_ GE208.out) | exact HB.out))) : w.heap.size ≤ gb215))
      have n7_ := Aside0.mk ((by rw [hg]; exact Nat.ne_of_lt (blk_lt (g := gb208) (o := .cells #[.int .i64 5, .slice Ao10 y205.length co10] 28 (0, 0)) (by exact BK208.out)) : gb208 ≠ gb215))
      have n8_ := Aside0.mk ((by rw [hg]; exact Nat.ne_of_gt (blk_lt (g := gb208) (o := .cells #[.int .i64 5, .slice Ao10 y205.length co10] 28 (0, 0)) (by exact BK208.out)) : gb215 ≠ gb208))
      clear HO207
      clear HO211
      clear BK208
      clear HB
      have HO207 := n0_
      have HO211 := n1_
      have BK208 := n2_
      have HB := n3_
      have BK215 := n4_
      have GW215 := n5_
      have GE215 := n6_
      have NB208_215 := n7_
      have NB215_208 := n8_
      clear n0_ n1_ n2_ n3_ n4_ n5_ n6_ n7_ n8_
      clear hb hbox hg
      refine hK.out _ _ ⟨(blk_cell BK208.out 0).trans rfl, (blk_cell BK208.out 1).trans rfl⟩ (fun hHeld => ?_)
      clear hK K
      refine norm_ (a' := ?_) ?_ ?_
      rotate_left
      ·
       show Act.put _ (some 7) _ = _
       simp only [Act.put, List.setIfInBounds_toArray, List.set_cons_zero, List.set_cons_succ, i64_w, i32_w]
       rfl
      refine one_ (i := 5) (N := some 36) #[true, true, true, true, true, true, false, true, false] rfl rfl (one_of HT_.out (by kernel_rfl)) (by decide) (fun K hK => ?_)
      refine Kd.R_append_rows_step k72 (w0 := w) w.heap.size (by rfl) (.tmp 33) (.tmp 35) 26 72 (.agg #[(.string ⟨#[]⟩), (.int .i64 0), (.int .i64 0)]) 32 rfl Tryd.underlying26 info72 rfl (by decide) (by omega) v210 y209 y205 _ _ _ (fun k_ => some k_ ≠ (.slice Ao10 y205.length co10 : Value).ownBlock) (fun _ => False) rfl rfl ?aO ?aR (fun _ _ h => h) (fun _ h => h.elim) ?aF ?aB ?aS ?aL ?_
      (case aR => repeat (first | exact (Kd.R_reads' HO207.out).2.2 | (with_reducible refine Kd.C_alloc ?_ _) | (with_reducible refine Kd.C_drewN ?_ _) | (with_reducible refine Kd.C_drew ?_)))
      (case aB => exact (by repeat (first | (with_reducible first | exact HB.out | apply below_alloc | apply pw_below_drewN | apply below_drew1 | refine below_set ?_ GE208.out | refine below_set ?_ GE215.out) | exact HB.out)))
      (case aF => exact (fun k_ hk => Kd.fresh' (Kd.R_lt (by exact HO207.out)) k_ hk))
      (case aO => exact (by exact Kd.R_mono HO211.out (fun _ hk => hk.2)))
      (case aS => exact (below_size (by repeat (first | (with_reducible first | exact HB.out | apply below_alloc | apply pw_below_drewN | apply below_drew1 | refine below_set ?_ GE208.out | refine below_set ?_ GE215.out) | exact HB.out))))
      (case aL => have := LMc5.out; omega)
      intro v213 w18 ho hb hg hat
      rw [← Ny212.out] at ho
      have n0_ := Aside0.mk (Kd.R_after (ok := (fun _ => True)) (by exact HO207.out) hg hat)
      have n1_ := Aside0.mk (blk_grown (g := gb208) (o := .cells #[.int .i64 5, .slice Ao10 y205.length co10] 28 (0, 0)) (by exact BK208.out) hg (Kd.R_ne HO211.out BK208.out (by decide)))
      have n2_ := Aside0.mk (blk_grown (g := gb215) (o := .cells #[.int .i64 0, .slice none 0 0] 28 (0, 0)) (by exact BK215.out) hg (Kd.R_ne HO211.out BK215.out (by decide)))
      have n3_ := Aside0.mk (hb)
      have n4_ := Aside0.mk (ho)
      clear HO207
      clear BK208
      clear BK215
      clear HB
      clear HO211
      have HO207 := n0_
      have BK208 := n1_
      have BK215 := n2_
      have HB := n3_
      have HO214 := n4_
      clear n0_ n1_ n2_ n3_ n4_
      clear ho hb hg hat
      obtain ⟨Ao19, co19, eo19⟩ := Kd.R_slice HO214.out
      (first | subst eo19 | (injection eo19 with f1_ f2_ f3_; have f4_ := f1_.symm; have f5_ := f3_.symm; clear f1_ f2_ f3_; subst f4_; subst f5_))
      refine hK.out _ _ ⟨(blk_cell BK208.out 0).trans rfl, (blk_cell BK208.out 1).trans rfl⟩ (fun hHeld => ?_)
      clear hK K
      refine norm_ (a' := ?_) ?_ ?_
      rotate_left
      ·
       show Act.put _ (some 36) _ = _
       simp only [Act.put, List.setIfInBounds_toArray, List.set_cons_zero, List.set_cons_succ, i64_w, i32_w]
       rfl
      refine pure_ (i := 6) (N := some 37) (v := ?_) (a' := ?_) #[true, true, true, true, true, true, true, true, false] rfl rfl (any_of HT_.out (by kernel_rfl)) (fun _ _ _ h => h) (Or.inl ⟨by rfl, ?_⟩) ?_ ?_
      rotate_left
      ·
       intro w'
       go_simp
       with_reducible rfl
      rotate_left
      ·
       simp only [Act.put, List.setIfInBounds_toArray, List.set_cons_zero, List.set_cons_succ, i64_w, i32_w]
       rfl
      exact norm_ (by simp only [putAll, Act.put, List.setIfInBounds_toArray, List.set_cons_zero, List.set_cons_succ]) (hCont (v210, .slice Ao19 y212.length co19, gb215) _ ⟨hHeld, (by exact Kd.R_mono HO207.out (fun _ hk => hk.2)), (by exact HO214.out), (by exact BK208.out), (by exact BK215.out), GW215.out, GE215.out, NB208_215.out, NB215_208.out, (by repeat (first | (with_reducible first | exact HB.out | apply below_alloc | apply pw_below_drewN | apply below_drew1 | refine below_set ?_ GE208.out | refine below_set ?_ GE215.out) | exact HB.out))⟩)
    ·
     skip
     refine box_step ?hg (N := 7) ?hd (cs := #[.int .i64 0, .slice none 0 0]) (t := 28) ?hr ?_; (case hd => rfl); (case hg => rfl); (case hr => first | (go_simp; done) | (go_simp; rfl))
     intro gb215 hg w15 hbox hb
     have n0_ := Aside0.mk (Kd.R_below (by exact HO207.out) hb)
     have n1_ := Aside0.mk (blk_below (g := gb208) (o := .cells #[.int .i64 5, .slice Ao10 y205.length co10] 28 (0, 0)) (by exact BK208.out) hb)
     have n2_ := Aside0.mk (below_step (by repeat (first | (with_reducible first | exact HB.out | apply below_alloc | apply pw_below_drewN | apply below_drew1 | refine below_set ?_ GE208.out) | exact HB.out)) hb)
     have n3_ := Aside0.mk (hbox)
     have n4_ := Aside0.mk ((by rw [hg]; exact (below_size (by repeat (first | (with_reducible first | exact HB.out | apply below_alloc | apply pw_below_drewN | apply below_drew1 | refine below_set ?_ GE208.out) | exact HB.out))) : w.heap.size ≤ gb215))
     have n5_ := Aside0.mk ((by rw [hg]; exact (below_size (by repeat (first | (with_reducible first | exact HB.out | apply below_alloc | apply pw_below_drewN | apply below_drew1 | refine below_set ?_ GE208.out) | exact HB.out))) : w.heap.size ≤ gb215))
     have n6_ := Aside0.mk ((by rw [hg]; exact Nat.ne_of_lt (blk_lt (g := gb208) (o := .cells #[.int .i64 5, .slice Ao10 y205.length co10] 28 (0, 0)) (by exact BK208.out)) : gb208 ≠ gb215))
     have n7_ := Aside0.mk ((by rw [hg]; exact Nat.ne_of_gt (blk_lt (g := gb208) (o := .cells #[.int .i64 5, .slice Ao10 y205.length co10] 28 (0, 0)) (by exact BK208.out)) : gb215 ≠ gb208))
     clear HO207
     clear BK208
     clear HB
     have HO207 := n0_
     have BK208 := n1_
     have HB := n2_
     have BK215 := n3_
     have GW215 := n4_
     have GE215 := n5_
     have NB208_215 := n6_
     have NB215_208 := n7_
     clear n0_ n1_ n2_ n3_ n4_ n5_ n6_ n7_
     clear hb hbox hg
     refine hK.out _ _ ⟨(blk_cell BK208.out 0).trans rfl, (blk_cell BK208.out 1).trans rfl⟩ (fun hHeld => ?_)
     clear hK K
     refine norm_ (a' := ?_) ?_ ?_
     rotate_left
     ·
      show Act.put _ (some 7) _ = _
      simp only [Act.put, List.setIfInBounds_toArray, List.set_cons_zero, List.set_cons_succ, i64_w, i32_w]
      rfl
     refine one_ (i := 2) (N := some 33) #[true, true, true, true, true, false, false, true, false] rfl rfl (one_of HT_.out (by kernel_rfl)) (by decide) (fun K hK => ?_)
     refine Kd.R_lit_step k72 _ 72 ?hg (N := 33) ?hd (xs := ([] : List (S72))) (inner := []) (ok := fun _ => True) (okp := fun _ => True) ?hr ?hp (fun _ hk => hk) trivial (Below.refl _ _) (Nat.le_refl _) (by simp) ?_; (case hd => rfl); (case hg => rfl); (case hr => first | (go_simp; done) | (go_simp; rfl)); (case hp => exact (Reps.none _ _))
     intro v210 w16 ho17 hb hg_ hnew_
     clear hg_ hnew_
     (first | rw [← Ny209.out] at ho17 | (simp only [Int.reduceToNat] at ho17; rw [← Ny209.out] at ho17))
     have n0_ := Aside0.mk (Kd.R_elder' (by exact HO207.out) (Kd.R_base ho17) hb)
     have n1_ := Aside0.mk (Kd.R_lower (Kd.R_new' ho17 (Kd.R_lt (by exact HO207.out))) (below_size (by repeat (first | (with_reducible first | exact HB.out | apply below_alloc | apply pw_below_drewN | apply below_drew1 | refine below_set ?_ GE208.out | refine below_set ?_ GE215.out) | exact HB.out))))
     have n2_ := Aside0.mk (blk_below (g := gb208) (o := .cells #[.int .i64 5, .slice Ao10 y205.length co10] 28 (0, 0)) (by exact BK208.out) hb)
     have n3_ := Aside0.mk (blk_below (g := gb215) (o := .cells #[.int .i64 0, .slice none 0 0] 28 (0, 0)) (by exact BK215.out) hb)
     have n4_ := Aside0.mk (below_step (by repeat (first | (with_reducible first | exact HB.out | apply below_alloc | apply pw_below_drewN | apply below_drew1 | refine below_set ?_ GE208.out | refine below_set ?_ GE215.out) | exact HB.out)) hb)
     clear HO207
     clear BK208
     clear BK215
     clear HB
     have HO207 := n0_
     have HO211 := n1_
     have BK208 := n2_
     have BK215 := n3_
     have HB := n4_
     clear n0_ n1_ n2_ n3_ n4_
     clear hb ho17
     refine hK.out _ _ ⟨(blk_cell BK208.out 0).trans rfl, (blk_cell BK208.out 1).trans rfl⟩ (fun hHeld => ?_)
     clear hK K
     refine norm_ (a' := ?_) ?_ ?_
     rotate_left
     ·
      show Act.put _ (some 33) _ = _
      simp only [Act.put, List.setIfInBounds_toArray, List.set_cons_zero, List.set_cons_succ, i64_w, i32_w]
      rfl
     refine one_ (i := 5) (N := some 36) #[true, true, true, true, true, true, false, true, false] rfl rfl (one_of HT_.out (by kernel_rfl)) (by decide) (fun K hK => ?_)
     refine Kd.R_append_rows_step k72 (w0 := w) w.heap.size (by rfl) (.tmp 33) (.tmp 35) 26 72 (.agg #[(.string ⟨#[]⟩), (.int .i64 0), (.int .i64 0)]) 32 rfl Tryd.underlying26 info72 rfl (by decide) (by omega) v210 y209 y205 _ _ _ (fun k_ => some k_ ≠ (.slice Ao10 y205.length co10 : Value).ownBlock) (fun _ => False) rfl rfl ?aO ?aR (fun _ _ h => h) (fun _ h => h.elim) ?aF ?aB ?aS ?aL ?_
     (case aR => repeat (first | exact (Kd.R_reads' HO207.out).2.2 | (with_reducible refine Kd.C_alloc ?_ _) | (with_reducible refine Kd.C_drewN ?_ _) | (with_reducible refine Kd.C_drew ?_)))
     (case aB => exact (by repeat (first | (with_reducible first | exact HB.out | apply below_alloc | apply pw_below_drewN | apply below_drew1 | refine below_set ?_ GE208.out | refine below_set ?_ GE215.out) | exact HB.out)))
     (case aF => exact (fun k_ hk => Kd.fresh' (Kd.R_lt (by exact HO207.out)) k_ hk))
     (case aO => exact (by exact Kd.R_mono HO211.out (fun _ hk => hk.2)))
     (case aS => exact (below_size (by repeat (first | (with_reducible first | exact HB.out | apply below_alloc | apply pw_below_drewN | apply below_drew1 | refine below_set ?_ GE208.out | refine below_set ?_ GE215.out) | exact HB.out))))
     (case aL => have := LMc5.out; omega)
     intro v213 w18 ho hb hg hat
     rw [← Ny212.out] at ho
     have n0_ := Aside0.mk (Kd.R_after (ok := (fun _ => True)) (by exact HO207.out) hg hat)
     have n1_ := Aside0.mk (blk_grown (g := gb208) (o := .cells #[.int .i64 5, .slice Ao10 y205.length co10] 28 (0, 0)) (by exact BK208.out) hg (Kd.R_ne HO211.out BK208.out (by decide)))
     have n2_ := Aside0.mk (blk_grown (g := gb215) (o := .cells #[.int .i64 0, .slice none 0 0] 28 (0, 0)) (by exact BK215.out) hg (Kd.R_ne HO211.out BK215.out (by decide)))
     have n3_ := Aside0.mk (hb)
     have n4_ := Aside0.mk (ho)
     clear HO207
     clear BK208
     clear BK215
     clear HB
     clear HO211
     have HO207 := n0_
     have BK208 := n1_
     have BK215 := n2_
     have HB := n3_
     have HO214 := n4_
     clear n0_ n1_ n2_ n3_ n4_
     clear ho hb hg hat
     obtain ⟨Ao19, co19, eo19⟩ := Kd.R_slice HO214.out
     (first | subst eo19 | (injection eo19 with f1_ f2_ f3_; have f4_ := f1_.symm; have f5_ := f3_.symm; clear f1_ f2_ f3_; subst f4_; subst f5_))
     refine hK.out _ _ ⟨(blk_cell BK208.out 0).trans rfl, (blk_cell BK208.out 1).trans rfl⟩ (fun hHeld => ?_)
     clear hK K
     refine norm_ (a' := ?_) ?_ ?_
     rotate_left
     ·
      show Act.put _ (some 36) _ = _
      simp only [Act.put, List.setIfInBounds_toArray, List.set_cons_zero, List.set_cons_succ, i64_w, i32_w]
      rfl
     refine pure_ (i := 6) (N := some 37) (v := ?_) (a' := ?_) #[true, true, true, true, true, true, true, true, false] rfl rfl (any_of HT_.out (by kernel_rfl)) (fun _ _ _ h => h) (Or.inl ⟨by rfl, ?_⟩) ?_ ?_
     rotate_left
     ·
      intro w'
      go_simp
      with_reducible rfl
     rotate_left
     ·
      simp only [Act.put, List.setIfInBounds_toArray, List.set_cons_zero, List.set_cons_succ, i64_w, i32_w]
      rfl
     exact norm_ (by simp only [putAll, Act.put, List.setIfInBounds_toArray, List.set_cons_zero, List.set_cons_succ]) (hCont (v210, .slice Ao19 y212.length co19, gb215) _ ⟨hHeld, (by exact Kd.R_mono HO207.out (fun _ hk => hk.2)), (by exact HO214.out), (by exact BK208.out), (by exact BK215.out), GW215.out, GE215.out, NB208_215.out, NB215_208.out, (by repeat (first | (with_reducible first | exact HB.out | apply below_alloc | apply pw_below_drewN | apply below_drew1 | refine below_set ?_ GE208.out | refine below_set ?_ GE215.out) | exact HB.out))⟩)
   rintro ⟨v210, v213, gb215⟩ w20 ⟨hS_, h0_, h1_, h2_, h3_, h4_, h5_, h6_, h7_, h8_⟩
   have n0_ : Aside0 (Kd.R k72 72 w20 w.heap.size (fun k_ => some k_ ≠ (v213 : Value).ownBlock) (.slice Ao10 y205.length co10) y205) := ⟨h0_⟩
   have n1_ : Aside0 (Kd.R k72 72 w20 w.heap.size (fun k_ => some k_ ≠ (.slice Ao10 y205.length co10 : Value).ownBlock) v213 y212) := ⟨h1_⟩
   have n2_ : Aside0 (w20.heap[gb208]? = some (.cells #[.int .i64 5, .slice Ao10 y205.length co10] 28 (0, 0))) := ⟨h2_⟩
   have n3_ : Aside0 (w20.heap[gb215]? = some (.cells #[.int .i64 0, .slice none 0 0] 28 (0, 0))) := ⟨h3_⟩
   have n4_ : Aside0 (w.heap.size ≤ gb215) := ⟨h4_⟩
   have n5_ : Aside0 (w.heap.size ≤ gb215) := ⟨h5_⟩
   have n6_ : Aside0 (gb208 ≠ gb215) := ⟨h6_⟩
   have n7_ : Aside0 (gb215 ≠ gb208) := ⟨h7_⟩
   have n8_ : Aside0 (Below w.heap.size w w20) := ⟨h8_⟩
   clear HO207
   clear BK208
   clear HB
   clear h0_ h1_ h2_ h3_ h4_ h5_ h6_ h7_ h8_
   have HO207 := n0_
   have HO214 := n1_
   have BK208 := n2_
   have BK215 := n3_
   have GW215 := n4_
   have GE215 := n5_
   have NB208_215 := n6_
   have NB215_208 := n7_
   have HB := n8_
   clear n0_ n1_ n2_ n3_ n4_ n5_ n6_ n7_ n8_
   have hHeld : w20.cell? ⟨gb208, 0, none⟩ = some (.int .i64 5) ∧ w20.cell? ⟨gb208, 1, none⟩ = some (.slice Ao10 y205.length co10) := hS_
   obtain ⟨Ao21, co21, eo21⟩ := Kd.R_slice HO214.out
   (first | subst eo21 | (injection eo21 with f1_ f2_ f3_; have f4_ := f1_.symm; have f5_ := f3_.symm; clear f1_ f2_ f3_; subst f4_; subst f5_))
   refine norm_ (a' := ?_) ?_ ?_
   rotate_left
   ·
    simp only [putAll, Act.put, List.setIfInBounds_toArray, List.set_cons_zero, List.set_cons_succ]
    rfl
   refine one_ (i := 8) (N := none) #[true, true, true, true, true, true, true, true, true] rfl rfl (one_of HT_.out (by kernel_rfl)) (by decide) (fun K hK => ?_)
   have hs22 : w20.cell? ⟨gb215, 0, none⟩ = some (.int .i64 0) := (blk_cell BK215.out 0).trans rfl
   have hfs22 := blk_frozen BK215.out 0
   have hns22_0 := NB208_215.out
   have hms22_0 := NB215_208.out
   have hs23 : w20.cell? ⟨gb215, 1, none⟩ = some (.slice none 0 0) := (blk_cell BK215.out 1).trans rfl
   have hfs23 := blk_frozen BK215.out 1
   have hns23_0 := NB208_215.out
   have hms23_0 := NB215_208.out
   refine skip_ (w1 := ?_) (by rfl) rfl ?_ ?_
   rotate_left
   ·
    go_simp
    rfl
   refine hK.out _ _ ⟨((cell_far (p := ⟨gb215, _, none⟩) NB208_215.out _).trans (((cell_far (p := ⟨gb215, _, none⟩) NB208_215.out _).trans (hHeld.1)))), ((cell_far (p := ⟨gb215, _, none⟩) NB208_215.out _).trans (((cell_far (p := ⟨gb215, _, none⟩) NB208_215.out _).trans (hHeld.2))))⟩ (fun hHeld => ?_)
   clear hK K
   refine done_ (done_of HT_.out (by kernel_rfl)) ?_
   have n0_ : Aside0 (Kd.R k72 72 ((w20.setCell ⟨gb215, 0, none⟩ (.int .i64 5)).setCell ⟨gb215, 1, none⟩ (.slice Ao21 y212.length co21)) w.heap.size (fun k_ => some k_ ≠ (.slice Ao21 y212.length co21 : Value).ownBlock) (.slice Ao10 y205.length co10) y205) := ⟨by exact Kd.R_mono (Kd.R_far (p := ⟨gb215, 1, none⟩) (Kd.R_far (p := ⟨gb215, 0, none⟩) (Kd.R_types HO207.out BK215.out (by decide)) (fun _ hk => hk.2) (.int .i64 5)) (fun _ hk => hk.2) (.slice Ao21 y212.length co21)) (fun _ hk => hk.1)⟩
   have n1_ : Aside0 (Kd.R k72 72 ((w20.setCell ⟨gb215, 0, none⟩ (.int .i64 5)).setCell ⟨gb215, 1, none⟩ (.slice Ao21 y212.length co21)) w.heap.size (fun k_ => some k_ ≠ (.slice Ao10 y205.length co10 : Value).ownBlock) (.slice Ao21 y212.length co21) y212) := ⟨by exact Kd.R_mono (Kd.R_far (p := ⟨gb215, 1, none⟩) (Kd.R_far (p := ⟨gb215, 0, none⟩) (Kd.R_types HO214.out BK215.out (by decide)) (fun _ hk => hk.2) (.int .i64 5)) (fun _ hk => hk.2) (.slice Ao21 y212.length co21)) (fun _ hk => hk.1)⟩
   have n2_ : Aside0 (((w20.setCell ⟨gb215, 0, none⟩ (.int .i64 5)).setCell ⟨gb215, 1, none⟩ (.slice Ao21 y212.length co21)).heap[gb208]? = some (.cells #[.int .i64 5, .slice Ao10 y205.length co10] 28 (0, 0))) := ⟨by refine blk_far ?_ NB208_215.out _; refine blk_far ?_ NB208_215.out _; exact BK208.out⟩
   have n3_ : Aside0 (((w20.setCell ⟨gb215, 0, none⟩ (.int .i64 5)).setCell ⟨gb215, 1, none⟩ (.slice Ao21 y212.length co21)).heap[gb215]? = some (.cells #[.int .i64 5, .slice Ao21 y212.length co21] 28 (0, 0))) := ⟨by refine blk_put (cs := #[.int .i64 5, .slice none 0 0]) ?_ 1 _ rfl; refine blk_put (cs := #[.int .i64 0, .slice none 0 0]) ?_ 0 _ rfl; exact BK215.out⟩
   have n4_ : Aside0 (Below w.heap.size w ((w20.setCell ⟨gb215, 0, none⟩ (.int .i64 5)).setCell ⟨gb215, 1, none⟩ (.slice Ao21 y212.length co21))) := ⟨by repeat (first | (with_reducible first | exact HB.out | apply below_alloc | apply pw_below_drewN | apply below_drew1 | refine below_set ?_ GE208.out | refine below_set ?_ GE215.out) | exact HB.out)⟩
   (try clear HO207)
   (try clear HO214)
   (try clear BK208)
   (try clear BK215)
   (try clear HB)
   generalize ((w20.setCell ⟨gb215, 0, none⟩ (.int .i64 5)).setCell ⟨gb215, 1, none⟩ (.slice Ao21 y212.length co21)) = w24 at n0_ n1_ n2_ n3_ n4_ ⊢
   have HO207 := n0_
   have HO214 := n1_
   have BK208 := n2_
   have BK215 := n3_
   have HB := n4_
   clear n0_ n1_ n2_ n3_ n4_
   go_upto_block 0 with (fail)
   go_cut [] (fun wc => ∃ (kq : Nat) (x209001_5 : List (S72)) (x216000_5 : Int) (x216001_5 : List (S72)) (u209001 : Value) (u216001 : Value), Aside0 (cruciblelaw12_DiskForms.j0 kq a0 (wrap64 (1 + (Go.bits .and .i64 a1 1023))) 5 x209001_5 x216000_5 x216001_5 = some r) ∧ Aside0 (kq ≤ k) ∧ Aside0 (Kd.R k72 72 wc w.heap.size (fun k_ => some k_ ≠ (u216001 : Value).ownBlock) u209001 x209001_5) ∧ Aside0 (Kd.R k72 72 wc w.heap.size (fun k_ => some k_ ≠ (u209001 : Value).ownBlock) u216001 x216001_5) ∧ Aside0 (wc.heap[gb208]? = some (.cells #[.int .i64 5, u209001] 28 (0, 0))) ∧ Aside0 (wc.heap[gb215]? = some (.cells #[.int .i64 x216000_5, u216001] 28 (0, 0))) ∧ Aside0 (Below w.heap.size w wc))
   case first =>
    have H := HC6.out
    clear HC6
    by_cases c25 : (Int.tmod (IntKind.u64.wrap (a0)) 10) = 0
    ·
     rw [if_pos c25] at H
     have c25b0 : ((Int.tmod (IntKind.u64.wrap (a0)) 10) == 0) = true := beq_iff_eq.mpr c25
     have c25b1 : ((Int.tmod (IntKind.u64.wrap (a0)) 10) != 0) = false := bne_eq_false_iff_eq.mpr c25
     clear c25
     (first | rw [c25b0] | (simp only [i64_w, i32_w]; rw [c25b0]) | rw [c25b2] | skip)
     have H' := Aside0.mk H
     clear H
     have hnb26 := NB215_208.out
     have hnc26 := NB208_215.out
     have hcz27_0 : w24.cell? ⟨gb215, 0, none⟩ = some (.int .i64 5) := (blk_cell BK215.out 0).trans rfl
     have hcz27_1 : w24.cell? ⟨gb215, 1, none⟩ = some (.slice Ao21 y212.length co21) := (blk_cell BK215.out 1).trans rfl
     have hfz27_0 := blk_frozen BK215.out 0
     have hfz27_1 := blk_frozen BK215.out 1
     go_wp2
     go_meet
     case rel => exact ⟨_, (y205), (wrap64 (-(wrap64 (1 + (Go.bits .and .i64 a1 1023))))), (y212), (.slice Ao10 y205.length co10), (.slice Ao21 y212.length co21), H', ⟨by first | omega | exact Nat.le_refl _⟩, ⟨by exact Kd.R_mono (Kd.R_far (p := ⟨gb215, 0, none⟩) (Kd.R_types HO207.out BK215.out (by decide)) (fun _ hk => hk.2) (.int .i64 (wrap64 (-(wrap64 (1 + (Go.bits .and .i64 a1 1023))))))) (fun _ hk => hk.1)⟩, ⟨by exact Kd.R_mono (Kd.R_far (p := ⟨gb215, 0, none⟩) (Kd.R_types HO214.out BK215.out (by decide)) (fun _ hk => hk.2) (.int .i64 (wrap64 (-(wrap64 (1 + (Go.bits .and .i64 a1 1023))))))) (fun _ hk => hk.1)⟩, ⟨by refine blk_far ?_ NB208_215.out _; exact BK208.out⟩, ⟨by refine blk_put (cs := #[.int .i64 5, .slice Ao21 y212.length co21]) ?_ 0 _ rfl; exact BK215.out⟩, ⟨by repeat (first | (with_reducible first | exact HB.out | apply below_alloc | apply pw_below_drewN | apply below_drew1 | refine below_set ?_ GE208.out | refine below_set ?_ GE215.out) | exact HB.out)⟩⟩
    ·
     rw [if_neg c25] at H
     have c25b0 : ((Int.tmod (IntKind.u64.wrap (a0)) 10) == 0) = false := beq_eq_false_iff_ne.mpr c25
     have c25b1 : ((Int.tmod (IntKind.u64.wrap (a0)) 10) != 0) = true := bne_iff_ne.mpr c25
     (first | rw [c25b0] | (simp only [i64_w, i32_w]; rw [c25b0]) | rw [c25b2] | skip)
     by_cases c28 : (Int.tmod (IntKind.u64.wrap (a0)) 10) = 1
     ·
      rw [if_pos c28] at H
      have c28b0 : ((Int.tmod (IntKind.u64.wrap (a0)) 10) == 1) = true := beq_iff_eq.mpr c28
      have c28b1 : ((Int.tmod (IntKind.u64.wrap (a0)) 10) != 1) = false := bne_eq_false_iff_eq.mpr c28
      clear c28
      have H' := Aside0.mk H
      clear H
      have hnb29 := NB215_208.out
      have hnc29 := NB208_215.out
      have hcz30_0 : w24.cell? ⟨gb215, 0, none⟩ = some (.int .i64 5) := (blk_cell BK215.out 0).trans rfl
      have hcz30_1 : w24.cell? ⟨gb215, 1, none⟩ = some (.slice Ao21 y212.length co21) := (blk_cell BK215.out 1).trans rfl
      have hfz30_0 := blk_frozen BK215.out 0
      have hfz30_1 := blk_frozen BK215.out 1
      go_wp2
      go_meet
      case rel => exact ⟨_, (y205), (wrap64 (1048576 + (wrap64 (1 + (Go.bits .and .i64 a1 1023))))), (y212), (.slice Ao10 y205.length co10), (.slice Ao21 y212.length co21), H', ⟨by first | omega | exact Nat.le_refl _⟩, ⟨by exact Kd.R_mono (Kd.R_far (p := ⟨gb215, 0, none⟩) (Kd.R_types HO207.out BK215.out (by decide)) (fun _ hk => hk.2) (.int .i64 (wrap64 (1048576 + (wrap64 (1 + (Go.bits .and .i64 a1 1023))))))) (fun _ hk => hk.1)⟩, ⟨by exact Kd.R_mono (Kd.R_far (p := ⟨gb215, 0, none⟩) (Kd.R_types HO214.out BK215.out (by decide)) (fun _ hk => hk.2) (.int .i64 (wrap64 (1048576 + (wrap64 (1 + (Go.bits .and .i64 a1 1023))))))) (fun _ hk => hk.1)⟩, ⟨by refine blk_far ?_ NB208_215.out _; exact BK208.out⟩, ⟨by refine blk_put (cs := #[.int .i64 5, .slice Ao21 y212.length co21]) ?_ 0 _ rfl; exact BK215.out⟩, ⟨by repeat (first | (with_reducible first | exact HB.out | apply below_alloc | apply pw_below_drewN | apply below_drew1 | refine below_set ?_ GE208.out | refine below_set ?_ GE215.out) | exact HB.out)⟩⟩
     ·
      rw [if_neg c28] at H
      have c28b0 : ((Int.tmod (IntKind.u64.wrap (a0)) 10) == 1) = false := beq_eq_false_iff_ne.mpr c28
      have c28b1 : ((Int.tmod (IntKind.u64.wrap (a0)) 10) != 1) = true := bne_iff_ne.mpr c28
      by_cases c31 : (Int.tmod (IntKind.u64.wrap (a0)) 10) = 2
      ·
       rw [if_pos c31] at H
       have c31b0 : ((Int.tmod (IntKind.u64.wrap (a0)) 10) == 2) = true := beq_iff_eq.mpr c31
       have c31b1 : ((Int.tmod (IntKind.u64.wrap (a0)) 10) != 2) = false := bne_eq_false_iff_eq.mpr c31
       clear c31
       by_cases c32 : 0 < (y212.length : Int)
       ·
        rw [if_pos c32] at H
        have c32b0 : decide (0 < (y212.length : Int)) = true := decide_eq_true c32
        have c32b1 : decide (0 < y212.length) = true := decide_eq_true (by omega)
        clear c32
        obtain ⟨y216, hy216⟩ : ∃ y_ : List (S72), y_ = (y212.set (0 : Int).toNat (⟨(⟨#[99]⟩ : ByteArray), (rd_T72 y212 0).f1, (rd_T72 y212 0).f2⟩ : S72)) := ⟨_, rfl⟩
        replace H : (cruciblelaw12_DiskForms.j0 k a0 (wrap64 (1 + (Go.bits .and .i64 a1 1023))) 5 y205 5 y216) = some r := by first | (rw [hy216]; with_reducible exact H) | (have H2_ := (Option.bind_some _ _).symm.trans H; rw [hy216]; with_reducible exact H2_) | (have H2_ := (Option.bind_some _ _).symm.trans H; with_reducible exact H2_) | with_reducible exact H | (rw [hy216]; exact H) | exact H
        have Ny216 := Aside0.mk hy216
        clear hy216
        have H' := Aside0.mk H
        clear H
        have hnb34 := NB215_208.out
        have hnc34 := NB208_215.out
        have hcz35_0 : w24.cell? ⟨gb215, 0, none⟩ = some (.int .i64 5) := (blk_cell BK215.out 0).trans rfl
        have hcz35_1 : w24.cell? ⟨gb215, 1, none⟩ = some (.slice Ao21 y212.length co21) := (blk_cell BK215.out 1).trans rfl
        have hfz35_0 := blk_frozen BK215.out 0
        have hfz35_1 := blk_frozen BK215.out 1
        have p33 : 0 ≤ (0 : Int) := (by omega)
        have q33 : (0 : Int) < ((y212.length : Int) : Int) := of_decide_eq_true (by first | (with_reducible assumption) | assumption)
        have qi33 : (0 < y212.length) = True := eq_true (by omega)
        obtain ⟨go33, co33, eo33, gb33, gl33, cl33, HG33⟩ := Kd.R_form HO214.out (by omega)
        (first | cases eo33 | (injection eo33 with ea_ en_ ec_; (first | subst ea_ | (injection ea_ with ea_; subst ea_)); subst ec_; clear en_))
        have GB33 := Aside0.mk gb33
        have GG33 := Aside0.mk HG33
        clear gb33 gl33 HG33
        obtain ⟨ce33, hcl33, hM33, hcc33, hfr33⟩ := Kd.R_elem HO214.out z72 (0 : Int) p33 q33
        obtain rfl := k72_openM hM33
        have hx33_0 : w24.cell? ⟨go33, (0 : Int).toNat * 3, none⟩ = some (.string ((rd_T72 y212 0).f0)) := hcc33 0 _ rfl
        have hx33_1 : w24.cell? ⟨go33, (0 : Int).toNat * 3 + 1, none⟩ = some (.int .i64 ((rd_T72 y212 0).f1)) := hcc33 1 _ rfl
        have hx33_2 : w24.cell? ⟨go33, (0 : Int).toNat * 3 + 2, none⟩ = some (.int .i64 ((rd_T72 y212 0).f2)) := hcc33 2 _ rfl
        have hf33_0 : w24.frozen? ⟨go33, (0 : Int).toNat * 3, none⟩ = false := hfr33 0
        have hf33_1 : w24.frozen? ⟨go33, (0 : Int).toNat * 3 + 1, none⟩ = false := hfr33 1
        have hf33_2 : w24.frozen? ⟨go33, (0 : Int).toNat * 3 + 2, none⟩ = false := hfr33 2
        clear hcl33 hcc33 hfr33 hM33
        (try rw [show ((0 : Int)).toNat = 0 from rfl] at hx33_0)
        (try simp only [Nat.reduceMul, Nat.zero_mul, Nat.zero_add, Nat.reduceAdd] at hx33_0)
        (try rw [show ((0 : Int)).toNat = 0 from rfl] at hf33_0)
        (try simp only [Nat.reduceMul, Nat.zero_mul, Nat.zero_add, Nat.reduceAdd] at hf33_0)
        (try rw [show ((0 : Int)).toNat = 0 from rfl] at hx33_1)
        (try simp only [Nat.reduceMul, Nat.zero_mul, Nat.zero_add, Nat.reduceAdd] at hx33_1)
        (try rw [show ((0 : Int)).toNat = 0 from rfl] at hf33_1)
        (try simp only [Nat.reduceMul, Nat.zero_mul, Nat.zero_add, Nat.reduceAdd] at hf33_1)
        (try rw [show ((0 : Int)).toNat = 0 from rfl] at hx33_2)
        (try simp only [Nat.reduceMul, Nat.zero_mul, Nat.zero_add, Nat.reduceAdd] at hx33_2)
        (try rw [show ((0 : Int)).toNat = 0 from rfl] at hf33_2)
        (try simp only [Nat.reduceMul, Nat.zero_mul, Nat.zero_add, Nat.reduceAdd] at hf33_2)
        replace p33 := eq_true p33
        replace q33 := eq_true q33
        have HX36 := Aside0.mk (show Kd.R k72 72 w24 w.heap.size (fun k_ => some k_ ≠ (.slice Ao10 y205.length co10 : Value).ownBlock) (.slice (some ⟨go33, 0, none⟩) y212.length co21) y212 from (by exact HO214.out))
        obtain ⟨ce36, hcl36, hM36, hcc36, hfr36⟩ := Kd.R_elem HX36.out z72 (0 : Int) (by omega) (by have h_ : (0 : Int) < ((y212.length : Int) : Int) := of_decide_eq_true (by first | (with_reducible assumption) | assumption); first | exact h_ | (have e_ := (Kd.R_reads' HO214.out).1; omega) | simpa using h_)
        obtain rfl := k72_openM hM36
        have HP36 := Kd.R_seg HX36.out (0 : Int) (by omega) (by have h_ : (0 : Int) < ((y212.length : Int) : Int) := of_decide_eq_true (by first | (with_reducible assumption) | assumption); first | exact h_ | (have e_ := (Kd.R_reads' HO214.out).1; omega) | simpa using h_) (seg := [.string (⟨#[99]⟩ : ByteArray)]) (j := 0) hcl36 hcc36 (show 1 ≤ 3 from by decide) (x' := (⟨(⟨#[99]⟩ : ByteArray), (rd_T72 y212 0).f1, (rd_T72 y212 0).f2⟩ : S72)) (k72_mkM _ _ _ (⟨(⟨#[99]⟩ : ByteArray), (rd_T72 y212 0).f1, (rd_T72 y212 0).f2⟩ : S72) ) (fun _ hk => hk)
        have hx36_0 := hcc36 0 _ rfl
        (try simp only [show (k72).sz = 3 from rfl, Nat.mul_one, Nat.add_zero] at hx36_0)
        (try rw [show ((0 : Int)).toNat = 0 from rfl] at hx36_0)
        (try simp only [Nat.reduceMul, Nat.zero_mul, Nat.zero_add, Nat.reduceAdd] at hx36_0)
        have hf36_0 := hfr36 0
        (try simp only [show (k72).sz = 3 from rfl, Nat.mul_one, Nat.add_zero] at hf36_0)
        (try rw [show ((0 : Int)).toNat = 0 from rfl] at hf36_0)
        (try simp only [Nat.reduceMul, Nat.zero_mul, Nat.zero_add, Nat.reduceAdd] at hf36_0)
        clear hcl36 hcc36 hfr36 hM36
        go_wp2_with (first | ((with_reducible refine gate_store (t := 9) (p := 60) rfl ?_); refine store_event (t := 9) (p := 60) (v := ?vo_w37) (w1 := (w24.setCell ⟨go33, 0, none⟩ (.string (⟨#[99]⟩ : ByteArray)))) ?hg ?ho ?hn ?hr ?_; (case ho => rfl); (case hg => rfl); (case hn => rfl); (case hr => first | (go_simp; done) | (go_simp; rfl)); intro w37 hw; have hg : w24.grownBy w37 (some go33) := (by rw [hw]; exact HP36.2); have hp_ : Kd.R k72 72 w37 w.heap.size (fun k_ => some k_ ≠ (.slice Ao10 y205.length co10 : Value).ownBlock) (.slice (some ⟨go33, 0, none⟩) y212.length co21) y216 := (by rw [hw, Ny216.out]; exact HP36.1); clear HP36; have n0_ := Aside0.mk (Kd.R_after (v := (.slice (some ⟨go33, 0, none⟩) y212.length co21)) (v1 := (.slice (some ⟨go33, 0, none⟩) y212.length co21)) (ok := (fun _ => True)) (by exact Kd.R_mono HO207.out (fun _ hk => ⟨trivial, hk⟩)) hg (.inl rfl)); have n1_ := Aside0.mk (blk_grown (g := gb208) (o := .cells #[.int .i64 5, .slice Ao10 y205.length co10] 28 (0, 0)) (by exact BK208.out) hg (Kd.R_ne HO214.out BK208.out (by decide))); have n2_ := Aside0.mk (hp_); have n3_ := Aside0.mk (blk_grown (g := gb215) (o := .cells #[.int .i64 5, .slice (some ⟨go33, 0, none⟩) y212.length co21] 28 (0, 0)) (by exact BK215.out) hg (Kd.R_ne HO214.out BK215.out (by decide))); have n4_ := Aside0.mk ((by rw [hw]; exact below_set (HB.out) GB33.out : Below w.heap.size w w37)); clear HO207; clear BK208; clear HO214; clear BK215; clear HB; have HO207 := n0_; have BK208 := n1_; have HO214 := n2_; have BK215 := n3_; have HB := n4_; clear n0_ n1_ n2_ n3_ n4_; clear hg hw hp_))
        go_meet
        case rel => exact ⟨_, (y205), (5), (y216), (.slice Ao10 y205.length co10), (.slice (some ⟨go33, 0, none⟩) y212.length co21), H', ⟨by first | omega | exact Nat.le_refl _⟩, ⟨by exact Kd.R_mono HO207.out (fun _ hk => hk.2)⟩, ⟨by first | exact HO214.out | exact own_len HO214.out⟩, ⟨by exact BK208.out⟩, ⟨by exact BK215.out⟩, ⟨by repeat (first | (with_reducible first | exact HB.out | apply below_alloc | apply pw_below_drewN | apply below_drew1 | refine below_set ?_ GE208.out | refine below_set ?_ GE215.out) | exact HB.out)⟩⟩
       ·
        rw [if_neg c32] at H
        exact absurd H (by simp)
      ·
       rw [if_neg c31] at H
       have c31b0 : ((Int.tmod (IntKind.u64.wrap (a0)) 10) == 2) = false := beq_eq_false_iff_ne.mpr c31
       have c31b1 : ((Int.tmod (IntKind.u64.wrap (a0)) 10) != 2) = true := bne_iff_ne.mpr c31
       by_cases c38 : (Int.tmod (IntKind.u64.wrap (a0)) 10) = 3
       ·
        rw [if_pos c38] at H
        have c38b0 : ((Int.tmod (IntKind.u64.wrap (a0)) 10) == 3) = true := beq_iff_eq.mpr c38
        have c38b1 : ((Int.tmod (IntKind.u64.wrap (a0)) 10) != 3) = false := bne_eq_false_iff_eq.mpr c38
        clear c38
        by_cases c39 : 0 < (y212.length : Int)
        ·
         rw [if_pos c39] at H
         have c39b0 : decide (0 < (y212.length : Int)) = true := decide_eq_true c39
         have c39b1 : decide (0 < y212.length) = true := decide_eq_true (by omega)
         clear c39
         obtain ⟨y217, hy217⟩ : ∃ y_ : List (S72), y_ = (y212.set (0 : Int).toNat (⟨(⟨#[46, 47, 97]⟩ : ByteArray), (rd_T72 y212 0).f1, (rd_T72 y212 0).f2⟩ : S72)) := ⟨_, rfl⟩
         replace H : (cruciblelaw12_DiskForms.j0 k a0 (wrap64 (1 + (Go.bits .and .i64 a1 1023))) 5 y205 5 y217) = some r := by first | (rw [hy217]; with_reducible exact H) | (have H2_ := (Option.bind_some _ _).symm.trans H; rw [hy217]; with_reducible exact H2_) | (have H2_ := (Option.bind_some _ _).symm.trans H; with_reducible exact H2_) | with_reducible exact H | (rw [hy217]; exact H) | exact H
         have Ny217 := Aside0.mk hy217
         clear hy217
         have H' := Aside0.mk H
         clear H
         have hnb41 := NB215_208.out
         have hnc41 := NB208_215.out
         have hcz42_0 : w24.cell? ⟨gb215, 0, none⟩ = some (.int .i64 5) := (blk_cell BK215.out 0).trans rfl
         have hcz42_1 : w24.cell? ⟨gb215, 1, none⟩ = some (.slice Ao21 y212.length co21) := (blk_cell BK215.out 1).trans rfl
         have hfz42_0 := blk_frozen BK215.out 0
         have hfz42_1 := blk_frozen BK215.out 1
         have p40 : 0 ≤ (0 : Int) := (by omega)
         have q40 : (0 : Int) < ((y212.length : Int) : Int) := of_decide_eq_true (by first | (with_reducible assumption) | assumption)
         have qi40 : (0 < y212.length) = True := eq_true (by omega)
         obtain ⟨go40, co40, eo40, gb40, gl40, cl40, HG40⟩ := Kd.R_form HO214.out (by omega)
         (first | cases eo40 | (injection eo40 with ea_ en_ ec_; (first | subst ea_ | (injection ea_ with ea_; subst ea_)); subst ec_; clear en_))
         have GB40 := Aside0.mk gb40
         have GG40 := Aside0.mk HG40
         clear gb40 gl40 HG40
         obtain ⟨ce40, hcl40, hM40, hcc40, hfr40⟩ := Kd.R_elem HO214.out z72 (0 : Int) p40 q40
         obtain rfl := k72_openM hM40
         have hx40_0 : w24.cell? ⟨go40, (0 : Int).toNat * 3, none⟩ = some (.string ((rd_T72 y212 0).f0)) := hcc40 0 _ rfl
         have hx40_1 : w24.cell? ⟨go40, (0 : Int).toNat * 3 + 1, none⟩ = some (.int .i64 ((rd_T72 y212 0).f1)) := hcc40 1 _ rfl
         have hx40_2 : w24.cell? ⟨go40, (0 : Int).toNat * 3 + 2, none⟩ = some (.int .i64 ((rd_T72 y212 0).f2)) := hcc40 2 _ rfl
         have hf40_0 : w24.frozen? ⟨go40, (0 : Int).toNat * 3, none⟩ = false := hfr40 0
         have hf40_1 : w24.frozen? ⟨go40, (0 : Int).toNat * 3 + 1, none⟩ = false := hfr40 1
         have hf40_2 : w24.frozen? ⟨go40, (0 : Int).toNat * 3 + 2, none⟩ = false := hfr40 2
         clear hcl40 hcc40 hfr40 hM40
         (try rw [show ((0 : Int)).toNat = 0 from rfl] at hx40_0)
         (try simp only [Nat.reduceMul, Nat.zero_mul, Nat.zero_add, Nat.reduceAdd] at hx40_0)
         (try rw [show ((0 : Int)).toNat = 0 from rfl] at hf40_0)
         (try simp only [Nat.reduceMul, Nat.zero_mul, Nat.zero_add, Nat.reduceAdd] at hf40_0)
         (try rw [show ((0 : Int)).toNat = 0 from rfl] at hx40_1)
         (try simp only [Nat.reduceMul, Nat.zero_mul, Nat.zero_add, Nat.reduceAdd] at hx40_1)
         (try rw [show ((0 : Int)).toNat = 0 from rfl] at hf40_1)
         (try simp only [Nat.reduceMul, Nat.zero_mul, Nat.zero_add, Nat.reduceAdd] at hf40_1)
         (try rw [show ((0 : Int)).toNat = 0 from rfl] at hx40_2)
         (try simp only [Nat.reduceMul, Nat.zero_mul, Nat.zero_add, Nat.reduceAdd] at hx40_2)
         (try rw [show ((0 : Int)).toNat = 0 from rfl] at hf40_2)
         (try simp only [Nat.reduceMul, Nat.zero_mul, Nat.zero_add, Nat.reduceAdd] at hf40_2)
         replace p40 := eq_true p40
         replace q40 := eq_true q40
         have HX43 := Aside0.mk (show Kd.R k72 72 w24 w.heap.size (fun k_ => some k_ ≠ (.slice Ao10 y205.length co10 : Value).ownBlock) (.slice (some ⟨go40, 0, none⟩) y212.length co21) y212 from (by exact HO214.out))
         obtain ⟨ce43, hcl43, hM43, hcc43, hfr43⟩ := Kd.R_elem HX43.out z72 (0 : Int) (by omega) (by have h_ : (0 : Int) < ((y212.length : Int) : Int) := of_decide_eq_true (by first | (with_reducible assumption) | assumption); first | exact h_ | (have e_ := (Kd.R_reads' HO214.out).1; omega) | simpa using h_)
         obtain rfl := k72_openM hM43
         have HP43 := Kd.R_seg HX43.out (0 : Int) (by omega) (by have h_ : (0 : Int) < ((y212.length : Int) : Int) := of_decide_eq_true (by first | (with_reducible assumption) | assumption); first | exact h_ | (have e_ := (Kd.R_reads' HO214.out).1; omega) | simpa using h_) (seg := [.string (⟨#[46, 47, 97]⟩ : ByteArray)]) (j := 0) hcl43 hcc43 (show 1 ≤ 3 from by decide) (x' := (⟨(⟨#[46, 47, 97]⟩ : ByteArray), (rd_T72 y212 0).f1, (rd_T72 y212 0).f2⟩ : S72)) (k72_mkM _ _ _ (⟨(⟨#[46, 47, 97]⟩ : ByteArray), (rd_T72 y212 0).f1, (rd_T72 y212 0).f2⟩ : S72) ) (fun _ hk => hk)
         have hx43_0 := hcc43 0 _ rfl
         (try simp only [show (k72).sz = 3 from rfl, Nat.mul_one, Nat.add_zero] at hx43_0)
         (try rw [show ((0 : Int)).toNat = 0 from rfl] at hx43_0)
         (try simp only [Nat.reduceMul, Nat.zero_mul, Nat.zero_add, Nat.reduceAdd] at hx43_0)
         have hf43_0 := hfr43 0
         (try simp only [show (k72).sz = 3 from rfl, Nat.mul_one, Nat.add_zero] at hf43_0)
         (try rw [show ((0 : Int)).toNat = 0 from rfl] at hf43_0)
         (try simp only [Nat.reduceMul, Nat.zero_mul, Nat.zero_add, Nat.reduceAdd] at hf43_0)
         clear hcl43 hcc43 hfr43 hM43
         go_wp2_with (first | ((with_reducible refine gate_store (t := 9) (p := 66) rfl ?_); refine store_event (t := 9) (p := 66) (v := ?vo_w44) (w1 := (w24.setCell ⟨go40, 0, none⟩ (.string (⟨#[46, 47, 97]⟩ : ByteArray)))) ?hg ?ho ?hn ?hr ?_; (case ho => rfl); (case hg => rfl); (case hn => rfl); (case hr => first | (go_simp; done) | (go_simp; rfl)); intro w44 hw; have hg : w24.grownBy w44 (some go40) := (by rw [hw]; exact HP43.2); have hp_ : Kd.R k72 72 w44 w.heap.size (fun k_ => some k_ ≠ (.slice Ao10 y205.length co10 : Value).ownBlock) (.slice (some ⟨go40, 0, none⟩) y212.length co21) y217 := (by rw [hw, Ny217.out]; exact HP43.1); clear HP43; have n0_ := Aside0.mk (Kd.R_after (v := (.slice (some ⟨go40, 0, none⟩) y212.length co21)) (v1 := (.slice (some ⟨go40, 0, none⟩) y212.length co21)) (ok := (fun _ => True)) (by exact Kd.R_mono HO207.out (fun _ hk => ⟨trivial, hk⟩)) hg (.inl rfl)); have n1_ := Aside0.mk (blk_grown (g := gb208) (o := .cells #[.int .i64 5, .slice Ao10 y205.length co10] 28 (0, 0)) (by exact BK208.out) hg (Kd.R_ne HO214.out BK208.out (by decide))); have n2_ := Aside0.mk (hp_); have n3_ := Aside0.mk (blk_grown (g := gb215) (o := .cells #[.int .i64 5, .slice (some ⟨go40, 0, none⟩) y212.length co21] 28 (0, 0)) (by exact BK215.out) hg (Kd.R_ne HO214.out BK215.out (by decide))); have n4_ := Aside0.mk ((by rw [hw]; exact below_set (HB.out) GB40.out : Below w.heap.size w w44)); clear HO207; clear BK208; clear HO214; clear BK215; clear HB; have HO207 := n0_; have BK208 := n1_; have HO214 := n2_; have BK215 := n3_; have HB := n4_; clear n0_ n1_ n2_ n3_ n4_; clear hg hw hp_))
         go_meet
         case rel => exact ⟨_, (y205), (5), (y217), (.slice Ao10 y205.length co10), (.slice (some ⟨go40, 0, none⟩) y212.length co21), H', ⟨by first | omega | exact Nat.le_refl _⟩, ⟨by exact Kd.R_mono HO207.out (fun _ hk => hk.2)⟩, ⟨by first | exact HO214.out | exact own_len HO214.out⟩, ⟨by exact BK208.out⟩, ⟨by exact BK215.out⟩, ⟨by repeat (first | (with_reducible first | exact HB.out | apply below_alloc | apply pw_below_drewN | apply below_drew1 | refine below_set ?_ GE208.out | refine below_set ?_ GE215.out) | exact HB.out)⟩⟩
        ·
         rw [if_neg c39] at H
         exact absurd H (by simp)
       ·
        rw [if_neg c38] at H
        have c38b0 : ((Int.tmod (IntKind.u64.wrap (a0)) 10) == 3) = false := beq_eq_false_iff_ne.mpr c38
        have c38b1 : ((Int.tmod (IntKind.u64.wrap (a0)) 10) != 3) = true := bne_iff_ne.mpr c38
        by_cases c45 : (Int.tmod (IntKind.u64.wrap (a0)) 10) = 4
        ·
         rw [if_pos c45] at H
         have c45b0 : ((Int.tmod (IntKind.u64.wrap (a0)) 10) == 4) = true := beq_iff_eq.mpr c45
         have c45b1 : ((Int.tmod (IntKind.u64.wrap (a0)) 10) != 4) = false := bne_eq_false_iff_eq.mpr c45
         clear c45
         by_cases c46 : 0 < (y212.length : Int)
         ·
          rw [if_pos c46] at H
          have c46b0 : decide (0 < (y212.length : Int)) = true := decide_eq_true c46
          have c46b1 : decide (0 < y212.length) = true := decide_eq_true (by omega)
          clear c46
          obtain ⟨y218, hy218⟩ : ∃ y_ : List (S72), y_ = (y212.set (0 : Int).toNat (⟨(rd_T72 y212 0).f0, wrap64 (-(wrap64 (1 + (Go.bits .and .i64 a1 1023)))), (rd_T72 y212 0).f2⟩ : S72)) := ⟨_, rfl⟩
          replace H : (cruciblelaw12_DiskForms.j0 k a0 (wrap64 (1 + (Go.bits .and .i64 a1 1023))) 5 y205 5 y218) = some r := by first | (rw [hy218]; with_reducible exact H) | (have H2_ := (Option.bind_some _ _).symm.trans H; rw [hy218]; with_reducible exact H2_) | (have H2_ := (Option.bind_some _ _).symm.trans H; with_reducible exact H2_) | with_reducible exact H | (rw [hy218]; exact H) | exact H
          have Ny218 := Aside0.mk hy218
          clear hy218
          have H' := Aside0.mk H
          clear H
          have hnb48 := NB215_208.out
          have hnc48 := NB208_215.out
          have hcz49_0 : w24.cell? ⟨gb215, 0, none⟩ = some (.int .i64 5) := (blk_cell BK215.out 0).trans rfl
          have hcz49_1 : w24.cell? ⟨gb215, 1, none⟩ = some (.slice Ao21 y212.length co21) := (blk_cell BK215.out 1).trans rfl
          have hfz49_0 := blk_frozen BK215.out 0
          have hfz49_1 := blk_frozen BK215.out 1
          have p47 : 0 ≤ (0 : Int) := (by omega)
          have q47 : (0 : Int) < ((y212.length : Int) : Int) := of_decide_eq_true (by first | (with_reducible assumption) | assumption)
          have qi47 : (0 < y212.length) = True := eq_true (by omega)
          obtain ⟨go47, co47, eo47, gb47, gl47, cl47, HG47⟩ := Kd.R_form HO214.out (by omega)
          (first | cases eo47 | (injection eo47 with ea_ en_ ec_; (first | subst ea_ | (injection ea_ with ea_; subst ea_)); subst ec_; clear en_))
          have GB47 := Aside0.mk gb47
          have GG47 := Aside0.mk HG47
          clear gb47 gl47 HG47
          obtain ⟨ce47, hcl47, hM47, hcc47, hfr47⟩ := Kd.R_elem HO214.out z72 (0 : Int) p47 q47
          obtain rfl := k72_openM hM47
          have hx47_0 : w24.cell? ⟨go47, (0 : Int).toNat * 3, none⟩ = some (.string ((rd_T72 y212 0).f0)) := hcc47 0 _ rfl
          have hx47_1 : w24.cell? ⟨go47, (0 : Int).toNat * 3 + 1, none⟩ = some (.int .i64 ((rd_T72 y212 0).f1)) := hcc47 1 _ rfl
          have hx47_2 : w24.cell? ⟨go47, (0 : Int).toNat * 3 + 2, none⟩ = some (.int .i64 ((rd_T72 y212 0).f2)) := hcc47 2 _ rfl
          have hf47_0 : w24.frozen? ⟨go47, (0 : Int).toNat * 3, none⟩ = false := hfr47 0
          have hf47_1 : w24.frozen? ⟨go47, (0 : Int).toNat * 3 + 1, none⟩ = false := hfr47 1
          have hf47_2 : w24.frozen? ⟨go47, (0 : Int).toNat * 3 + 2, none⟩ = false := hfr47 2
          clear hcl47 hcc47 hfr47 hM47
          (try rw [show ((0 : Int)).toNat = 0 from rfl] at hx47_0)
          (try simp only [Nat.reduceMul, Nat.zero_mul, Nat.zero_add, Nat.reduceAdd] at hx47_0)
          (try rw [show ((0 : Int)).toNat = 0 from rfl] at hf47_0)
          (try simp only [Nat.reduceMul, Nat.zero_mul, Nat.zero_add, Nat.reduceAdd] at hf47_0)
          (try rw [show ((0 : Int)).toNat = 0 from rfl] at hx47_1)
          (try simp only [Nat.reduceMul, Nat.zero_mul, Nat.zero_add, Nat.reduceAdd] at hx47_1)
          (try rw [show ((0 : Int)).toNat = 0 from rfl] at hf47_1)
          (try simp only [Nat.reduceMul, Nat.zero_mul, Nat.zero_add, Nat.reduceAdd] at hf47_1)
          (try rw [show ((0 : Int)).toNat = 0 from rfl] at hx47_2)
          (try simp only [Nat.reduceMul, Nat.zero_mul, Nat.zero_add, Nat.reduceAdd] at hx47_2)
          (try rw [show ((0 : Int)).toNat = 0 from rfl] at hf47_2)
          (try simp only [Nat.reduceMul, Nat.zero_mul, Nat.zero_add, Nat.reduceAdd] at hf47_2)
          replace p47 := eq_true p47
          replace q47 := eq_true q47
          have HX50 := Aside0.mk (show Kd.R k72 72 w24 w.heap.size (fun k_ => some k_ ≠ (.slice Ao10 y205.length co10 : Value).ownBlock) (.slice (some ⟨go47, 0, none⟩) y212.length co21) y212 from (by exact HO214.out))
          obtain ⟨ce50, hcl50, hM50, hcc50, hfr50⟩ := Kd.R_elem HX50.out z72 (0 : Int) (by omega) (by have h_ : (0 : Int) < ((y212.length : Int) : Int) := of_decide_eq_true (by first | (with_reducible assumption) | assumption); first | exact h_ | (have e_ := (Kd.R_reads' HO214.out).1; omega) | simpa using h_)
          obtain rfl := k72_openM hM50
          have HP50 := Kd.R_seg HX50.out (0 : Int) (by omega) (by have h_ : (0 : Int) < ((y212.length : Int) : Int) := of_decide_eq_true (by first | (with_reducible assumption) | assumption); first | exact h_ | (have e_ := (Kd.R_reads' HO214.out).1; omega) | simpa using h_) (seg := [.int .i64 (wrap64 (-(wrap64 (1 + (Go.bits .and .i64 a1 1023)))))]) (j := 1) hcl50 hcc50 (show 2 ≤ 3 from by decide) (x' := (⟨(rd_T72 y212 0).f0, wrap64 (-(wrap64 (1 + (Go.bits .and .i64 a1 1023)))), (rd_T72 y212 0).f2⟩ : S72)) (k72_mkM _ _ _ (⟨(rd_T72 y212 0).f0, wrap64 (-(wrap64 (1 + (Go.bits .and .i64 a1 1023)))), (rd_T72 y212 0).f2⟩ : S72) ) (fun _ hk => hk)
          have hx50_1 := hcc50 1 _ rfl
          (try simp only [show (k72).sz = 3 from rfl, Nat.mul_one, Nat.add_zero] at hx50_1)
          (try rw [show ((0 : Int)).toNat = 0 from rfl] at hx50_1)
          (try simp only [Nat.reduceMul, Nat.zero_mul, Nat.zero_add, Nat.reduceAdd] at hx50_1)
          have hf50_1 := hfr50 1
          (try simp only [show (k72).sz = 3 from rfl, Nat.mul_one, Nat.add_zero] at hf50_1)
          (try rw [show ((0 : Int)).toNat = 0 from rfl] at hf50_1)
          (try simp only [Nat.reduceMul, Nat.zero_mul, Nat.zero_add, Nat.reduceAdd] at hf50_1)
          clear hcl50 hcc50 hfr50 hM50
          go_wp2_with (first | ((with_reducible refine gate_store (t := 3) (p := 74) rfl ?_); refine store_event (t := 3) (p := 74) (v := ?vo_w51) (w1 := (w24.setCell ⟨go47, 1, none⟩ (.int .i64 (wrap64 (-(wrap64 (1 + (Go.bits .and .i64 a1 1023)))))))) ?hg ?ho ?hn ?hr ?_; (case ho => rfl); (case hg => rfl); (case hn => rfl); (case hr => first | (go_simp; done) | (go_simp; rfl)); intro w51 hw; have hg : w24.grownBy w51 (some go47) := (by rw [hw]; exact HP50.2); have hp_ : Kd.R k72 72 w51 w.heap.size (fun k_ => some k_ ≠ (.slice Ao10 y205.length co10 : Value).ownBlock) (.slice (some ⟨go47, 0, none⟩) y212.length co21) y218 := (by rw [hw, Ny218.out]; exact HP50.1); clear HP50; have n0_ := Aside0.mk (Kd.R_after (v := (.slice (some ⟨go47, 0, none⟩) y212.length co21)) (v1 := (.slice (some ⟨go47, 0, none⟩) y212.length co21)) (ok := (fun _ => True)) (by exact Kd.R_mono HO207.out (fun _ hk => ⟨trivial, hk⟩)) hg (.inl rfl)); have n1_ := Aside0.mk (blk_grown (g := gb208) (o := .cells #[.int .i64 5, .slice Ao10 y205.length co10] 28 (0, 0)) (by exact BK208.out) hg (Kd.R_ne HO214.out BK208.out (by decide))); have n2_ := Aside0.mk (hp_); have n3_ := Aside0.mk (blk_grown (g := gb215) (o := .cells #[.int .i64 5, .slice (some ⟨go47, 0, none⟩) y212.length co21] 28 (0, 0)) (by exact BK215.out) hg (Kd.R_ne HO214.out BK215.out (by decide))); have n4_ := Aside0.mk ((by rw [hw]; exact below_set (HB.out) GB47.out : Below w.heap.size w w51)); clear HO207; clear BK208; clear HO214; clear BK215; clear HB; have HO207 := n0_; have BK208 := n1_; have HO214 := n2_; have BK215 := n3_; have HB := n4_; clear n0_ n1_ n2_ n3_ n4_; clear hg hw hp_))
          go_meet
          case rel => exact ⟨_, (y205), (5), (y218), (.slice Ao10 y205.length co10), (.slice (some ⟨go47, 0, none⟩) y212.length co21), H', ⟨by first | omega | exact Nat.le_refl _⟩, ⟨by exact Kd.R_mono HO207.out (fun _ hk => hk.2)⟩, ⟨by first | exact HO214.out | exact own_len HO214.out⟩, ⟨by exact BK208.out⟩, ⟨by exact BK215.out⟩, ⟨by repeat (first | (with_reducible first | exact HB.out | apply below_alloc | apply pw_below_drewN | apply below_drew1 | refine below_set ?_ GE208.out | refine below_set ?_ GE215.out) | exact HB.out)⟩⟩
         ·
          rw [if_neg c46] at H
          exact absurd H (by simp)
        ·
         rw [if_neg c45] at H
         have c45b0 : ((Int.tmod (IntKind.u64.wrap (a0)) 10) == 4) = false := beq_eq_false_iff_ne.mpr c45
         have c45b1 : ((Int.tmod (IntKind.u64.wrap (a0)) 10) != 4) = true := bne_iff_ne.mpr c45
         by_cases c52 : (Int.tmod (IntKind.u64.wrap (a0)) 10) = 5
         ·
          rw [if_pos c52] at H
          have c52b0 : ((Int.tmod (IntKind.u64.wrap (a0)) 10) == 5) = true := beq_iff_eq.mpr c52
          have c52b1 : ((Int.tmod (IntKind.u64.wrap (a0)) 10) != 5) = false := bne_eq_false_iff_eq.mpr c52
          clear c52
          by_cases c53 : 0 < (y212.length : Int)
          ·
           rw [if_pos c53] at H
           have c53b0 : decide (0 < (y212.length : Int)) = true := decide_eq_true c53
           have c53b1 : decide (0 < y212.length) = true := decide_eq_true (by omega)
           clear c53
           obtain ⟨y219, hy219⟩ : ∃ y_ : List (S72), y_ = (y212.set (0 : Int).toNat (⟨(rd_T72 y212 0).f0, wrap64 (2147483647 + (wrap64 (1 + (Go.bits .and .i64 a1 1023)))), (rd_T72 y212 0).f2⟩ : S72)) := ⟨_, rfl⟩
           replace H : (cruciblelaw12_DiskForms.j0 k a0 (wrap64 (1 + (Go.bits .and .i64 a1 1023))) 5 y205 5 y219) = some r := by first | (rw [hy219]; with_reducible exact H) | (have H2_ := (Option.bind_some _ _).symm.trans H; rw [hy219]; with_reducible exact H2_) | (have H2_ := (Option.bind_some _ _).symm.trans H; with_reducible exact H2_) | with_reducible exact H | (rw [hy219]; exact H) | exact H
           have Ny219 := Aside0.mk hy219
           clear hy219
           have H' := Aside0.mk H
           clear H
           have hnb55 := NB215_208.out
           have hnc55 := NB208_215.out
           have hcz56_0 : w24.cell? ⟨gb215, 0, none⟩ = some (.int .i64 5) := (blk_cell BK215.out 0).trans rfl
           have hcz56_1 : w24.cell? ⟨gb215, 1, none⟩ = some (.slice Ao21 y212.length co21) := (blk_cell BK215.out 1).trans rfl
           have hfz56_0 := blk_frozen BK215.out 0
           have hfz56_1 := blk_frozen BK215.out 1
           have p54 : 0 ≤ (0 : Int) := (by omega)
           have q54 : (0 : Int) < ((y212.length : Int) : Int) := of_decide_eq_true (by first | (with_reducible assumption) | assumption)
           have qi54 : (0 < y212.length) = True := eq_true (by omega)
           obtain ⟨go54, co54, eo54, gb54, gl54, cl54, HG54⟩ := Kd.R_form HO214.out (by omega)
           (first | cases eo54 | (injection eo54 with ea_ en_ ec_; (first | subst ea_ | (injection ea_ with ea_; subst ea_)); subst ec_; clear en_))
           have GB54 := Aside0.mk gb54
           have GG54 := Aside0.mk HG54
           clear gb54 gl54 HG54
           obtain ⟨ce54, hcl54, hM54, hcc54, hfr54⟩ := Kd.R_elem HO214.out z72 (0 : Int) p54 q54
           obtain rfl := k72_openM hM54
           have hx54_0 : w24.cell? ⟨go54, (0 : Int).toNat * 3, none⟩ = some (.string ((rd_T72 y212 0).f0)) := hcc54 0 _ rfl
           have hx54_1 : w24.cell? ⟨go54, (0 : Int).toNat * 3 + 1, none⟩ = some (.int .i64 ((rd_T72 y212 0).f1)) := hcc54 1 _ rfl
           have hx54_2 : w24.cell? ⟨go54, (0 : Int).toNat * 3 + 2, none⟩ = some (.int .i64 ((rd_T72 y212 0).f2)) := hcc54 2 _ rfl
           have hf54_0 : w24.frozen? ⟨go54, (0 : Int).toNat * 3, none⟩ = false := hfr54 0
           have hf54_1 : w24.frozen? ⟨go54, (0 : Int).toNat * 3 + 1, none⟩ = false := hfr54 1
           have hf54_2 : w24.frozen? ⟨go54, (0 : Int).toNat * 3 + 2, none⟩ = false := hfr54 2
           clear hcl54 hcc54 hfr54 hM54
           (try rw [show ((0 : Int)).toNat = 0 from rfl] at hx54_0)
           (try simp only [Nat.reduceMul, Nat.zero_mul, Nat.zero_add, Nat.reduceAdd] at hx54_0)
           (try rw [show ((0 : Int)).toNat = 0 from rfl] at hf54_0)
           (try simp only [Nat.reduceMul, Nat.zero_mul, Nat.zero_add, Nat.reduceAdd] at hf54_0)
           (try rw [show ((0 : Int)).toNat = 0 from rfl] at hx54_1)
           (try simp only [Nat.reduceMul, Nat.zero_mul, Nat.zero_add, Nat.reduceAdd] at hx54_1)
           (try rw [show ((0 : Int)).toNat = 0 from rfl] at hf54_1)
           (try simp only [Nat.reduceMul, Nat.zero_mul, Nat.zero_add, Nat.reduceAdd] at hf54_1)
           (try rw [show ((0 : Int)).toNat = 0 from rfl] at hx54_2)
           (try simp only [Nat.reduceMul, Nat.zero_mul, Nat.zero_add, Nat.reduceAdd] at hx54_2)
           (try rw [show ((0 : Int)).toNat = 0 from rfl] at hf54_2)
           (try simp only [Nat.reduceMul, Nat.zero_mul, Nat.zero_add, Nat.reduceAdd] at hf54_2)
           replace p54 := eq_true p54
           replace q54 := eq_true q54
           have HX57 := Aside0.mk (show Kd.R k72 72 w24 w.heap.size (fun k_ => some k_ ≠ (.slice Ao10 y205.length co10 : Value).ownBlock) (.slice (some ⟨go54, 0, none⟩) y212.length co21) y212 from (by exact HO214.out))
           obtain ⟨ce57, hcl57, hM57, hcc57, hfr57⟩ := Kd.R_elem HX57.out z72 (0 : Int) (by omega) (by have h_ : (0 : Int) < ((y212.length : Int) : Int) := of_decide_eq_true (by first | (with_reducible assumption) | assumption); first | exact h_ | (have e_ := (Kd.R_reads' HO214.out).1; omega) | simpa using h_)
           obtain rfl := k72_openM hM57
           have HP57 := Kd.R_seg HX57.out (0 : Int) (by omega) (by have h_ : (0 : Int) < ((y212.length : Int) : Int) := of_decide_eq_true (by first | (with_reducible assumption) | assumption); first | exact h_ | (have e_ := (Kd.R_reads' HO214.out).1; omega) | simpa using h_) (seg := [.int .i64 (wrap64 (2147483647 + (wrap64 (1 + (Go.bits .and .i64 a1 1023)))))]) (j := 1) hcl57 hcc57 (show 2 ≤ 3 from by decide) (x' := (⟨(rd_T72 y212 0).f0, wrap64 (2147483647 + (wrap64 (1 + (Go.bits .and .i64 a1 1023)))), (rd_T72 y212 0).f2⟩ : S72)) (k72_mkM _ _ _ (⟨(rd_T72 y212 0).f0, wrap64 (2147483647 + (wrap64 (1 + (Go.bits .and .i64 a1 1023)))), (rd_T72 y212 0).f2⟩ : S72) ) (fun _ hk => hk)
           have hx57_1 := hcc57 1 _ rfl
           (try simp only [show (k72).sz = 3 from rfl, Nat.mul_one, Nat.add_zero] at hx57_1)
           (try rw [show ((0 : Int)).toNat = 0 from rfl] at hx57_1)
           (try simp only [Nat.reduceMul, Nat.zero_mul, Nat.zero_add, Nat.reduceAdd] at hx57_1)
           have hf57_1 := hfr57 1
           (try simp only [show (k72).sz = 3 from rfl, Nat.mul_one, Nat.add_zero] at hf57_1)
           (try rw [show ((0 : Int)).toNat = 0 from rfl] at hf57_1)
           (try simp only [Nat.reduceMul, Nat.zero_mul, Nat.zero_add, Nat.reduceAdd] at hf57_1)
           clear hcl57 hcc57 hfr57 hM57
           go_wp2_with (first | ((with_reducible refine gate_store (t := 3) (p := 82) rfl ?_); refine store_event (t := 3) (p := 82) (v := ?vo_w58) (w1 := (w24.setCell ⟨go54, 1, none⟩ (.int .i64 (wrap64 (2147483647 + (wrap64 (1 + (Go.bits .and .i64 a1 1023)))))))) ?hg ?ho ?hn ?hr ?_; (case ho => rfl); (case hg => rfl); (case hn => rfl); (case hr => first | (go_simp; done) | (go_simp; rfl)); intro w58 hw; have hg : w24.grownBy w58 (some go54) := (by rw [hw]; exact HP57.2); have hp_ : Kd.R k72 72 w58 w.heap.size (fun k_ => some k_ ≠ (.slice Ao10 y205.length co10 : Value).ownBlock) (.slice (some ⟨go54, 0, none⟩) y212.length co21) y219 := (by rw [hw, Ny219.out]; exact HP57.1); clear HP57; have n0_ := Aside0.mk (Kd.R_after (v := (.slice (some ⟨go54, 0, none⟩) y212.length co21)) (v1 := (.slice (some ⟨go54, 0, none⟩) y212.length co21)) (ok := (fun _ => True)) (by exact Kd.R_mono HO207.out (fun _ hk => ⟨trivial, hk⟩)) hg (.inl rfl)); have n1_ := Aside0.mk (blk_grown (g := gb208) (o := .cells #[.int .i64 5, .slice Ao10 y205.length co10] 28 (0, 0)) (by exact BK208.out) hg (Kd.R_ne HO214.out BK208.out (by decide))); have n2_ := Aside0.mk (hp_); have n3_ := Aside0.mk (blk_grown (g := gb215) (o := .cells #[.int .i64 5, .slice (some ⟨go54, 0, none⟩) y212.length co21] 28 (0, 0)) (by exact BK215.out) hg (Kd.R_ne HO214.out BK215.out (by decide))); have n4_ := Aside0.mk ((by rw [hw]; exact below_set (HB.out) GB54.out : Below w.heap.size w w58)); clear HO207; clear BK208; clear HO214; clear BK215; clear HB; have HO207 := n0_; have BK208 := n1_; have HO214 := n2_; have BK215 := n3_; have HB := n4_; clear n0_ n1_ n2_ n3_ n4_; clear hg hw hp_))
           go_meet
           case rel => exact ⟨_, (y205), (5), (y219), (.slice Ao10 y205.length co10), (.slice (some ⟨go54, 0, none⟩) y212.length co21), H', ⟨by first | omega | exact Nat.le_refl _⟩, ⟨by exact Kd.R_mono HO207.out (fun _ hk => hk.2)⟩, ⟨by first | exact HO214.out | exact own_len HO214.out⟩, ⟨by exact BK208.out⟩, ⟨by exact BK215.out⟩, ⟨by repeat (first | (with_reducible first | exact HB.out | apply below_alloc | apply pw_below_drewN | apply below_drew1 | refine below_set ?_ GE208.out | refine below_set ?_ GE215.out) | exact HB.out)⟩⟩
          ·
           rw [if_neg c53] at H
           exact absurd H (by simp)
         ·
          rw [if_neg c52] at H
          have c52b0 : ((Int.tmod (IntKind.u64.wrap (a0)) 10) == 5) = false := beq_eq_false_iff_ne.mpr c52
          have c52b1 : ((Int.tmod (IntKind.u64.wrap (a0)) 10) != 5) = true := bne_iff_ne.mpr c52
          by_cases c59 : (Int.tmod (IntKind.u64.wrap (a0)) 10) = 6
          ·
           rw [if_pos c59] at H
           have c59b0 : ((Int.tmod (IntKind.u64.wrap (a0)) 10) == 6) = true := beq_iff_eq.mpr c59
           have c59b1 : ((Int.tmod (IntKind.u64.wrap (a0)) 10) != 6) = false := bne_eq_false_iff_eq.mpr c59
           clear c59
           by_cases c60 : 0 < (y212.length : Int)
           ·
            rw [if_pos c60] at H
            have c60b0 : decide (0 < (y212.length : Int)) = true := decide_eq_true c60
            have c60b1 : decide (0 < y212.length) = true := decide_eq_true (by omega)
            clear c60
            obtain ⟨y220, hy220⟩ : ∃ y_ : List (S72), y_ = (y212.set (0 : Int).toNat (⟨(rd_T72 y212 0).f0, (rd_T72 y212 0).f1, wrap64 (1 - (wrap64 (1 + (Go.bits .and .i64 a1 1023))))⟩ : S72)) := ⟨_, rfl⟩
            replace H : (cruciblelaw12_DiskForms.j0 k a0 (wrap64 (1 + (Go.bits .and .i64 a1 1023))) 5 y205 5 y220) = some r := by first | (rw [hy220]; with_reducible exact H) | (have H2_ := (Option.bind_some _ _).symm.trans H; rw [hy220]; with_reducible exact H2_) | (have H2_ := (Option.bind_some _ _).symm.trans H; with_reducible exact H2_) | with_reducible exact H | (rw [hy220]; exact H) | exact H
            have Ny220 := Aside0.mk hy220
            clear hy220
            have H' := Aside0.mk H
            clear H
            have hnb62 := NB215_208.out
            have hnc62 := NB208_215.out
            have hcz63_0 : w24.cell? ⟨gb215, 0, none⟩ = some (.int .i64 5) := (blk_cell BK215.out 0).trans rfl
            have hcz63_1 : w24.cell? ⟨gb215, 1, none⟩ = some (.slice Ao21 y212.length co21) := (blk_cell BK215.out 1).trans rfl
            have hfz63_0 := blk_frozen BK215.out 0
            have hfz63_1 := blk_frozen BK215.out 1
            have p61 : 0 ≤ (0 : Int) := (by omega)
            have q61 : (0 : Int) < ((y212.length : Int) : Int) := of_decide_eq_true (by first | (with_reducible assumption) | assumption)
            have qi61 : (0 < y212.length) = True := eq_true (by omega)
            obtain ⟨go61, co61, eo61, gb61, gl61, cl61, HG61⟩ := Kd.R_form HO214.out (by omega)
            (first | cases eo61 | (injection eo61 with ea_ en_ ec_; (first | subst ea_ | (injection ea_ with ea_; subst ea_)); subst ec_; clear en_))
            have GB61 := Aside0.mk gb61
            have GG61 := Aside0.mk HG61
            clear gb61 gl61 HG61
            obtain ⟨ce61, hcl61, hM61, hcc61, hfr61⟩ := Kd.R_elem HO214.out z72 (0 : Int) p61 q61
            obtain rfl := k72_openM hM61
            have hx61_0 : w24.cell? ⟨go61, (0 : Int).toNat * 3, none⟩ = some (.string ((rd_T72 y212 0).f0)) := hcc61 0 _ rfl
            have hx61_1 : w24.cell? ⟨go61, (0 : Int).toNat * 3 + 1, none⟩ = some (.int .i64 ((rd_T72 y212 0).f1)) := hcc61 1 _ rfl
            have hx61_2 : w24.cell? ⟨go61, (0 : Int).toNat * 3 + 2, none⟩ = some (.int .i64 ((rd_T72 y212 0).f2)) := hcc61 2 _ rfl
            have hf61_0 : w24.frozen? ⟨go61, (0 : Int).toNat * 3, none⟩ = false := hfr61 0
            have hf61_1 : w24.frozen? ⟨go61, (0 : Int).toNat * 3 + 1, none⟩ = false := hfr61 1
            have hf61_2 : w24.frozen? ⟨go61, (0 : Int).toNat * 3 + 2, none⟩ = false := hfr61 2
            clear hcl61 hcc61 hfr61 hM61
            (try rw [show ((0 : Int)).toNat = 0 from rfl] at hx61_0)
            (try simp only [Nat.reduceMul, Nat.zero_mul, Nat.zero_add, Nat.reduceAdd] at hx61_0)
            (try rw [show ((0 : Int)).toNat = 0 from rfl] at hf61_0)
            (try simp only [Nat.reduceMul, Nat.zero_mul, Nat.zero_add, Nat.reduceAdd] at hf61_0)
            (try rw [show ((0 : Int)).toNat = 0 from rfl] at hx61_1)
            (try simp only [Nat.reduceMul, Nat.zero_mul, Nat.zero_add, Nat.reduceAdd] at hx61_1)
            (try rw [show ((0 : Int)).toNat = 0 from rfl] at hf61_1)
            (try simp only [Nat.reduceMul, Nat.zero_mul, Nat.zero_add, Nat.reduceAdd] at hf61_1)
            (try rw [show ((0 : Int)).toNat = 0 from rfl] at hx61_2)
            (try simp only [Nat.reduceMul, Nat.zero_mul, Nat.zero_add, Nat.reduceAdd] at hx61_2)
            (try rw [show ((0 : Int)).toNat = 0 from rfl] at hf61_2)
            (try simp only [Nat.reduceMul, Nat.zero_mul, Nat.zero_add, Nat.reduceAdd] at hf61_2)
            replace p61 := eq_true p61
            replace q61 := eq_true q61
            have HX64 := Aside0.mk (show Kd.R k72 72 w24 w.heap.size (fun k_ => some k_ ≠ (.slice Ao10 y205.length co10 : Value).ownBlock) (.slice (some ⟨go61, 0, none⟩) y212.length co21) y212 from (by exact HO214.out))
            obtain ⟨ce64, hcl64, hM64, hcc64, hfr64⟩ := Kd.R_elem HX64.out z72 (0 : Int) (by omega) (by have h_ : (0 : Int) < ((y212.length : Int) : Int) := of_decide_eq_true (by first | (with_reducible assumption) | assumption); first | exact h_ | (have e_ := (Kd.R_reads' HO214.out).1; omega) | simpa using h_)
            obtain rfl := k72_openM hM64
            have HP64 := Kd.R_seg HX64.out (0 : Int) (by omega) (by have h_ : (0 : Int) < ((y212.length : Int) : Int) := of_decide_eq_true (by first | (with_reducible assumption) | assumption); first | exact h_ | (have e_ := (Kd.R_reads' HO214.out).1; omega) | simpa using h_) (seg := [.int .i64 (wrap64 (1 - (wrap64 (1 + (Go.bits .and .i64 a1 1023)))))]) (j := 2) hcl64 hcc64 (show 3 ≤ 3 from by decide) (x' := (⟨(rd_T72 y212 0).f0, (rd_T72 y212 0).f1, wrap64 (1 - (wrap64 (1 + (Go.bits .and .i64 a1 1023))))⟩ : S72)) (k72_mkM _ _ _ (⟨(rd_T72 y212 0).f0, (rd_T72 y212 0).f1, wrap64 (1 - (wrap64 (1 + (Go.bits .and .i64 a1 1023))))⟩ : S72) ) (fun _ hk => hk)
            have hx64_2 := hcc64 2 _ rfl
            (try simp only [show (k72).sz = 3 from rfl, Nat.mul_one, Nat.add_zero] at hx64_2)
            (try rw [show ((0 : Int)).toNat = 0 from rfl] at hx64_2)
            (try simp only [Nat.reduceMul, Nat.zero_mul, Nat.zero_add, Nat.reduceAdd] at hx64_2)
            have hf64_2 := hfr64 2
            (try simp only [show (k72).sz = 3 from rfl, Nat.mul_one, Nat.add_zero] at hf64_2)
            (try rw [show ((0 : Int)).toNat = 0 from rfl] at hf64_2)
            (try simp only [Nat.reduceMul, Nat.zero_mul, Nat.zero_add, Nat.reduceAdd] at hf64_2)
            clear hcl64 hcc64 hfr64 hM64
            go_wp2_with (first | ((with_reducible refine gate_store (t := 3) (p := 90) rfl ?_); refine store_event (t := 3) (p := 90) (v := ?vo_w65) (w1 := (w24.setCell ⟨go61, 2, none⟩ (.int .i64 (wrap64 (1 - (wrap64 (1 + (Go.bits .and .i64 a1 1023)))))))) ?hg ?ho ?hn ?hr ?_; (case ho => rfl); (case hg => rfl); (case hn => rfl); (case hr => first | (go_simp; done) | (go_simp; rfl)); intro w65 hw; have hg : w24.grownBy w65 (some go61) := (by rw [hw]; exact HP64.2); have hp_ : Kd.R k72 72 w65 w.heap.size (fun k_ => some k_ ≠ (.slice Ao10 y205.length co10 : Value).ownBlock) (.slice (some ⟨go61, 0, none⟩) y212.length co21) y220 := (by rw [hw, Ny220.out]; exact HP64.1); clear HP64; have n0_ := Aside0.mk (Kd.R_after (v := (.slice (some ⟨go61, 0, none⟩) y212.length co21)) (v1 := (.slice (some ⟨go61, 0, none⟩) y212.length co21)) (ok := (fun _ => True)) (by exact Kd.R_mono HO207.out (fun _ hk => ⟨trivial, hk⟩)) hg (.inl rfl)); have n1_ := Aside0.mk (blk_grown (g := gb208) (o := .cells #[.int .i64 5, .slice Ao10 y205.length co10] 28 (0, 0)) (by exact BK208.out) hg (Kd.R_ne HO214.out BK208.out (by decide))); have n2_ := Aside0.mk (hp_); have n3_ := Aside0.mk (blk_grown (g := gb215) (o := .cells #[.int .i64 5, .slice (some ⟨go61, 0, none⟩) y212.length co21] 28 (0, 0)) (by exact BK215.out) hg (Kd.R_ne HO214.out BK215.out (by decide))); have n4_ := Aside0.mk ((by rw [hw]; exact below_set (HB.out) GB61.out : Below w.heap.size w w65)); clear HO207; clear BK208; clear HO214; clear BK215; clear HB; have HO207 := n0_; have BK208 := n1_; have HO214 := n2_; have BK215 := n3_; have HB := n4_; clear n0_ n1_ n2_ n3_ n4_; clear hg hw hp_))
            go_meet
            case rel => exact ⟨_, (y205), (5), (y220), (.slice Ao10 y205.length co10), (.slice (some ⟨go61, 0, none⟩) y212.length co21), H', ⟨by first | omega | exact Nat.le_refl _⟩, ⟨by exact Kd.R_mono HO207.out (fun _ hk => hk.2)⟩, ⟨by first | exact HO214.out | exact own_len HO214.out⟩, ⟨by exact BK208.out⟩, ⟨by exact BK215.out⟩, ⟨by repeat (first | (with_reducible first | exact HB.out | apply below_alloc | apply pw_below_drewN | apply below_drew1 | refine below_set ?_ GE208.out | refine below_set ?_ GE215.out) | exact HB.out)⟩⟩
           ·
            rw [if_neg c60] at H
            exact absurd H (by simp)
          ·
           rw [if_neg c59] at H
           have c59b0 : ((Int.tmod (IntKind.u64.wrap (a0)) 10) == 6) = false := beq_eq_false_iff_ne.mpr c59
           have c59b1 : ((Int.tmod (IntKind.u64.wrap (a0)) 10) != 6) = true := bne_iff_ne.mpr c59
           by_cases c66 : (Int.tmod (IntKind.u64.wrap (a0)) 10) = 7
           ·
            rw [if_pos c66] at H
            have c66b0 : ((Int.tmod (IntKind.u64.wrap (a0)) 10) == 7) = true := beq_iff_eq.mpr c66
            have c66b1 : ((Int.tmod (IntKind.u64.wrap (a0)) 10) != 7) = false := bne_eq_false_iff_eq.mpr c66
            clear c66
            by_cases c67 : 0 < (y212.length : Int)
            ·
             rw [if_pos c67] at H
             have c67b0 : decide (0 < (y212.length : Int)) = true := decide_eq_true c67
             have c67b1 : decide (0 < y212.length) = true := decide_eq_true (by omega)
             clear c67
             obtain ⟨y221, hy221⟩ : ∃ y_ : List (S72), y_ = (y212.set (0 : Int).toNat (⟨(rd_T72 y212 0).f0, (rd_T72 y212 0).f1, wrap64 (5 + (wrap64 (1 + (Go.bits .and .i64 a1 1023))))⟩ : S72)) := ⟨_, rfl⟩
             replace H : (cruciblelaw12_DiskForms.j0 k a0 (wrap64 (1 + (Go.bits .and .i64 a1 1023))) 5 y205 5 y221) = some r := by first | (rw [hy221]; with_reducible exact H) | (have H2_ := (Option.bind_some _ _).symm.trans H; rw [hy221]; with_reducible exact H2_) | (have H2_ := (Option.bind_some _ _).symm.trans H; with_reducible exact H2_) | with_reducible exact H | (rw [hy221]; exact H) | exact H
             have Ny221 := Aside0.mk hy221
             clear hy221
             have H' := Aside0.mk H
             clear H
             have hnb69 := NB215_208.out
             have hnc69 := NB208_215.out
             have hcz70_0 : w24.cell? ⟨gb215, 0, none⟩ = some (.int .i64 5) := (blk_cell BK215.out 0).trans rfl
             have hcz70_1 : w24.cell? ⟨gb215, 1, none⟩ = some (.slice Ao21 y212.length co21) := (blk_cell BK215.out 1).trans rfl
             have hfz70_0 := blk_frozen BK215.out 0
             have hfz70_1 := blk_frozen BK215.out 1
             have p68 : 0 ≤ (0 : Int) := (by omega)
             have q68 : (0 : Int) < ((y212.length : Int) : Int) := of_decide_eq_true (by first | (with_reducible assumption) | assumption)
             have qi68 : (0 < y212.length) = True := eq_true (by omega)
             obtain ⟨go68, co68, eo68, gb68, gl68, cl68, HG68⟩ := Kd.R_form HO214.out (by omega)
             (first | cases eo68 | (injection eo68 with ea_ en_ ec_; (first | subst ea_ | (injection ea_ with ea_; subst ea_)); subst ec_; clear en_))
             have GB68 := Aside0.mk gb68
             have GG68 := Aside0.mk HG68
             clear gb68 gl68 HG68
             obtain ⟨ce68, hcl68, hM68, hcc68, hfr68⟩ := Kd.R_elem HO214.out z72 (0 : Int) p68 q68
             obtain rfl := k72_openM hM68
             have hx68_0 : w24.cell? ⟨go68, (0 : Int).toNat * 3, none⟩ = some (.string ((rd_T72 y212 0).f0)) := hcc68 0 _ rfl
             have hx68_1 : w24.cell? ⟨go68, (0 : Int).toNat * 3 + 1, none⟩ = some (.int .i64 ((rd_T72 y212 0).f1)) := hcc68 1 _ rfl
             have hx68_2 : w24.cell? ⟨go68, (0 : Int).toNat * 3 + 2, none⟩ = some (.int .i64 ((rd_T72 y212 0).f2)) := hcc68 2 _ rfl
             have hf68_0 : w24.frozen? ⟨go68, (0 : Int).toNat * 3, none⟩ = false := hfr68 0
             have hf68_1 : w24.frozen? ⟨go68, (0 : Int).toNat * 3 + 1, none⟩ = false := hfr68 1
             have hf68_2 : w24.frozen? ⟨go68, (0 : Int).toNat * 3 + 2, none⟩ = false := hfr68 2
             clear hcl68 hcc68 hfr68 hM68
             (try rw [show ((0 : Int)).toNat = 0 from rfl] at hx68_0)
             (try simp only [Nat.reduceMul, Nat.zero_mul, Nat.zero_add, Nat.reduceAdd] at hx68_0)
             (try rw [show ((0 : Int)).toNat = 0 from rfl] at hf68_0)
             (try simp only [Nat.reduceMul, Nat.zero_mul, Nat.zero_add, Nat.reduceAdd] at hf68_0)
             (try rw [show ((0 : Int)).toNat = 0 from rfl] at hx68_1)
             (try simp only [Nat.reduceMul, Nat.zero_mul, Nat.zero_add, Nat.reduceAdd] at hx68_1)
             (try rw [show ((0 : Int)).toNat = 0 from rfl] at hf68_1)
             (try simp only [Nat.reduceMul, Nat.zero_mul, Nat.zero_add, Nat.reduceAdd] at hf68_1)
             (try rw [show ((0 : Int)).toNat = 0 from rfl] at hx68_2)
             (try simp only [Nat.reduceMul, Nat.zero_mul, Nat.zero_add, Nat.reduceAdd] at hx68_2)
             (try rw [show ((0 : Int)).toNat = 0 from rfl] at hf68_2)
             (try simp only [Nat.reduceMul, Nat.zero_mul, Nat.zero_add, Nat.reduceAdd] at hf68_2)
             replace p68 := eq_true p68
             replace q68 := eq_true q68
             have HX71 := Aside0.mk (show Kd.R k72 72 w24 w.heap.size (fun k_ => some k_ ≠ (.slice Ao10 y205.length co10 : Value).ownBlock) (.slice (some ⟨go68, 0, none⟩) y212.length co21) y212 from (by exact HO214.out))
             obtain ⟨ce71, hcl71, hM71, hcc71, hfr71⟩ := Kd.R_elem HX71.out z72 (0 : Int) (by omega) (by have h_ : (0 : Int) < ((y212.length : Int) : Int) := of_decide_eq_true (by first | (with_reducible assumption) | assumption); first | exact h_ | (have e_ := (Kd.R_reads' HO214.out).1; omega) | simpa using h_)
             obtain rfl := k72_openM hM71
             have HP71 := Kd.R_seg HX71.out (0 : Int) (by omega) (by have h_ : (0 : Int) < ((y212.length : Int) : Int) := of_decide_eq_true (by first | (with_reducible assumption) | assumption); first | exact h_ | (have e_ := (Kd.R_reads' HO214.out).1; omega) | simpa using h_) (seg := [.int .i64 (wrap64 (5 + (wrap64 (1 + (Go.bits .and .i64 a1 1023)))))]) (j := 2) hcl71 hcc71 (show 3 ≤ 3 from by decide) (x' := (⟨(rd_T72 y212 0).f0, (rd_T72 y212 0).f1, wrap64 (5 + (wrap64 (1 + (Go.bits .and .i64 a1 1023))))⟩ : S72)) (k72_mkM _ _ _ (⟨(rd_T72 y212 0).f0, (rd_T72 y212 0).f1, wrap64 (5 + (wrap64 (1 + (Go.bits .and .i64 a1 1023))))⟩ : S72) ) (fun _ hk => hk)
             have hx71_2 := hcc71 2 _ rfl
             (try simp only [show (k72).sz = 3 from rfl, Nat.mul_one, Nat.add_zero] at hx71_2)
             (try rw [show ((0 : Int)).toNat = 0 from rfl] at hx71_2)
             (try simp only [Nat.reduceMul, Nat.zero_mul, Nat.zero_add, Nat.reduceAdd] at hx71_2)
             have hf71_2 := hfr71 2
             (try simp only [show (k72).sz = 3 from rfl, Nat.mul_one, Nat.add_zero] at hf71_2)
             (try rw [show ((0 : Int)).toNat = 0 from rfl] at hf71_2)
             (try simp only [Nat.reduceMul, Nat.zero_mul, Nat.zero_add, Nat.reduceAdd] at hf71_2)
             clear hcl71 hcc71 hfr71 hM71
             go_wp2_with (first | ((with_reducible refine gate_store (t := 3) (p := 98) rfl ?_); refine store_event (t := 3) (p := 98) (v := ?vo_w72) (w1 := (w24.setCell ⟨go68, 2, none⟩ (.int .i64 (wrap64 (5 + (wrap64 (1 + (Go.bits .and .i64 a1 1023)))))))) ?hg ?ho ?hn ?hr ?_; (case ho => rfl); (case hg => rfl); (case hn => rfl); (case hr => first | (go_simp; done) | (go_simp; rfl)); intro w72 hw; have hg : w24.grownBy w72 (some go68) := (by rw [hw]; exact HP71.2); have hp_ : Kd.R k72 72 w72 w.heap.size (fun k_ => some k_ ≠ (.slice Ao10 y205.length co10 : Value).ownBlock) (.slice (some ⟨go68, 0, none⟩) y212.length co21) y221 := (by rw [hw, Ny221.out]; exact HP71.1); clear HP71; have n0_ := Aside0.mk (Kd.R_after (v := (.slice (some ⟨go68, 0, none⟩) y212.length co21)) (v1 := (.slice (some ⟨go68, 0, none⟩) y212.length co21)) (ok := (fun _ => True)) (by exact Kd.R_mono HO207.out (fun _ hk => ⟨trivial, hk⟩)) hg (.inl rfl)); have n1_ := Aside0.mk (blk_grown (g := gb208) (o := .cells #[.int .i64 5, .slice Ao10 y205.length co10] 28 (0, 0)) (by exact BK208.out) hg (Kd.R_ne HO214.out BK208.out (by decide))); have n2_ := Aside0.mk (hp_); have n3_ := Aside0.mk (blk_grown (g := gb215) (o := .cells #[.int .i64 5, .slice (some ⟨go68, 0, none⟩) y212.length co21] 28 (0, 0)) (by exact BK215.out) hg (Kd.R_ne HO214.out BK215.out (by decide))); have n4_ := Aside0.mk ((by rw [hw]; exact below_set (HB.out) GB68.out : Below w.heap.size w w72)); clear HO207; clear BK208; clear HO214; clear BK215; clear HB; have HO207 := n0_; have BK208 := n1_; have HO214 := n2_; have BK215 := n3_; have HB := n4_; clear n0_ n1_ n2_ n3_ n4_; clear hg hw hp_))
             go_meet
             case rel => exact ⟨_, (y205), (5), (y221), (.slice Ao10 y205.length co10), (.slice (some ⟨go68, 0, none⟩) y212.length co21), H', ⟨by first | omega | exact Nat.le_refl _⟩, ⟨by exact Kd.R_mono HO207.out (fun _ hk => hk.2)⟩, ⟨by first | exact HO214.out | exact own_len HO214.out⟩, ⟨by exact BK208.out⟩, ⟨by exact BK215.out⟩, ⟨by repeat (first | (with_reducible first | exact HB.out | apply below_alloc | apply pw_below_drewN | apply below_drew1 | refine below_set ?_ GE208.out | refine below_set ?_ GE215.out) | exact HB.out)⟩⟩
            ·
             rw [if_neg c67] at H
             exact absurd H (by simp)
           ·
            rw [if_neg c66] at H
            have c66b0 : ((Int.tmod (IntKind.u64.wrap (a0)) 10) == 7) = false := beq_eq_false_iff_ne.mpr c66
            have c66b1 : ((Int.tmod (IntKind.u64.wrap (a0)) 10) != 7) = true := bne_iff_ne.mpr c66
            by_cases c73 : (Int.tmod (IntKind.u64.wrap (a0)) 10) = 8
            ·
             rw [if_pos c73] at H
             have c73b0 : ((Int.tmod (IntKind.u64.wrap (a0)) 10) == 8) = true := beq_iff_eq.mpr c73
             have c73b1 : ((Int.tmod (IntKind.u64.wrap (a0)) 10) != 8) = false := bne_eq_false_iff_eq.mpr c73
             clear c73
             by_cases c74 : 0 < (y212.length : Int)
             ·
              rw [if_pos c74] at H
              have c74b0 : decide (0 < (y212.length : Int)) = true := decide_eq_true c74
              have c74b1 : decide (0 < y212.length) = true := decide_eq_true (by omega)
              clear c74
              obtain ⟨y222, hy222⟩ : ∃ y_ : List (S72), y_ = (y212.set (0 : Int).toNat (⟨(rd_T72 y212 0).f0, (rd_T72 y212 0).f1, 2⟩ : S72)) := ⟨_, rfl⟩
              replace H : (cruciblelaw12_DiskForms.j0 k a0 (wrap64 (1 + (Go.bits .and .i64 a1 1023))) 5 y205 5 y222) = some r := by first | (rw [hy222]; with_reducible exact H) | (have H2_ := (Option.bind_some _ _).symm.trans H; rw [hy222]; with_reducible exact H2_) | (have H2_ := (Option.bind_some _ _).symm.trans H; with_reducible exact H2_) | with_reducible exact H | (rw [hy222]; exact H) | exact H
              have Ny222 := Aside0.mk hy222
              clear hy222
              have H' := Aside0.mk H
              clear H
              have hnb76 := NB215_208.out
              have hnc76 := NB208_215.out
              have hcz77_0 : w24.cell? ⟨gb215, 0, none⟩ = some (.int .i64 5) := (blk_cell BK215.out 0).trans rfl
              have hcz77_1 : w24.cell? ⟨gb215, 1, none⟩ = some (.slice Ao21 y212.length co21) := (blk_cell BK215.out 1).trans rfl
              have hfz77_0 := blk_frozen BK215.out 0
              have hfz77_1 := blk_frozen BK215.out 1
              have p75 : 0 ≤ (0 : Int) := (by omega)
              have q75 : (0 : Int) < ((y212.length : Int) : Int) := of_decide_eq_true (by first | (with_reducible assumption) | assumption)
              have qi75 : (0 < y212.length) = True := eq_true (by omega)
              obtain ⟨go75, co75, eo75, gb75, gl75, cl75, HG75⟩ := Kd.R_form HO214.out (by omega)
              (first | cases eo75 | (injection eo75 with ea_ en_ ec_; (first | subst ea_ | (injection ea_ with ea_; subst ea_)); subst ec_; clear en_))
              have GB75 := Aside0.mk gb75
              have GG75 := Aside0.mk HG75
              clear gb75 gl75 HG75
              obtain ⟨ce75, hcl75, hM75, hcc75, hfr75⟩ := Kd.R_elem HO214.out z72 (0 : Int) p75 q75
              obtain rfl := k72_openM hM75
              have hx75_0 : w24.cell? ⟨go75, (0 : Int).toNat * 3, none⟩ = some (.string ((rd_T72 y212 0).f0)) := hcc75 0 _ rfl
              have hx75_1 : w24.cell? ⟨go75, (0 : Int).toNat * 3 + 1, none⟩ = some (.int .i64 ((rd_T72 y212 0).f1)) := hcc75 1 _ rfl
              have hx75_2 : w24.cell? ⟨go75, (0 : Int).toNat * 3 + 2, none⟩ = some (.int .i64 ((rd_T72 y212 0).f2)) := hcc75 2 _ rfl
              have hf75_0 : w24.frozen? ⟨go75, (0 : Int).toNat * 3, none⟩ = false := hfr75 0
              have hf75_1 : w24.frozen? ⟨go75, (0 : Int).toNat * 3 + 1, none⟩ = false := hfr75 1
              have hf75_2 : w24.frozen? ⟨go75, (0 : Int).toNat * 3 + 2, none⟩ = false := hfr75 2
              clear hcl75 hcc75 hfr75 hM75
              (try rw [show ((0 : Int)).toNat = 0 from rfl] at hx75_0)
              (try simp only [Nat.reduceMul, Nat.zero_mul, Nat.zero_add, Nat.reduceAdd] at hx75_0)
              (try rw [show ((0 : Int)).toNat = 0 from rfl] at hf75_0)
              (try simp only [Nat.reduceMul, Nat.zero_mul, Nat.zero_add, Nat.reduceAdd] at hf75_0)
              (try rw [show ((0 : Int)).toNat = 0 from rfl] at hx75_1)
              (try simp only [Nat.reduceMul, Nat.zero_mul, Nat.zero_add, Nat.reduceAdd] at hx75_1)
              (try rw [show ((0 : Int)).toNat = 0 from rfl] at hf75_1)
              (try simp only [Nat.reduceMul, Nat.zero_mul, Nat.zero_add, Nat.reduceAdd] at hf75_1)
              (try rw [show ((0 : Int)).toNat = 0 from rfl] at hx75_2)
              (try simp only [Nat.reduceMul, Nat.zero_mul, Nat.zero_add, Nat.reduceAdd] at hx75_2)
              (try rw [show ((0 : Int)).toNat = 0 from rfl] at hf75_2)
              (try simp only [Nat.reduceMul, Nat.zero_mul, Nat.zero_add, Nat.reduceAdd] at hf75_2)
              replace p75 := eq_true p75
              replace q75 := eq_true q75
              have HX78 := Aside0.mk (show Kd.R k72 72 w24 w.heap.size (fun k_ => some k_ ≠ (.slice Ao10 y205.length co10 : Value).ownBlock) (.slice (some ⟨go75, 0, none⟩) y212.length co21) y212 from (by exact HO214.out))
              obtain ⟨ce78, hcl78, hM78, hcc78, hfr78⟩ := Kd.R_elem HX78.out z72 (0 : Int) (by omega) (by have h_ : (0 : Int) < ((y212.length : Int) : Int) := of_decide_eq_true (by first | (with_reducible assumption) | assumption); first | exact h_ | (have e_ := (Kd.R_reads' HO214.out).1; omega) | simpa using h_)
              obtain rfl := k72_openM hM78
              have HP78 := Kd.R_seg HX78.out (0 : Int) (by omega) (by have h_ : (0 : Int) < ((y212.length : Int) : Int) := of_decide_eq_true (by first | (with_reducible assumption) | assumption); first | exact h_ | (have e_ := (Kd.R_reads' HO214.out).1; omega) | simpa using h_) (seg := [.int .i64 2]) (j := 2) hcl78 hcc78 (show 3 ≤ 3 from by decide) (x' := (⟨(rd_T72 y212 0).f0, (rd_T72 y212 0).f1, 2⟩ : S72)) (k72_mkM _ _ _ (⟨(rd_T72 y212 0).f0, (rd_T72 y212 0).f1, 2⟩ : S72) ) (fun _ hk => hk)
              have hx78_2 := hcc78 2 _ rfl
              (try simp only [show (k72).sz = 3 from rfl, Nat.mul_one, Nat.add_zero] at hx78_2)
              (try rw [show ((0 : Int)).toNat = 0 from rfl] at hx78_2)
              (try simp only [Nat.reduceMul, Nat.zero_mul, Nat.zero_add, Nat.reduceAdd] at hx78_2)
              have hf78_2 := hfr78 2
              (try simp only [show (k72).sz = 3 from rfl, Nat.mul_one, Nat.add_zero] at hf78_2)
              (try rw [show ((0 : Int)).toNat = 0 from rfl] at hf78_2)
              (try simp only [Nat.reduceMul, Nat.zero_mul, Nat.zero_add, Nat.reduceAdd] at hf78_2)
              clear hcl78 hcc78 hfr78 hM78
              go_wp2_with (first | ((with_reducible refine gate_store (t := 3) (p := 104) rfl ?_); refine store_event (t := 3) (p := 104) (v := ?vo_w79) (w1 := (w24.setCell ⟨go75, 2, none⟩ (.int .i64 2))) ?hg ?ho ?hn ?hr ?_; (case ho => rfl); (case hg => rfl); (case hn => rfl); (case hr => first | (go_simp; done) | (go_simp; rfl)); intro w79 hw; have hg : w24.grownBy w79 (some go75) := (by rw [hw]; exact HP78.2); have hp_ : Kd.R k72 72 w79 w.heap.size (fun k_ => some k_ ≠ (.slice Ao10 y205.length co10 : Value).ownBlock) (.slice (some ⟨go75, 0, none⟩) y212.length co21) y222 := (by rw [hw, Ny222.out]; exact HP78.1); clear HP78; have n0_ := Aside0.mk (Kd.R_after (v := (.slice (some ⟨go75, 0, none⟩) y212.length co21)) (v1 := (.slice (some ⟨go75, 0, none⟩) y212.length co21)) (ok := (fun _ => True)) (by exact Kd.R_mono HO207.out (fun _ hk => ⟨trivial, hk⟩)) hg (.inl rfl)); have n1_ := Aside0.mk (blk_grown (g := gb208) (o := .cells #[.int .i64 5, .slice Ao10 y205.length co10] 28 (0, 0)) (by exact BK208.out) hg (Kd.R_ne HO214.out BK208.out (by decide))); have n2_ := Aside0.mk (hp_); have n3_ := Aside0.mk (blk_grown (g := gb215) (o := .cells #[.int .i64 5, .slice (some ⟨go75, 0, none⟩) y212.length co21] 28 (0, 0)) (by exact BK215.out) hg (Kd.R_ne HO214.out BK215.out (by decide))); have n4_ := Aside0.mk ((by rw [hw]; exact below_set (HB.out) GB75.out : Below w.heap.size w w79)); clear HO207; clear BK208; clear HO214; clear BK215; clear HB; have HO207 := n0_; have BK208 := n1_; have HO214 := n2_; have BK215 := n3_; have HB := n4_; clear n0_ n1_ n2_ n3_ n4_; clear hg hw hp_))
              go_meet
              case rel => exact ⟨_, (y205), (5), (y222), (.slice Ao10 y205.length co10), (.slice (some ⟨go75, 0, none⟩) y212.length co21), H', ⟨by first | omega | exact Nat.le_refl _⟩, ⟨by exact Kd.R_mono HO207.out (fun _ hk => hk.2)⟩, ⟨by first | exact HO214.out | exact own_len HO214.out⟩, ⟨by exact BK208.out⟩, ⟨by exact BK215.out⟩, ⟨by repeat (first | (with_reducible first | exact HB.out | apply below_alloc | apply pw_below_drewN | apply below_drew1 | refine below_set ?_ GE208.out | refine below_set ?_ GE215.out) | exact HB.out)⟩⟩
             ·
              rw [if_neg c74] at H
              exact absurd H (by simp)
            ·
             rw [if_neg c73] at H
             have c73b0 : ((Int.tmod (IntKind.u64.wrap (a0)) 10) == 8) = false := beq_eq_false_iff_ne.mpr c73
             have c73b1 : ((Int.tmod (IntKind.u64.wrap (a0)) 10) != 8) = true := bne_iff_ne.mpr c73
             by_cases c80 : 1 < (y212.length : Int)
             ·
              rw [if_pos c80] at H
              have c80b0 : decide (1 < (y212.length : Int)) = true := decide_eq_true c80
              have c80b1 : decide (1 < y212.length) = true := decide_eq_true (by omega)
              clear c80
              obtain ⟨y223, hy223⟩ : ∃ y_ : List (S72), y_ = (y212.set (1 : Int).toNat (⟨(⟨#[97]⟩ : ByteArray), (rd_T72 y212 1).f1, (rd_T72 y212 1).f2⟩ : S72)) := ⟨_, rfl⟩
              replace H : (cruciblelaw12_DiskForms.j0 k a0 (wrap64 (1 + (Go.bits .and .i64 a1 1023))) 5 y205 5 y223) = some r := by first | (rw [hy223]; with_reducible exact H) | (have H2_ := (Option.bind_some _ _).symm.trans H; rw [hy223]; with_reducible exact H2_) | (have H2_ := (Option.bind_some _ _).symm.trans H; with_reducible exact H2_) | with_reducible exact H | (rw [hy223]; exact H) | exact H
              have Ny223 := Aside0.mk hy223
              clear hy223
              have H' := Aside0.mk H
              clear H
              have hnb82 := NB215_208.out
              have hnc82 := NB208_215.out
              have hcz83_0 : w24.cell? ⟨gb215, 0, none⟩ = some (.int .i64 5) := (blk_cell BK215.out 0).trans rfl
              have hcz83_1 : w24.cell? ⟨gb215, 1, none⟩ = some (.slice Ao21 y212.length co21) := (blk_cell BK215.out 1).trans rfl
              have hfz83_0 := blk_frozen BK215.out 0
              have hfz83_1 := blk_frozen BK215.out 1
              have p81 : 0 ≤ (1 : Int) := (by omega)
              have q81 : (1 : Int) < ((y212.length : Int) : Int) := of_decide_eq_true (by first | (with_reducible assumption) | assumption)
              have qi81 : (1 < y212.length) = True := eq_true (by omega)
              obtain ⟨go81, co81, eo81, gb81, gl81, cl81, HG81⟩ := Kd.R_form HO214.out (by omega)
              (first | cases eo81 | (injection eo81 with ea_ en_ ec_; (first | subst ea_ | (injection ea_ with ea_; subst ea_)); subst ec_; clear en_))
              have GB81 := Aside0.mk gb81
              have GG81 := Aside0.mk HG81
              clear gb81 gl81 HG81
              obtain ⟨ce81, hcl81, hM81, hcc81, hfr81⟩ := Kd.R_elem HO214.out z72 (1 : Int) p81 q81
              obtain rfl := k72_openM hM81
              have hx81_0 : w24.cell? ⟨go81, (1 : Int).toNat * 3, none⟩ = some (.string ((rd_T72 y212 1).f0)) := hcc81 0 _ rfl
              have hx81_1 : w24.cell? ⟨go81, (1 : Int).toNat * 3 + 1, none⟩ = some (.int .i64 ((rd_T72 y212 1).f1)) := hcc81 1 _ rfl
              have hx81_2 : w24.cell? ⟨go81, (1 : Int).toNat * 3 + 2, none⟩ = some (.int .i64 ((rd_T72 y212 1).f2)) := hcc81 2 _ rfl
              have hf81_0 : w24.frozen? ⟨go81, (1 : Int).toNat * 3, none⟩ = false := hfr81 0
              have hf81_1 : w24.frozen? ⟨go81, (1 : Int).toNat * 3 + 1, none⟩ = false := hfr81 1
              have hf81_2 : w24.frozen? ⟨go81, (1 : Int).toNat * 3 + 2, none⟩ = false := hfr81 2
              clear hcl81 hcc81 hfr81 hM81
              (try rw [show ((1 : Int)).toNat = 1 from rfl] at hx81_0)
              (try simp only [Nat.reduceMul, Nat.zero_mul, Nat.zero_add, Nat.reduceAdd] at hx81_0)
              (try rw [show ((1 : Int)).toNat = 1 from rfl] at hf81_0)
              (try simp only [Nat.reduceMul, Nat.zero_mul, Nat.zero_add, Nat.reduceAdd] at hf81_0)
              (try rw [show ((1 : Int)).toNat = 1 from rfl] at hx81_1)
              (try simp only [Nat.reduceMul, Nat.zero_mul, Nat.zero_add, Nat.reduceAdd] at hx81_1)
              (try rw [show ((1 : Int)).toNat = 1 from rfl] at hf81_1)
              (try simp only [Nat.reduceMul, Nat.zero_mul, Nat.zero_add, Nat.reduceAdd] at hf81_1)
              (try rw [show ((1 : Int)).toNat = 1 from rfl] at hx81_2)
              (try simp only [Nat.reduceMul, Nat.zero_mul, Nat.zero_add, Nat.reduceAdd] at hx81_2)
              (try rw [show ((1 : Int)).toNat = 1 from rfl] at hf81_2)
              (try simp only [Nat.reduceMul, Nat.zero_mul, Nat.zero_add, Nat.reduceAdd] at hf81_2)
              replace p81 := eq_true p81
              replace q81 := eq_true q81
              have HX84 := Aside0.mk (show Kd.R k72 72 w24 w.heap.size (fun k_ => some k_ ≠ (.slice Ao10 y205.length co10 : Value).ownBlock) (.slice (some ⟨go81, 0, none⟩) y212.length co21) y212 from (by exact HO214.out))
              obtain ⟨ce84, hcl84, hM84, hcc84, hfr84⟩ := Kd.R_elem HX84.out z72 (1 : Int) (by omega) (by have h_ : (1 : Int) < ((y212.length : Int) : Int) := of_decide_eq_true (by first | (with_reducible assumption) | assumption); first | exact h_ | (have e_ := (Kd.R_reads' HO214.out).1; omega) | simpa using h_)
              obtain rfl := k72_openM hM84
              have HP84 := Kd.R_seg HX84.out (1 : Int) (by omega) (by have h_ : (1 : Int) < ((y212.length : Int) : Int) := of_decide_eq_true (by first | (with_reducible assumption) | assumption); first | exact h_ | (have e_ := (Kd.R_reads' HO214.out).1; omega) | simpa using h_) (seg := [.string (⟨#[97]⟩ : ByteArray)]) (j := 0) hcl84 hcc84 (show 1 ≤ 3 from by decide) (x' := (⟨(⟨#[97]⟩ : ByteArray), (rd_T72 y212 1).f1, (rd_T72 y212 1).f2⟩ : S72)) (k72_mkM _ _ _ (⟨(⟨#[97]⟩ : ByteArray), (rd_T72 y212 1).f1, (rd_T72 y212 1).f2⟩ : S72) ) (fun _ hk => hk)
              have hx84_0 := hcc84 0 _ rfl
              (try simp only [show (k72).sz = 3 from rfl, Nat.mul_one, Nat.add_zero] at hx84_0)
              (try rw [show ((1 : Int)).toNat = 1 from rfl] at hx84_0)
              (try simp only [Nat.reduceMul, Nat.zero_mul, Nat.zero_add, Nat.reduceAdd] at hx84_0)
              have hf84_0 := hfr84 0
              (try simp only [show (k72).sz = 3 from rfl, Nat.mul_one, Nat.add_zero] at hf84_0)
              (try rw [show ((1 : Int)).toNat = 1 from rfl] at hf84_0)
              (try simp only [Nat.reduceMul, Nat.zero_mul, Nat.zero_add, Nat.reduceAdd] at hf84_0)
              clear hcl84 hcc84 hfr84 hM84
              go_wp2_with (first | ((with_reducible refine gate_store (t := 9) (p := 44) rfl ?_); refine store_event (t := 9) (p := 44) (v := ?vo_w85) (w1 := (w24.setCell ⟨go81, 3, none⟩ (.string (⟨#[97]⟩ : ByteArray)))) ?hg ?ho ?hn ?hr ?_; (case ho => rfl); (case hg => rfl); (case hn => rfl); (case hr => first | (go_simp; done) | (go_simp; rfl)); intro w85 hw; have hg : w24.grownBy w85 (some go81) := (by rw [hw]; exact HP84.2); have hp_ : Kd.R k72 72 w85 w.heap.size (fun k_ => some k_ ≠ (.slice Ao10 y205.length co10 : Value).ownBlock) (.slice (some ⟨go81, 0, none⟩) y212.length co21) y223 := (by rw [hw, Ny223.out]; exact HP84.1); clear HP84; have n0_ := Aside0.mk (Kd.R_after (v := (.slice (some ⟨go81, 0, none⟩) y212.length co21)) (v1 := (.slice (some ⟨go81, 0, none⟩) y212.length co21)) (ok := (fun _ => True)) (by exact Kd.R_mono HO207.out (fun _ hk => ⟨trivial, hk⟩)) hg (.inl rfl)); have n1_ := Aside0.mk (blk_grown (g := gb208) (o := .cells #[.int .i64 5, .slice Ao10 y205.length co10] 28 (0, 0)) (by exact BK208.out) hg (Kd.R_ne HO214.out BK208.out (by decide))); have n2_ := Aside0.mk (hp_); have n3_ := Aside0.mk (blk_grown (g := gb215) (o := .cells #[.int .i64 5, .slice (some ⟨go81, 0, none⟩) y212.length co21] 28 (0, 0)) (by exact BK215.out) hg (Kd.R_ne HO214.out BK215.out (by decide))); have n4_ := Aside0.mk ((by rw [hw]; exact below_set (HB.out) GB81.out : Below w.heap.size w w85)); clear HO207; clear BK208; clear HO214; clear BK215; clear HB; have HO207 := n0_; have BK208 := n1_; have HO214 := n2_; have BK215 := n3_; have HB := n4_; clear n0_ n1_ n2_ n3_ n4_; clear hg hw hp_))
              go_meet
              case rel => exact ⟨_, (y205), (5), (y223), (.slice Ao10 y205.length co10), (.slice (some ⟨go81, 0, none⟩) y212.length co21), H', ⟨by first | omega | exact Nat.le_refl _⟩, ⟨by exact Kd.R_mono HO207.out (fun _ hk => hk.2)⟩, ⟨by first | exact HO214.out | exact own_len HO214.out⟩, ⟨by exact BK208.out⟩, ⟨by exact BK215.out⟩, ⟨by repeat (first | (with_reducible first | exact HB.out | apply below_alloc | apply pw_below_drewN | apply below_drew1 | refine below_set ?_ GE208.out | refine below_set ?_ GE215.out) | exact HB.out)⟩⟩
             ·
              rw [if_neg c80] at H
              exact absurd H (by simp)
   case rest =>
    clear HC6
    try clear c2
    try clear p2
    try clear c3
    try clear p3
    try clear q3
    try clear hx3
    try clear qi3
    try clear hf3
    try clear c4
    try clear p4
    try clear q4
    try clear hx4
    try clear qi4
    try clear hf4
    try clear c5
    try clear p5
    try clear q5
    try clear hx5
    try clear qi5
    try clear hf5
    try clear c6
    try clear p6
    try clear q6
    try clear hx6
    try clear qi6
    try clear hf6
    try clear c7
    try clear p7
    try clear q7
    try clear hx7
    try clear qi7
    try clear hf7
    try clear c8
    try clear p8
    try clear q8
    try clear hx8
    try clear qi8
    try clear hf8
    try clear c28
    try clear c28b0
    try clear c28b1
    try clear c29
    try clear c31
    try clear c31b0
    try clear c31b1
    try clear c32
    try clear c32b0
    try clear c32b1
    try clear c33
    try clear p33
    try clear q33
    try clear hx33
    try clear qi33
    try clear hf33
    try clear c34
    try clear c36
    try clear hx36
    try clear hf36
    try clear c38
    try clear c38b0
    try clear c38b1
    try clear c39
    try clear c39b0
    try clear c39b1
    try clear c40
    try clear p40
    try clear q40
    try clear hx40
    try clear qi40
    try clear hf40
    try clear c41
    try clear c43
    try clear hx43
    try clear hf43
    try clear c45
    try clear c45b0
    try clear c45b1
    try clear c46
    try clear c46b0
    try clear c46b1
    try clear c47
    try clear p47
    try clear q47
    try clear hx47
    try clear qi47
    try clear hf47
    try clear c48
    try clear c50
    try clear hx50
    try clear hf50
    try clear c52
    try clear c52b0
    try clear c52b1
    try clear c53
    try clear c53b0
    try clear c53b1
    try clear c54
    try clear p54
    try clear q54
    try clear hx54
    try clear qi54
    try clear hf54
    try clear c55
    try clear c57
    try clear hx57
    try clear hf57
    try clear c59
    try clear c59b0
    try clear c59b1
    try clear c60
    try clear c60b0
    try clear c60b1
    try clear c61
    try clear p61
    try clear q61
    try clear hx61
    try clear qi61
    try clear hf61
    try clear c62
    try clear c64
    try clear p64
    try clear hx64
    try clear hf64
    try clear c66
    try clear c66b0
    try clear c66b1
    try clear c67
    try clear c67b0
    try clear c67b1
    try clear c68
    try clear p68
    try clear q68
    try clear hx68
    try clear qi68
    try clear hf68
    try clear c69
    try clear c71
    try clear hx71
    try clear hf71
    try clear c73
    try clear c73b0
    try clear c73b1
    try clear c74
    try clear c74b0
    try clear c74b1
    try clear c75
    try clear p75
    try clear q75
    try clear hx75
    try clear qi75
    try clear hf75
    try clear c76
    try clear c78
    try clear hx78
    try clear hf78
    try clear c80
    try clear c80b0
    try clear c80b1
    try clear c81
    try clear p81
    try clear q81
    try clear hx81
    try clear qi81
    try clear hf81
    try clear c82
    try clear c84
    try clear hx84
    try clear hf84
    try clear hcz30_0
    try clear hcz30_1
    try clear hcz35_0
    try clear hcz35_1
    try clear hcz42_0
    try clear hcz42_1
    try clear hcz49_0
    try clear hcz49_1
    try clear hcz56_0
    try clear hcz56_1
    try clear hcz63_0
    try clear hcz63_1
    try clear hcz70_0
    try clear hcz70_1
    try clear hcz77_0
    try clear hcz77_1
    try clear hcz83_0
    try clear hcz83_1
    try clear hfz30_0
    try clear hfz30_1
    try clear hfz35_0
    try clear hfz35_1
    try clear hfz42_0
    try clear hfz42_1
    try clear hfz49_0
    try clear hfz49_1
    try clear hfz56_0
    try clear hfz56_1
    try clear hfz63_0
    try clear hfz63_1
    try clear hfz70_0
    try clear hfz70_1
    try clear hfz77_0
    try clear hfz77_1
    try clear hfz83_0
    try clear hfz83_1
    try clear hx33_0
    try clear hx33_1
    try clear hx33_2
    try clear hx36_0
    try clear hx40_0
    try clear hx40_1
    try clear hx40_2
    try clear hx43_0
    try clear hx47_0
    try clear hx47_1
    try clear hx47_2
    try clear hx50_1
    try clear hx54_0
    try clear hx54_1
    try clear hx54_2
    try clear hx57_1
    try clear hx61_0
    try clear hx61_1
    try clear hx61_2
    try clear hx64_2
    try clear hx68_0
    try clear hx68_1
    try clear hx68_2
    try clear hx71_2
    try clear hx75_0
    try clear hx75_1
    try clear hx75_2
    try clear hx78_2
    try clear hx81_0
    try clear hx81_1
    try clear hx81_2
    try clear hx84_0
    try clear p33
    try clear p40
    try clear p47
    try clear p54
    try clear p61
    try clear p68
    try clear p75
    try clear p81
    try clear q33
    try clear q40
    try clear q47
    try clear q54
    try clear q61
    try clear q68
    try clear q75
    try clear q81
    obtain ⟨kq, x209001_5, x216000_5, x216001_5, u209001, u216001, HA, HJ5, HO_209001, HO_216001, BK208, BK215, HB⟩ := hcut
    cases kq with
    | zero => exact absurd HA.out (by simp [cruciblelaw12_DiskForms.j0])
    | succ kj5 =>
     have H := HA.out
     clear HA
     simp only [cruciblelaw12_DiskForms.j0] at H
     replace H := Option.bind_eq_some_iff.mp H
     obtain ⟨⟨t224, t225, t228⟩, A860, H⟩ := H
     (try dsimp only at H)
     have A86 := Aside0.mk A860
     clear A860
     replace H := Option.bind_eq_some_iff.mp H
     obtain ⟨⟨t230, t231, t234⟩, A870, H⟩ := H
     (try dsimp only at H)
     have A87 := Aside0.mk A870
     clear A870
     replace H := Option.bind_eq_some_iff.mp H
     obtain ⟨⟨t236, t237, t238, t239⟩, A880, H⟩ := H
     (try dsimp only at H)
     have A88 := Aside0.mk A880
     clear A880
     obtain ⟨y241, hy241⟩ : ∃ y_ : List Int, y_ = (([wrap64 (-(wrap64 (1 + (Go.bits .and .i64 a1 1023)))), wrap64 (2147483647 + (wrap64 (1 + (Go.bits .and .i64 a1 1023))))] : List Int)) := ⟨_, rfl⟩
     replace H : (if 0 ≤ (Go.bits .and .i64 a0 1) then (if (Go.bits .and .i64 a0 1) < (y241.length : Int) then ((disk_Put.f kj5 5 x209001_5 (⟨#[120]⟩ : ByteArray) (rd y241 (Go.bits .and .i64 a0 1))).bind fun bt245 => ((disk_Remove.f kj5 5 x209001_5 (⟨#[47, 97]⟩ : ByteArray)).bind fun bt251 => ((disk_Remove.f kj5 5 x209001_5 (⟨#[120]⟩ : ByteArray)).bind fun bt257 => ((disk_Put.f kj5 1048576 x209001_5 (⟨#[97]⟩ : ByteArray) 1).bind fun bt263 => ((disk_May.f kj5 1048576 x209001_5).bind fun t269 => (if t269 = true then ((disk_May.f kj5 x216000_5 x216001_5).bind fun t270 => (if t270 = true then (none) else ((cruciblelaw0_Num.f t228).bind fun t271 => (if t271 = 1200 then ((cruciblelaw0_Num.f t234).bind fun t272 => (if t272 = 1200 then (if t239 = true then (none) else ((cruciblelaw0_Num.f bt245.2.2).bind fun t273 => (if t273 = 1200 then ((cruciblelaw0_Num.f bt251.2.2).bind fun t274 => (if t274 = 1200 then ((cruciblelaw0_Num.f bt257.2.2).bind fun t275 => (if t275 = 1202 then ((cruciblelaw0_Num.f bt263.2.2).bind fun t276 => (some (t276 == 1201))) else (none))) else (none))) else (none)))) else (none))) else (none))))) else (none))))))) else (none)) else (none)) = some r := by first | (rw [hy241]; with_reducible exact H) | (have H2_ := (Option.bind_some _ _).symm.trans H; rw [hy241]; with_reducible exact H2_) | (have H2_ := (Option.bind_some _ _).symm.trans H; with_reducible exact H2_) | with_reducible exact H | (rw [hy241]; exact H) | exact H
     have Ny241 := Aside0.mk hy241
     clear hy241
     by_cases c89 : 0 ≤ (Go.bits .and .i64 a0 1)
     ·
      rw [if_pos c89] at H
      have c89b0 : decide (0 ≤ (Go.bits .and .i64 a0 1)) = true := decide_eq_true c89
      clear c89
      by_cases c90 : (Go.bits .and .i64 a0 1) < (y241.length : Int)
      ·
       rw [if_pos c90] at H
       have c90b0 : decide ((Go.bits .and .i64 a0 1) < (y241.length : Int)) = true := decide_eq_true c90
       clear c90
       replace H := Option.bind_eq_some_iff.mp H
       obtain ⟨⟨t245, t246, t249⟩, A910, H⟩ := H
       (try dsimp only at H)
       have A91 := Aside0.mk A910
       clear A910
       replace H := Option.bind_eq_some_iff.mp H
       obtain ⟨⟨t251, t252, t255⟩, A920, H⟩ := H
       (try dsimp only at H)
       have A92 := Aside0.mk A920
       clear A920
       replace H := Option.bind_eq_some_iff.mp H
       obtain ⟨⟨t257, t258, t261⟩, A930, H⟩ := H
       (try dsimp only at H)
       have A93 := Aside0.mk A930
       clear A930
       replace H := Option.bind_eq_some_iff.mp H
       obtain ⟨⟨t263, t264, t267⟩, A940, H⟩ := H
       (try dsimp only at H)
       have A94 := Aside0.mk A940
       clear A940
       replace H := Option.bind_eq_some_iff.mp H
       obtain ⟨t269, A950, H⟩ := H
       (try dsimp only at H)
       have A95 := Aside0.mk A950
       clear A950
       by_cases c96 : t269 = true
       ·
        subst c96
        have H1 := H; rw [if_pos rfl] at H1
        clear H
        have H := H1
        clear H1
        replace H := Option.bind_eq_some_iff.mp H
        obtain ⟨t270, A970, H⟩ := H
        (try dsimp only at H)
        have A97 := Aside0.mk A970
        clear A970
        by_cases c98 : t270 = true
        ·
         subst c98
         have H1 := H; rw [if_pos rfl] at H1
         clear H
         have H := H1
         clear H1
         exact absurd H (by simp)
        ·
         replace c98 := Bool.eq_false_iff.mpr c98
         subst c98
         have H1 : ((cruciblelaw0_Num.f t228).bind fun t271 => (if t271 = 1200 then ((cruciblelaw0_Num.f t234).bind fun t272 => (if t272 = 1200 then (if t239 = true then (none) else ((cruciblelaw0_Num.f t249).bind fun t273 => (if t273 = 1200 then ((cruciblelaw0_Num.f t255).bind fun t274 => (if t274 = 1200 then ((cruciblelaw0_Num.f t261).bind fun t275 => (if t275 = 1202 then ((cruciblelaw0_Num.f t267).bind fun t276 => (some (t276 == 1201))) else (none))) else (none))) else (none)))) else (none))) else (none))) = some r := by rw [if_neg (show ¬ (false = true) by decide)] at H; exact H
         clear H
         have H := H1
         clear H1
         replace H := Option.bind_eq_some_iff.mp H
         obtain ⟨t271, A990, H⟩ := H
         (try dsimp only at H)
         have A99 := Aside0.mk A990
         clear A990
         by_cases c100 : t271 = 1200
         ·
          rw [if_pos c100] at H
          have c100b0 : (t271 == 1200) = true := beq_iff_eq.mpr c100
          have c100b1 : (t271 != 1200) = false := bne_eq_false_iff_eq.mpr c100
          clear c100
          replace H := Option.bind_eq_some_iff.mp H
          obtain ⟨t272, A1010, H⟩ := H
          (try dsimp only at H)
          have A101 := Aside0.mk A1010
          clear A1010
          by_cases c102 : t272 = 1200
          ·
           rw [if_pos c102] at H
           have c102b0 : (t272 == 1200) = true := beq_iff_eq.mpr c102
           have c102b1 : (t272 != 1200) = false := bne_eq_false_iff_eq.mpr c102
           clear c102
           by_cases c103 : t239 = true
           ·
            subst c103
            have H1 := H; rw [if_pos rfl] at H1
            clear H
            have H := H1
            clear H1
            exact absurd H (by simp)
           ·
            replace c103 := Bool.eq_false_iff.mpr c103
            subst c103
            have H1 : ((cruciblelaw0_Num.f t249).bind fun t273 => (if t273 = 1200 then ((cruciblelaw0_Num.f t255).bind fun t274 => (if t274 = 1200 then ((cruciblelaw0_Num.f t261).bind fun t275 => (if t275 = 1202 then ((cruciblelaw0_Num.f t267).bind fun t276 => (some (t276 == 1201))) else (none))) else (none))) else (none))) = some r := by rw [if_neg (show ¬ (false = true) by decide)] at H; exact H
            clear H
            have H := H1
            clear H1
            replace H := Option.bind_eq_some_iff.mp H
            obtain ⟨t273, A1040, H⟩ := H
            (try dsimp only at H)
            have A104 := Aside0.mk A1040
            clear A1040
            by_cases c105 : t273 = 1200
            ·
             rw [if_pos c105] at H
             have c105b0 : (t273 == 1200) = true := beq_iff_eq.mpr c105
             have c105b1 : (t273 != 1200) = false := bne_eq_false_iff_eq.mpr c105
             clear c105
             replace H := Option.bind_eq_some_iff.mp H
             obtain ⟨t274, A1060, H⟩ := H
             (try dsimp only at H)
             have A106 := Aside0.mk A1060
             clear A1060
             by_cases c107 : t274 = 1200
             ·
              rw [if_pos c107] at H
              have c107b0 : (t274 == 1200) = true := beq_iff_eq.mpr c107
              have c107b1 : (t274 != 1200) = false := bne_eq_false_iff_eq.mpr c107
              clear c107
              replace H := Option.bind_eq_some_iff.mp H
              obtain ⟨t275, A1080, H⟩ := H
              (try dsimp only at H)
              have A108 := Aside0.mk A1080
              clear A1080
              by_cases c109 : t275 = 1202
              ·
               rw [if_pos c109] at H
               have c109b0 : (t275 == 1202) = true := beq_iff_eq.mpr c109
               have c109b1 : (t275 != 1202) = false := bne_eq_false_iff_eq.mpr c109
               clear c109
               replace H := Option.bind_eq_some_iff.mp H
               obtain ⟨t276, A1100, H⟩ := H
               (try dsimp only at H)
               have A110 := Aside0.mk A1100
               clear A1100
               obtain rfl := Option.some.inj H
               have hnb111 := NB215_208.out
               have hnc111 := NB208_215.out
               have hcz112_0 : wc.cell? ⟨gb215, 0, none⟩ = some (.int .i64 x216000_5) := (blk_cell BK215.out 0).trans rfl
               have hcz112_1 : wc.cell? ⟨gb215, 1, none⟩ = some (u216001) := (blk_cell BK215.out 1).trans rfl
               have hfz112_0 := blk_frozen BK215.out 0
               have hfz112_1 := blk_frozen BK215.out 1
               obtain ⟨Ao113, co113, eo113⟩ := Kd.R_slice HO_216001.out
               subst eo113
               try go_wp2_with (first | ((with_reducible refine gate_callee (f := 38) rfl ?_); refine goesL_ (some 107) rfl rfl Tryd.func38 (by kernel_rfl) rfl #[.agg #[.int .i64 x216000_5, .slice Ao113 x216001_5.length co113], .string (⟨#[120]⟩ : ByteArray), .int .i64 1] rfl (by (try simp only [List.map_toArray, List.map_cons, List.map_nil]); first | done | rfl | (simp only [List.length_drop, List.length_take]; rfl)) ?_; (with_reducible refine (disk_Put.calls kj5 x216000_5 _ _ x216001_5 (⟨#[120]⟩ : ByteArray) 1 t224 t225 t228 _ ?side1 ?side2 A86.out).mono ?_); (case side1 => repeat (first | exact (Kd.R_reads' HO_216001.out).2.2 | (with_reducible refine Kd.C_alloc ?_ _) | (with_reducible refine Kd.C_drewN ?_ _) | (with_reducible refine Kd.C_drew ?_))); (case side2 => exact (Kd.R_reads' HO_216001.out).2.1); rintro e w114 ⟨v226, rfl, ho0, hb⟩; refine ⟨_, rfl, ?_⟩; have n0_ := Aside0.mk (Kd.R_elder' (by exact HO_209001.out) (Kd.R_base ho0) hb); have n1_ := Aside0.mk (Kd.R_elder' (by exact HO_216001.out) (Kd.R_base ho0) hb); have n2_ := Aside0.mk (Kd.R_lower (Kd.R_new' (Kd.R_new' ho0 (Kd.R_lt (by exact HO_209001.out))) (Kd.R_lt (by exact HO_216001.out))) (below_size (by repeat (first | (with_reducible first | exact HB.out | apply below_alloc | apply pw_below_drewN | apply below_drew1 | refine below_set ?_ GE208.out | refine below_set ?_ GE215.out) | exact HB.out)))); have n3_ := Aside0.mk (blk_below (g := gb208) (o := .cells #[.int .i64 5, u209001] 28 (0, 0)) (by exact BK208.out) hb); have n4_ := Aside0.mk (blk_below (g := gb215) (o := .cells #[.int .i64 x216000_5, .slice Ao113 x216001_5.length co113] 28 (0, 0)) (by exact BK215.out) hb); have n5_ := Aside0.mk (below_step (by repeat (first | (with_reducible first | exact HB.out | apply below_alloc | apply pw_below_drewN | apply below_drew1 | refine below_set ?_ GE208.out | refine below_set ?_ GE215.out) | exact HB.out)) hb); clear HO_209001; clear HO_216001; clear BK208; clear BK215; clear HB; have HO_209001 := n0_; have HO_216001 := n1_; have HO227 := n2_; have BK208 := n3_; have BK215 := n4_; have HB := n5_; clear n0_ n1_ n2_ n3_ n4_ n5_; (try clear hb); (try clear hb2); (try clear hk); (try clear hi); (try clear ho0)) | ((with_reducible refine gate_dst (N := 8) rfl ?_); refine box_event ?hg (N := 8) ?hd (cs := #[.int .i64 0, .slice none 0 0]) (t := 28) ?hr ?_; (case hd => rfl); (case hg => rfl); (case hr => first | (go_simp; done) | (go_simp; rfl)); intro gb229 hg w115 hbox hb; have n0_ := Aside0.mk (Kd.R_below (by exact HO_209001.out) hb); have n1_ := Aside0.mk (Kd.R_below (by exact HO_216001.out) hb); have n2_ := Aside0.mk (Kd.R_below (by exact HO227.out) hb); have n3_ := Aside0.mk (blk_below (g := gb208) (o := .cells #[.int .i64 5, u209001] 28 (0, 0)) (by exact BK208.out) hb); have n4_ := Aside0.mk (blk_below (g := gb215) (o := .cells #[.int .i64 x216000_5, .slice Ao113 x216001_5.length co113] 28 (0, 0)) (by exact BK215.out) hb); have n5_ := Aside0.mk (below_step (by repeat (first | (with_reducible first | exact HB.out | apply below_alloc | apply pw_below_drewN | apply below_drew1 | refine below_set ?_ GE208.out | refine below_set ?_ GE215.out) | exact HB.out)) hb); have n6_ := Aside0.mk (hbox); have n7_ := Aside0.mk ((by rw [hg]; exact (below_size (by repeat (first | (with_reducible first | exact HB.out | apply below_alloc | apply pw_below_drewN | apply below_drew1 | refine below_set ?_ GE208.out | refine below_set ?_ GE215.out) | exact HB.out))) : w.heap.size ≤ gb229)); have n8_ := Aside0.mk ((by rw [hg]; exact (below_size (by repeat (first | (with_reducible first | exact HB.out | apply below_alloc | apply pw_below_drewN | apply below_drew1 | refine below_set ?_ GE208.out | refine below_set ?_ GE215.out) | exact HB.out))) : w.heap.size ≤ gb229)); have n9_ := Aside0.mk ((by rw [hg]; exact Nat.ne_of_lt (blk_lt (g := gb208) (o := .cells #[.int .i64 5, u209001] 28 (0, 0)) (by exact BK208.out)) : gb208 ≠ gb229)); have n10_ := Aside0.mk ((by rw [hg]; exact Nat.ne_of_gt (blk_lt (g := gb208) (o := .cells #[.int .i64 5, u209001] 28 (0, 0)) (by exact BK208.out)) : gb229 ≠ gb208)); have n11_ := Aside0.mk ((by rw [hg]; exact Nat.ne_of_lt (blk_lt (g := gb215) (o := .cells #[.int .i64 x216000_5, .slice Ao113 x216001_5.length co113] 28 (0, 0)) (by exact BK215.out)) : gb215 ≠ gb229)); have n12_ := Aside0.mk ((by rw [hg]; exact Nat.ne_of_gt (blk_lt (g := gb215) (o := .cells #[.int .i64 x216000_5, .slice Ao113 x216001_5.length co113] 28 (0, 0)) (by exact BK215.out)) : gb229 ≠ gb215)); clear HO_209001; clear HO_216001; clear HO227; clear BK208; clear BK215; clear HB; have HO_209001 := n0_; have HO_216001 := n1_; have HO227 := n2_; have BK208 := n3_; have BK215 := n4_; have HB := n5_; have BK229 := n6_; have GW229 := n7_; have GE229 := n8_; have NB208_229 := n9_; have NB229_208 := n10_; have NB215_229 := n11_; have NB229_215 := n12_; clear n0_ n1_ n2_ n3_ n4_ n5_ n6_ n7_ n8_ n9_ n10_ n11_ n12_; clear hb hbox hg; have hnb116 := NB229_208.out; have hnc116 := NB208_229.out; have hnb117 := NB229_215.out; have hnc117 := NB215_229.out; have hcz118_0 : w115.cell? ⟨gb229, 0, none⟩ = some (.int .i64 0) := (blk_cell BK229.out 0).trans rfl; have hcz118_1 : w115.cell? ⟨gb229, 1, none⟩ = some (.slice none 0 0) := (blk_cell BK229.out 1).trans rfl; have hfz118_0 := blk_frozen BK229.out 0; have hfz118_1 := blk_frozen BK229.out 1; obtain ⟨Ao119, co119, eo119⟩ := Kd.R_slice HO227.out; subst eo119; have hcz120_0 : w115.cell? ⟨gb215, 0, none⟩ = some (.int .i64 x216000_5) := (blk_cell BK215.out 0).trans rfl; have hcz120_1 : w115.cell? ⟨gb215, 1, none⟩ = some (.slice Ao113 x216001_5.length co113) := (blk_cell BK215.out 1).trans rfl; have hfz120_0 := blk_frozen BK215.out 0; have hfz120_1 := blk_frozen BK215.out 1) | ((with_reducible refine gate_callee (f := 39) rfl ?_); refine goesL_ (some 112) rfl rfl Tryd.func39 (by kernel_rfl) rfl #[.agg #[.int .i64 x216000_5, .slice Ao113 x216001_5.length co113], .string (⟨#[98]⟩ : ByteArray)] rfl (by (try simp only [List.map_toArray, List.map_cons, List.map_nil]); first | done | rfl | (simp only [List.length_drop, List.length_take]; rfl)) ?_; (with_reducible refine (disk_Remove.calls kj5 x216000_5 _ _ x216001_5 (⟨#[98]⟩ : ByteArray) t230 t231 t234 _ ?side1 ?side2 A87.out).mono ?_); (case side1 => refine (Kd.R_reads' (e := 72) (base := w.heap.size) (ok := fun k_ => (some k_ ≠ (u209001 : Value).ownBlock ∧ some k_ ≠ (.slice Ao119 t225.length co119 : Value).ownBlock)) (n := x216001_5.length) (c := co113) ?_).2.2; exact (by exact (Kd.R_mono (Kd.R_far (p := ⟨gb229, 1, none⟩) (Kd.R_far (p := ⟨gb229, 0, none⟩) (Kd.R_types HO_216001.out BK229.out (by decide)) (fun _ hk => hk.2) (.int .i64 t224)) (fun _ hk => hk.2) (.slice Ao119 t225.length co119)) (fun _ h_ => h_.1)))); (case side2 => exact (Kd.R_reads' HO_216001.out).2.1); rintro e w121 ⟨v232, rfl, ho0, hb⟩; refine ⟨_, rfl, ?_⟩; have n0_ := Aside0.mk (Kd.R_elder' (by exact (Kd.R_mono (Kd.R_far (p := ⟨gb229, 1, none⟩) (Kd.R_far (p := ⟨gb229, 0, none⟩) (Kd.R_types HO_209001.out BK229.out (by decide)) (fun _ hk => hk.2) (.int .i64 t224)) (fun _ hk => hk.2) (.slice Ao119 t225.length co119)) (fun _ h_ => h_.1))) (Kd.R_base ho0) hb); have n1_ := Aside0.mk (Kd.R_elder' (by exact (Kd.R_mono (Kd.R_far (p := ⟨gb229, 1, none⟩) (Kd.R_far (p := ⟨gb229, 0, none⟩) (Kd.R_types HO_216001.out BK229.out (by decide)) (fun _ hk => hk.2) (.int .i64 t224)) (fun _ hk => hk.2) (.slice Ao119 t225.length co119)) (fun _ h_ => h_.1))) (Kd.R_base ho0) hb); have n2_ := Aside0.mk (Kd.R_elder' (by exact (Kd.R_mono (Kd.R_far (p := ⟨gb229, 1, none⟩) (Kd.R_far (p := ⟨gb229, 0, none⟩) (Kd.R_types HO227.out BK229.out (by decide)) (fun _ hk => hk.2) (.int .i64 t224)) (fun _ hk => hk.2) (.slice Ao119 t225.length co119)) (fun _ h_ => h_.1))) (Kd.R_base ho0) hb); have n3_ := Aside0.mk (Kd.R_lower (Kd.R_new' (Kd.R_new' (Kd.R_new' ho0 (Kd.R_lt (by exact (Kd.R_mono (Kd.R_far (p := ⟨gb229, 1, none⟩) (Kd.R_far (p := ⟨gb229, 0, none⟩) (Kd.R_types HO_209001.out BK229.out (by decide)) (fun _ hk => hk.2) (.int .i64 t224)) (fun _ hk => hk.2) (.slice Ao119 t225.length co119)) (fun _ h_ => h_.1))))) (Kd.R_lt (by exact (Kd.R_mono (Kd.R_far (p := ⟨gb229, 1, none⟩) (Kd.R_far (p := ⟨gb229, 0, none⟩) (Kd.R_types HO_216001.out BK229.out (by decide)) (fun _ hk => hk.2) (.int .i64 t224)) (fun _ hk => hk.2) (.slice Ao119 t225.length co119)) (fun _ h_ => h_.1))))) (Kd.R_lt (by exact (Kd.R_mono (Kd.R_far (p := ⟨gb229, 1, none⟩) (Kd.R_far (p := ⟨gb229, 0, none⟩) (Kd.R_types HO227.out BK229.out (by decide)) (fun _ hk => hk.2) (.int .i64 t224)) (fun _ hk => hk.2) (.slice Ao119 t225.length co119)) (fun _ h_ => h_.1))))) (below_size (by repeat (first | (with_reducible first | exact HB.out | apply below_alloc | apply pw_below_drewN | apply below_drew1 | refine below_set ?_ GE208.out | refine below_set ?_ GE215.out | refine below_set ?_ GE229.out) | exact HB.out)))); have n4_ := Aside0.mk (blk_below (g := gb208) (o := .cells #[.int .i64 5, u209001] 28 (0, 0)) (by refine blk_far ?_ NB208_229.out _; refine blk_far ?_ NB208_229.out _; exact BK208.out) hb); have n5_ := Aside0.mk (blk_below (g := gb215) (o := .cells #[.int .i64 x216000_5, .slice Ao113 x216001_5.length co113] 28 (0, 0)) (by refine blk_far ?_ NB215_229.out _; refine blk_far ?_ NB215_229.out _; exact BK215.out) hb); have n6_ := Aside0.mk (blk_below (g := gb229) (o := .cells #[.int .i64 t224, .slice Ao119 t225.length co119] 28 (0, 0)) (by refine blk_put (cs := #[.int .i64 t224, .slice none 0 0]) ?_ 1 _ rfl; refine blk_put (cs := #[.int .i64 0, .slice none 0 0]) ?_ 0 _ rfl; exact BK229.out) hb); have n7_ := Aside0.mk (below_step (by repeat (first | (with_reducible first | exact HB.out | apply below_alloc | apply pw_below_drewN | apply below_drew1 | refine below_set ?_ GE208.out | refine below_set ?_ GE215.out | refine below_set ?_ GE229.out) | exact HB.out)) hb); clear HO_209001; clear HO_216001; clear HO227; clear BK208; clear BK215; clear BK229; clear HB; have HO_209001 := n0_; have HO_216001 := n1_; have HO227 := n2_; have HO233 := n3_; have BK208 := n4_; have BK215 := n5_; have BK229 := n6_; have HB := n7_; clear n0_ n1_ n2_ n3_ n4_ n5_ n6_ n7_; (try clear hb); (try clear hb2); (try clear hk); (try clear hi); (try clear ho0); have n_ : Aside0 (Kd.R k72 72 w121 w.heap.size (fun k_ => some k_ ≠ (.slice Ao113 x216001_5.length co113 : Value).ownBlock ∧ some k_ ≠ (v232 : Value).ownBlock) u209001 x209001_5) := ⟨by exact Kd.R_mono HO_209001.out (fun _ hk => ⟨hk.1.1, hk.2⟩)⟩; clear HO_209001; have HO_209001 := n_; clear n_; have n_ : Aside0 (Kd.R k72 72 w121 w.heap.size (fun k_ => some k_ ≠ (u209001 : Value).ownBlock ∧ some k_ ≠ (v232 : Value).ownBlock) (.slice Ao113 x216001_5.length co113) x216001_5) := ⟨by exact Kd.R_mono HO_216001.out (fun _ hk => ⟨hk.1.1, hk.2⟩)⟩; clear HO_216001; have HO_216001 := n_; clear n_; have n_ : Aside0 (Kd.R k72 72 w121 w.heap.size (fun k_ => some k_ ≠ (u209001 : Value).ownBlock ∧ some k_ ≠ (.slice Ao113 x216001_5.length co113 : Value).ownBlock) v232 t231) := ⟨by exact Kd.R_mono HO233.out (fun _ hk => ⟨hk.1.1.2, hk.1.2⟩)⟩; clear HO233; have HO233 := n_; clear n_; (try clear BK229); (try clear HO227)) | ((with_reducible refine gate_dst (N := 10) rfl ?_); refine box_event ?hg (N := 10) ?hd (cs := #[.int .i64 0, .slice none 0 0]) (t := 28) ?hr ?_; (case hd => rfl); (case hg => rfl); (case hr => first | (go_simp; done) | (go_simp; rfl)); intro gb235 hg w122 hbox hb; have n0_ := Aside0.mk (Kd.R_below (by exact HO_209001.out) hb); have n1_ := Aside0.mk (Kd.R_below (by exact HO_216001.out) hb); have n2_ := Aside0.mk (Kd.R_below (by exact HO233.out) hb); have n3_ := Aside0.mk (blk_below (g := gb208) (o := .cells #[.int .i64 5, u209001] 28 (0, 0)) (by exact BK208.out) hb); have n4_ := Aside0.mk (blk_below (g := gb215) (o := .cells #[.int .i64 x216000_5, .slice Ao113 x216001_5.length co113] 28 (0, 0)) (by exact BK215.out) hb); have n5_ := Aside0.mk (below_step (by repeat (first | (with_reducible first | exact HB.out | apply below_alloc | apply pw_below_drewN | apply below_drew1 | refine below_set ?_ GE208.out | refine below_set ?_ GE215.out) | exact HB.out)) hb); have n6_ := Aside0.mk (hbox); have n7_ := Aside0.mk ((by rw [hg]; exact (below_size (by repeat (first | (with_reducible first | exact HB.out | apply below_alloc | apply pw_below_drewN | apply below_drew1 | refine below_set ?_ GE208.out | refine below_set ?_ GE215.out) | exact HB.out))) : w.heap.size ≤ gb235)); have n8_ := Aside0.mk ((by rw [hg]; exact (below_size (by repeat (first | (with_reducible first | exact HB.out | apply below_alloc | apply pw_below_drewN | apply below_drew1 | refine below_set ?_ GE208.out | refine below_set ?_ GE215.out) | exact HB.out))) : w.heap.size ≤ gb235)); have n9_ := Aside0.mk ((by rw [hg]; exact Nat.ne_of_lt (blk_lt (g := gb208) (o := .cells #[.int .i64 5, u209001] 28 (0, 0)) (by exact BK208.out)) : gb208 ≠ gb235)); have n10_ := Aside0.mk ((by rw [hg]; exact Nat.ne_of_gt (blk_lt (g := gb208) (o := .cells #[.int .i64 5, u209001] 28 (0, 0)) (by exact BK208.out)) : gb235 ≠ gb208)); have n11_ := Aside0.mk ((by rw [hg]; exact Nat.ne_of_lt (blk_lt (g := gb215) (o := .cells #[.int .i64 x216000_5, .slice Ao113 x216001_5.length co113] 28 (0, 0)) (by exact BK215.out)) : gb215 ≠ gb235)); have n12_ := Aside0.mk ((by rw [hg]; exact Nat.ne_of_gt (blk_lt (g := gb215) (o := .cells #[.int .i64 x216000_5, .slice Ao113 x216001_5.length co113] 28 (0, 0)) (by exact BK215.out)) : gb235 ≠ gb215)); clear HO_209001; clear HO_216001; clear HO233; clear BK208; clear BK215; clear HB; have HO_209001 := n0_; have HO_216001 := n1_; have HO233 := n2_; have BK208 := n3_; have BK215 := n4_; have HB := n5_; have BK235 := n6_; have GW235 := n7_; have GE235 := n8_; have NB208_235 := n9_; have NB235_208 := n10_; have NB215_235 := n11_; have NB235_215 := n12_; clear n0_ n1_ n2_ n3_ n4_ n5_ n6_ n7_ n8_ n9_ n10_ n11_ n12_; clear hb hbox hg; have hnb123 := NB235_208.out; have hnc123 := NB208_235.out; have hnb124 := NB235_215.out; have hnc124 := NB215_235.out; have hcz125_0 : w122.cell? ⟨gb235, 0, none⟩ = some (.int .i64 0) := (blk_cell BK235.out 0).trans rfl; have hcz125_1 : w122.cell? ⟨gb235, 1, none⟩ = some (.slice none 0 0) := (blk_cell BK235.out 1).trans rfl; have hfz125_0 := blk_frozen BK235.out 0; have hfz125_1 := blk_frozen BK235.out 1; obtain ⟨Ao126, co126, eo126⟩ := Kd.R_slice HO233.out; subst eo126; have hcz127_0 : w122.cell? ⟨gb215, 0, none⟩ = some (.int .i64 x216000_5) := (blk_cell BK215.out 0).trans rfl; have hcz127_1 : w122.cell? ⟨gb215, 1, none⟩ = some (.slice Ao113 x216001_5.length co113) := (blk_cell BK215.out 1).trans rfl; have hfz127_0 := blk_frozen BK215.out 0; have hfz127_1 := blk_frozen BK215.out 1) | ((with_reducible refine gate_callee (f := 41) rfl ?_); refine goesL_ (some 117) rfl rfl Tryd.func41 (by kernel_rfl) rfl #[.agg #[.int .i64 x216000_5, .slice Ao113 x216001_5.length co113], .string (⟨#[98]⟩ : ByteArray)] rfl (by (try simp only [List.map_toArray, List.map_cons, List.map_nil]); first | done | rfl | (simp only [List.length_drop, List.length_take]; rfl)) ?_; (with_reducible refine (disk_Find.calls kj5 x216000_5 _ _ x216001_5 (⟨#[98]⟩ : ByteArray) t236 t237 t238 false _ ?side1 ?side2 A88.out).mono ?_); (case side1 => refine (Kd.R_reads' (e := 72) (base := w.heap.size) (ok := fun k_ => (some k_ ≠ (u209001 : Value).ownBlock ∧ some k_ ≠ (.slice Ao126 t231.length co126 : Value).ownBlock)) (n := x216001_5.length) (c := co113) ?_).2.2; exact (by exact (Kd.R_mono (Kd.R_far (p := ⟨gb235, 1, none⟩) (Kd.R_far (p := ⟨gb235, 0, none⟩) (Kd.R_types HO_216001.out BK235.out (by decide)) (fun _ hk => hk.2) (.int .i64 t230)) (fun _ hk => hk.2) (.slice Ao126 t231.length co126)) (fun _ h_ => h_.1)))); (case side2 => exact (Kd.R_reads' HO_216001.out).2.1); rintro e w128 ⟨rfl, hb⟩; refine ⟨_, rfl, ?_⟩; have n0_ := Aside0.mk (Kd.R_below (by exact (Kd.R_mono (Kd.R_far (p := ⟨gb235, 1, none⟩) (Kd.R_far (p := ⟨gb235, 0, none⟩) (Kd.R_types HO_209001.out BK235.out (by decide)) (fun _ hk => hk.2) (.int .i64 t230)) (fun _ hk => hk.2) (.slice Ao126 t231.length co126)) (fun _ h_ => h_.1))) hb); have n1_ := Aside0.mk (Kd.R_below (by exact (Kd.R_mono (Kd.R_far (p := ⟨gb235, 1, none⟩) (Kd.R_far (p := ⟨gb235, 0, none⟩) (Kd.R_types HO_216001.out BK235.out (by decide)) (fun _ hk => hk.2) (.int .i64 t230)) (fun _ hk => hk.2) (.slice Ao126 t231.length co126)) (fun _ h_ => h_.1))) hb); have n2_ := Aside0.mk (Kd.R_below (by exact (Kd.R_mono (Kd.R_far (p := ⟨gb235, 1, none⟩) (Kd.R_far (p := ⟨gb235, 0, none⟩) (Kd.R_types HO233.out BK235.out (by decide)) (fun _ hk => hk.2) (.int .i64 t230)) (fun _ hk => hk.2) (.slice Ao126 t231.length co126)) (fun _ h_ => h_.1))) hb); have n3_ := Aside0.mk (blk_below (g := gb208) (o := .cells #[.int .i64 5, u209001] 28 (0, 0)) (by refine blk_far ?_ NB208_235.out _; refine blk_far ?_ NB208_235.out _; exact BK208.out) hb); have n4_ := Aside0.mk (blk_below (g := gb215) (o := .cells #[.int .i64 x216000_5, .slice Ao113 x216001_5.length co113] 28 (0, 0)) (by refine blk_far ?_ NB215_235.out _; refine blk_far ?_ NB215_235.out _; exact BK215.out) hb); have n5_ := Aside0.mk (blk_below (g := gb235) (o := .cells #[.int .i64 t230, .slice Ao126 t231.length co126] 28 (0, 0)) (by refine blk_put (cs := #[.int .i64 t230, .slice none 0 0]) ?_ 1 _ rfl; refine blk_put (cs := #[.int .i64 0, .slice none 0 0]) ?_ 0 _ rfl; exact BK235.out) hb); have n6_ := Aside0.mk (below_step (by repeat (first | (with_reducible first | exact HB.out | apply below_alloc | apply pw_below_drewN | apply below_drew1 | refine below_set ?_ GE208.out | refine below_set ?_ GE215.out | refine below_set ?_ GE235.out) | exact HB.out)) hb); clear HO_209001; clear HO_216001; clear HO233; clear BK208; clear BK215; clear BK235; clear HB; have HO_209001 := n0_; have HO_216001 := n1_; have HO233 := n2_; have BK208 := n3_; have BK215 := n4_; have BK235 := n5_; have HB := n6_; clear n0_ n1_ n2_ n3_ n4_ n5_ n6_; (try clear hb); (try clear hb2); (try clear hk); (try clear hi); have n_ : Aside0 (Kd.R k72 72 w128 w.heap.size (fun k_ => some k_ ≠ (.slice Ao113 x216001_5.length co113 : Value).ownBlock) u209001 x209001_5) := ⟨by exact Kd.R_mono HO_209001.out (fun _ hk => hk.1)⟩; clear HO_209001; have HO_209001 := n_; clear n_; have n_ : Aside0 (Kd.R k72 72 w128 w.heap.size (fun k_ => some k_ ≠ (u209001 : Value).ownBlock) (.slice Ao113 x216001_5.length co113) x216001_5) := ⟨by exact Kd.R_mono HO_216001.out (fun _ hk => hk.1)⟩; clear HO_216001; have HO_216001 := n_; clear n_; (try clear BK235); (try clear HO233)) | ((with_reducible refine gate_dst (N := 12) rfl ?_); refine box_event ?hg (N := 12) ?hd (cs := #[.string (⟨#[]⟩ : ByteArray), .int .i64 0, .int .i64 0]) (t := 72) ?hr ?_; (case hd => rfl); (case hg => rfl); (case hr => first | (go_simp; done) | (go_simp; rfl)); intro gb240 hg w129 hbox hb; have n0_ := Aside0.mk (Kd.R_below (Kd.R_elderB (by exact HO_209001.out) gb240 (Nat.le_of_eq hg.symm)) hb); have n1_ := Aside0.mk (Kd.R_below (Kd.R_elderB (by exact HO_216001.out) gb240 (Nat.le_of_eq hg.symm)) hb); have n2_ := Aside0.mk (blk_below (g := gb208) (o := .cells #[.int .i64 5, u209001] 28 (0, 0)) (by exact BK208.out) hb); have n3_ := Aside0.mk (blk_below (g := gb215) (o := .cells #[.int .i64 x216000_5, .slice Ao113 x216001_5.length co113] 28 (0, 0)) (by exact BK215.out) hb); have n4_ := Aside0.mk (below_step (by repeat (first | (with_reducible first | exact HB.out | apply below_alloc | apply pw_below_drewN | apply below_drew1 | refine below_set ?_ GE208.out | refine below_set ?_ GE215.out) | exact HB.out)) hb); have n5_ := Aside0.mk (hbox); have n6_ := Aside0.mk ((by rw [hg]; exact (below_size (by repeat (first | (with_reducible first | exact HB.out | apply below_alloc | apply pw_below_drewN | apply below_drew1 | refine below_set ?_ GE208.out | refine below_set ?_ GE215.out) | exact HB.out))) : w.heap.size ≤ gb240)); have n7_ := Aside0.mk ((by rw [hg]; exact (below_size (by repeat (first | (with_reducible first | exact HB.out | apply below_alloc | apply pw_below_drewN | apply below_drew1 | refine below_set ?_ GE208.out | refine below_set ?_ GE215.out) | exact HB.out))) : w.heap.size ≤ gb240)); have n8_ := Aside0.mk ((by rw [hg]; exact Nat.ne_of_lt (blk_lt (g := gb208) (o := .cells #[.int .i64 5, u209001] 28 (0, 0)) (by exact BK208.out)) : gb208 ≠ gb240)); have n9_ := Aside0.mk ((by rw [hg]; exact Nat.ne_of_gt (blk_lt (g := gb208) (o := .cells #[.int .i64 5, u209001] 28 (0, 0)) (by exact BK208.out)) : gb240 ≠ gb208)); have n10_ := Aside0.mk ((by rw [hg]; exact Nat.ne_of_lt (blk_lt (g := gb215) (o := .cells #[.int .i64 x216000_5, .slice Ao113 x216001_5.length co113] 28 (0, 0)) (by exact BK215.out)) : gb215 ≠ gb240)); have n11_ := Aside0.mk ((by rw [hg]; exact Nat.ne_of_gt (blk_lt (g := gb215) (o := .cells #[.int .i64 x216000_5, .slice Ao113 x216001_5.length co113] 28 (0, 0)) (by exact BK215.out)) : gb240 ≠ gb215)); clear HO_209001; clear HO_216001; clear BK208; clear BK215; clear HB; have HO_209001 := n0_; have HO_216001 := n1_; have BK208 := n2_; have BK215 := n3_; have HB := n4_; have BK240 := n5_; have GW240 := n6_; have GE240 := n7_; have NB208_240 := n8_; have NB240_208 := n9_; have NB215_240 := n10_; have NB240_215 := n11_; clear n0_ n1_ n2_ n3_ n4_ n5_ n6_ n7_ n8_ n9_ n10_ n11_; clear hb hbox hg; have hnb130 := NB240_208.out; have hnc130 := NB208_240.out; have hnb131 := NB240_215.out; have hnc131 := NB215_240.out; have hcz132_0 : w129.cell? ⟨gb240, 0, none⟩ = some (.string (⟨#[]⟩ : ByteArray)) := (blk_cell BK240.out 0).trans rfl; have hcz132_1 : w129.cell? ⟨gb240, 1, none⟩ = some (.int .i64 0) := (blk_cell BK240.out 1).trans rfl; have hcz132_2 : w129.cell? ⟨gb240, 2, none⟩ = some (.int .i64 0) := (blk_cell BK240.out 2).trans rfl; have hfz132_0 := blk_frozen BK240.out 0; have hfz132_1 := blk_frozen BK240.out 1; have hfz132_2 := blk_frozen BK240.out 2; obtain ⟨Ao133, co133, eo133⟩ := Kd.R_slice HO_209001.out; subst eo133))
               have pi244 : (0 ≤ ((Go.bits .and .i64 a0 1) : Int)) = True := eq_true (of_decide_eq_true (by first | (with_reducible assumption) | assumption))
               have qi244 : ((Go.bits .and .i64 a0 1) < (y241.length : Int)) = True := eq_true (of_decide_eq_true (by first | (with_reducible assumption) | assumption))
               have n0_ : Aside0 (Kd.R k72 72 (((w129.setCell ⟨gb240, 0, none⟩ (.string t236)).setCell ⟨gb240, 1, none⟩ (.int .i64 t237)).setCell ⟨gb240, 2, none⟩ (.int .i64 t238)) w.heap.size (fun k_ => some k_ ≠ (.slice Ao113 x216001_5.length co113 : Value).ownBlock ∧ k_ ≠ gb240) (.slice Ao133 x209001_5.length co133) x209001_5) := ⟨by exact Kd.R_mono (Kd.R_far (p := ⟨gb240, 2, none⟩) (Kd.R_far (p := ⟨gb240, 1, none⟩) (Kd.R_far (p := ⟨gb240, 0, none⟩) (Kd.R_mono HO_209001.out (fun k_ hk => (⟨hk, hk.2⟩ : _ ∧ k_ ≠ gb240))) (fun _ hk => hk.2) (.string t236)) (fun _ hk => hk.2) (.int .i64 t237)) (fun _ hk => hk.2) (.int .i64 t238)) (fun _ hk => ⟨hk.1.1, hk.1.2⟩)⟩
               have n1_ : Aside0 (Kd.R k72 72 (((w129.setCell ⟨gb240, 0, none⟩ (.string t236)).setCell ⟨gb240, 1, none⟩ (.int .i64 t237)).setCell ⟨gb240, 2, none⟩ (.int .i64 t238)) w.heap.size (fun k_ => some k_ ≠ (.slice Ao133 x209001_5.length co133 : Value).ownBlock ∧ k_ ≠ gb240) (.slice Ao113 x216001_5.length co113) x216001_5) := ⟨by exact Kd.R_mono (Kd.R_far (p := ⟨gb240, 2, none⟩) (Kd.R_far (p := ⟨gb240, 1, none⟩) (Kd.R_far (p := ⟨gb240, 0, none⟩) (Kd.R_mono HO_216001.out (fun k_ hk => (⟨hk, hk.2⟩ : _ ∧ k_ ≠ gb240))) (fun _ hk => hk.2) (.string t236)) (fun _ hk => hk.2) (.int .i64 t237)) (fun _ hk => hk.2) (.int .i64 t238)) (fun _ hk => ⟨hk.1.1, hk.1.2⟩)⟩
               have n2_ : Aside0 ((((w129.setCell ⟨gb240, 0, none⟩ (.string t236)).setCell ⟨gb240, 1, none⟩ (.int .i64 t237)).setCell ⟨gb240, 2, none⟩ (.int .i64 t238)).heap[gb208]? = some (.cells #[.int .i64 5, .slice Ao133 x209001_5.length co133] 28 (0, 0))) := ⟨by refine blk_far ?_ NB208_240.out _; refine blk_far ?_ NB208_240.out _; refine blk_far ?_ NB208_240.out _; exact BK208.out⟩
               have n3_ : Aside0 ((((w129.setCell ⟨gb240, 0, none⟩ (.string t236)).setCell ⟨gb240, 1, none⟩ (.int .i64 t237)).setCell ⟨gb240, 2, none⟩ (.int .i64 t238)).heap[gb215]? = some (.cells #[.int .i64 x216000_5, .slice Ao113 x216001_5.length co113] 28 (0, 0))) := ⟨by refine blk_far ?_ NB215_240.out _; refine blk_far ?_ NB215_240.out _; refine blk_far ?_ NB215_240.out _; exact BK215.out⟩
               have n4_ : Aside0 ((((w129.setCell ⟨gb240, 0, none⟩ (.string t236)).setCell ⟨gb240, 1, none⟩ (.int .i64 t237)).setCell ⟨gb240, 2, none⟩ (.int .i64 t238)).heap[gb240]? = some (.cells #[.string t236, .int .i64 t237, .int .i64 t238] 72 (0, 0))) := ⟨by refine blk_put (cs := #[.string t236, .int .i64 t237, .int .i64 0]) ?_ 2 _ rfl; refine blk_put (cs := #[.string t236, .int .i64 0, .int .i64 0]) ?_ 1 _ rfl; refine blk_put (cs := #[.string (⟨#[]⟩ : ByteArray), .int .i64 0, .int .i64 0]) ?_ 0 _ rfl; exact BK240.out⟩
               have n5_ : Aside0 (Below w.heap.size w (((w129.setCell ⟨gb240, 0, none⟩ (.string t236)).setCell ⟨gb240, 1, none⟩ (.int .i64 t237)).setCell ⟨gb240, 2, none⟩ (.int .i64 t238))) := ⟨by repeat (first | (with_reducible first | exact HB.out | apply below_alloc | apply pw_below_drewN | apply below_drew1 | refine below_set ?_ GE208.out | refine below_set ?_ GE215.out | refine below_set ?_ GE240.out) | exact HB.out)⟩
               (try clear HO_209001)
               (try clear HO_216001)
               (try clear BK208)
               (try clear BK215)
               (try clear BK240)
               (try clear HB)
               generalize (((w129.setCell ⟨gb240, 0, none⟩ (.string t236)).setCell ⟨gb240, 1, none⟩ (.int .i64 t237)).setCell ⟨gb240, 2, none⟩ (.int .i64 t238)) = w134 at n0_ n1_ n2_ n3_ n4_ n5_ ⊢
               have HO_209001 := n0_
               have HO_216001 := n1_
               have BK208 := n2_
               have BK215 := n3_
               have BK240 := n4_
               have HB := n5_
               clear n0_ n1_ n2_ n3_ n4_ n5_
               have n0_ := Aside0.mk (Kd.R_drew HO_209001.out)
               have n1_ := Aside0.mk (Kd.R_drew HO_216001.out)
               have n2_ := Aside0.mk (blk_drew BK208.out)
               have n3_ := Aside0.mk (blk_drew BK215.out)
               have n4_ := Aside0.mk (blk_drew BK240.out)
               have n5_ := Aside0.mk (below_drew1 HB.out)
               clear HO_209001
               clear HO_216001
               clear BK208
               clear BK215
               clear BK240
               clear HB
               have HO_209001 := n0_
               have HO_216001 := n1_
               have BK208 := n2_
               have BK215 := n3_
               have BK240 := n4_
               have HB := n5_
               clear n0_ n1_ n2_ n3_ n4_ n5_
               refine start_ (n := 17) (S := fun w' => w'.cell? ⟨gb208, 0, none⟩ = some (.int .i64 5) ∧ w'.cell? ⟨gb208, 1, none⟩ = some (.slice Ao133 x209001_5.length co133)) (ds := []) #[false, false, false, false, false, false, false, false, false, false, false, false, false, false, false, false, false] (by kernel_rfl) rfl rfl ⟨(blk_cell BK208.out 0).trans rfl, (blk_cell BK208.out 1).trans rfl⟩ (fun hHeld => ?_); refine with_tabW cruciblelaw12_DiskForms.tab29 cruciblelaw12_DiskForms.bits29 (fun HT_ HW_ => ?_)
               generalize w134.drew = w135 at HO_209001 HO_216001 BK208 BK215 BK240 HB hHeld ⊢
               refine pure_ (i := 1) (N := some 122) (v := ?_) (a' := ?_) #[false, true, false, false, false, false, false, false, false, false, false, false, false, false, false, false, false] rfl rfl (any_of HT_.out (by kernel_rfl)) (fun _ _ _ h => h) (Or.inl ⟨by rfl, ?_⟩) ?_ ?_
               rotate_left
               ·
                intro w'
                go_simp
                with_reducible rfl
               rotate_left
               ·
                simp only [Act.put, List.setIfInBounds_toArray, List.set_cons_zero, List.set_cons_succ, i64_w, i32_w]
                rfl
               refine pure_ (i := 2) (N := some 123) (v := ?_) (a' := ?_) #[false, true, true, false, false, false, false, false, false, false, false, false, false, false, false, false, false] rfl rfl (any_of HT_.out (by kernel_rfl)) (fun _ _ _ h => h) (Or.inl ⟨by rfl, ?_⟩) ?_ ?_
               rotate_left
               ·
                intro w'
                go_simp
                with_reducible rfl
               rotate_left
               ·
                simp only [Act.put, List.setIfInBounds_toArray, List.set_cons_zero, List.set_cons_succ, i64_w, i32_w]
                rfl
               refine pure_ (i := 3) (N := some 124) (v := ?_) (a' := ?_) #[false, true, true, true, false, false, false, false, false, false, false, false, false, false, false, false, false] rfl rfl (any_of HT_.out (by kernel_rfl)) (fun _ _ _ h => h) (Or.inl ⟨by rfl, ?_⟩) ?_ ?_
               rotate_left
               ·
                intro w'
                go_simp
                with_reducible rfl
               rotate_left
               ·
                simp only [Act.put, List.setIfInBounds_toArray, List.set_cons_zero, List.set_cons_succ, i64_w, i32_w]
                rfl
               refine pure_ (i := 4) (N := some 125) (v := ?_) (a' := ?_) #[false, true, true, true, true, false, false, false, false, false, false, false, false, false, false, false, false] rfl rfl (any_of HT_.out (by kernel_rfl)) (fun _ _ _ h => h) (Or.inl ⟨by rfl, ?_⟩) ?_ ?_
               rotate_left
               ·
                intro w'
                go_simp
                with_reducible rfl
               rotate_left
               ·
                simp only [Act.put, List.setIfInBounds_toArray, List.set_cons_zero, List.set_cons_succ, i64_w, i32_w]
                rfl
               refine pure_ (i := 6) (N := some 127) (v := ?_) (a' := ?_) #[false, true, true, true, true, false, true, false, false, false, false, false, false, false, false, false, false] rfl rfl (any_of HT_.out (by kernel_rfl)) (fun _ _ _ h => h) (Or.inl ⟨by rfl, ?_⟩) ?_ ?_
               rotate_left
               ·
                intro w'
                go_simp
                with_reducible rfl
               rotate_left
               ·
                simp only [Act.put, List.setIfInBounds_toArray, List.set_cons_zero, List.set_cons_succ, i64_w, i32_w]
                rfl
               refine pure_ (i := 7) (N := some 128) (v := ?_) (a' := ?_) #[false, true, true, true, true, false, true, true, false, false, false, false, false, false, false, false, false] rfl rfl (any_of HT_.out (by kernel_rfl)) (fun _ _ _ h => h) (Or.inl ⟨by rfl, ?_⟩) ?_ ?_
               rotate_left
               ·
                intro w'
                go_simp
                with_reducible rfl
               rotate_left
               ·
                simp only [Act.put, List.setIfInBounds_toArray, List.set_cons_zero, List.set_cons_succ, i64_w, i32_w]
                rfl
               refine take_ (i := 0) (N := some 121) (v := ?_) (a' := ?_) #[true, true, true, true, true, false, true, true, false, false, false, false, false, false, false, false, false] rfl rfl (take_ofW HT_.out HW_.out (by kernel_rfl)) (fun _ _ _ h => h) (Or.inl ⟨by rfl, ?_⟩) hHeld ?_ ?_
               rotate_left
               ·
                rintro w' ⟨s0, s1⟩
                go_simp
                with_reducible rfl
               rotate_left
               ·
                simp only [Act.put, List.setIfInBounds_toArray, List.set_cons_zero, List.set_cons_succ, i64_w, i32_w]
                rfl
               refine join_ (σ := Value × Addr × Value × Nat) 2 #[true, true, true, true, true, true, true, true, true, true, true, true, true, true, true, false, false] (fun s_ => [(126, s_.1), (130, .int .i64 (rd y241 (Go.bits .and .i64 a0 1))), (131, .tuple #[.agg #[.int .i64 t245, s_.2.2.1], .int .i64 t249]), (14, .pointer (some ⟨s_.2.2.2, 0, none⟩)), (129, .pointer (some (s_.2.1.add ((Go.bits .and .i64 a0 1)).toNat))), (120, .tuple #[.agg #[.int .i64 t245, s_.2.2.1], .int .i64 t249]), (132, .agg #[.int .i64 t245, s_.2.2.1]), (133, .int .i64 t249)]) (fun s_ w' => (w'.cell? ⟨gb208, 0, none⟩ = some (.int .i64 5) ∧ w'.cell? ⟨gb208, 1, none⟩ = some (.slice Ao133 x209001_5.length co133)) ∧ (Kd.R (Kd.int .i64) 3 w' w.heap.size (fun _ => True) s_.1 y241) ∧ (Kd.R k72 72 w' w.heap.size (fun k_ => some k_ ≠ (.slice Ao133 x209001_5.length co133 : Value).ownBlock ∧ some k_ ≠ (.slice Ao113 x216001_5.length co113 : Value).ownBlock ∧ k_ ≠ gb240) s_.2.2.1 t246) ∧ (Kd.R k72 72 w' w.heap.size (fun k_ => some k_ ≠ (s_.2.2.1 : Value).ownBlock ∧ some k_ ≠ (.slice Ao113 x216001_5.length co113 : Value).ownBlock ∧ k_ ≠ gb240) (.slice Ao133 x209001_5.length co133) x209001_5) ∧ (Kd.R k72 72 w' w.heap.size (fun k_ => some k_ ≠ (s_.2.2.1 : Value).ownBlock ∧ some k_ ≠ (.slice Ao133 x209001_5.length co133 : Value).ownBlock ∧ k_ ≠ gb240) (.slice Ao113 x216001_5.length co113) x216001_5) ∧ (∃ c_, (s_.1 : Value) = .slice (some s_.2.1) y241.length c_) ∧ (w'.heap[gb208]? = some (.cells #[.int .i64 5, .slice Ao133 x209001_5.length co133] 28 (0, 0))) ∧ (w'.heap[gb215]? = some (.cells #[.int .i64 x216000_5, .slice Ao113 x216001_5.length co113] 28 (0, 0))) ∧ (w'.heap[gb240]? = some (.cells #[.string t236, .int .i64 t237, .int .i64 t238] 72 (0, 0))) ∧ (w'.heap[s_.2.2.2]? = some (.cells #[.int .i64 0, .slice none 0 0] 28 (0, 0))) ∧ (w.heap.size ≤ s_.2.2.2) ∧ (w.heap.size ≤ s_.2.2.2) ∧ (gb208 ≠ s_.2.2.2) ∧ (s_.2.2.2 ≠ gb208) ∧ (gb215 ≠ s_.2.2.2) ∧ (s_.2.2.2 ≠ gb215) ∧ (gb240 ≠ s_.2.2.2) ∧ (s_.2.2.2 ≠ gb240) ∧ (Below w.heap.size w w')) ?_ ?_
               rotate_left
               ·
                intro hCont
                refine two_ (i := 5) (j := 14) (Ni := some 126) (Nj := some 14) #[true, true, true, true, true, true, true, true, false, false, false, false, false, false, false, false, false] #[true, true, true, true, true, false, true, true, false, false, false, false, false, false, true, false, false] rfl rfl rfl rfl (two_of HT_.out (by kernel_rfl)) (by decide) (by decide) (fun K hK => ?_) (fun K hK => ?_)
                ·
                 skip
                 refine Kd.R_lit_step (Kd.int .i64) _ 3 ?hg (N := 126) ?hd (xs := ([wrap64 (-(wrap64 (1 + (Go.bits .and .i64 a1 1023)))), wrap64 (2147483647 + (wrap64 (1 + (Go.bits .and .i64 a1 1023))))] : List Int)) (inner := [.int .i64 (wrap64 (-(wrap64 (1 + (Go.bits .and .i64 a1 1023))))), .int .i64 (wrap64 (2147483647 + (wrap64 (1 + (Go.bits .and .i64 a1 1023)))))]) (ok := fun _ => True) (okp := fun _ => True) ?hr ?hp (fun _ hk => hk) trivial (Below.refl _ _) (Nat.le_refl _) (by simp) ?_; (case hd => rfl); (case hg => rfl); (case hr => first | (go_simp; done) | (go_simp; rfl)); (case hp => exact (Reps.one (show Kd.M (Kd.int .i64) _ _ _ (wrap64 (-(wrap64 (1 + (Go.bits .and .i64 a1 1023))))) [.int .i64 (wrap64 (-(wrap64 (1 + (Go.bits .and .i64 a1 1023)))))] from rfl) (Reps.one (show Kd.M (Kd.int .i64) _ _ _ (wrap64 (2147483647 + (wrap64 (1 + (Go.bits .and .i64 a1 1023))))) [.int .i64 (wrap64 (2147483647 + (wrap64 (1 + (Go.bits .and .i64 a1 1023)))))] from rfl) (Reps.none _ _))))
                 intro v242 w136 ho137 hb hg_ hnew_
                 clear hg_ hnew_
                 (first | rw [← Ny241.out] at ho137 | (simp only [Int.reduceToNat] at ho137; rw [← Ny241.out] at ho137))
                 have n0_ := Aside0.mk (Kd.R_below (by exact HO_209001.out) hb)
                 have n1_ := Aside0.mk (Kd.R_below (by exact HO_216001.out) hb)
                 have n2_ := Aside0.mk (Kd.R_lower ho137 (below_size (by repeat (first | (with_reducible first | exact HB.out | apply below_alloc | apply pw_below_drewN | apply below_drew1 | refine below_set ?_ GE208.out | refine below_set ?_ GE215.out | refine below_set ?_ GE240.out) | exact HB.out))))
                 have n3_ := Aside0.mk (blk_below (g := gb208) (o := .cells #[.int .i64 5, .slice Ao133 x209001_5.length co133] 28 (0, 0)) (by exact BK208.out) hb)
                 have n4_ := Aside0.mk (blk_below (g := gb215) (o := .cells #[.int .i64 x216000_5, .slice Ao113 x216001_5.length co113] 28 (0, 0)) (by exact BK215.out) hb)
                 have n5_ := Aside0.mk (blk_below (g := gb240) (o := .cells #[.string t236, .int .i64 t237, .int .i64 t238] 72 (0, 0)) (by exact BK240.out) hb)
                 have n6_ := Aside0.mk (below_step (by repeat (first | (with_reducible first | exact HB.out | apply below_alloc | apply pw_below_drewN | apply below_drew1 | refine below_set ?_ GE208.out | refine below_set ?_ GE215.out | refine below_set ?_ GE240.out) | exact HB.out)) hb)
                 clear HO_209001
                 clear HO_216001
                 clear BK208
                 clear BK215
                 clear BK240
                 clear HB
                 have HO_209001 := n0_
                 have HO_216001 := n1_
                 have HO243 := n2_
                 have BK208 := n3_
                 have BK215 := n4_
                 have BK240 := n5_
                 have HB := n6_
                 clear n0_ n1_ n2_ n3_ n4_ n5_ n6_
                 clear hb ho137
                 obtain ⟨Ao138, co138, eo138⟩ := Kd.R_slice HO243.out
                 subst eo138
                 obtain ⟨ado138, fo138, _⟩ := Kd.at_int (Kd.R_reads' HO243.out).2.2 0 (by decide) (by rw [Ny241.out]; simp)
                 cases fo138
                 refine hK.out _ _ ⟨(blk_cell BK208.out 0).trans rfl, (blk_cell BK208.out 1).trans rfl⟩ (fun hHeld => ?_)
                 clear hK K
                 refine norm_ (a' := ?_) ?_ ?_
                 rotate_left
                 ·
                  show Act.put _ (some 126) _ = _
                  simp only [Act.put, List.setIfInBounds_toArray, List.set_cons_zero, List.set_cons_succ, i64_w, i32_w]
                  rfl
                 refine pure_ (i := 8) (N := some 129) (v := ?_) (a' := ?_) #[true, true, true, true, true, true, true, true, true, false, false, false, false, false, false, false, false] rfl rfl (any_of HT_.out (by kernel_rfl)) (fun _ _ _ h => h) (Or.inl ⟨by rfl, ?_⟩) ?_ ?_
                 rotate_left
                 ·
                  intro w'
                  go_simp
                  with_reducible rfl
                 rotate_left
                 ·
                  simp only [Act.put, List.setIfInBounds_toArray, List.set_cons_zero, List.set_cons_succ, i64_w, i32_w]
                  rfl
                 refine two_ (i := 9) (j := 14) (Ni := some 130) (Nj := some 14) #[true, true, true, true, true, true, true, true, true, true, false, false, false, false, false, false, false] #[true, true, true, true, true, true, true, true, true, false, false, false, false, false, true, false, false] rfl rfl rfl rfl (two_of HT_.out (by kernel_rfl)) (by decide) (by decide) (fun K hK => ?_) (fun K hK => ?_)
                 ·
                  skip
                  (have p244 : 0 ≤ ((Go.bits .and .i64 a0 1) : Int) := of_decide_eq_true (by first | (with_reducible assumption) | assumption); have q244 : (Go.bits .and .i64 a0 1) < (y241.length : Int) := of_decide_eq_true (by first | (with_reducible assumption) | assumption); obtain ⟨ad244, e244, hx244_0⟩ := Kd.at_int (Kd.R_reads' HO243.out).2.2 (Go.bits .and .i64 a0 1) p244 q244; obtain rfl : ado138 = ad244 := (by injection e244))
                  refine value_ (w1 := ?_) (v := ?_) (by rfl) rfl ?_ ?_
                  rotate_left 2
                  ·
                   go_simp
                   constructor
                   ·
                    rfl
                   ·
                    rfl
                  clear hx244_0
                  refine hK.out _ _ ⟨(blk_cell BK208.out 0).trans rfl, (blk_cell BK208.out 1).trans rfl⟩ (fun hHeld => ?_)
                  clear hK K
                  refine norm_ (a' := ?_) ?_ ?_
                  rotate_left
                  ·
                   show Act.put _ (some 130) _ = _
                   simp only [Act.put, List.setIfInBounds_toArray, List.set_cons_zero, List.set_cons_succ, i64_w, i32_w]
                   rfl
                  refine two_ (i := 10) (j := 14) (Ni := some 131) (Nj := some 14) #[true, true, true, true, true, true, true, true, true, true, true, false, false, false, false, false, false] #[true, true, true, true, true, true, true, true, true, true, false, false, false, false, true, false, false] rfl rfl rfl rfl (two_of HT_.out (by kernel_rfl)) (by decide) (by decide) (fun K hK => ?_) (fun K hK => ?_)
                  ·
                   skip
                   refine goes_ Tryd.func38 (by kernel_rfl) rfl #[.agg #[.int .i64 5, .slice Ao133 x209001_5.length co133], .string (⟨#[120]⟩ : ByteArray), .int .i64 (rd y241 (Go.bits .and .i64 a0 1))] (by rfl) rfl rfl (by (try simp only [List.map_toArray, List.map_cons, List.map_nil]); first | done | rfl | (simp only [List.length_drop, List.length_take]; rfl)) ?_
                   with_reducible refine (disk_Put.calls kj5 5 _ _ x209001_5 (⟨#[120]⟩ : ByteArray) (rd y241 (Go.bits .and .i64 a0 1)) t245 t246 t249 _ ?side1 ?side2 A91.out).mono ?_
                   (case side1 => repeat (first | exact (Kd.R_reads' HO_209001.out).2.2 | (with_reducible refine Kd.C_alloc ?_ _) | (with_reducible refine Kd.C_drewN ?_ _) | (with_reducible refine Kd.C_drew ?_)))
                   (case side2 => exact (Kd.R_reads' HO_209001.out).2.1)
                   rintro e w139 ⟨v247, rfl, ho0, hb⟩
                   refine ⟨_, rfl, ?_⟩
                   have n0_ := Aside0.mk (Kd.R_elder' (by exact HO_209001.out) (Kd.R_base ho0) hb)
                   have n1_ := Aside0.mk (Kd.R_elder' (by exact HO_216001.out) (Kd.R_base ho0) hb)
                   have n2_ := Aside0.mk (Kd.R_below (by exact HO243.out) hb)
                   have n3_ := Aside0.mk (Kd.R_lower (Kd.R_newB (Kd.R_new' (Kd.R_new' ho0 (Kd.R_lt (by exact HO_209001.out))) (Kd.R_lt (by exact HO_216001.out))) (g := gb240) (o := .cells #[.string t236, .int .i64 t237, .int .i64 t238] 72 (0, 0)) (by exact BK240.out)) (below_size (by repeat (first | (with_reducible first | exact HB.out | apply below_alloc | apply pw_below_drewN | apply below_drew1 | refine below_set ?_ GE208.out | refine below_set ?_ GE215.out | refine below_set ?_ GE240.out) | exact HB.out))))
                   have n4_ := Aside0.mk (blk_below (g := gb208) (o := .cells #[.int .i64 5, .slice Ao133 x209001_5.length co133] 28 (0, 0)) (by exact BK208.out) hb)
                   have n5_ := Aside0.mk (blk_below (g := gb215) (o := .cells #[.int .i64 x216000_5, .slice Ao113 x216001_5.length co113] 28 (0, 0)) (by exact BK215.out) hb)
                   have n6_ := Aside0.mk (blk_below (g := gb240) (o := .cells #[.string t236, .int .i64 t237, .int .i64 t238] 72 (0, 0)) (by exact BK240.out) hb)
                   have n7_ := Aside0.mk (below_step (by repeat (first | (with_reducible first | exact HB.out | apply below_alloc | apply pw_below_drewN | apply below_drew1 | refine below_set ?_ GE208.out | refine below_set ?_ GE215.out | refine below_set ?_ GE240.out) | exact HB.out)) hb)
                   clear HO_209001
                   clear HO_216001
                   clear HO243
                   clear BK208
                   clear BK215
                   clear BK240
                   clear HB
                   have HO_209001 := n0_
                   have HO_216001 := n1_
                   have HO243 := n2_
                   have HO248 := n3_
                   have BK208 := n4_
                   have BK215 := n5_
                   have BK240 := n6_
                   have HB := n7_
                   clear n0_ n1_ n2_ n3_ n4_ n5_ n6_ n7_
                   (try clear hb)
                   (try clear hb2)
                   (try clear hk)
                   (try clear hi)
                   (try clear ho0)
                   refine hK.out _ _ ⟨(blk_cell BK208.out 0).trans rfl, (blk_cell BK208.out 1).trans rfl⟩ (fun hHeld => ?_)
                   clear hK K
                   refine norm_ (a' := ?_) ?_ ?_
                   rotate_left
                   ·
                    show Act.put _ (some 131) _ = _
                    simp only [Act.put, List.setIfInBounds_toArray, List.set_cons_zero, List.set_cons_succ, i64_w, i32_w]
                    rfl
                   refine pure_ (i := 11) (N := some 120) (v := ?_) (a' := ?_) #[true, true, true, true, true, true, true, true, true, true, true, true, false, false, false, false, false] rfl rfl (any_of HT_.out (by kernel_rfl)) (fun _ _ _ h => h) (Or.inl ⟨by rfl, ?_⟩) ?_ ?_
                   rotate_left
                   ·
                    intro w'
                    go_simp
                    with_reducible rfl
                   rotate_left
                   ·
                    simp only [Act.put, List.setIfInBounds_toArray, List.set_cons_zero, List.set_cons_succ, i64_w, i32_w]
                    rfl
                   refine pure_ (i := 12) (N := some 132) (v := ?_) (a' := ?_) #[true, true, true, true, true, true, true, true, true, true, true, true, true, false, false, false, false] rfl rfl (any_of HT_.out (by kernel_rfl)) (fun _ _ _ h => h) (Or.inl ⟨by rfl, ?_⟩) ?_ ?_
                   rotate_left
                   ·
                    intro w'
                    go_simp
                    with_reducible rfl
                   rotate_left
                   ·
                    simp only [Act.put, List.setIfInBounds_toArray, List.set_cons_zero, List.set_cons_succ, i64_w, i32_w]
                    rfl
                   refine pure_ (i := 13) (N := some 133) (v := ?_) (a' := ?_) #[true, true, true, true, true, true, true, true, true, true, true, true, true, true, false, false, false] rfl rfl (any_of HT_.out (by kernel_rfl)) (fun _ _ _ h => h) (Or.inl ⟨by rfl, ?_⟩) ?_ ?_
                   rotate_left
                   ·
                    intro w'
                    go_simp
                    with_reducible rfl
                   rotate_left
                   ·
                    simp only [Act.put, List.setIfInBounds_toArray, List.set_cons_zero, List.set_cons_succ, i64_w, i32_w]
                    rfl
                   refine one_ (i := 14) (N := some 14) #[true, true, true, true, true, true, true, true, true, true, true, true, true, true, true, false, false] rfl rfl (one_of HT_.out (by kernel_rfl)) (by decide) (fun K hK => ?_)
                   refine box_step ?hg (N := 14) ?hd (cs := #[.int .i64 0, .slice none 0 0]) (t := 28) ?hr ?_; (case hd => rfl); (case hg => rfl); (case hr => first | (go_simp; done) | (go_simp; rfl))
                   intro gb250 hg w140 hbox hb
                   have n0_ := Aside0.mk (Kd.R_below (by exact HO_209001.out) hb)
                   have n1_ := Aside0.mk (Kd.R_below (by exact HO_216001.out) hb)
                   have n2_ := Aside0.mk (Kd.R_below (by exact HO243.out) hb)
                   have n3_ := Aside0.mk (Kd.R_below (by exact HO248.out) hb)
                   have n4_ := Aside0.mk (blk_below (g := gb208) (o := .cells #[.int .i64 5, .slice Ao133 x209001_5.length co133] 28 (0, 0)) (by exact BK208.out) hb)
                   have n5_ := Aside0.mk (blk_below (g := gb215) (o := .cells #[.int .i64 x216000_5, .slice Ao113 x216001_5.length co113] 28 (0, 0)) (by exact BK215.out) hb)
                   have n6_ := Aside0.mk (blk_below (g := gb240) (o := .cells #[.string t236, .int .i64 t237, .int .i64 t238] 72 (0, 0)) (by exact BK240.out) hb)
                   have n7_ := Aside0.mk (below_step (by repeat (first | (with_reducible first | exact HB.out | apply below_alloc | apply pw_below_drewN | apply below_drew1 | refine below_set ?_ GE208.out | refine below_set ?_ GE215.out | refine below_set ?_ GE240.out) | exact HB.out)) hb)
                   have n8_ := Aside0.mk (hbox)
                   have n9_ := Aside0.mk ((by rw [hg]; exact (below_size (by repeat (first | (with_reducible first | exact HB.out | apply below_alloc | apply pw_below_drewN | apply below_drew1 | refine below_set ?_ GE208.out | refine below_set ?_ GE215.out | refine below_set ?_ GE240.out) | exact HB.out))) : w.heap.size ≤ gb250))
                   have n10_ := Aside0.mk ((by rw [hg]; exact (below_size (by repeat (first | (with_reducible first | exact HB.out | apply below_alloc | apply pw_below_drewN | apply below_drew1 | refine below_set ?_ GE208.out | refine below_set ?_ GE215.out | refine below_set ?_ GE240.out) | exact HB.out))) : w.heap.size ≤ gb250))
                   have n11_ := Aside0.mk ((by rw [hg]; exact Nat.ne_of_lt (blk_lt (g := gb208) (o := .cells #[.int .i64 5, .slice Ao133 x209001_5.length co133] 28 (0, 0)) (by exact BK208.out)) : gb208 ≠ gb250))
                   have n12_ := Aside0.mk ((by rw [hg]; exact Nat.ne_of_gt (blk_lt (g := gb208) (o := .cells #[.int .i64 5, .slice Ao133 x209001_5.length co133] 28 (0, 0)) (by exact BK208.out)) : gb250 ≠ gb208))
                   have n13_ := Aside0.mk ((by rw [hg]; exact Nat.ne_of_lt (blk_lt (g := gb215) (o := .cells #[.int .i64 x216000_5, .slice Ao113 x216001_5.length co113] 28 (0, 0)) (by exact BK215.out)) : gb215 ≠ gb250))
                   have n14_ := Aside0.mk ((by rw [hg]; exact Nat.ne_of_gt (blk_lt (g := gb215) (o := .cells #[.int .i64 x216000_5, .slice Ao113 x216001_5.length co113] 28 (0, 0)) (by exact BK215.out)) : gb250 ≠ gb215))
                   have n15_ := Aside0.mk ((by rw [hg]; exact Nat.ne_of_lt (blk_lt (g := gb240) (o := .cells #[.string t236, .int .i64 t237, .int .i64 t238] 72 (0, 0)) (by exact BK240.out)) : gb240 ≠ gb250))
                   have n16_ := Aside0.mk ((by rw [hg]; exact Nat.ne_of_gt (blk_lt (g := gb240) (o := .cells #[.string t236, .int .i64 t237, .int .i64 t238] 72 (0, 0)) (by exact BK240.out)) : gb250 ≠ gb240))
                   clear HO_209001
                   clear HO_216001
                   clear HO243
                   clear HO248
                   clear BK208
                   clear BK215
                   clear BK240
                   clear HB
                   have HO_209001 := n0_
                   have HO_216001 := n1_
                   have HO243 := n2_
                   have HO248 := n3_
                   have BK208 := n4_
                   have BK215 := n5_
                   have BK240 := n6_
                   have HB := n7_
                   have BK250 := n8_
                   have GW250 := n9_
                   have GE250 := n10_
                   have NB208_250 := n11_
                   have NB250_208 := n12_
                   have NB215_250 := n13_
                   have NB250_215 := n14_
                   have NB240_250 := n15_
                   have NB250_240 := n16_
                   clear n0_ n1_ n2_ n3_ n4_ n5_ n6_ n7_ n8_ n9_ n10_ n11_ n12_ n13_ n14_ n15_ n16_
                   clear hb hbox hg
                   refine hK.out _ _ ⟨(blk_cell BK208.out 0).trans rfl, (blk_cell BK208.out 1).trans rfl⟩ (fun hHeld => ?_)
                   clear hK K
                   refine norm_ (a' := ?_) ?_ ?_
                   rotate_left
                   ·
                    show Act.put _ (some 14) _ = _
                    simp only [Act.put, List.setIfInBounds_toArray, List.set_cons_zero, List.set_cons_succ, i64_w, i32_w]
                    rfl
                   exact norm_ (by simp only [putAll, Act.put, List.setIfInBounds_toArray, List.set_cons_zero, List.set_cons_succ]) (hCont (.slice (some ado138) y241.length co138, ado138, v247, gb250) _ ⟨hHeld, (by exact HO243.out), (by exact Kd.R_mono HO248.out (fun _ hk => ⟨hk.1.1.2, ⟨hk.1.2, hk.2⟩⟩)), (by exact Kd.R_mono HO_209001.out (fun _ hk => ⟨hk.2, ⟨hk.1.1, hk.1.2⟩⟩)), (by exact Kd.R_mono HO_216001.out (fun _ hk => ⟨hk.2, ⟨hk.1.1, hk.1.2⟩⟩)), ⟨_, rfl⟩, (by exact BK208.out), (by exact BK215.out), (by exact BK240.out), (by exact BK250.out), GW250.out, GE250.out, NB208_250.out, NB250_208.out, NB215_250.out, NB250_215.out, NB240_250.out, NB250_240.out, (by repeat (first | (with_reducible first | exact HB.out | apply below_alloc | apply pw_below_drewN | apply below_drew1 | refine below_set ?_ GE208.out | refine below_set ?_ GE215.out | refine below_set ?_ GE240.out | refine below_set ?_ GE250.out) | exact HB.out))⟩)
                  ·
                   skip
                   refine box_step ?hg (N := 14) ?hd (cs := #[.int .i64 0, .slice none 0 0]) (t := 28) ?hr ?_; (case hd => rfl); (case hg => rfl); (case hr => first | (go_simp; done) | (go_simp; rfl))
                   intro gb250 hg w139 hbox hb
                   have n0_ := Aside0.mk (Kd.R_below (by exact HO_209001.out) hb)
                   have n1_ := Aside0.mk (Kd.R_below (by exact HO_216001.out) hb)
                   have n2_ := Aside0.mk (Kd.R_below (by exact HO243.out) hb)
                   have n3_ := Aside0.mk (blk_below (g := gb208) (o := .cells #[.int .i64 5, .slice Ao133 x209001_5.length co133] 28 (0, 0)) (by exact BK208.out) hb)
                   have n4_ := Aside0.mk (blk_below (g := gb215) (o := .cells #[.int .i64 x216000_5, .slice Ao113 x216001_5.length co113] 28 (0, 0)) (by exact BK215.out) hb)
                   have n5_ := Aside0.mk (blk_below (g := gb240) (o := .cells #[.string t236, .int .i64 t237, .int .i64 t238] 72 (0, 0)) (by exact BK240.out) hb)
                   have n6_ := Aside0.mk (below_step (by repeat (first | (with_reducible first | exact HB.out | apply below_alloc | apply pw_below_drewN | apply below_drew1 | refine below_set ?_ GE208.out | refine below_set ?_ GE215.out | refine below_set ?_ GE240.out) | exact HB.out)) hb)
                   have n7_ := Aside0.mk (hbox)
                   have n8_ := Aside0.mk ((by rw [hg]; exact (below_size (by repeat (first | (with_reducible first | exact HB.out | apply below_alloc | apply pw_below_drewN | apply below_drew1 | refine below_set ?_ GE208.out | refine below_set ?_ GE215.out | refine below_set ?_ GE240.out) | exact HB.out))) : w.heap.size ≤ gb250))
                   have n9_ := Aside0.mk ((by rw [hg]; exact (below_size (by repeat (first | (with_reducible first | exact HB.out | apply below_alloc | apply pw_below_drewN | apply below_drew1 | refine below_set ?_ GE208.out | refine below_set ?_ GE215.out | refine below_set ?_ GE240.out) | exact HB.out))) : w.heap.size ≤ gb250))
                   have n10_ := Aside0.mk ((by rw [hg]; exact Nat.ne_of_lt (blk_lt (g := gb208) (o := .cells #[.int .i64 5, .slice Ao133 x209001_5.length co133] 28 (0, 0)) (by exact BK208.out)) : gb208 ≠ gb250))
                   have n11_ := Aside0.mk ((by rw [hg]; exact Nat.ne_of_gt (blk_lt (g := gb208) (o := .cells #[.int .i64 5, .slice Ao133 x209001_5.length co133] 28 (0, 0)) (by exact BK208.out)) : gb250 ≠ gb208))
                   have n12_ := Aside0.mk ((by rw [hg]; exact Nat.ne_of_lt (blk_lt (g := gb215) (o := .cells #[.int .i64 x216000_5, .slice Ao113 x216001_5.length co113] 28 (0, 0)) (by exact BK215.out)) : gb215 ≠ gb250))
                   have n13_ := Aside0.mk ((by rw [hg]; exact Nat.ne_of_gt (blk_lt (g := gb215) (o := .cells #[.int .i64 x216000_5, .slice Ao113 x216001_5.length co113] 28 (0, 0)) (by exact BK215.out)) : gb250 ≠ gb215))
                   have n14_ := Aside0.mk ((by rw [hg]; exact Nat.ne_of_lt (blk_lt (g := gb240) (o := .cells #[.string t236, .int .i64 t237, .int .i64 t238] 72 (0, 0)) (by exact BK240.out)) : gb240 ≠ gb250))
                   have n15_ := Aside0.mk ((by rw [hg]; exact Nat.ne_of_gt (blk_lt (g := gb240) (o := .cells #[.string t236, .int .i64 t237, .int .i64 t238] 72 (0, 0)) (by exact BK240.out)) : gb250 ≠ gb240))
                   clear HO_209001
                   clear HO_216001
                   clear HO243
                   clear BK208
                   clear BK215
                   clear BK240
                   clear HB
                   have HO_209001 := n0_
                   have HO_216001 := n1_
                   have HO243 := n2_
                   have BK208 := n3_
                   have BK215 := n4_
                   have BK240 := n5_
                   have HB := n6_
                   have BK250 := n7_
                   have GW250 := n8_
                   have GE250 := n9_
                   have NB208_250 := n10_
                   have NB250_208 := n11_
                   have NB215_250 := n12_
                   have NB250_215 := n13_
                   have NB240_250 := n14_
                   have NB250_240 := n15_
                   clear n0_ n1_ n2_ n3_ n4_ n5_ n6_ n7_ n8_ n9_ n10_ n11_ n12_ n13_ n14_ n15_
                   clear hb hbox hg
                   refine hK.out _ _ ⟨(blk_cell BK208.out 0).trans rfl, (blk_cell BK208.out 1).trans rfl⟩ (fun hHeld => ?_)
                   clear hK K
                   refine norm_ (a' := ?_) ?_ ?_
                   rotate_left
                   ·
                    show Act.put _ (some 14) _ = _
                    simp only [Act.put, List.setIfInBounds_toArray, List.set_cons_zero, List.set_cons_succ, i64_w, i32_w]
                    rfl
                   refine one_ (i := 10) (N := some 131) #[true, true, true, true, true, true, true, true, true, true, true, false, false, false, true, false, false] rfl rfl (one_of HT_.out (by kernel_rfl)) (by decide) (fun K hK => ?_)
                   refine goes_ Tryd.func38 (by kernel_rfl) rfl #[.agg #[.int .i64 5, .slice Ao133 x209001_5.length co133], .string (⟨#[120]⟩ : ByteArray), .int .i64 (rd y241 (Go.bits .and .i64 a0 1))] (by rfl) rfl rfl (by (try simp only [List.map_toArray, List.map_cons, List.map_nil]); first | done | rfl | (simp only [List.length_drop, List.length_take]; rfl)) ?_
                   with_reducible refine (disk_Put.calls kj5 5 _ _ x209001_5 (⟨#[120]⟩ : ByteArray) (rd y241 (Go.bits .and .i64 a0 1)) t245 t246 t249 _ ?side1 ?side2 A91.out).mono ?_
                   (case side1 => repeat (first | exact (Kd.R_reads' HO_209001.out).2.2 | (with_reducible refine Kd.C_alloc ?_ _) | (with_reducible refine Kd.C_drewN ?_ _) | (with_reducible refine Kd.C_drew ?_)))
                   (case side2 => exact (Kd.R_reads' HO_209001.out).2.1)
                   rintro e w140 ⟨v247, rfl, ho0, hb⟩
                   refine ⟨_, rfl, ?_⟩
                   have n0_ := Aside0.mk (Kd.R_elder' (by exact HO_209001.out) (Kd.R_base ho0) hb)
                   have n1_ := Aside0.mk (Kd.R_elder' (by exact HO_216001.out) (Kd.R_base ho0) hb)
                   have n2_ := Aside0.mk (Kd.R_below (by exact HO243.out) hb)
                   have n3_ := Aside0.mk (Kd.R_lower (Kd.R_newB (Kd.R_new' (Kd.R_new' ho0 (Kd.R_lt (by exact HO_209001.out))) (Kd.R_lt (by exact HO_216001.out))) (g := gb240) (o := .cells #[.string t236, .int .i64 t237, .int .i64 t238] 72 (0, 0)) (by exact BK240.out)) (below_size (by repeat (first | (with_reducible first | exact HB.out | apply below_alloc | apply pw_below_drewN | apply below_drew1 | refine below_set ?_ GE208.out | refine below_set ?_ GE215.out | refine below_set ?_ GE240.out | refine below_set ?_ GE250.out) | exact HB.out))))
                   have n4_ := Aside0.mk (blk_below (g := gb208) (o := .cells #[.int .i64 5, .slice Ao133 x209001_5.length co133] 28 (0, 0)) (by exact BK208.out) hb)
                   have n5_ := Aside0.mk (blk_below (g := gb215) (o := .cells #[.int .i64 x216000_5, .slice Ao113 x216001_5.length co113] 28 (0, 0)) (by exact BK215.out) hb)
                   have n6_ := Aside0.mk (blk_below (g := gb240) (o := .cells #[.string t236, .int .i64 t237, .int .i64 t238] 72 (0, 0)) (by exact BK240.out) hb)
                   have n7_ := Aside0.mk (blk_below (g := gb250) (o := .cells #[.int .i64 0, .slice none 0 0] 28 (0, 0)) (by exact BK250.out) hb)
                   have n8_ := Aside0.mk (below_step (by repeat (first | (with_reducible first | exact HB.out | apply below_alloc | apply pw_below_drewN | apply below_drew1 | refine below_set ?_ GE208.out | refine below_set ?_ GE215.out | refine below_set ?_ GE240.out | refine below_set ?_ GE250.out) | exact HB.out)) hb)
                   clear HO_209001
                   clear HO_216001
                   clear HO243
                   clear BK208
                   clear BK215
                   clear BK240
                   clear BK250
                   clear HB
                   have HO_209001 := n0_
                   have HO_216001 := n1_
                   have HO243 := n2_
                   have HO248 := n3_
                   have BK208 := n4_
                   have BK215 := n5_
                   have BK240 := n6_
                   have BK250 := n7_
                   have HB := n8_
                   clear n0_ n1_ n2_ n3_ n4_ n5_ n6_ n7_ n8_
                   (try clear hb)
                   (try clear hb2)
                   (try clear hk)
                   (try clear hi)
                   (try clear ho0)
                   refine hK.out _ _ ⟨(blk_cell BK208.out 0).trans rfl, (blk_cell BK208.out 1).trans rfl⟩ (fun hHeld => ?_)
                   clear hK K
                   refine norm_ (a' := ?_) ?_ ?_
                   rotate_left
                   ·
                    show Act.put _ (some 131) _ = _
                    simp only [Act.put, List.setIfInBounds_toArray, List.set_cons_zero, List.set_cons_succ, i64_w, i32_w]
                    rfl
                   refine pure_ (i := 11) (N := some 120) (v := ?_) (a' := ?_) #[true, true, true, true, true, true, true, true, true, true, true, true, false, false, true, false, false] rfl rfl (any_of HT_.out (by kernel_rfl)) (fun _ _ _ h => h) (Or.inl ⟨by rfl, ?_⟩) ?_ ?_
                   rotate_left
                   ·
                    intro w'
                    go_simp
                    with_reducible rfl
                   rotate_left
                   ·
                    simp only [Act.put, List.setIfInBounds_toArray, List.set_cons_zero, List.set_cons_succ, i64_w, i32_w]
                    rfl
                   refine pure_ (i := 12) (N := some 132) (v := ?_) (a' := ?_) #[true, true, true, true, true, true, true, true, true, true, true, true, true, false, true, false, false] rfl rfl (any_of HT_.out (by kernel_rfl)) (fun _ _ _ h => h) (Or.inl ⟨by rfl, ?_⟩) ?_ ?_
                   rotate_left
                   ·
                    intro w'
                    go_simp
                    with_reducible rfl
                   rotate_left
                   ·
                    simp only [Act.put, List.setIfInBounds_toArray, List.set_cons_zero, List.set_cons_succ, i64_w, i32_w]
                    rfl
                   refine pure_ (i := 13) (N := some 133) (v := ?_) (a' := ?_) #[true, true, true, true, true, true, true, true, true, true, true, true, true, true, true, false, false] rfl rfl (any_of HT_.out (by kernel_rfl)) (fun _ _ _ h => h) (Or.inl ⟨by rfl, ?_⟩) ?_ ?_
                   rotate_left
                   ·
                    intro w'
                    go_simp
                    with_reducible rfl
                   rotate_left
                   ·
                    simp only [Act.put, List.setIfInBounds_toArray, List.set_cons_zero, List.set_cons_succ, i64_w, i32_w]
                    rfl
                   exact norm_ (by simp only [putAll, Act.put, List.setIfInBounds_toArray, List.set_cons_zero, List.set_cons_succ]) (hCont (.slice (some ado138) y241.length co138, ado138, v247, gb250) _ ⟨hHeld, (by exact HO243.out), (by exact Kd.R_mono HO248.out (fun _ hk => ⟨hk.1.1.2, ⟨hk.1.2, hk.2⟩⟩)), (by exact Kd.R_mono HO_209001.out (fun _ hk => ⟨hk.2, ⟨hk.1.1, hk.1.2⟩⟩)), (by exact Kd.R_mono HO_216001.out (fun _ hk => ⟨hk.2, ⟨hk.1.1, hk.1.2⟩⟩)), ⟨_, rfl⟩, (by exact BK208.out), (by exact BK215.out), (by exact BK240.out), (by exact BK250.out), GW250.out, GE250.out, NB208_250.out, NB250_208.out, NB215_250.out, NB250_215.out, NB240_250.out, NB250_240.out, (by repeat (first | (with_reducible first | exact HB.out | apply below_alloc | apply pw_below_drewN | apply below_drew1 | refine below_set ?_ GE208.out | refine below_set ?_ GE215.out | refine below_set ?_ GE240.out | refine below_set ?_ GE250.out) | exact HB.out))⟩)
                 ·
                  skip
                  refine box_step ?hg (N := 14) ?hd (cs := #[.int .i64 0, .slice none 0 0]) (t := 28) ?hr ?_; (case hd => rfl); (case hg => rfl); (case hr => first | (go_simp; done) | (go_simp; rfl))
                  intro gb250 hg w139 hbox hb
                  have n0_ := Aside0.mk (Kd.R_below (by exact HO_209001.out) hb)
                  have n1_ := Aside0.mk (Kd.R_below (by exact HO_216001.out) hb)
                  have n2_ := Aside0.mk (Kd.R_below (by exact HO243.out) hb)
                  have n3_ := Aside0.mk (blk_below (g := gb208) (o := .cells #[.int .i64 5, .slice Ao133 x209001_5.length co133] 28 (0, 0)) (by exact BK208.out) hb)
                  have n4_ := Aside0.mk (blk_below (g := gb215) (o := .cells #[.int .i64 x216000_5, .slice Ao113 x216001_5.length co113] 28 (0, 0)) (by exact BK215.out) hb)
                  have n5_ := Aside0.mk (blk_below (g := gb240) (o := .cells #[.string t236, .int .i64 t237, .int .i64 t238] 72 (0, 0)) (by exact BK240.out) hb)
                  have n6_ := Aside0.mk (below_step (by repeat (first | (with_reducible first | exact HB.out | apply below_alloc | apply pw_below_drewN | apply below_drew1 | refine below_set ?_ GE208.out | refine below_set ?_ GE215.out | refine below_set ?_ GE240.out) | exact HB.out)) hb)
                  have n7_ := Aside0.mk (hbox)
                  have n8_ := Aside0.mk ((by rw [hg]; exact (below_size (by repeat (first | (with_reducible first | exact HB.out | apply below_alloc | apply pw_below_drewN | apply below_drew1 | refine below_set ?_ GE208.out | refine below_set ?_ GE215.out | refine below_set ?_ GE240.out) | exact HB.out))) : w.heap.size ≤ gb250))
                  have n9_ := Aside0.mk ((by rw [hg]; exact (below_size (by repeat (first | (with_reducible first | exact HB.out | apply below_alloc | apply pw_below_drewN | apply below_drew1 | refine below_set ?_ GE208.out | refine below_set ?_ GE215.out | refine below_set ?_ GE240.out) | exact HB.out))) : w.heap.size ≤ gb250))
                  have n10_ := Aside0.mk ((by rw [hg]; exact Nat.ne_of_lt (blk_lt (g := gb208) (o := .cells #[.int .i64 5, .slice Ao133 x209001_5.length co133] 28 (0, 0)) (by exact BK208.out)) : gb208 ≠ gb250))
                  have n11_ := Aside0.mk ((by rw [hg]; exact Nat.ne_of_gt (blk_lt (g := gb208) (o := .cells #[.int .i64 5, .slice Ao133 x209001_5.length co133] 28 (0, 0)) (by exact BK208.out)) : gb250 ≠ gb208))
                  have n12_ := Aside0.mk ((by rw [hg]; exact Nat.ne_of_lt (blk_lt (g := gb215) (o := .cells #[.int .i64 x216000_5, .slice Ao113 x216001_5.length co113] 28 (0, 0)) (by exact BK215.out)) : gb215 ≠ gb250))
                  have n13_ := Aside0.mk ((by rw [hg]; exact Nat.ne_of_gt (blk_lt (g := gb215) (o := .cells #[.int .i64 x216000_5, .slice Ao113 x216001_5.length co113] 28 (0, 0)) (by exact BK215.out)) : gb250 ≠ gb215))
                  have n14_ := Aside0.mk ((by rw [hg]; exact Nat.ne_of_lt (blk_lt (g := gb240) (o := .cells #[.string t236, .int .i64 t237, .int .i64 t238] 72 (0, 0)) (by exact BK240.out)) : gb240 ≠ gb250))
                  have n15_ := Aside0.mk ((by rw [hg]; exact Nat.ne_of_gt (blk_lt (g := gb240) (o := .cells #[.string t236, .int .i64 t237, .int .i64 t238] 72 (0, 0)) (by exact BK240.out)) : gb250 ≠ gb240))
                  clear HO_209001
                  clear HO_216001
                  clear HO243
                  clear BK208
                  clear BK215
                  clear BK240
                  clear HB
                  have HO_209001 := n0_
                  have HO_216001 := n1_
                  have HO243 := n2_
                  have BK208 := n3_
                  have BK215 := n4_
                  have BK240 := n5_
                  have HB := n6_
                  have BK250 := n7_
                  have GW250 := n8_
                  have GE250 := n9_
                  have NB208_250 := n10_
                  have NB250_208 := n11_
                  have NB215_250 := n12_
                  have NB250_215 := n13_
                  have NB240_250 := n14_
                  have NB250_240 := n15_
                  clear n0_ n1_ n2_ n3_ n4_ n5_ n6_ n7_ n8_ n9_ n10_ n11_ n12_ n13_ n14_ n15_
                  clear hb hbox hg
                  refine hK.out _ _ ⟨(blk_cell BK208.out 0).trans rfl, (blk_cell BK208.out 1).trans rfl⟩ (fun hHeld => ?_)
                  clear hK K
                  refine norm_ (a' := ?_) ?_ ?_
                  rotate_left
                  ·
                   show Act.put _ (some 14) _ = _
                   simp only [Act.put, List.setIfInBounds_toArray, List.set_cons_zero, List.set_cons_succ, i64_w, i32_w]
                   rfl
                  refine one_ (i := 9) (N := some 130) #[true, true, true, true, true, true, true, true, true, true, false, false, false, false, true, false, false] rfl rfl (one_of HT_.out (by kernel_rfl)) (by decide) (fun K hK => ?_)
                  (have p244 : 0 ≤ ((Go.bits .and .i64 a0 1) : Int) := of_decide_eq_true (by first | (with_reducible assumption) | assumption); have q244 : (Go.bits .and .i64 a0 1) < (y241.length : Int) := of_decide_eq_true (by first | (with_reducible assumption) | assumption); obtain ⟨ad244, e244, hx244_0⟩ := Kd.at_int (Kd.R_reads' HO243.out).2.2 (Go.bits .and .i64 a0 1) p244 q244; obtain rfl : ado138 = ad244 := (by injection e244))
                  refine value_ (w1 := ?_) (v := ?_) (by rfl) rfl ?_ ?_
                  rotate_left 2
                  ·
                   go_simp
                   constructor
                   ·
                    rfl
                   ·
                    rfl
                  clear hx244_0
                  refine hK.out _ _ ⟨(blk_cell BK208.out 0).trans rfl, (blk_cell BK208.out 1).trans rfl⟩ (fun hHeld => ?_)
                  clear hK K
                  refine norm_ (a' := ?_) ?_ ?_
                  rotate_left
                  ·
                   show Act.put _ (some 130) _ = _
                   simp only [Act.put, List.setIfInBounds_toArray, List.set_cons_zero, List.set_cons_succ, i64_w, i32_w]
                   rfl
                  refine one_ (i := 10) (N := some 131) #[true, true, true, true, true, true, true, true, true, true, true, false, false, false, true, false, false] rfl rfl (one_of HT_.out (by kernel_rfl)) (by decide) (fun K hK => ?_)
                  refine goes_ Tryd.func38 (by kernel_rfl) rfl #[.agg #[.int .i64 5, .slice Ao133 x209001_5.length co133], .string (⟨#[120]⟩ : ByteArray), .int .i64 (rd y241 (Go.bits .and .i64 a0 1))] (by rfl) rfl rfl (by (try simp only [List.map_toArray, List.map_cons, List.map_nil]); first | done | rfl | (simp only [List.length_drop, List.length_take]; rfl)) ?_
                  with_reducible refine (disk_Put.calls kj5 5 _ _ x209001_5 (⟨#[120]⟩ : ByteArray) (rd y241 (Go.bits .and .i64 a0 1)) t245 t246 t249 _ ?side1 ?side2 A91.out).mono ?_
                  (case side1 => repeat (first | exact (Kd.R_reads' HO_209001.out).2.2 | (with_reducible refine Kd.C_alloc ?_ _) | (with_reducible refine Kd.C_drewN ?_ _) | (with_reducible refine Kd.C_drew ?_)))
                  (case side2 => exact (Kd.R_reads' HO_209001.out).2.1)
                  rintro e w140 ⟨v247, rfl, ho0, hb⟩
                  refine ⟨_, rfl, ?_⟩
                  have n0_ := Aside0.mk (Kd.R_elder' (by exact HO_209001.out) (Kd.R_base ho0) hb)
                  have n1_ := Aside0.mk (Kd.R_elder' (by exact HO_216001.out) (Kd.R_base ho0) hb)
                  have n2_ := Aside0.mk (Kd.R_below (by exact HO243.out) hb)
                  have n3_ := Aside0.mk (Kd.R_lower (Kd.R_newB (Kd.R_new' (Kd.R_new' ho0 (Kd.R_lt (by exact HO_209001.out))) (Kd.R_lt (by exact HO_216001.out))) (g := gb240) (o := .cells #[.string t236, .int .i64 t237, .int .i64 t238] 72 (0, 0)) (by exact BK240.out)) (below_size (by repeat (first | (with_reducible first | exact HB.out | apply below_alloc | apply pw_below_drewN | apply below_drew1 | refine below_set ?_ GE208.out | refine below_set ?_ GE215.out | refine below_set ?_ GE240.out | refine below_set ?_ GE250.out) | exact HB.out))))
                  have n4_ := Aside0.mk (blk_below (g := gb208) (o := .cells #[.int .i64 5, .slice Ao133 x209001_5.length co133] 28 (0, 0)) (by exact BK208.out) hb)
                  have n5_ := Aside0.mk (blk_below (g := gb215) (o := .cells #[.int .i64 x216000_5, .slice Ao113 x216001_5.length co113] 28 (0, 0)) (by exact BK215.out) hb)
                  have n6_ := Aside0.mk (blk_below (g := gb240) (o := .cells #[.string t236, .int .i64 t237, .int .i64 t238] 72 (0, 0)) (by exact BK240.out) hb)
                  have n7_ := Aside0.mk (blk_below (g := gb250) (o := .cells #[.int .i64 0, .slice none 0 0] 28 (0, 0)) (by exact BK250.out) hb)
                  have n8_ := Aside0.mk (below_step (by repeat (first | (with_reducible first | exact HB.out | apply below_alloc | apply pw_below_drewN | apply below_drew1 | refine below_set ?_ GE208.out | refine below_set ?_ GE215.out | refine below_set ?_ GE240.out | refine below_set ?_ GE250.out) | exact HB.out)) hb)
                  clear HO_209001
                  clear HO_216001
                  clear HO243
                  clear BK208
                  clear BK215
                  clear BK240
                  clear BK250
                  clear HB
                  have HO_209001 := n0_
                  have HO_216001 := n1_
                  have HO243 := n2_
                  have HO248 := n3_
                  have BK208 := n4_
                  have BK215 := n5_
                  have BK240 := n6_
                  have BK250 := n7_
                  have HB := n8_
                  clear n0_ n1_ n2_ n3_ n4_ n5_ n6_ n7_ n8_
                  (try clear hb)
                  (try clear hb2)
                  (try clear hk)
                  (try clear hi)
                  (try clear ho0)
                  refine hK.out _ _ ⟨(blk_cell BK208.out 0).trans rfl, (blk_cell BK208.out 1).trans rfl⟩ (fun hHeld => ?_)
                  clear hK K
                  refine norm_ (a' := ?_) ?_ ?_
                  rotate_left
                  ·
                   show Act.put _ (some 131) _ = _
                   simp only [Act.put, List.setIfInBounds_toArray, List.set_cons_zero, List.set_cons_succ, i64_w, i32_w]
                   rfl
                  refine pure_ (i := 11) (N := some 120) (v := ?_) (a' := ?_) #[true, true, true, true, true, true, true, true, true, true, true, true, false, false, true, false, false] rfl rfl (any_of HT_.out (by kernel_rfl)) (fun _ _ _ h => h) (Or.inl ⟨by rfl, ?_⟩) ?_ ?_
                  rotate_left
                  ·
                   intro w'
                   go_simp
                   with_reducible rfl
                  rotate_left
                  ·
                   simp only [Act.put, List.setIfInBounds_toArray, List.set_cons_zero, List.set_cons_succ, i64_w, i32_w]
                   rfl
                  refine pure_ (i := 12) (N := some 132) (v := ?_) (a' := ?_) #[true, true, true, true, true, true, true, true, true, true, true, true, true, false, true, false, false] rfl rfl (any_of HT_.out (by kernel_rfl)) (fun _ _ _ h => h) (Or.inl ⟨by rfl, ?_⟩) ?_ ?_
                  rotate_left
                  ·
                   intro w'
                   go_simp
                   with_reducible rfl
                  rotate_left
                  ·
                   simp only [Act.put, List.setIfInBounds_toArray, List.set_cons_zero, List.set_cons_succ, i64_w, i32_w]
                   rfl
                  refine pure_ (i := 13) (N := some 133) (v := ?_) (a' := ?_) #[true, true, true, true, true, true, true, true, true, true, true, true, true, true, true, false, false] rfl rfl (any_of HT_.out (by kernel_rfl)) (fun _ _ _ h => h) (Or.inl ⟨by rfl, ?_⟩) ?_ ?_
                  rotate_left
                  ·
                   intro w'
                   go_simp
                   with_reducible rfl
                  rotate_left
                  ·
                   simp only [Act.put, List.setIfInBounds_toArray, List.set_cons_zero, List.set_cons_succ, i64_w, i32_w]
                   rfl
                  exact norm_ (by simp only [putAll, Act.put, List.setIfInBounds_toArray, List.set_cons_zero, List.set_cons_succ]) (hCont (.slice (some ado138) y241.length co138, ado138, v247, gb250) _ ⟨hHeld, (by exact HO243.out), (by exact Kd.R_mono HO248.out (fun _ hk => ⟨hk.1.1.2, ⟨hk.1.2, hk.2⟩⟩)), (by exact Kd.R_mono HO_209001.out (fun _ hk => ⟨hk.2, ⟨hk.1.1, hk.1.2⟩⟩)), (by exact Kd.R_mono HO_216001.out (fun _ hk => ⟨hk.2, ⟨hk.1.1, hk.1.2⟩⟩)), ⟨_, rfl⟩, (by exact BK208.out), (by exact BK215.out), (by exact BK240.out), (by exact BK250.out), GW250.out, GE250.out, NB208_250.out, NB250_208.out, NB215_250.out, NB250_215.out, NB240_250.out, NB250_240.out, (by repeat (first | (with_reducible first | exact HB.out | apply below_alloc | apply pw_below_drewN | apply below_drew1 | refine below_set ?_ GE208.out | refine below_set ?_ GE215.out | refine below_set ?_ GE240.out | refine below_set ?_ GE250.out) | exact HB.out))⟩)
                ·
                 skip
                 refine box_step ?hg (N := 14) ?hd (cs := #[.int .i64 0, .slice none 0 0]) (t := 28) ?hr ?_; (case hd => rfl); (case hg => rfl); (case hr => first | (go_simp; done) | (go_simp; rfl))
                 intro gb250 hg w136 hbox hb
                 have n0_ := Aside0.mk (Kd.R_below (by exact HO_209001.out) hb)
                 have n1_ := Aside0.mk (Kd.R_below (by exact HO_216001.out) hb)
                 have n2_ := Aside0.mk (blk_below (g := gb208) (o := .cells #[.int .i64 5, .slice Ao133 x209001_5.length co133] 28 (0, 0)) (by exact BK208.out) hb)
                 have n3_ := Aside0.mk (blk_below (g := gb215) (o := .cells #[.int .i64 x216000_5, .slice Ao113 x216001_5.length co113] 28 (0, 0)) (by exact BK215.out) hb)
                 have n4_ := Aside0.mk (blk_below (g := gb240) (o := .cells #[.string t236, .int .i64 t237, .int .i64 t238] 72 (0, 0)) (by exact BK240.out) hb)
                 have n5_ := Aside0.mk (below_step (by repeat (first | (with_reducible first | exact HB.out | apply below_alloc | apply pw_below_drewN | apply below_drew1 | refine below_set ?_ GE208.out | refine below_set ?_ GE215.out | refine below_set ?_ GE240.out) | exact HB.out)) hb)
                 have n6_ := Aside0.mk (hbox)
                 have n7_ := Aside0.mk ((by rw [hg]; exact (below_size (by repeat (first | (with_reducible first | exact HB.out | apply below_alloc | apply pw_below_drewN | apply below_drew1 | refine below_set ?_ GE208.out | refine below_set ?_ GE215.out | refine below_set ?_ GE240.out) | exact HB.out))) : w.heap.size ≤ gb250))
                 have n8_ := Aside0.mk ((by rw [hg]; exact (below_size (by repeat (first | (with_reducible first | exact HB.out | apply below_alloc | apply pw_below_drewN | apply below_drew1 | refine below_set ?_ GE208.out | refine below_set ?_ GE215.out | refine below_set ?_ GE240.out) | exact HB.out))) : w.heap.size ≤ gb250))
                 have n9_ := Aside0.mk ((by rw [hg]; exact Nat.ne_of_lt (blk_lt (g := gb208) (o := .cells #[.int .i64 5, .slice Ao133 x209001_5.length co133] 28 (0, 0)) (by exact BK208.out)) : gb208 ≠ gb250))
                 have n10_ := Aside0.mk ((by rw [hg]; exact Nat.ne_of_gt (blk_lt (g := gb208) (o := .cells #[.int .i64 5, .slice Ao133 x209001_5.length co133] 28 (0, 0)) (by exact BK208.out)) : gb250 ≠ gb208))
                 have n11_ := Aside0.mk ((by rw [hg]; exact Nat.ne_of_lt (blk_lt (g := gb215) (o := .cells #[.int .i64 x216000_5, .slice Ao113 x216001_5.length co113] 28 (0, 0)) (by exact BK215.out)) : gb215 ≠ gb250))
                 have n12_ := Aside0.mk ((by rw [hg]; exact Nat.ne_of_gt (blk_lt (g := gb215) (o := .cells #[.int .i64 x216000_5, .slice Ao113 x216001_5.length co113] 28 (0, 0)) (by exact BK215.out)) : gb250 ≠ gb215))
                 have n13_ := Aside0.mk ((by rw [hg]; exact Nat.ne_of_lt (blk_lt (g := gb240) (o := .cells #[.string t236, .int .i64 t237, .int .i64 t238] 72 (0, 0)) (by exact BK240.out)) : gb240 ≠ gb250))
                 have n14_ := Aside0.mk ((by rw [hg]; exact Nat.ne_of_gt (blk_lt (g := gb240) (o := .cells #[.string t236, .int .i64 t237, .int .i64 t238] 72 (0, 0)) (by exact BK240.out)) : gb250 ≠ gb240))
                 clear HO_209001
                 clear HO_216001
                 clear BK208
                 clear BK215
                 clear BK240
                 clear HB
                 have HO_209001 := n0_
                 have HO_216001 := n1_
                 have BK208 := n2_
                 have BK215 := n3_
                 have BK240 := n4_
                 have HB := n5_
                 have BK250 := n6_
                 have GW250 := n7_
                 have GE250 := n8_
                 have NB208_250 := n9_
                 have NB250_208 := n10_
                 have NB215_250 := n11_
                 have NB250_215 := n12_
                 have NB240_250 := n13_
                 have NB250_240 := n14_
                 clear n0_ n1_ n2_ n3_ n4_ n5_ n6_ n7_ n8_ n9_ n10_ n11_ n12_ n13_ n14_
                 clear hb hbox hg
                 refine hK.out _ _ ⟨(blk_cell BK208.out 0).trans rfl, (blk_cell BK208.out 1).trans rfl⟩ (fun hHeld => ?_)
                 clear hK K
                 refine norm_ (a' := ?_) ?_ ?_
                 rotate_left
                 ·
                  show Act.put _ (some 14) _ = _
                  simp only [Act.put, List.setIfInBounds_toArray, List.set_cons_zero, List.set_cons_succ, i64_w, i32_w]
                  rfl
                 refine one_ (i := 5) (N := some 126) #[true, true, true, true, true, true, true, true, false, false, false, false, false, false, true, false, false] rfl rfl (one_of HT_.out (by kernel_rfl)) (by decide) (fun K hK => ?_)
                 refine Kd.R_lit_step (Kd.int .i64) _ 3 ?hg (N := 126) ?hd (xs := ([wrap64 (-(wrap64 (1 + (Go.bits .and .i64 a1 1023)))), wrap64 (2147483647 + (wrap64 (1 + (Go.bits .and .i64 a1 1023))))] : List Int)) (inner := [.int .i64 (wrap64 (-(wrap64 (1 + (Go.bits .and .i64 a1 1023))))), .int .i64 (wrap64 (2147483647 + (wrap64 (1 + (Go.bits .and .i64 a1 1023)))))]) (ok := fun _ => True) (okp := fun _ => True) ?hr ?hp (fun _ hk => hk) trivial (Below.refl _ _) (Nat.le_refl _) (by simp) ?_; (case hd => rfl); (case hg => rfl); (case hr => first | (go_simp; done) | (go_simp; rfl)); (case hp => exact (Reps.one (show Kd.M (Kd.int .i64) _ _ _ (wrap64 (-(wrap64 (1 + (Go.bits .and .i64 a1 1023))))) [.int .i64 (wrap64 (-(wrap64 (1 + (Go.bits .and .i64 a1 1023)))))] from rfl) (Reps.one (show Kd.M (Kd.int .i64) _ _ _ (wrap64 (2147483647 + (wrap64 (1 + (Go.bits .and .i64 a1 1023))))) [.int .i64 (wrap64 (2147483647 + (wrap64 (1 + (Go.bits .and .i64 a1 1023)))))] from rfl) (Reps.none _ _))))
                 intro v242 w137 ho138 hb hg_ hnew_
                 clear hg_ hnew_
                 (first | rw [← Ny241.out] at ho138 | (simp only [Int.reduceToNat] at ho138; rw [← Ny241.out] at ho138))
                 have n0_ := Aside0.mk (Kd.R_below (by exact HO_209001.out) hb)
                 have n1_ := Aside0.mk (Kd.R_below (by exact HO_216001.out) hb)
                 have n2_ := Aside0.mk (Kd.R_lower ho138 (below_size (by repeat (first | (with_reducible first | exact HB.out | apply below_alloc | apply pw_below_drewN | apply below_drew1 | refine below_set ?_ GE208.out | refine below_set ?_ GE215.out | refine below_set ?_ GE240.out | refine below_set ?_ GE250.out) | exact HB.out))))
                 have n3_ := Aside0.mk (blk_below (g := gb208) (o := .cells #[.int .i64 5, .slice Ao133 x209001_5.length co133] 28 (0, 0)) (by exact BK208.out) hb)
                 have n4_ := Aside0.mk (blk_below (g := gb215) (o := .cells #[.int .i64 x216000_5, .slice Ao113 x216001_5.length co113] 28 (0, 0)) (by exact BK215.out) hb)
                 have n5_ := Aside0.mk (blk_below (g := gb240) (o := .cells #[.string t236, .int .i64 t237, .int .i64 t238] 72 (0, 0)) (by exact BK240.out) hb)
                 have n6_ := Aside0.mk (blk_below (g := gb250) (o := .cells #[.int .i64 0, .slice none 0 0] 28 (0, 0)) (by exact BK250.out) hb)
                 have n7_ := Aside0.mk (below_step (by repeat (first | (with_reducible first | exact HB.out | apply below_alloc | apply pw_below_drewN | apply below_drew1 | refine below_set ?_ GE208.out | refine below_set ?_ GE215.out | refine below_set ?_ GE240.out | refine below_set ?_ GE250.out) | exact HB.out)) hb)
                 clear HO_209001
                 clear HO_216001
                 clear BK208
                 clear BK215
                 clear BK240
                 clear BK250
                 clear HB
                 have HO_209001 := n0_
                 have HO_216001 := n1_
                 have HO243 := n2_
                 have BK208 := n3_
                 have BK215 := n4_
                 have BK240 := n5_
                 have BK250 := n6_
                 have HB := n7_
                 clear n0_ n1_ n2_ n3_ n4_ n5_ n6_ n7_
                 clear hb ho138
                 obtain ⟨Ao139, co139, eo139⟩ := Kd.R_slice HO243.out
                 subst eo139
                 obtain ⟨ado139, fo139, _⟩ := Kd.at_int (Kd.R_reads' HO243.out).2.2 0 (by decide) (by rw [Ny241.out]; simp)
                 cases fo139
                 refine hK.out _ _ ⟨(blk_cell BK208.out 0).trans rfl, (blk_cell BK208.out 1).trans rfl⟩ (fun hHeld => ?_)
                 clear hK K
                 refine norm_ (a' := ?_) ?_ ?_
                 rotate_left
                 ·
                  show Act.put _ (some 126) _ = _
                  simp only [Act.put, List.setIfInBounds_toArray, List.set_cons_zero, List.set_cons_succ, i64_w, i32_w]
                  rfl
                 refine pure_ (i := 8) (N := some 129) (v := ?_) (a' := ?_) #[true, true, true, true, true, true, true, true, true, false, false, false, false, false, true, false, false] rfl rfl (any_of HT_.out (by kernel_rfl)) (fun _ _ _ h => h) (Or.inl ⟨by rfl, ?_⟩) ?_ ?_
                 rotate_left
                 ·
                  intro w'
                  go_simp
                  with_reducible rfl
                 rotate_left
                 ·
                  simp only [Act.put, List.setIfInBounds_toArray, List.set_cons_zero, List.set_cons_succ, i64_w, i32_w]
                  rfl
                 refine one_ (i := 9) (N := some 130) #[true, true, true, true, true, true, true, true, true, true, false, false, false, false, true, false, false] rfl rfl (one_of HT_.out (by kernel_rfl)) (by decide) (fun K hK => ?_)
                 (have p244 : 0 ≤ ((Go.bits .and .i64 a0 1) : Int) := of_decide_eq_true (by first | (with_reducible assumption) | assumption); have q244 : (Go.bits .and .i64 a0 1) < (y241.length : Int) := of_decide_eq_true (by first | (with_reducible assumption) | assumption); obtain ⟨ad244, e244, hx244_0⟩ := Kd.at_int (Kd.R_reads' HO243.out).2.2 (Go.bits .and .i64 a0 1) p244 q244; obtain rfl : ado139 = ad244 := (by injection e244))
                 refine value_ (w1 := ?_) (v := ?_) (by rfl) rfl ?_ ?_
                 rotate_left 2
                 ·
                  go_simp
                  constructor
                  ·
                   rfl
                  ·
                   rfl
                 clear hx244_0
                 refine hK.out _ _ ⟨(blk_cell BK208.out 0).trans rfl, (blk_cell BK208.out 1).trans rfl⟩ (fun hHeld => ?_)
                 clear hK K
                 refine norm_ (a' := ?_) ?_ ?_
                 rotate_left
                 ·
                  show Act.put _ (some 130) _ = _
                  simp only [Act.put, List.setIfInBounds_toArray, List.set_cons_zero, List.set_cons_succ, i64_w, i32_w]
                  rfl
                 refine one_ (i := 10) (N := some 131) #[true, true, true, true, true, true, true, true, true, true, true, false, false, false, true, false, false] rfl rfl (one_of HT_.out (by kernel_rfl)) (by decide) (fun K hK => ?_)
                 refine goes_ Tryd.func38 (by kernel_rfl) rfl #[.agg #[.int .i64 5, .slice Ao133 x209001_5.length co133], .string (⟨#[120]⟩ : ByteArray), .int .i64 (rd y241 (Go.bits .and .i64 a0 1))] (by rfl) rfl rfl (by (try simp only [List.map_toArray, List.map_cons, List.map_nil]); first | done | rfl | (simp only [List.length_drop, List.length_take]; rfl)) ?_
                 with_reducible refine (disk_Put.calls kj5 5 _ _ x209001_5 (⟨#[120]⟩ : ByteArray) (rd y241 (Go.bits .and .i64 a0 1)) t245 t246 t249 _ ?side1 ?side2 A91.out).mono ?_
                 (case side1 => repeat (first | exact (Kd.R_reads' HO_209001.out).2.2 | (with_reducible refine Kd.C_alloc ?_ _) | (with_reducible refine Kd.C_drewN ?_ _) | (with_reducible refine Kd.C_drew ?_)))
                 (case side2 => exact (Kd.R_reads' HO_209001.out).2.1)
                 rintro e w140 ⟨v247, rfl, ho0, hb⟩
                 refine ⟨_, rfl, ?_⟩
                 have n0_ := Aside0.mk (Kd.R_elder' (by exact HO_209001.out) (Kd.R_base ho0) hb)
                 have n1_ := Aside0.mk (Kd.R_elder' (by exact HO_216001.out) (Kd.R_base ho0) hb)
                 have n2_ := Aside0.mk (Kd.R_below (by exact HO243.out) hb)
                 have n3_ := Aside0.mk (Kd.R_lower (Kd.R_newB (Kd.R_new' (Kd.R_new' ho0 (Kd.R_lt (by exact HO_209001.out))) (Kd.R_lt (by exact HO_216001.out))) (g := gb240) (o := .cells #[.string t236, .int .i64 t237, .int .i64 t238] 72 (0, 0)) (by exact BK240.out)) (below_size (by repeat (first | (with_reducible first | exact HB.out | apply below_alloc | apply pw_below_drewN | apply below_drew1 | refine below_set ?_ GE208.out | refine below_set ?_ GE215.out | refine below_set ?_ GE240.out | refine below_set ?_ GE250.out) | exact HB.out))))
                 have n4_ := Aside0.mk (blk_below (g := gb208) (o := .cells #[.int .i64 5, .slice Ao133 x209001_5.length co133] 28 (0, 0)) (by exact BK208.out) hb)
                 have n5_ := Aside0.mk (blk_below (g := gb215) (o := .cells #[.int .i64 x216000_5, .slice Ao113 x216001_5.length co113] 28 (0, 0)) (by exact BK215.out) hb)
                 have n6_ := Aside0.mk (blk_below (g := gb240) (o := .cells #[.string t236, .int .i64 t237, .int .i64 t238] 72 (0, 0)) (by exact BK240.out) hb)
                 have n7_ := Aside0.mk (blk_below (g := gb250) (o := .cells #[.int .i64 0, .slice none 0 0] 28 (0, 0)) (by exact BK250.out) hb)
                 have n8_ := Aside0.mk (below_step (by repeat (first | (with_reducible first | exact HB.out | apply below_alloc | apply pw_below_drewN | apply below_drew1 | refine below_set ?_ GE208.out | refine below_set ?_ GE215.out | refine below_set ?_ GE240.out | refine below_set ?_ GE250.out) | exact HB.out)) hb)
                 clear HO_209001
                 clear HO_216001
                 clear HO243
                 clear BK208
                 clear BK215
                 clear BK240
                 clear BK250
                 clear HB
                 have HO_209001 := n0_
                 have HO_216001 := n1_
                 have HO243 := n2_
                 have HO248 := n3_
                 have BK208 := n4_
                 have BK215 := n5_
                 have BK240 := n6_
                 have BK250 := n7_
                 have HB := n8_
                 clear n0_ n1_ n2_ n3_ n4_ n5_ n6_ n7_ n8_
                 (try clear hb)
                 (try clear hb2)
                 (try clear hk)
                 (try clear hi)
                 (try clear ho0)
                 refine hK.out _ _ ⟨(blk_cell BK208.out 0).trans rfl, (blk_cell BK208.out 1).trans rfl⟩ (fun hHeld => ?_)
                 clear hK K
                 refine norm_ (a' := ?_) ?_ ?_
                 rotate_left
                 ·
                  show Act.put _ (some 131) _ = _
                  simp only [Act.put, List.setIfInBounds_toArray, List.set_cons_zero, List.set_cons_succ, i64_w, i32_w]
                  rfl
                 refine pure_ (i := 11) (N := some 120) (v := ?_) (a' := ?_) #[true, true, true, true, true, true, true, true, true, true, true, true, false, false, true, false, false] rfl rfl (any_of HT_.out (by kernel_rfl)) (fun _ _ _ h => h) (Or.inl ⟨by rfl, ?_⟩) ?_ ?_
                 rotate_left
                 ·
                  intro w'
                  go_simp
                  with_reducible rfl
                 rotate_left
                 ·
                  simp only [Act.put, List.setIfInBounds_toArray, List.set_cons_zero, List.set_cons_succ, i64_w, i32_w]
                  rfl
                 refine pure_ (i := 12) (N := some 132) (v := ?_) (a' := ?_) #[true, true, true, true, true, true, true, true, true, true, true, true, true, false, true, false, false] rfl rfl (any_of HT_.out (by kernel_rfl)) (fun _ _ _ h => h) (Or.inl ⟨by rfl, ?_⟩) ?_ ?_
                 rotate_left
                 ·
                  intro w'
                  go_simp
                  with_reducible rfl
                 rotate_left
                 ·
                  simp only [Act.put, List.setIfInBounds_toArray, List.set_cons_zero, List.set_cons_succ, i64_w, i32_w]
                  rfl
                 refine pure_ (i := 13) (N := some 133) (v := ?_) (a' := ?_) #[true, true, true, true, true, true, true, true, true, true, true, true, true, true, true, false, false] rfl rfl (any_of HT_.out (by kernel_rfl)) (fun _ _ _ h => h) (Or.inl ⟨by rfl, ?_⟩) ?_ ?_
                 rotate_left
                 ·
                  intro w'
                  go_simp
                  with_reducible rfl
                 rotate_left
                 ·
                  simp only [Act.put, List.setIfInBounds_toArray, List.set_cons_zero, List.set_cons_succ, i64_w, i32_w]
                  rfl
                 exact norm_ (by simp only [putAll, Act.put, List.setIfInBounds_toArray, List.set_cons_zero, List.set_cons_succ]) (hCont (.slice (some ado139) y241.length co139, ado139, v247, gb250) _ ⟨hHeld, (by exact HO243.out), (by exact Kd.R_mono HO248.out (fun _ hk => ⟨hk.1.1.2, ⟨hk.1.2, hk.2⟩⟩)), (by exact Kd.R_mono HO_209001.out (fun _ hk => ⟨hk.2, ⟨hk.1.1, hk.1.2⟩⟩)), (by exact Kd.R_mono HO_216001.out (fun _ hk => ⟨hk.2, ⟨hk.1.1, hk.1.2⟩⟩)), ⟨_, rfl⟩, (by exact BK208.out), (by exact BK215.out), (by exact BK240.out), (by exact BK250.out), GW250.out, GE250.out, NB208_250.out, NB250_208.out, NB215_250.out, NB250_215.out, NB240_250.out, NB250_240.out, (by repeat (first | (with_reducible first | exact HB.out | apply below_alloc | apply pw_below_drewN | apply below_drew1 | refine below_set ?_ GE208.out | refine below_set ?_ GE215.out | refine below_set ?_ GE240.out | refine below_set ?_ GE250.out) | exact HB.out))⟩)
               rintro ⟨v242, adz_v242, v247, gb250⟩ w141 ⟨hS_, h0_, h1_, h2_, h3_, h4_, h5_, h6_, h7_, h8_, h9_, h10_, h11_, h12_, h13_, h14_, h15_, h16_, h17_⟩
               have n0_ : Aside0 (Kd.R (Kd.int .i64) 3 w141 w.heap.size (fun _ => True) v242 y241) := ⟨h0_⟩
               have n1_ : Aside0 (Kd.R k72 72 w141 w.heap.size (fun k_ => some k_ ≠ (.slice Ao133 x209001_5.length co133 : Value).ownBlock ∧ some k_ ≠ (.slice Ao113 x216001_5.length co113 : Value).ownBlock ∧ k_ ≠ gb240) v247 t246) := ⟨h1_⟩
               have n2_ : Aside0 (Kd.R k72 72 w141 w.heap.size (fun k_ => some k_ ≠ (v247 : Value).ownBlock ∧ some k_ ≠ (.slice Ao113 x216001_5.length co113 : Value).ownBlock ∧ k_ ≠ gb240) (.slice Ao133 x209001_5.length co133) x209001_5) := ⟨h2_⟩
               have n3_ : Aside0 (Kd.R k72 72 w141 w.heap.size (fun k_ => some k_ ≠ (v247 : Value).ownBlock ∧ some k_ ≠ (.slice Ao133 x209001_5.length co133 : Value).ownBlock ∧ k_ ≠ gb240) (.slice Ao113 x216001_5.length co113) x216001_5) := ⟨h3_⟩
               have n4_ : Aside0 (∃ c_, (v242 : Value) = .slice (some adz_v242) y241.length c_) := ⟨h4_⟩
               have n5_ : Aside0 (w141.heap[gb208]? = some (.cells #[.int .i64 5, .slice Ao133 x209001_5.length co133] 28 (0, 0))) := ⟨h5_⟩
               have n6_ : Aside0 (w141.heap[gb215]? = some (.cells #[.int .i64 x216000_5, .slice Ao113 x216001_5.length co113] 28 (0, 0))) := ⟨h6_⟩
               have n7_ : Aside0 (w141.heap[gb240]? = some (.cells #[.string t236, .int .i64 t237, .int .i64 t238] 72 (0, 0))) := ⟨h7_⟩
               have n8_ : Aside0 (w141.heap[gb250]? = some (.cells #[.int .i64 0, .slice none 0 0] 28 (0, 0))) := ⟨h8_⟩
               have n9_ : Aside0 (w.heap.size ≤ gb250) := ⟨h9_⟩
               have n10_ : Aside0 (w.heap.size ≤ gb250) := ⟨h10_⟩
               have n11_ : Aside0 (gb208 ≠ gb250) := ⟨h11_⟩
               have n12_ : Aside0 (gb250 ≠ gb208) := ⟨h12_⟩
               have n13_ : Aside0 (gb215 ≠ gb250) := ⟨h13_⟩
               have n14_ : Aside0 (gb250 ≠ gb215) := ⟨h14_⟩
               have n15_ : Aside0 (gb240 ≠ gb250) := ⟨h15_⟩
               have n16_ : Aside0 (gb250 ≠ gb240) := ⟨h16_⟩
               have n17_ : Aside0 (Below w.heap.size w w141) := ⟨h17_⟩
               clear HO_209001
               clear HO_216001
               clear BK208
               clear BK215
               clear BK240
               clear HB
               clear h0_ h1_ h2_ h3_ h4_ h5_ h6_ h7_ h8_ h9_ h10_ h11_ h12_ h13_ h14_ h15_ h16_ h17_
               have HO243 := n0_
               have HO248 := n1_
               have HO_209001 := n2_
               have HO_216001 := n3_
               have HA_HO243 := n4_
               have BK208 := n5_
               have BK215 := n6_
               have BK240 := n7_
               have BK250 := n8_
               have GW250 := n9_
               have GE250 := n10_
               have NB208_250 := n11_
               have NB250_208 := n12_
               have NB215_250 := n13_
               have NB250_215 := n14_
               have NB240_250 := n15_
               have NB250_240 := n16_
               have HB := n17_
               clear n0_ n1_ n2_ n3_ n4_ n5_ n6_ n7_ n8_ n9_ n10_ n11_ n12_ n13_ n14_ n15_ n16_ n17_
               have hHeld : w141.cell? ⟨gb208, 0, none⟩ = some (.int .i64 5) ∧ w141.cell? ⟨gb208, 1, none⟩ = some (.slice Ao133 x209001_5.length co133) := hS_
               obtain ⟨co142, eo142⟩ := HA_HO243.out
               clear HA_HO243
               subst eo142
               obtain ⟨Ao144, co144, eo144⟩ := Kd.R_slice HO248.out
               (first | subst eo144 | (injection eo144 with f1_ f2_ f3_; have f4_ := f1_.symm; have f5_ := f3_.symm; clear f1_ f2_ f3_; subst f4_; subst f5_))
               refine norm_ (a' := ?_) ?_ ?_
               rotate_left
               ·
                simp only [putAll, Act.put, List.setIfInBounds_toArray, List.set_cons_zero, List.set_cons_succ]
                rfl
               refine one_ (i := 15) (N := none) #[true, true, true, true, true, true, true, true, true, true, true, true, true, true, true, true, false] rfl rfl (one_of HT_.out (by kernel_rfl)) (by decide) (fun K hK => ?_)
               have hs143 : w141.cell? ⟨gb250, 0, none⟩ = some (.int .i64 0) := (blk_cell BK250.out 0).trans rfl
               have hfs143 := blk_frozen BK250.out 0
               have hns143_0 := NB208_250.out
               have hns143_1 := NB215_250.out
               have hns143_2 := NB240_250.out
               have hms143_0 := NB250_208.out
               have hms143_1 := NB250_215.out
               have hms143_2 := NB250_240.out
               have hs145 : w141.cell? ⟨gb250, 1, none⟩ = some (.slice none 0 0) := (blk_cell BK250.out 1).trans rfl
               have hfs145 := blk_frozen BK250.out 1
               have hns145_0 := NB208_250.out
               have hns145_1 := NB215_250.out
               have hns145_2 := NB240_250.out
               have hms145_0 := NB250_208.out
               have hms145_1 := NB250_215.out
               have hms145_2 := NB250_240.out
               refine skip_ (w1 := ?_) (by rfl) rfl ?_ ?_
               rotate_left
               ·
                go_simp
                rfl
               refine hK.out _ _ ⟨((cell_far (p := ⟨gb250, _, none⟩) NB208_250.out _).trans (((cell_far (p := ⟨gb250, _, none⟩) NB208_250.out _).trans (hHeld.1)))), ((cell_far (p := ⟨gb250, _, none⟩) NB208_250.out _).trans (((cell_far (p := ⟨gb250, _, none⟩) NB208_250.out _).trans (hHeld.2))))⟩ (fun hHeld => ?_)
               clear hK K
               refine pure_ (i := 16) (N := some 15) (v := ?_) (a' := ?_) #[true, true, true, true, true, true, true, true, true, true, true, true, true, true, true, true, true] rfl rfl (any_of HT_.out (by kernel_rfl)) (fun _ _ _ h => h) (Or.inl ⟨by rfl, ?_⟩) ?_ ?_
               rotate_left
               ·
                intro w'
                go_simp
                with_reducible rfl
               rotate_left
               ·
                simp only [Act.put, List.setIfInBounds_toArray, List.set_cons_zero, List.set_cons_succ, i64_w, i32_w]
                rfl
               refine done_ (done_of HT_.out (by kernel_rfl)) ?_
               have hnb146 := NB208_250.out
               have hnc146 := NB250_208.out
               have hcz147_0 : w141.cell? ⟨gb208, 0, none⟩ = some (.int .i64 5) := (blk_cell BK208.out 0).trans rfl
               have hcz147_1 : w141.cell? ⟨gb208, 1, none⟩ = some (.slice Ao133 x209001_5.length co133) := (blk_cell BK208.out 1).trans rfl
               have hfz147_0 := blk_frozen BK208.out 0
               have hfz147_1 := blk_frozen BK208.out 1
               try go_wp2_with (first | ((with_reducible refine gate_callee (f := 39) rfl ?_); refine goesL_ (some 136) rfl rfl Tryd.func39 (by kernel_rfl) rfl #[.agg #[.int .i64 5, .slice Ao133 x209001_5.length co133], .string (⟨#[47, 97]⟩ : ByteArray)] rfl (by (try simp only [List.map_toArray, List.map_cons, List.map_nil]); first | done | rfl | (simp only [List.length_drop, List.length_take]; rfl)) ?_; (with_reducible refine (disk_Remove.calls kj5 5 _ _ x209001_5 (⟨#[47, 97]⟩ : ByteArray) t251 t252 t255 _ ?side1 ?side2 A92.out).mono ?_); (case side1 => refine (Kd.R_reads' (e := 72) (base := w.heap.size) (ok := fun k_ => (some k_ ≠ (.slice Ao144 t246.length co144 : Value).ownBlock ∧ (some k_ ≠ (.slice Ao113 x216001_5.length co113 : Value).ownBlock ∧ k_ ≠ gb240))) (n := x209001_5.length) (c := co133) ?_).2.2; exact (by exact (Kd.R_mono (Kd.R_far (p := ⟨gb250, 1, none⟩) (Kd.R_far (p := ⟨gb250, 0, none⟩) (Kd.R_types HO_209001.out BK250.out (by decide)) (fun _ hk => hk.2) (.int .i64 t245)) (fun _ hk => hk.2) (.slice Ao144 t246.length co144)) (fun _ h_ => h_.1)))); (case side2 => exact (Kd.R_reads' HO_209001.out).2.1); rintro e w148 ⟨v253, rfl, ho0, hb⟩; refine ⟨_, rfl, ?_⟩; have n0_ := Aside0.mk (Kd.R_elder' (by exact (Kd.R_mono (Kd.R_far (p := ⟨gb250, 1, none⟩) (Kd.R_far (p := ⟨gb250, 0, none⟩) (Kd.R_types HO_209001.out BK250.out (by decide)) (fun _ hk => hk.2) (.int .i64 t245)) (fun _ hk => hk.2) (.slice Ao144 t246.length co144)) (fun _ h_ => h_.1))) (Kd.R_base ho0) hb); have n1_ := Aside0.mk (Kd.R_elder' (by exact (Kd.R_mono (Kd.R_far (p := ⟨gb250, 1, none⟩) (Kd.R_far (p := ⟨gb250, 0, none⟩) (Kd.R_types HO_216001.out BK250.out (by decide)) (fun _ hk => hk.2) (.int .i64 t245)) (fun _ hk => hk.2) (.slice Ao144 t246.length co144)) (fun _ h_ => h_.1))) (Kd.R_base ho0) hb); have n2_ := Aside0.mk (Kd.R_below (by exact (Kd.R_mono (Kd.R_far (p := ⟨gb250, 1, none⟩) (Kd.R_far (p := ⟨gb250, 0, none⟩) (Kd.R_types HO243.out BK250.out (by decide)) (fun _ hk => hk.2) (.int .i64 t245)) (fun _ hk => hk.2) (.slice Ao144 t246.length co144)) (fun _ h_ => h_.1))) hb); have n3_ := Aside0.mk (Kd.R_elder' (by exact (Kd.R_mono (Kd.R_far (p := ⟨gb250, 1, none⟩) (Kd.R_far (p := ⟨gb250, 0, none⟩) (Kd.R_types HO248.out BK250.out (by decide)) (fun _ hk => hk.2) (.int .i64 t245)) (fun _ hk => hk.2) (.slice Ao144 t246.length co144)) (fun _ h_ => h_.1))) (Kd.R_base ho0) hb); have n4_ := Aside0.mk (Kd.R_lower (Kd.R_newB (Kd.R_new' (Kd.R_new' (Kd.R_new' ho0 (Kd.R_lt (by exact (Kd.R_mono (Kd.R_far (p := ⟨gb250, 1, none⟩) (Kd.R_far (p := ⟨gb250, 0, none⟩) (Kd.R_types HO_209001.out BK250.out (by decide)) (fun _ hk => hk.2) (.int .i64 t245)) (fun _ hk => hk.2) (.slice Ao144 t246.length co144)) (fun _ h_ => h_.1))))) (Kd.R_lt (by exact (Kd.R_mono (Kd.R_far (p := ⟨gb250, 1, none⟩) (Kd.R_far (p := ⟨gb250, 0, none⟩) (Kd.R_types HO_216001.out BK250.out (by decide)) (fun _ hk => hk.2) (.int .i64 t245)) (fun _ hk => hk.2) (.slice Ao144 t246.length co144)) (fun _ h_ => h_.1))))) (Kd.R_lt (by exact (Kd.R_mono (Kd.R_far (p := ⟨gb250, 1, none⟩) (Kd.R_far (p := ⟨gb250, 0, none⟩) (Kd.R_types HO248.out BK250.out (by decide)) (fun _ hk => hk.2) (.int .i64 t245)) (fun _ hk => hk.2) (.slice Ao144 t246.length co144)) (fun _ h_ => h_.1))))) (g := gb240) (o := .cells #[.string t236, .int .i64 t237, .int .i64 t238] 72 (0, 0)) (by refine blk_far ?_ NB240_250.out _; refine blk_far ?_ NB240_250.out _; exact BK240.out)) (below_size (by repeat (first | (with_reducible first | exact HB.out | apply below_alloc | apply pw_below_drewN | apply below_drew1 | refine below_set ?_ GE208.out | refine below_set ?_ GE215.out | refine below_set ?_ GE240.out | refine below_set ?_ GE250.out) | exact HB.out)))); have n5_ := Aside0.mk (blk_below (g := gb208) (o := .cells #[.int .i64 5, .slice Ao133 x209001_5.length co133] 28 (0, 0)) (by refine blk_far ?_ NB208_250.out _; refine blk_far ?_ NB208_250.out _; exact BK208.out) hb); have n6_ := Aside0.mk (blk_below (g := gb215) (o := .cells #[.int .i64 x216000_5, .slice Ao113 x216001_5.length co113] 28 (0, 0)) (by refine blk_far ?_ NB215_250.out _; refine blk_far ?_ NB215_250.out _; exact BK215.out) hb); have n7_ := Aside0.mk (blk_below (g := gb240) (o := .cells #[.string t236, .int .i64 t237, .int .i64 t238] 72 (0, 0)) (by refine blk_far ?_ NB240_250.out _; refine blk_far ?_ NB240_250.out _; exact BK240.out) hb); have n8_ := Aside0.mk (blk_below (g := gb250) (o := .cells #[.int .i64 t245, .slice Ao144 t246.length co144] 28 (0, 0)) (by refine blk_put (cs := #[.int .i64 t245, .slice none 0 0]) ?_ 1 _ rfl; refine blk_put (cs := #[.int .i64 0, .slice none 0 0]) ?_ 0 _ rfl; exact BK250.out) hb); have n9_ := Aside0.mk (below_step (by repeat (first | (with_reducible first | exact HB.out | apply below_alloc | apply pw_below_drewN | apply below_drew1 | refine below_set ?_ GE208.out | refine below_set ?_ GE215.out | refine below_set ?_ GE240.out | refine below_set ?_ GE250.out) | exact HB.out)) hb); clear HO_209001; clear HO_216001; clear HO243; clear HO248; clear BK208; clear BK215; clear BK240; clear BK250; clear HB; have HO_209001 := n0_; have HO_216001 := n1_; have HO243 := n2_; have HO248 := n3_; have HO254 := n4_; have BK208 := n5_; have BK215 := n6_; have BK240 := n7_; have BK250 := n8_; have HB := n9_; clear n0_ n1_ n2_ n3_ n4_ n5_ n6_ n7_ n8_ n9_; (try clear hb); (try clear hb2); (try clear hk); (try clear hi); (try clear ho0); have n_ : Aside0 (Kd.R k72 72 w148 w.heap.size (fun k_ => some k_ ≠ (.slice Ao113 x216001_5.length co113 : Value).ownBlock ∧ some k_ ≠ (v253 : Value).ownBlock) (.slice Ao133 x209001_5.length co133) x209001_5) := ⟨by exact Kd.R_mono HO_209001.out (fun _ hk => ⟨hk.1.2.1, hk.2⟩)⟩; clear HO_209001; have HO_209001 := n_; clear n_; have n_ : Aside0 (Kd.R k72 72 w148 w.heap.size (fun k_ => some k_ ≠ (.slice Ao133 x209001_5.length co133 : Value).ownBlock ∧ some k_ ≠ (v253 : Value).ownBlock) (.slice Ao113 x216001_5.length co113) x216001_5) := ⟨by exact Kd.R_mono HO_216001.out (fun _ hk => ⟨hk.1.2.1, hk.2⟩)⟩; clear HO_216001; have HO_216001 := n_; clear n_; have n_ : Aside0 (Kd.R k72 72 w148 w.heap.size (fun k_ => some k_ ≠ (.slice Ao133 x209001_5.length co133 : Value).ownBlock ∧ some k_ ≠ (.slice Ao113 x216001_5.length co113 : Value).ownBlock) v253 t252) := ⟨by exact Kd.R_mono HO254.out (fun _ hk => ⟨hk.1.1.1.2, hk.1.1.2⟩)⟩; clear HO254; have HO254 := n_; clear n_; (try clear BK240); (try clear BK250); (try clear HO243); (try clear HO248)) | ((with_reducible refine gate_dst (N := 16) rfl ?_); refine box_event ?hg (N := 16) ?hd (cs := #[.int .i64 0, .slice none 0 0]) (t := 28) ?hr ?_; (case hd => rfl); (case hg => rfl); (case hr => first | (go_simp; done) | (go_simp; rfl)); intro gb256 hg w149 hbox hb; have n0_ := Aside0.mk (Kd.R_below (by exact HO_209001.out) hb); have n1_ := Aside0.mk (Kd.R_below (by exact HO_216001.out) hb); have n2_ := Aside0.mk (Kd.R_below (by exact HO254.out) hb); have n3_ := Aside0.mk (blk_below (g := gb208) (o := .cells #[.int .i64 5, .slice Ao133 x209001_5.length co133] 28 (0, 0)) (by exact BK208.out) hb); have n4_ := Aside0.mk (blk_below (g := gb215) (o := .cells #[.int .i64 x216000_5, .slice Ao113 x216001_5.length co113] 28 (0, 0)) (by exact BK215.out) hb); have n5_ := Aside0.mk (below_step (by repeat (first | (with_reducible first | exact HB.out | apply below_alloc | apply pw_below_drewN | apply below_drew1 | refine below_set ?_ GE208.out | refine below_set ?_ GE215.out) | exact HB.out)) hb); have n6_ := Aside0.mk (hbox); have n7_ := Aside0.mk ((by rw [hg]; exact (below_size (by repeat (first | (with_reducible first | exact HB.out | apply below_alloc | apply pw_below_drewN | apply below_drew1 | refine below_set ?_ GE208.out | refine below_set ?_ GE215.out) | exact HB.out))) : w.heap.size ≤ gb256)); have n8_ := Aside0.mk ((by rw [hg]; exact (below_size (by repeat (first | (with_reducible first | exact HB.out | apply below_alloc | apply pw_below_drewN | apply below_drew1 | refine below_set ?_ GE208.out | refine below_set ?_ GE215.out) | exact HB.out))) : w.heap.size ≤ gb256)); have n9_ := Aside0.mk ((by rw [hg]; exact Nat.ne_of_lt (blk_lt (g := gb208) (o := .cells #[.int .i64 5, .slice Ao133 x209001_5.length co133] 28 (0, 0)) (by exact BK208.out)) : gb208 ≠ gb256)); have n10_ := Aside0.mk ((by rw [hg]; exact Nat.ne_of_gt (blk_lt (g := gb208) (o := .cells #[.int .i64 5, .slice Ao133 x209001_5.length co133] 28 (0, 0)) (by exact BK208.out)) : gb256 ≠ gb208)); have n11_ := Aside0.mk ((by rw [hg]; exact Nat.ne_of_lt (blk_lt (g := gb215) (o := .cells #[.int .i64 x216000_5, .slice Ao113 x216001_5.length co113] 28 (0, 0)) (by exact BK215.out)) : gb215 ≠ gb256)); have n12_ := Aside0.mk ((by rw [hg]; exact Nat.ne_of_gt (blk_lt (g := gb215) (o := .cells #[.int .i64 x216000_5, .slice Ao113 x216001_5.length co113] 28 (0, 0)) (by exact BK215.out)) : gb256 ≠ gb215)); clear HO_209001; clear HO_216001; clear HO254; clear BK208; clear BK215; clear HB; have HO_209001 := n0_; have HO_216001 := n1_; have HO254 := n2_; have BK208 := n3_; have BK215 := n4_; have HB := n5_; have BK256 := n6_; have GW256 := n7_; have GE256 := n8_; have NB208_256 := n9_; have NB256_208 := n10_; have NB215_256 := n11_; have NB256_215 := n12_; clear n0_ n1_ n2_ n3_ n4_ n5_ n6_ n7_ n8_ n9_ n10_ n11_ n12_; clear hb hbox hg; have hnb150 := NB256_208.out; have hnc150 := NB208_256.out; have hnb151 := NB256_215.out; have hnc151 := NB215_256.out; have hcz152_0 : w149.cell? ⟨gb256, 0, none⟩ = some (.int .i64 0) := (blk_cell BK256.out 0).trans rfl; have hcz152_1 : w149.cell? ⟨gb256, 1, none⟩ = some (.slice none 0 0) := (blk_cell BK256.out 1).trans rfl; have hfz152_0 := blk_frozen BK256.out 0; have hfz152_1 := blk_frozen BK256.out 1; obtain ⟨Ao153, co153, eo153⟩ := Kd.R_slice HO254.out; subst eo153; have hcz154_0 : w149.cell? ⟨gb208, 0, none⟩ = some (.int .i64 5) := (blk_cell BK208.out 0).trans rfl; have hcz154_1 : w149.cell? ⟨gb208, 1, none⟩ = some (.slice Ao133 x209001_5.length co133) := (blk_cell BK208.out 1).trans rfl; have hfz154_0 := blk_frozen BK208.out 0; have hfz154_1 := blk_frozen BK208.out 1) | ((with_reducible refine gate_callee (f := 39) rfl ?_); refine goesL_ (some 141) rfl rfl Tryd.func39 (by kernel_rfl) rfl #[.agg #[.int .i64 5, .slice Ao133 x209001_5.length co133], .string (⟨#[120]⟩ : ByteArray)] rfl (by (try simp only [List.map_toArray, List.map_cons, List.map_nil]); first | done | rfl | (simp only [List.length_drop, List.length_take]; rfl)) ?_; (with_reducible refine (disk_Remove.calls kj5 5 _ _ x209001_5 (⟨#[120]⟩ : ByteArray) t257 t258 t261 _ ?side1 ?side2 A93.out).mono ?_); (case side1 => refine (Kd.R_reads' (e := 72) (base := w.heap.size) (ok := fun k_ => (some k_ ≠ (.slice Ao113 x216001_5.length co113 : Value).ownBlock ∧ some k_ ≠ (.slice Ao153 t252.length co153 : Value).ownBlock)) (n := x209001_5.length) (c := co133) ?_).2.2; exact (by exact (Kd.R_mono (Kd.R_far (p := ⟨gb256, 1, none⟩) (Kd.R_far (p := ⟨gb256, 0, none⟩) (Kd.R_types HO_209001.out BK256.out (by decide)) (fun _ hk => hk.2) (.int .i64 t251)) (fun _ hk => hk.2) (.slice Ao153 t252.length co153)) (fun _ h_ => h_.1)))); (case side2 => exact (Kd.R_reads' HO_209001.out).2.1); rintro e w155 ⟨v259, rfl, ho0, hb⟩; refine ⟨_, rfl, ?_⟩; have n0_ := Aside0.mk (Kd.R_elder' (by exact (Kd.R_mono (Kd.R_far (p := ⟨gb256, 1, none⟩) (Kd.R_far (p := ⟨gb256, 0, none⟩) (Kd.R_types HO_209001.out BK256.out (by decide)) (fun _ hk => hk.2) (.int .i64 t251)) (fun _ hk => hk.2) (.slice Ao153 t252.length co153)) (fun _ h_ => h_.1))) (Kd.R_base ho0) hb); have n1_ := Aside0.mk (Kd.R_elder' (by exact (Kd.R_mono (Kd.R_far (p := ⟨gb256, 1, none⟩) (Kd.R_far (p := ⟨gb256, 0, none⟩) (Kd.R_types HO_216001.out BK256.out (by decide)) (fun _ hk => hk.2) (.int .i64 t251)) (fun _ hk => hk.2) (.slice Ao153 t252.length co153)) (fun _ h_ => h_.1))) (Kd.R_base ho0) hb); have n2_ := Aside0.mk (Kd.R_elder' (by exact (Kd.R_mono (Kd.R_far (p := ⟨gb256, 1, none⟩) (Kd.R_far (p := ⟨gb256, 0, none⟩) (Kd.R_types HO254.out BK256.out (by decide)) (fun _ hk => hk.2) (.int .i64 t251)) (fun _ hk => hk.2) (.slice Ao153 t252.length co153)) (fun _ h_ => h_.1))) (Kd.R_base ho0) hb); have n3_ := Aside0.mk (Kd.R_lower (Kd.R_new' (Kd.R_new' (Kd.R_new' ho0 (Kd.R_lt (by exact (Kd.R_mono (Kd.R_far (p := ⟨gb256, 1, none⟩) (Kd.R_far (p := ⟨gb256, 0, none⟩) (Kd.R_types HO_209001.out BK256.out (by decide)) (fun _ hk => hk.2) (.int .i64 t251)) (fun _ hk => hk.2) (.slice Ao153 t252.length co153)) (fun _ h_ => h_.1))))) (Kd.R_lt (by exact (Kd.R_mono (Kd.R_far (p := ⟨gb256, 1, none⟩) (Kd.R_far (p := ⟨gb256, 0, none⟩) (Kd.R_types HO_216001.out BK256.out (by decide)) (fun _ hk => hk.2) (.int .i64 t251)) (fun _ hk => hk.2) (.slice Ao153 t252.length co153)) (fun _ h_ => h_.1))))) (Kd.R_lt (by exact (Kd.R_mono (Kd.R_far (p := ⟨gb256, 1, none⟩) (Kd.R_far (p := ⟨gb256, 0, none⟩) (Kd.R_types HO254.out BK256.out (by decide)) (fun _ hk => hk.2) (.int .i64 t251)) (fun _ hk => hk.2) (.slice Ao153 t252.length co153)) (fun _ h_ => h_.1))))) (below_size (by repeat (first | (with_reducible first | exact HB.out | apply below_alloc | apply pw_below_drewN | apply below_drew1 | refine below_set ?_ GE208.out | refine below_set ?_ GE215.out | refine below_set ?_ GE256.out) | exact HB.out)))); have n4_ := Aside0.mk (blk_below (g := gb208) (o := .cells #[.int .i64 5, .slice Ao133 x209001_5.length co133] 28 (0, 0)) (by refine blk_far ?_ NB208_256.out _; refine blk_far ?_ NB208_256.out _; exact BK208.out) hb); have n5_ := Aside0.mk (blk_below (g := gb215) (o := .cells #[.int .i64 x216000_5, .slice Ao113 x216001_5.length co113] 28 (0, 0)) (by refine blk_far ?_ NB215_256.out _; refine blk_far ?_ NB215_256.out _; exact BK215.out) hb); have n6_ := Aside0.mk (blk_below (g := gb256) (o := .cells #[.int .i64 t251, .slice Ao153 t252.length co153] 28 (0, 0)) (by refine blk_put (cs := #[.int .i64 t251, .slice none 0 0]) ?_ 1 _ rfl; refine blk_put (cs := #[.int .i64 0, .slice none 0 0]) ?_ 0 _ rfl; exact BK256.out) hb); have n7_ := Aside0.mk (below_step (by repeat (first | (with_reducible first | exact HB.out | apply below_alloc | apply pw_below_drewN | apply below_drew1 | refine below_set ?_ GE208.out | refine below_set ?_ GE215.out | refine below_set ?_ GE256.out) | exact HB.out)) hb); clear HO_209001; clear HO_216001; clear HO254; clear BK208; clear BK215; clear BK256; clear HB; have HO_209001 := n0_; have HO_216001 := n1_; have HO254 := n2_; have HO260 := n3_; have BK208 := n4_; have BK215 := n5_; have BK256 := n6_; have HB := n7_; clear n0_ n1_ n2_ n3_ n4_ n5_ n6_ n7_; (try clear hb); (try clear hb2); (try clear hk); (try clear hi); (try clear ho0); have n_ : Aside0 (Kd.R k72 72 w155 w.heap.size (fun k_ => some k_ ≠ (.slice Ao113 x216001_5.length co113 : Value).ownBlock ∧ some k_ ≠ (v259 : Value).ownBlock) (.slice Ao133 x209001_5.length co133) x209001_5) := ⟨by exact Kd.R_mono HO_209001.out (fun _ hk => ⟨hk.1.1, hk.2⟩)⟩; clear HO_209001; have HO_209001 := n_; clear n_; have n_ : Aside0 (Kd.R k72 72 w155 w.heap.size (fun k_ => some k_ ≠ (.slice Ao133 x209001_5.length co133 : Value).ownBlock ∧ some k_ ≠ (v259 : Value).ownBlock) (.slice Ao113 x216001_5.length co113) x216001_5) := ⟨by exact Kd.R_mono HO_216001.out (fun _ hk => ⟨hk.1.1, hk.2⟩)⟩; clear HO_216001; have HO_216001 := n_; clear n_; have n_ : Aside0 (Kd.R k72 72 w155 w.heap.size (fun k_ => some k_ ≠ (.slice Ao133 x209001_5.length co133 : Value).ownBlock ∧ some k_ ≠ (.slice Ao113 x216001_5.length co113 : Value).ownBlock) v259 t258) := ⟨by exact Kd.R_mono HO260.out (fun _ hk => ⟨hk.1.1.2, hk.1.2⟩)⟩; clear HO260; have HO260 := n_; clear n_; (try clear BK256); (try clear HO254)) | ((with_reducible refine gate_dst (N := 18) rfl ?_); refine box_event ?hg (N := 18) ?hd (cs := #[.int .i64 0, .slice none 0 0]) (t := 28) ?hr ?_; (case hd => rfl); (case hg => rfl); (case hr => first | (go_simp; done) | (go_simp; rfl)); intro gb262 hg w156 hbox hb; have n0_ := Aside0.mk (Kd.R_below (by exact HO_209001.out) hb); have n1_ := Aside0.mk (Kd.R_below (by exact HO_216001.out) hb); have n2_ := Aside0.mk (Kd.R_below (by exact HO260.out) hb); have n3_ := Aside0.mk (blk_below (g := gb208) (o := .cells #[.int .i64 5, .slice Ao133 x209001_5.length co133] 28 (0, 0)) (by exact BK208.out) hb); have n4_ := Aside0.mk (blk_below (g := gb215) (o := .cells #[.int .i64 x216000_5, .slice Ao113 x216001_5.length co113] 28 (0, 0)) (by exact BK215.out) hb); have n5_ := Aside0.mk (below_step (by repeat (first | (with_reducible first | exact HB.out | apply below_alloc | apply pw_below_drewN | apply below_drew1 | refine below_set ?_ GE208.out | refine below_set ?_ GE215.out) | exact HB.out)) hb); have n6_ := Aside0.mk (hbox); have n7_ := Aside0.mk ((by rw [hg]; exact (below_size (by repeat (first | (with_reducible first | exact HB.out | apply below_alloc | apply pw_below_drewN | apply below_drew1 | refine below_set ?_ GE208.out | refine below_set ?_ GE215.out) | exact HB.out))) : w.heap.size ≤ gb262)); have n8_ := Aside0.mk ((by rw [hg]; exact (below_size (by repeat (first | (with_reducible first | exact HB.out | apply below_alloc | apply pw_below_drewN | apply below_drew1 | refine below_set ?_ GE208.out | refine below_set ?_ GE215.out) | exact HB.out))) : w.heap.size ≤ gb262)); have n9_ := Aside0.mk ((by rw [hg]; exact Nat.ne_of_lt (blk_lt (g := gb208) (o := .cells #[.int .i64 5, .slice Ao133 x209001_5.length co133] 28 (0, 0)) (by exact BK208.out)) : gb208 ≠ gb262)); have n10_ := Aside0.mk ((by rw [hg]; exact Nat.ne_of_gt (blk_lt (g := gb208) (o := .cells #[.int .i64 5, .slice Ao133 x209001_5.length co133] 28 (0, 0)) (by exact BK208.out)) : gb262 ≠ gb208)); have n11_ := Aside0.mk ((by rw [hg]; exact Nat.ne_of_lt (blk_lt (g := gb215) (o := .cells #[.int .i64 x216000_5, .slice Ao113 x216001_5.length co113] 28 (0, 0)) (by exact BK215.out)) : gb215 ≠ gb262)); have n12_ := Aside0.mk ((by rw [hg]; exact Nat.ne_of_gt (blk_lt (g := gb215) (o := .cells #[.int .i64 x216000_5, .slice Ao113 x216001_5.length co113] 28 (0, 0)) (by exact BK215.out)) : gb262 ≠ gb215)); clear HO_209001; clear HO_216001; clear HO260; clear BK208; clear BK215; clear HB; have HO_209001 := n0_; have HO_216001 := n1_; have HO260 := n2_; have BK208 := n3_; have BK215 := n4_; have HB := n5_; have BK262 := n6_; have GW262 := n7_; have GE262 := n8_; have NB208_262 := n9_; have NB262_208 := n10_; have NB215_262 := n11_; have NB262_215 := n12_; clear n0_ n1_ n2_ n3_ n4_ n5_ n6_ n7_ n8_ n9_ n10_ n11_ n12_; clear hb hbox hg; have hnb157 := NB262_208.out; have hnc157 := NB208_262.out; have hnb158 := NB262_215.out; have hnc158 := NB215_262.out; have hcz159_0 : w156.cell? ⟨gb262, 0, none⟩ = some (.int .i64 0) := (blk_cell BK262.out 0).trans rfl; have hcz159_1 : w156.cell? ⟨gb262, 1, none⟩ = some (.slice none 0 0) := (blk_cell BK262.out 1).trans rfl; have hfz159_0 := blk_frozen BK262.out 0; have hfz159_1 := blk_frozen BK262.out 1; obtain ⟨Ao160, co160, eo160⟩ := Kd.R_slice HO260.out; subst eo160; have hcz161_0 : w156.cell? ⟨gb208, 0, none⟩ = some (.int .i64 5) := (blk_cell BK208.out 0).trans rfl; have hcz161_1 : w156.cell? ⟨gb208, 1, none⟩ = some (.slice Ao133 x209001_5.length co133) := (blk_cell BK208.out 1).trans rfl; have hfz161_0 := blk_frozen BK208.out 0; have hfz161_1 := blk_frozen BK208.out 1) | ((with_reducible refine gate_callee (f := 38) rfl ?_); refine goesL_ (some 147) rfl rfl Tryd.func38 (by kernel_rfl) rfl #[.agg #[.int .i64 1048576, .slice Ao133 x209001_5.length co133], .string (⟨#[97]⟩ : ByteArray), .int .i64 1] rfl (by (try simp only [List.map_toArray, List.map_cons, List.map_nil]); first | done | rfl | (simp only [List.length_drop, List.length_take]; rfl)) ?_; (with_reducible refine (disk_Put.calls kj5 1048576 _ _ x209001_5 (⟨#[97]⟩ : ByteArray) 1 t263 t264 t267 _ ?side1 ?side2 A94.out).mono ?_); (case side1 => refine (Kd.R_reads' (e := 72) (base := w.heap.size) (ok := fun k_ => (some k_ ≠ (.slice Ao113 x216001_5.length co113 : Value).ownBlock ∧ some k_ ≠ (.slice Ao160 t258.length co160 : Value).ownBlock)) (n := x209001_5.length) (c := co133) ?_).2.2; exact (by exact (Kd.R_mono (Kd.R_mono (Kd.R_far (p := ⟨gb208, 0, none⟩) (Kd.R_far (p := ⟨gb262, 1, none⟩) (Kd.R_far (p := ⟨gb262, 0, none⟩) (Kd.R_types (Kd.R_types HO_209001.out BK262.out (by decide)) BK208.out (by decide)) (fun _ hk => hk.1.2) (.int .i64 t257)) (fun _ hk => hk.1.2) (.slice Ao160 t258.length co160)) (fun _ hk => hk.2) (.int .i64 1048576)) (fun _ h_ => h_.1)) (fun _ h_ => h_.1)))); (case side2 => exact (Kd.R_reads' HO_209001.out).2.1); rintro e w162 ⟨v265, rfl, ho0, hb⟩; refine ⟨_, rfl, ?_⟩; have n0_ := Aside0.mk (Kd.R_elder' (by exact (Kd.R_mono (Kd.R_mono (Kd.R_far (p := ⟨gb208, 0, none⟩) (Kd.R_far (p := ⟨gb262, 1, none⟩) (Kd.R_far (p := ⟨gb262, 0, none⟩) (Kd.R_types (Kd.R_types HO_209001.out BK262.out (by decide)) BK208.out (by decide)) (fun _ hk => hk.1.2) (.int .i64 t257)) (fun _ hk => hk.1.2) (.slice Ao160 t258.length co160)) (fun _ hk => hk.2) (.int .i64 1048576)) (fun _ h_ => h_.1)) (fun _ h_ => h_.1))) (Kd.R_base ho0) hb); have n1_ := Aside0.mk (Kd.R_elder' (by exact (Kd.R_mono (Kd.R_mono (Kd.R_far (p := ⟨gb208, 0, none⟩) (Kd.R_far (p := ⟨gb262, 1, none⟩) (Kd.R_far (p := ⟨gb262, 0, none⟩) (Kd.R_types (Kd.R_types HO_216001.out BK262.out (by decide)) BK208.out (by decide)) (fun _ hk => hk.1.2) (.int .i64 t257)) (fun _ hk => hk.1.2) (.slice Ao160 t258.length co160)) (fun _ hk => hk.2) (.int .i64 1048576)) (fun _ h_ => h_.1)) (fun _ h_ => h_.1))) (Kd.R_base ho0) hb); have n2_ := Aside0.mk (Kd.R_elder' (by exact (Kd.R_mono (Kd.R_mono (Kd.R_far (p := ⟨gb208, 0, none⟩) (Kd.R_far (p := ⟨gb262, 1, none⟩) (Kd.R_far (p := ⟨gb262, 0, none⟩) (Kd.R_types (Kd.R_types HO260.out BK262.out (by decide)) BK208.out (by decide)) (fun _ hk => hk.1.2) (.int .i64 t257)) (fun _ hk => hk.1.2) (.slice Ao160 t258.length co160)) (fun _ hk => hk.2) (.int .i64 1048576)) (fun _ h_ => h_.1)) (fun _ h_ => h_.1))) (Kd.R_base ho0) hb); have n3_ := Aside0.mk (Kd.R_lower (Kd.R_new' (Kd.R_new' (Kd.R_new' ho0 (Kd.R_lt (by exact (Kd.R_mono (Kd.R_mono (Kd.R_far (p := ⟨gb208, 0, none⟩) (Kd.R_far (p := ⟨gb262, 1, none⟩) (Kd.R_far (p := ⟨gb262, 0, none⟩) (Kd.R_types (Kd.R_types HO_209001.out BK262.out (by decide)) BK208.out (by decide)) (fun _ hk => hk.1.2) (.int .i64 t257)) (fun _ hk => hk.1.2) (.slice Ao160 t258.length co160)) (fun _ hk => hk.2) (.int .i64 1048576)) (fun _ h_ => h_.1)) (fun _ h_ => h_.1))))) (Kd.R_lt (by exact (Kd.R_mono (Kd.R_mono (Kd.R_far (p := ⟨gb208, 0, none⟩) (Kd.R_far (p := ⟨gb262, 1, none⟩) (Kd.R_far (p := ⟨gb262, 0, none⟩) (Kd.R_types (Kd.R_types HO_216001.out BK262.out (by decide)) BK208.out (by decide)) (fun _ hk => hk.1.2) (.int .i64 t257)) (fun _ hk => hk.1.2) (.slice Ao160 t258.length co160)) (fun _ hk => hk.2) (.int .i64 1048576)) (fun _ h_ => h_.1)) (fun _ h_ => h_.1))))) (Kd.R_lt (by exact (Kd.R_mono (Kd.R_mono (Kd.R_far (p := ⟨gb208, 0, none⟩) (Kd.R_far (p := ⟨gb262, 1, none⟩) (Kd.R_far (p := ⟨gb262, 0, none⟩) (Kd.R_types (Kd.R_types HO260.out BK262.out (by decide)) BK208.out (by decide)) (fun _ hk => hk.1.2) (.int .i64 t257)) (fun _ hk => hk.1.2) (.slice Ao160 t258.length co160)) (fun _ hk => hk.2) (.int .i64 1048576)) (fun _ h_ => h_.1)) (fun _ h_ => h_.1))))) (below_size (by repeat (first | (with_reducible first | exact HB.out | apply below_alloc | apply pw_below_drewN | apply below_drew1 | refine below_set ?_ GE208.out | refine below_set ?_ GE215.out | refine below_set ?_ GE262.out) | exact HB.out)))); have n4_ := Aside0.mk (blk_below (g := gb208) (o := .cells #[.int .i64 1048576, .slice Ao133 x209001_5.length co133] 28 (0, 0)) (by refine blk_put (cs := #[.int .i64 5, .slice Ao133 x209001_5.length co133]) ?_ 0 _ rfl; refine blk_far ?_ NB208_262.out _; refine blk_far ?_ NB208_262.out _; exact BK208.out) hb); have n5_ := Aside0.mk (blk_below (g := gb215) (o := .cells #[.int .i64 x216000_5, .slice Ao113 x216001_5.length co113] 28 (0, 0)) (by refine blk_far ?_ NB215_208.out _; refine blk_far ?_ NB215_262.out _; refine blk_far ?_ NB215_262.out _; exact BK215.out) hb); have n6_ := Aside0.mk (blk_below (g := gb262) (o := .cells #[.int .i64 t257, .slice Ao160 t258.length co160] 28 (0, 0)) (by refine blk_far ?_ NB262_208.out _; refine blk_put (cs := #[.int .i64 t257, .slice none 0 0]) ?_ 1 _ rfl; refine blk_put (cs := #[.int .i64 0, .slice none 0 0]) ?_ 0 _ rfl; exact BK262.out) hb); have n7_ := Aside0.mk (below_step (by repeat (first | (with_reducible first | exact HB.out | apply below_alloc | apply pw_below_drewN | apply below_drew1 | refine below_set ?_ GE208.out | refine below_set ?_ GE215.out | refine below_set ?_ GE262.out) | exact HB.out)) hb); clear HO_209001; clear HO_216001; clear HO260; clear BK208; clear BK215; clear BK262; clear HB; have HO_209001 := n0_; have HO_216001 := n1_; have HO260 := n2_; have HO266 := n3_; have BK208 := n4_; have BK215 := n5_; have BK262 := n6_; have HB := n7_; clear n0_ n1_ n2_ n3_ n4_ n5_ n6_ n7_; (try clear hb); (try clear hb2); (try clear hk); (try clear hi); (try clear ho0); have n_ : Aside0 (Kd.R k72 72 w162 w.heap.size (fun k_ => some k_ ≠ (.slice Ao113 x216001_5.length co113 : Value).ownBlock ∧ some k_ ≠ (v265 : Value).ownBlock) (.slice Ao133 x209001_5.length co133) x209001_5) := ⟨by exact Kd.R_mono HO_209001.out (fun _ hk => ⟨hk.1.1, hk.2⟩)⟩; clear HO_209001; have HO_209001 := n_; clear n_; have n_ : Aside0 (Kd.R k72 72 w162 w.heap.size (fun k_ => some k_ ≠ (.slice Ao133 x209001_5.length co133 : Value).ownBlock ∧ some k_ ≠ (v265 : Value).ownBlock) (.slice Ao113 x216001_5.length co113) x216001_5) := ⟨by exact Kd.R_mono HO_216001.out (fun _ hk => ⟨hk.1.1, hk.2⟩)⟩; clear HO_216001; have HO_216001 := n_; clear n_; have n_ : Aside0 (Kd.R k72 72 w162 w.heap.size (fun k_ => some k_ ≠ (.slice Ao133 x209001_5.length co133 : Value).ownBlock ∧ some k_ ≠ (.slice Ao113 x216001_5.length co113 : Value).ownBlock) v265 t264) := ⟨by exact Kd.R_mono HO266.out (fun _ hk => ⟨hk.1.1.2, hk.1.2⟩)⟩; clear HO266; have HO266 := n_; clear n_; (try clear BK262); (try clear HO260)) | ((with_reducible refine gate_dst (N := 20) rfl ?_); refine box_event ?hg (N := 20) ?hd (cs := #[.int .i64 0, .slice none 0 0]) (t := 28) ?hr ?_; (case hd => rfl); (case hg => rfl); (case hr => first | (go_simp; done) | (go_simp; rfl)); intro gb268 hg w163 hbox hb; have n0_ := Aside0.mk (Kd.R_below (by exact HO_209001.out) hb); have n1_ := Aside0.mk (Kd.R_below (by exact HO_216001.out) hb); have n2_ := Aside0.mk (Kd.R_below (by exact HO266.out) hb); have n3_ := Aside0.mk (blk_below (g := gb208) (o := .cells #[.int .i64 1048576, .slice Ao133 x209001_5.length co133] 28 (0, 0)) (by exact BK208.out) hb); have n4_ := Aside0.mk (blk_below (g := gb215) (o := .cells #[.int .i64 x216000_5, .slice Ao113 x216001_5.length co113] 28 (0, 0)) (by exact BK215.out) hb); have n5_ := Aside0.mk (below_step (by repeat (first | (with_reducible first | exact HB.out | apply below_alloc | apply pw_below_drewN | apply below_drew1 | refine below_set ?_ GE208.out | refine below_set ?_ GE215.out) | exact HB.out)) hb); have n6_ := Aside0.mk (hbox); have n7_ := Aside0.mk ((by rw [hg]; exact (below_size (by repeat (first | (with_reducible first | exact HB.out | apply below_alloc | apply pw_below_drewN | apply below_drew1 | refine below_set ?_ GE208.out | refine below_set ?_ GE215.out) | exact HB.out))) : w.heap.size ≤ gb268)); have n8_ := Aside0.mk ((by rw [hg]; exact (below_size (by repeat (first | (with_reducible first | exact HB.out | apply below_alloc | apply pw_below_drewN | apply below_drew1 | refine below_set ?_ GE208.out | refine below_set ?_ GE215.out) | exact HB.out))) : w.heap.size ≤ gb268)); have n9_ := Aside0.mk ((by rw [hg]; exact Nat.ne_of_lt (blk_lt (g := gb208) (o := .cells #[.int .i64 1048576, .slice Ao133 x209001_5.length co133] 28 (0, 0)) (by exact BK208.out)) : gb208 ≠ gb268)); have n10_ := Aside0.mk ((by rw [hg]; exact Nat.ne_of_gt (blk_lt (g := gb208) (o := .cells #[.int .i64 1048576, .slice Ao133 x209001_5.length co133] 28 (0, 0)) (by exact BK208.out)) : gb268 ≠ gb208)); have n11_ := Aside0.mk ((by rw [hg]; exact Nat.ne_of_lt (blk_lt (g := gb215) (o := .cells #[.int .i64 x216000_5, .slice Ao113 x216001_5.length co113] 28 (0, 0)) (by exact BK215.out)) : gb215 ≠ gb268)); have n12_ := Aside0.mk ((by rw [hg]; exact Nat.ne_of_gt (blk_lt (g := gb215) (o := .cells #[.int .i64 x216000_5, .slice Ao113 x216001_5.length co113] 28 (0, 0)) (by exact BK215.out)) : gb268 ≠ gb215)); clear HO_209001; clear HO_216001; clear HO266; clear BK208; clear BK215; clear HB; have HO_209001 := n0_; have HO_216001 := n1_; have HO266 := n2_; have BK208 := n3_; have BK215 := n4_; have HB := n5_; have BK268 := n6_; have GW268 := n7_; have GE268 := n8_; have NB208_268 := n9_; have NB268_208 := n10_; have NB215_268 := n11_; have NB268_215 := n12_; clear n0_ n1_ n2_ n3_ n4_ n5_ n6_ n7_ n8_ n9_ n10_ n11_ n12_; clear hb hbox hg; have hnb164 := NB268_208.out; have hnc164 := NB208_268.out; have hnb165 := NB268_215.out; have hnc165 := NB215_268.out; have hcz166_0 : w163.cell? ⟨gb268, 0, none⟩ = some (.int .i64 0) := (blk_cell BK268.out 0).trans rfl; have hcz166_1 : w163.cell? ⟨gb268, 1, none⟩ = some (.slice none 0 0) := (blk_cell BK268.out 1).trans rfl; have hfz166_0 := blk_frozen BK268.out 0; have hfz166_1 := blk_frozen BK268.out 1; obtain ⟨Ao167, co167, eo167⟩ := Kd.R_slice HO266.out; subst eo167; have hcz168_0 : w163.cell? ⟨gb208, 0, none⟩ = some (.int .i64 1048576) := (blk_cell BK208.out 0).trans rfl; have hcz168_1 : w163.cell? ⟨gb208, 1, none⟩ = some (.slice Ao133 x209001_5.length co133) := (blk_cell BK208.out 1).trans rfl; have hfz168_0 := blk_frozen BK208.out 0; have hfz168_1 := blk_frozen BK208.out 1) | ((with_reducible refine gate_callee (f := 43) rfl ?_); refine goesL_ (some 151) rfl rfl Tryd.func43 (by kernel_rfl) rfl #[.agg #[.int .i64 1048576, .slice Ao133 x209001_5.length co133]] rfl (by (try simp only [List.map_toArray, List.map_cons, List.map_nil]); first | done | rfl | (simp only [List.length_drop, List.length_take]; rfl)) ?_; (with_reducible refine (disk_May.calls kj5 1048576 _ _ x209001_5 true _ ?side1 ?side2 A95.out).mono ?_); (case side1 => refine (Kd.R_reads' (e := 72) (base := w.heap.size) (ok := fun k_ => (some k_ ≠ (.slice Ao113 x216001_5.length co113 : Value).ownBlock ∧ some k_ ≠ (.slice Ao167 t264.length co167 : Value).ownBlock)) (n := x209001_5.length) (c := co133) ?_).2.2; exact (by exact (Kd.R_mono (Kd.R_far (p := ⟨gb268, 1, none⟩) (Kd.R_far (p := ⟨gb268, 0, none⟩) (Kd.R_types HO_209001.out BK268.out (by decide)) (fun _ hk => hk.2) (.int .i64 t263)) (fun _ hk => hk.2) (.slice Ao167 t264.length co167)) (fun _ h_ => h_.1)))); (case side2 => exact (Kd.R_reads' HO_209001.out).2.1); rintro e w169 ⟨rfl, hb⟩; refine ⟨_, rfl, ?_⟩; have n0_ := Aside0.mk (Kd.R_below (by exact (Kd.R_mono (Kd.R_far (p := ⟨gb268, 1, none⟩) (Kd.R_far (p := ⟨gb268, 0, none⟩) (Kd.R_types HO_209001.out BK268.out (by decide)) (fun _ hk => hk.2) (.int .i64 t263)) (fun _ hk => hk.2) (.slice Ao167 t264.length co167)) (fun _ h_ => h_.1))) hb); have n1_ := Aside0.mk (Kd.R_below (by exact (Kd.R_mono (Kd.R_far (p := ⟨gb268, 1, none⟩) (Kd.R_far (p := ⟨gb268, 0, none⟩) (Kd.R_types HO_216001.out BK268.out (by decide)) (fun _ hk => hk.2) (.int .i64 t263)) (fun _ hk => hk.2) (.slice Ao167 t264.length co167)) (fun _ h_ => h_.1))) hb); have n2_ := Aside0.mk (Kd.R_below (by exact (Kd.R_mono (Kd.R_far (p := ⟨gb268, 1, none⟩) (Kd.R_far (p := ⟨gb268, 0, none⟩) (Kd.R_types HO266.out BK268.out (by decide)) (fun _ hk => hk.2) (.int .i64 t263)) (fun _ hk => hk.2) (.slice Ao167 t264.length co167)) (fun _ h_ => h_.1))) hb); have n3_ := Aside0.mk (blk_below (g := gb208) (o := .cells #[.int .i64 1048576, .slice Ao133 x209001_5.length co133] 28 (0, 0)) (by refine blk_far ?_ NB208_268.out _; refine blk_far ?_ NB208_268.out _; exact BK208.out) hb); have n4_ := Aside0.mk (blk_below (g := gb215) (o := .cells #[.int .i64 x216000_5, .slice Ao113 x216001_5.length co113] 28 (0, 0)) (by refine blk_far ?_ NB215_268.out _; refine blk_far ?_ NB215_268.out _; exact BK215.out) hb); have n5_ := Aside0.mk (blk_below (g := gb268) (o := .cells #[.int .i64 t263, .slice Ao167 t264.length co167] 28 (0, 0)) (by refine blk_put (cs := #[.int .i64 t263, .slice none 0 0]) ?_ 1 _ rfl; refine blk_put (cs := #[.int .i64 0, .slice none 0 0]) ?_ 0 _ rfl; exact BK268.out) hb); have n6_ := Aside0.mk (below_step (by repeat (first | (with_reducible first | exact HB.out | apply below_alloc | apply pw_below_drewN | apply below_drew1 | refine below_set ?_ GE208.out | refine below_set ?_ GE215.out | refine below_set ?_ GE268.out) | exact HB.out)) hb); clear HO_209001; clear HO_216001; clear HO266; clear BK208; clear BK215; clear BK268; clear HB; have HO_209001 := n0_; have HO_216001 := n1_; have HO266 := n2_; have BK208 := n3_; have BK215 := n4_; have BK268 := n5_; have HB := n6_; clear n0_ n1_ n2_ n3_ n4_ n5_ n6_; (try clear hb); (try clear hb2); (try clear hk); (try clear hi); have n_ : Aside0 (Kd.R k72 72 w169 w.heap.size (fun k_ => some k_ ≠ (.slice Ao113 x216001_5.length co113 : Value).ownBlock) (.slice Ao133 x209001_5.length co133) x209001_5) := ⟨by exact Kd.R_mono HO_209001.out (fun _ hk => hk.1)⟩; clear HO_209001; have HO_209001 := n_; clear n_; have n_ : Aside0 (Kd.R k72 72 w169 w.heap.size (fun k_ => some k_ ≠ (.slice Ao133 x209001_5.length co133 : Value).ownBlock) (.slice Ao113 x216001_5.length co113) x216001_5) := ⟨by exact Kd.R_mono HO_216001.out (fun _ hk => hk.1)⟩; clear HO_216001; have HO_216001 := n_; clear n_; (try clear BK268); (try clear HO266); have hcz170_0 : w169.cell? ⟨gb215, 0, none⟩ = some (.int .i64 x216000_5) := (blk_cell BK215.out 0).trans rfl; have hcz170_1 : w169.cell? ⟨gb215, 1, none⟩ = some (.slice Ao113 x216001_5.length co113) := (blk_cell BK215.out 1).trans rfl; have hfz170_0 := blk_frozen BK215.out 0; have hfz170_1 := blk_frozen BK215.out 1; have n_ : Aside0 (Kd.R k72 72 w169 w.heap.size (fun _ => True) (.slice Ao113 x216001_5.length co113) x216001_5) := ⟨by exact Kd.R_mono HO_216001.out (fun _ hk => trivial)⟩; clear HO_216001; have HO_216001 := n_; clear n_; (try clear BK208); (try clear BK215); (try clear HO_209001)) | (go_at_call 43; (with_reducible refine (disk_May.calls kj5 x216000_5 _ _ x216001_5 false _ ?side1 ?side2 A97.out).mono ?_); (case side1 => repeat (first | exact (Kd.R_reads' HO_216001.out).2.2 | (with_reducible refine Kd.C_alloc ?_ _) | (with_reducible refine Kd.C_drewN ?_ _) | (with_reducible refine Kd.C_drew ?_))); (case side2 => exact (Kd.R_reads' HO_216001.out).2.1); rintro e w171 ⟨rfl, hb⟩; have n0_ := Aside0.mk (Kd.R_below (by exact HO_216001.out) hb); have n1_ := Aside0.mk (below_step (by repeat (first | (with_reducible first | exact HB.out | apply below_alloc | apply pw_below_drewN | apply below_drew1) | exact HB.out)) hb); clear HO_216001; clear HB; have HO_216001 := n0_; have HB := n1_; clear n0_ n1_; (try clear hb); (try clear hb2); (try clear hk); (try clear hi); (try clear HO_216001)) | (go_at_call 25; (with_reducible refine (cruciblelaw0_Num.calls t228 t271 _ A99.out).mono ?_); rintro e w' ⟨rfl, ⟨nd, rfl⟩⟩) | (go_at_call 25; (with_reducible refine (cruciblelaw0_Num.calls t234 t272 _ A101.out).mono ?_); rintro e w' ⟨rfl, ⟨nd, rfl⟩⟩) | (go_at_call 25; (with_reducible refine (cruciblelaw0_Num.calls t249 t273 _ A104.out).mono ?_); rintro e w' ⟨rfl, ⟨nd, rfl⟩⟩) | (go_at_call 25; (with_reducible refine (cruciblelaw0_Num.calls t255 t274 _ A106.out).mono ?_); rintro e w' ⟨rfl, ⟨nd, rfl⟩⟩) | (go_at_call 25; (with_reducible refine (cruciblelaw0_Num.calls t261 t275 _ A108.out).mono ?_); rintro e w' ⟨rfl, ⟨nd, rfl⟩⟩) | (go_at_call 25; (with_reducible refine (cruciblelaw0_Num.calls t267 t276 _ A110.out).mono ?_); rintro e w' ⟨rfl, ⟨nd, rfl⟩⟩))
               go_ret
               exact ⟨by first | rfl | (simp [errW_none, errW_some] <;> rfl) | (simp [*, errW_none, errW_some] <;> rfl), by repeat (first | (with_reducible first | exact HB.out | apply below_alloc | apply pw_below_drewN | apply below_drew1) | exact HB.out)⟩
              ·
               rw [if_neg c109] at H
               exact absurd H (by simp)
             ·
              rw [if_neg c107] at H
              exact absurd H (by simp)
            ·
             rw [if_neg c105] at H
             exact absurd H (by simp)
          ·
           rw [if_neg c102] at H
           exact absurd H (by simp)
         ·
          rw [if_neg c100] at H
          exact absurd H (by simp)
       ·
        replace c96 := Bool.eq_false_iff.mpr c96
        subst c96
        have H1 : (none) = some r := by rw [if_neg (show ¬ (false = true) by decide)] at H; exact H
        clear H
        have H := H1
        clear H1
        exact absurd H (by simp)
      ·
       rw [if_neg c90] at H
       exact absurd H (by simp)
     ·
      rw [if_neg c89] at H
      exact absurd H (by simp)
  ·
   rw [if_neg c5] at H
   exact absurd H (by simp)
 ·
  replace c4 := Bool.eq_false_iff.mpr c4
  subst c4
  have H1 : (none) = some r := by rw [if_neg (show ¬ (false = true) by decide)] at H; exact H
  clear H
  have H := H1
  clear H1
  exact absurd H (by simp)

/-- THE ONE PURE STATEMENT of cruciblelaw12_DiskForms: yours. -/
def cruciblelaw12_DiskForms.Pure : Prop := ∀ (a0 : Int) (a1 : Int), (Lit.int .i64 a0).wf = true → (Lit.int .i64 a1).wf = true → ∃ k, cruciblelaw12_DiskForms.f k a0 a1 = some true
theorem cruciblelaw12_DiskForms.walk (P : cruciblelaw12_DiskForms.Pure) (a0 : Int) (a1 : Int) (w : World) (w0 : (Lit.int .i64 a0).wf = true) (w1 : (Lit.int .i64 a1).wf = true) :
  Calls Tryd.prog 10 #[.int .i64 a0, .int .i64 a1] w fun e w' => e = .returned (.bool true) ∧ Below w.heap.size w w' := by
 obtain ⟨k, h⟩ := P a0 a1 w0 w1
 refine (cruciblelaw12_DiskForms.calls k a0 a1 true w h).mono ?_
 rintro e w' ⟨rfl, hd⟩
 exact ⟨rfl, hd⟩

end Go.Proofs.YtilnamobmjngbaaDoor.P
