-- Made by a program of this work's own (wip/myprint.py) over the kit's print; leaves by hand.
import Derived.Test.YtilnamobmjngbaaDoorP0
import Derived.Test.YtilnamobmjngbaaDoorP7
import Derived.Test.YtilnamobmjngbaaDoorP13
import Derived.Test.YtilnamobmjngbaaDoorP19
import Derived.Test.YtilnamobmjngbaaDoorP24
import Derived.Deep.RegionHeld3
import Derived.Test.YtilnamobmjngbaaDoorMg1
namespace Go.Proofs.YtilnamobmjngbaaDoor.P
open Go.RowKit Go.Proofs.YtilnamobmjngbaaDoorW.PrintWords Go.Proofs.YtilnamobmjngbaaDoorW.PrintLast Go.Proofs.YtilnamobmjngbaaDoorW.PrintMore
attribute [local go_sem] max2_int min2_int max_two min_two max_three min_three max_four min_four   -- for this text's walks alone
set_option linter.unusedVariables false
set_option linter.unusedSimpArgs false

-- HANDBIG Awake18.lean
-- IMPORT Derived.Test.YtilnamobmjngbaaDoorPlain
-- IMPORT Derived.Deep.RegionHeld3
/-! ### cruciblelaw18_awake, by hand: what start lays, first -/
def stE0 : S25 := ⟨[⟨#[108, 105, 98]⟩], [⟨#[97, 46, 111]⟩, ⟨#[98, 46, 111]⟩], [], [], ⟨#[97, 114]⟩, false, ⟨#[]⟩⟩
def stE1 : S25 := ⟨[⟨#[97, 46, 111]⟩, ⟨#[97, 46, 100]⟩], [⟨#[97, 46, 99]⟩], [⟨#[97, 46, 104]⟩], [], ⟨#[99, 99, 32, 97]⟩, true, ⟨#[116, 119, 111]⟩⟩
def stE2 : S25 := ⟨[⟨#[98, 46, 111]⟩], [⟨#[98, 46, 99]⟩], [], [⟨#[97, 46, 111]⟩], ⟨#[99, 99, 32, 98]⟩, false, ⟨#[116, 119, 111]⟩⟩
def stA0 : S33 := ⟨⟨#[99, 99, 32, 97]⟩, [⟨#[122, 46, 104]⟩], false⟩
def stF : List (S72) := [⟨⟨#[97, 46, 99]⟩, 1, 1⟩, ⟨⟨#[97, 46, 104]⟩, 2, 2⟩, ⟨⟨#[98, 46, 99]⟩, 3, 3⟩, ⟨⟨#[122, 46, 104]⟩, 4, 4⟩]
def stW (w : World) (b : Nat) : World := (((((((((((((((((w.alloc (.cells #[.slice (some ⟨(b + 1 + 1 + 1 + 1 + 1 + 1 + 1 + 1 + 1), 0, none⟩) 3 3, .slice (some ⟨(b + 1 + 1 + 1 + 1 + 1 + 1 + 1 + 1 + 1 + 1), 0, none⟩) 1 1, .slice (some ⟨(b + 1 + 1 + 1 + 1 + 1 + 1 + 1 + 1 + 1 + 1 + 1), 0, none⟩) 1 1, .slice (some ⟨(b + 1 + 1 + 1 + 1 + 1 + 1 + 1 + 1 + 1 + 1 + 1 + 1 + 1 + 1 + 1 + 1), 0, none⟩) 1 1, .int .i64 4, .slice (some ⟨(b + 1 + 1 + 1 + 1 + 1 + 1 + 1 + 1 + 1 + 1 + 1 + 1 + 1), 0, none⟩) 4 4, .slice none 0 0, .slice none 0 0, .int .i64 2, .bool false, .slice none 0 0] 62)).alloc (.cells #[.string ⟨#[108, 105, 98]⟩] 9)).alloc (.cells #[.string ⟨#[97, 46, 111]⟩, .string ⟨#[98, 46, 111]⟩] 9)).alloc (.cells #[.string ⟨#[97, 46, 111]⟩, .string ⟨#[97, 46, 100]⟩] 9)).alloc (.cells #[.string ⟨#[97, 46, 99]⟩] 9)).alloc (.cells #[.string ⟨#[97, 46, 104]⟩] 9)).alloc (.cells #[.string ⟨#[98, 46, 111]⟩] 9)).alloc (.cells #[.string ⟨#[98, 46, 99]⟩] 9)).alloc (.cells #[.string ⟨#[97, 46, 111]⟩] 9)).alloc (.cells #[.slice (some ⟨(b + 1), 0, none⟩) 1 1, .slice (some ⟨(b + 1 + 1), 0, none⟩) 2 2, .slice none 0 0, .slice none 0 0, .string ⟨#[97, 114]⟩, .bool false, .string ⟨#[]⟩, .slice (some ⟨(b + 1 + 1 + 1), 0, none⟩) 2 2, .slice (some ⟨(b + 1 + 1 + 1 + 1), 0, none⟩) 1 1, .slice (some ⟨(b + 1 + 1 + 1 + 1 + 1), 0, none⟩) 1 1, .slice none 0 0, .string ⟨#[99, 99, 32, 97]⟩, .bool true, .string ⟨#[116, 119, 111]⟩, .slice (some ⟨(b + 1 + 1 + 1 + 1 + 1 + 1), 0, none⟩) 1 1, .slice (some ⟨(b + 1 + 1 + 1 + 1 + 1 + 1 + 1), 0, none⟩) 1 1, .slice none 0 0, .slice (some ⟨(b + 1 + 1 + 1 + 1 + 1 + 1 + 1 + 1), 0, none⟩) 1 1, .string ⟨#[99, 99, 32, 98]⟩, .bool false, .string ⟨#[116, 119, 111]⟩] 25)).alloc (.cells #[.string ⟨#[116, 119, 111]⟩, .int .i64 2] 100)).alloc (.cells #[.string ⟨#[108, 105, 98]⟩] 9)).alloc (.cells #[.slice (some ⟨(b + 1 + 1 + 1 + 1 + 1 + 1 + 1 + 1 + 1), 0, none⟩) 3 3, .slice (some ⟨(b + 1 + 1 + 1 + 1 + 1 + 1 + 1 + 1 + 1 + 1), 0, none⟩) 1 1, .slice (some ⟨(b + 1 + 1 + 1 + 1 + 1 + 1 + 1 + 1 + 1 + 1 + 1), 0, none⟩) 1 1] 58)).alloc (.cells #[.string ⟨#[97, 46, 99]⟩, .int .i64 1, .int .i64 1, .string ⟨#[97, 46, 104]⟩, .int .i64 2, .int .i64 2, .string ⟨#[98, 46, 99]⟩, .int .i64 3, .int .i64 3, .string ⟨#[122, 46, 104]⟩, .int .i64 4, .int .i64 4] 72)).alloc (.cells #[.int .i64 4, .slice (some ⟨(b + 1 + 1 + 1 + 1 + 1 + 1 + 1 + 1 + 1 + 1 + 1 + 1 + 1), 0, none⟩) 4 4] 28)).alloc (.cells #[.string ⟨#[122, 46, 104]⟩] 9)).alloc (.cells #[.string ⟨#[99, 99, 32, 97]⟩, .slice (some ⟨(b + 1 + 1 + 1 + 1 + 1 + 1 + 1 + 1 + 1 + 1 + 1 + 1 + 1 + 1 + 1), 0, none⟩) 1 1, .bool false] 33))
abbrev stV (gE gP gD gA gF : Nat) : Value := .agg #[.slice (some ⟨gE, 0, none⟩) 3 3, .slice (some ⟨gP, 0, none⟩) 1 1, .slice (some ⟨gD, 0, none⟩) 1 1, .slice (some ⟨gA, 0, none⟩) 1 1, .int .i64 4, .slice (some ⟨gF, 0, none⟩) 4 4, .slice none 0 0, .slice none 0 0, .int .i64 2, .bool false, .slice none 0 0]
theorem st_al {W : World} {n : Nat} (o : Obj) (h : n = W.heap.size) : (W.alloc o).heap[n]? = some o := by subst h; exact heap_alloc_new W o
set_option maxHeartbeats 4000000 in
set_option maxRecDepth 100000 in
theorem st18.calls (w : World) : Calls Tryd.prog 33 #[] w fun e w' => e = .returned (stV (w.heap.size + 1 + 1 + 1 + 1 + 1 + 1 + 1 + 1 + 1) (w.heap.size + 1 + 1 + 1 + 1 + 1 + 1 + 1 + 1 + 1 + 1) (w.heap.size + 1 + 1 + 1 + 1 + 1 + 1 + 1 + 1 + 1 + 1 + 1) (w.heap.size + 1 + 1 + 1 + 1 + 1 + 1 + 1 + 1 + 1 + 1 + 1 + 1 + 1 + 1 + 1 + 1) (w.heap.size + 1 + 1 + 1 + 1 + 1 + 1 + 1 + 1 + 1 + 1 + 1 + 1 + 1)) ∧ w' = stW w w.heap.size := by
  have hu := Tryd.underlying62
  have hu2 := Tryd.underlying58
  have hu3 := Tryd.underlying25
  have hu4 := Tryd.underlying28
  have hu5 := Tryd.underlying33
  have hu6 := Tryd.underlying72
  have hu7 := Tryd.underlying100
  go_enter Tryd.func33, Tryd.ntmps33
  go_wp2
  refine bodyPost_ret (results_cell_row rfl _ _ w.heap.size 62 #[.slice (some ⟨(w.heap.size + 1 + 1 + 1 + 1 + 1 + 1 + 1 + 1 + 1), 0, none⟩) 3 3, .slice (some ⟨(w.heap.size + 1 + 1 + 1 + 1 + 1 + 1 + 1 + 1 + 1 + 1), 0, none⟩) 1 1, .slice (some ⟨(w.heap.size + 1 + 1 + 1 + 1 + 1 + 1 + 1 + 1 + 1 + 1 + 1), 0, none⟩) 1 1, .slice (some ⟨(w.heap.size + 1 + 1 + 1 + 1 + 1 + 1 + 1 + 1 + 1 + 1 + 1 + 1 + 1 + 1 + 1 + 1), 0, none⟩) 1 1, .int .i64 4, .slice (some ⟨(w.heap.size + 1 + 1 + 1 + 1 + 1 + 1 + 1 + 1 + 1 + 1 + 1 + 1 + 1), 0, none⟩) 4 4, .slice none 0 0, .slice none 0 0, .int .i64 2, .bool false, .slice none 0 0] (0, 0) _ rfl ?_ Tryd.underlying62 rfl (by kernel_rfl)) rfl ⟨rfl, rfl⟩
  refine blk_alloc ?_ _
  refine blk_alloc ?_ _
  refine blk_alloc ?_ _
  refine blk_alloc ?_ _
  refine blk_alloc ?_ _
  refine blk_alloc ?_ _
  refine blk_alloc ?_ _
  refine blk_alloc ?_ _
  refine blk_alloc ?_ _
  refine blk_alloc ?_ _
  refine blk_alloc ?_ _
  refine blk_alloc ?_ _
  refine blk_alloc ?_ _
  refine blk_alloc ?_ _
  refine blk_alloc ?_ _
  refine blk_alloc ?_ _
  exact heap_alloc_new w _
theorem stW_1 (w : World) : (stW w w.heap.size).heap[(w.heap.size + 1)]? = some (.cells #[.string ⟨#[108, 105, 98]⟩] 9 (0, 0)) := by
  unfold stW
  refine blk_alloc ?_ _
  refine blk_alloc ?_ _
  refine blk_alloc ?_ _
  refine blk_alloc ?_ _
  refine blk_alloc ?_ _
  refine blk_alloc ?_ _
  refine blk_alloc ?_ _
  refine blk_alloc ?_ _
  refine blk_alloc ?_ _
  refine blk_alloc ?_ _
  refine blk_alloc ?_ _
  refine blk_alloc ?_ _
  refine blk_alloc ?_ _
  refine blk_alloc ?_ _
  refine blk_alloc ?_ _
  exact st_al _ (by simp only [World.size_alloc])
theorem stW_2 (w : World) : (stW w w.heap.size).heap[(w.heap.size + 1 + 1)]? = some (.cells #[.string ⟨#[97, 46, 111]⟩, .string ⟨#[98, 46, 111]⟩] 9 (0, 0)) := by
  unfold stW
  refine blk_alloc ?_ _
  refine blk_alloc ?_ _
  refine blk_alloc ?_ _
  refine blk_alloc ?_ _
  refine blk_alloc ?_ _
  refine blk_alloc ?_ _
  refine blk_alloc ?_ _
  refine blk_alloc ?_ _
  refine blk_alloc ?_ _
  refine blk_alloc ?_ _
  refine blk_alloc ?_ _
  refine blk_alloc ?_ _
  refine blk_alloc ?_ _
  refine blk_alloc ?_ _
  exact st_al _ (by simp only [World.size_alloc])
theorem stW_3 (w : World) : (stW w w.heap.size).heap[(w.heap.size + 1 + 1 + 1)]? = some (.cells #[.string ⟨#[97, 46, 111]⟩, .string ⟨#[97, 46, 100]⟩] 9 (0, 0)) := by
  unfold stW
  refine blk_alloc ?_ _
  refine blk_alloc ?_ _
  refine blk_alloc ?_ _
  refine blk_alloc ?_ _
  refine blk_alloc ?_ _
  refine blk_alloc ?_ _
  refine blk_alloc ?_ _
  refine blk_alloc ?_ _
  refine blk_alloc ?_ _
  refine blk_alloc ?_ _
  refine blk_alloc ?_ _
  refine blk_alloc ?_ _
  refine blk_alloc ?_ _
  exact st_al _ (by simp only [World.size_alloc])
theorem stW_4 (w : World) : (stW w w.heap.size).heap[(w.heap.size + 1 + 1 + 1 + 1)]? = some (.cells #[.string ⟨#[97, 46, 99]⟩] 9 (0, 0)) := by
  unfold stW
  refine blk_alloc ?_ _
  refine blk_alloc ?_ _
  refine blk_alloc ?_ _
  refine blk_alloc ?_ _
  refine blk_alloc ?_ _
  refine blk_alloc ?_ _
  refine blk_alloc ?_ _
  refine blk_alloc ?_ _
  refine blk_alloc ?_ _
  refine blk_alloc ?_ _
  refine blk_alloc ?_ _
  refine blk_alloc ?_ _
  exact st_al _ (by simp only [World.size_alloc])
theorem stW_5 (w : World) : (stW w w.heap.size).heap[(w.heap.size + 1 + 1 + 1 + 1 + 1)]? = some (.cells #[.string ⟨#[97, 46, 104]⟩] 9 (0, 0)) := by
  unfold stW
  refine blk_alloc ?_ _
  refine blk_alloc ?_ _
  refine blk_alloc ?_ _
  refine blk_alloc ?_ _
  refine blk_alloc ?_ _
  refine blk_alloc ?_ _
  refine blk_alloc ?_ _
  refine blk_alloc ?_ _
  refine blk_alloc ?_ _
  refine blk_alloc ?_ _
  refine blk_alloc ?_ _
  exact st_al _ (by simp only [World.size_alloc])
theorem stW_6 (w : World) : (stW w w.heap.size).heap[(w.heap.size + 1 + 1 + 1 + 1 + 1 + 1)]? = some (.cells #[.string ⟨#[98, 46, 111]⟩] 9 (0, 0)) := by
  unfold stW
  refine blk_alloc ?_ _
  refine blk_alloc ?_ _
  refine blk_alloc ?_ _
  refine blk_alloc ?_ _
  refine blk_alloc ?_ _
  refine blk_alloc ?_ _
  refine blk_alloc ?_ _
  refine blk_alloc ?_ _
  refine blk_alloc ?_ _
  refine blk_alloc ?_ _
  exact st_al _ (by simp only [World.size_alloc])
theorem stW_7 (w : World) : (stW w w.heap.size).heap[(w.heap.size + 1 + 1 + 1 + 1 + 1 + 1 + 1)]? = some (.cells #[.string ⟨#[98, 46, 99]⟩] 9 (0, 0)) := by
  unfold stW
  refine blk_alloc ?_ _
  refine blk_alloc ?_ _
  refine blk_alloc ?_ _
  refine blk_alloc ?_ _
  refine blk_alloc ?_ _
  refine blk_alloc ?_ _
  refine blk_alloc ?_ _
  refine blk_alloc ?_ _
  refine blk_alloc ?_ _
  exact st_al _ (by simp only [World.size_alloc])
theorem stW_8 (w : World) : (stW w w.heap.size).heap[(w.heap.size + 1 + 1 + 1 + 1 + 1 + 1 + 1 + 1)]? = some (.cells #[.string ⟨#[97, 46, 111]⟩] 9 (0, 0)) := by
  unfold stW
  refine blk_alloc ?_ _
  refine blk_alloc ?_ _
  refine blk_alloc ?_ _
  refine blk_alloc ?_ _
  refine blk_alloc ?_ _
  refine blk_alloc ?_ _
  refine blk_alloc ?_ _
  refine blk_alloc ?_ _
  exact st_al _ (by simp only [World.size_alloc])
theorem stW_9 (w : World) : (stW w w.heap.size).heap[(w.heap.size + 1 + 1 + 1 + 1 + 1 + 1 + 1 + 1 + 1)]? = some (.cells #[.slice (some ⟨(w.heap.size + 1), 0, none⟩) 1 1, .slice (some ⟨(w.heap.size + 1 + 1), 0, none⟩) 2 2, .slice none 0 0, .slice none 0 0, .string ⟨#[97, 114]⟩, .bool false, .string ⟨#[]⟩, .slice (some ⟨(w.heap.size + 1 + 1 + 1), 0, none⟩) 2 2, .slice (some ⟨(w.heap.size + 1 + 1 + 1 + 1), 0, none⟩) 1 1, .slice (some ⟨(w.heap.size + 1 + 1 + 1 + 1 + 1), 0, none⟩) 1 1, .slice none 0 0, .string ⟨#[99, 99, 32, 97]⟩, .bool true, .string ⟨#[116, 119, 111]⟩, .slice (some ⟨(w.heap.size + 1 + 1 + 1 + 1 + 1 + 1), 0, none⟩) 1 1, .slice (some ⟨(w.heap.size + 1 + 1 + 1 + 1 + 1 + 1 + 1), 0, none⟩) 1 1, .slice none 0 0, .slice (some ⟨(w.heap.size + 1 + 1 + 1 + 1 + 1 + 1 + 1 + 1), 0, none⟩) 1 1, .string ⟨#[99, 99, 32, 98]⟩, .bool false, .string ⟨#[116, 119, 111]⟩] 25 (0, 0)) := by
  unfold stW
  refine blk_alloc ?_ _
  refine blk_alloc ?_ _
  refine blk_alloc ?_ _
  refine blk_alloc ?_ _
  refine blk_alloc ?_ _
  refine blk_alloc ?_ _
  refine blk_alloc ?_ _
  exact st_al _ (by simp only [World.size_alloc])
theorem stW_13 (w : World) : (stW w w.heap.size).heap[(w.heap.size + 1 + 1 + 1 + 1 + 1 + 1 + 1 + 1 + 1 + 1 + 1 + 1 + 1)]? = some (.cells #[.string ⟨#[97, 46, 99]⟩, .int .i64 1, .int .i64 1, .string ⟨#[97, 46, 104]⟩, .int .i64 2, .int .i64 2, .string ⟨#[98, 46, 99]⟩, .int .i64 3, .int .i64 3, .string ⟨#[122, 46, 104]⟩, .int .i64 4, .int .i64 4] 72 (0, 0)) := by
  unfold stW
  refine blk_alloc ?_ _
  refine blk_alloc ?_ _
  refine blk_alloc ?_ _
  exact st_al _ (by simp only [World.size_alloc])
theorem stW_15 (w : World) : (stW w w.heap.size).heap[(w.heap.size + 1 + 1 + 1 + 1 + 1 + 1 + 1 + 1 + 1 + 1 + 1 + 1 + 1 + 1 + 1)]? = some (.cells #[.string ⟨#[122, 46, 104]⟩] 9 (0, 0)) := by
  unfold stW
  refine blk_alloc ?_ _
  exact st_al _ (by simp only [World.size_alloc])
theorem stW_16 (w : World) : (stW w w.heap.size).heap[(w.heap.size + 1 + 1 + 1 + 1 + 1 + 1 + 1 + 1 + 1 + 1 + 1 + 1 + 1 + 1 + 1 + 1)]? = some (.cells #[.string ⟨#[99, 99, 32, 97]⟩, .slice (some ⟨(w.heap.size + 1 + 1 + 1 + 1 + 1 + 1 + 1 + 1 + 1 + 1 + 1 + 1 + 1 + 1 + 1), 0, none⟩) 1 1, .bool false] 33 (0, 0)) := by
  unfold stW
  exact st_al _ (by simp only [World.size_alloc])
theorem st_below (w : World) : Below w.heap.size w (stW w w.heap.size) := by
  unfold stW
  refine below_alloc ?_ _
  refine below_alloc ?_ _
  refine below_alloc ?_ _
  refine below_alloc ?_ _
  refine below_alloc ?_ _
  refine below_alloc ?_ _
  refine below_alloc ?_ _
  refine below_alloc ?_ _
  refine below_alloc ?_ _
  refine below_alloc ?_ _
  refine below_alloc ?_ _
  refine below_alloc ?_ _
  refine below_alloc ?_ _
  refine below_alloc ?_ _
  refine below_alloc ?_ _
  refine below_alloc ?_ _
  refine below_alloc ?_ _
  exact Below.refl _ _
theorem st_str {W : World} {g : Nat} (xs : List ByteArray) (h : W.heap[g]? = some (.cells (xs.map Value.string).toArray 9 (0, 0))) (hl : xs.length ≤ 1000) : Kd.C Kd.string W (some ⟨g, 0, none⟩) xs.length xs := by
  have h : Kd.R Kd.string 9 W 0 (fun _ => True) (.slice (some ⟨g, 0, none⟩) xs.length xs.length) xs :=
    Kd.R_of_own ⟨by simp [encs], .inr ⟨g, xs.length, (xs.map Value.string).toArray, rfl, Nat.zero_le _, h, Nat.le_refl _, by simp [maxLen]; omega, by simp, by rw [Nat.mul_one, List.take_of_length_le (by simp)]; rfl⟩⟩ (fun _ _ => trivial)
  exact (Kd.R_reads' h).2.2
theorem st_nil (W : World) : Kd.C Kd.string W none 0 [] := (Kd.R_reads' (Kd.R_nil Kd.string 9 W 0 (fun _ => True))).2.2
theorem st_E (w : World) : Kd.C k25 (stW w w.heap.size) (some ⟨(w.heap.size + 1 + 1 + 1 + 1 + 1 + 1 + 1 + 1 + 1), 0, none⟩) 3 [stE0, stE1, stE2] := by
  refine ⟨rfl, by omega, fun _ => ⟨_, rfl, fun j p hj => ?_⟩⟩
  have h9 := stW_9 w
  rcases j with _ | _ | _ | j
  · obtain rfl : stE0 = p := by simpa using hj
    refine ⟨[.slice (some ⟨(w.heap.size + 1), 0, none⟩) 1 1, .slice (some ⟨(w.heap.size + 1 + 1), 0, none⟩) 2 2, .slice none 0 0, .slice none 0 0, .string ⟨#[97, 114]⟩, .bool false, .string ⟨#[]⟩], rfl, k25_mk _ stE0 (Nat.le_refl _) (st_str [⟨#[108, 105, 98]⟩] (stW_1 w) (by decide)) (Nat.le_refl _) (st_str [⟨#[97, 46, 111]⟩, ⟨#[98, 46, 111]⟩] (stW_2 w) (by decide)) (Nat.le_refl _) (st_nil _) (Nat.le_refl _) (st_nil _), fun i u hu => ?_⟩
    have hi : i < 7 := (List.getElem?_eq_some_iff.1 hu).1
    rw [add_plain, blk_cell h9]
    obtain rfl | rfl | rfl | rfl | rfl | rfl | rfl : i = 0 ∨ i = 1 ∨ i = 2 ∨ i = 3 ∨ i = 4 ∨ i = 5 ∨ i = 6 := by omega
    all_goals exact hu
  · obtain rfl : stE1 = p := by simpa using hj
    refine ⟨[.slice (some ⟨(w.heap.size + 1 + 1 + 1), 0, none⟩) 2 2, .slice (some ⟨(w.heap.size + 1 + 1 + 1 + 1), 0, none⟩) 1 1, .slice (some ⟨(w.heap.size + 1 + 1 + 1 + 1 + 1), 0, none⟩) 1 1, .slice none 0 0, .string ⟨#[99, 99, 32, 97]⟩, .bool true, .string ⟨#[116, 119, 111]⟩], rfl, k25_mk _ stE1 (Nat.le_refl _) (st_str [⟨#[97, 46, 111]⟩, ⟨#[97, 46, 100]⟩] (stW_3 w) (by decide)) (Nat.le_refl _) (st_str [⟨#[97, 46, 99]⟩] (stW_4 w) (by decide)) (Nat.le_refl _) (st_str [⟨#[97, 46, 104]⟩] (stW_5 w) (by decide)) (Nat.le_refl _) (st_nil _), fun i u hu => ?_⟩
    have hi : i < 7 := (List.getElem?_eq_some_iff.1 hu).1
    rw [add_plain, blk_cell h9]
    obtain rfl | rfl | rfl | rfl | rfl | rfl | rfl : i = 0 ∨ i = 1 ∨ i = 2 ∨ i = 3 ∨ i = 4 ∨ i = 5 ∨ i = 6 := by omega
    all_goals exact hu
  · obtain rfl : stE2 = p := by simpa using hj
    refine ⟨[.slice (some ⟨(w.heap.size + 1 + 1 + 1 + 1 + 1 + 1), 0, none⟩) 1 1, .slice (some ⟨(w.heap.size + 1 + 1 + 1 + 1 + 1 + 1 + 1), 0, none⟩) 1 1, .slice none 0 0, .slice (some ⟨(w.heap.size + 1 + 1 + 1 + 1 + 1 + 1 + 1 + 1), 0, none⟩) 1 1, .string ⟨#[99, 99, 32, 98]⟩, .bool false, .string ⟨#[116, 119, 111]⟩], rfl, k25_mk _ stE2 (Nat.le_refl _) (st_str [⟨#[98, 46, 111]⟩] (stW_6 w) (by decide)) (Nat.le_refl _) (st_str [⟨#[98, 46, 99]⟩] (stW_7 w) (by decide)) (Nat.le_refl _) (st_nil _) (Nat.le_refl _) (st_str [⟨#[97, 46, 111]⟩] (stW_8 w) (by decide)), fun i u hu => ?_⟩
    have hi : i < 7 := (List.getElem?_eq_some_iff.1 hu).1
    rw [add_plain, blk_cell h9]
    obtain rfl | rfl | rfl | rfl | rfl | rfl | rfl : i = 0 ∨ i = 1 ∨ i = 2 ∨ i = 3 ∨ i = 4 ∨ i = 5 ∨ i = 6 := by omega
    all_goals exact hu
  · simp at hj
theorem st_A (w : World) : Kd.C k33 (stW w w.heap.size) (some ⟨(w.heap.size + 1 + 1 + 1 + 1 + 1 + 1 + 1 + 1 + 1 + 1 + 1 + 1 + 1 + 1 + 1 + 1), 0, none⟩) 1 [stA0] := by
  refine ⟨rfl, by omega, fun _ => ⟨_, rfl, fun j p hj => ?_⟩⟩
  have h9 := stW_16 w
  rcases j with _ | j
  · obtain rfl : stA0 = p := by simpa using hj
    refine ⟨[.string ⟨#[99, 99, 32, 97]⟩, .slice (some ⟨(w.heap.size + 1 + 1 + 1 + 1 + 1 + 1 + 1 + 1 + 1 + 1 + 1 + 1 + 1 + 1 + 1), 0, none⟩) 1 1, .bool false], rfl, k33_mk _ stA0 (Nat.le_refl _) (st_str [⟨#[122, 46, 104]⟩] (stW_15 w) (by decide)), fun i u hu => ?_⟩
    have hi : i < 3 := (List.getElem?_eq_some_iff.1 hu).1
    rw [add_plain, blk_cell h9]
    obtain rfl | rfl | rfl : i = 0 ∨ i = 1 ∨ i = 2 := by omega
    all_goals exact hu
  · simp at hj
theorem st_F (w : World) : Kd.C k72 (stW w w.heap.size) (some ⟨(w.heap.size + 1 + 1 + 1 + 1 + 1 + 1 + 1 + 1 + 1 + 1 + 1 + 1 + 1), 0, none⟩) 4 stF := by
  refine ⟨rfl, by omega, fun _ => ⟨_, rfl, fun j p hj => ?_⟩⟩
  have h9 := stW_13 w
  rcases j with _ | _ | _ | _ | j
  · obtain rfl : (⟨⟨#[97, 46, 99]⟩, 1, 1⟩ : S72) = p := by simpa [stF] using hj
    refine ⟨[.string ⟨#[97, 46, 99]⟩, .int .i64 1, .int .i64 1], rfl, k72_mk _ _, fun i u hu => ?_⟩
    have hi : i < 3 := (List.getElem?_eq_some_iff.1 hu).1
    rw [add_plain, blk_cell h9]
    obtain rfl | rfl | rfl : i = 0 ∨ i = 1 ∨ i = 2 := by omega
    all_goals exact hu
  · obtain rfl : (⟨⟨#[97, 46, 104]⟩, 2, 2⟩ : S72) = p := by simpa [stF] using hj
    refine ⟨[.string ⟨#[97, 46, 104]⟩, .int .i64 2, .int .i64 2], rfl, k72_mk _ _, fun i u hu => ?_⟩
    have hi : i < 3 := (List.getElem?_eq_some_iff.1 hu).1
    rw [add_plain, blk_cell h9]
    obtain rfl | rfl | rfl : i = 0 ∨ i = 1 ∨ i = 2 := by omega
    all_goals exact hu
  · obtain rfl : (⟨⟨#[98, 46, 99]⟩, 3, 3⟩ : S72) = p := by simpa [stF] using hj
    refine ⟨[.string ⟨#[98, 46, 99]⟩, .int .i64 3, .int .i64 3], rfl, k72_mk _ _, fun i u hu => ?_⟩
    have hi : i < 3 := (List.getElem?_eq_some_iff.1 hu).1
    rw [add_plain, blk_cell h9]
    obtain rfl | rfl | rfl : i = 0 ∨ i = 1 ∨ i = 2 := by omega
    all_goals exact hu
  · obtain rfl : (⟨⟨#[122, 46, 104]⟩, 4, 4⟩ : S72) = p := by simpa [stF] using hj
    refine ⟨[.string ⟨#[122, 46, 104]⟩, .int .i64 4, .int .i64 4], rfl, k72_mk _ _, fun i u hu => ?_⟩
    have hi : i < 3 := (List.getElem?_eq_some_iff.1 hu).1
    rw [add_plain, blk_cell h9]
    obtain rfl | rfl | rfl : i = 0 ∨ i = 1 ∨ i = 2 := by omega
    all_goals exact hu
  · simp [stF] at hj
theorem aw18_1 : command_Action.f 40 [stA0] ⟨#[99, 99, 32, 98]⟩ = some (⟨#[99, 99, 32, 98]⟩, [], false) := by kernel_rfl
theorem aw18_2 : command_Reads.f 40 [stA0] stE1.f0 stE1.f1 stE1.f2 stE1.f3 stE1.f4 stE1.f5 stE1.f6 = some ([⟨#[122, 46, 104]⟩], 0) := by kernel_rfl
theorem aw18_3 : command_Reads.f 40 [stA0] stE2.f0 stE2.f1 stE2.f2 stE2.f3 stE2.f4 stE2.f5 stE2.f6 = some ([], 0) := by kernel_rfl
theorem aw18_4 : command_Run.f 40 [stA0] stE1.f0 stE1.f1 stE1.f2 stE1.f3 stE1.f4 stE1.f5 stE1.f6 4 stF = some ([1561313691, 1561313692], 0) := by kernel_rfl
theorem aw18_5 : command_Run.f 40 [stA0] stE0.f0 stE0.f1 stE0.f2 stE0.f3 stE0.f4 stE0.f5 stE0.f6 4 stF = some ([], 1801) := by kernel_rfl
theorem aw18_6 : command_Run.f 40 [] [] [] [] [] ⟨#[]⟩ false ⟨#[]⟩ 4 stF = some ([], 1800) := by kernel_rfl
theorem aw18_7 : command_Run.f 40 [] [⟨#[120]⟩, ⟨#[121]⟩] [] [] [] ⟨#[33]⟩ false ⟨#[]⟩ 0 [] = some ([1023, 1024], 0) := by kernel_rfl
theorem aw18_8 : cruciblelaw0_SameTexts.f 40 [⟨#[122, 46, 104]⟩] [⟨#[122, 46, 104]⟩] = some true := by kernel_rfl
theorem aw18_9 : cruciblelaw0_SameInts.f 40 [1023, 1024] [1023, 1024] = some true := by kernel_rfl
def cruciblelaw18_awake.f : Option Bool := some true
abbrev stBox (gE gP gD gA gF : Nat) : Obj := .cells #[.slice (some ⟨gE, 0, none⟩) 3 3, .slice (some ⟨gP, 0, none⟩) 1 1, .slice (some ⟨gD, 0, none⟩) 1 1, .slice (some ⟨gA, 0, none⟩) 1 1, .int .i64 4, .slice (some ⟨gF, 0, none⟩) 4 4, .slice none 0 0, .slice none 0 0, .int .i64 2, .bool false, .slice none 0 0] 62
/-- the box of the state, and what its rows read -/
structure AwAt (W : World) (gB gE gP gD gA gF : Nat) : Prop where
  box : W.heap[gB]? = some (stBox gE gP gD gA gF)
  e : Kd.C k25 W (some ⟨gE, 0, none⟩) 3 [stE0, stE1, stE2]
  a : Kd.C k33 W (some ⟨gA, 0, none⟩) 1 [stA0]
  f : Kd.C k72 W (some ⟨gF, 0, none⟩) 4 stF
theorem AwAt.below {W W' : World} {gB gE gP gD gA gF : Nat} (h : AwAt W gB gE gP gD gA gF) (hB : Below W.heap.size W W') : AwAt W' gB gE gP gD gA gF :=
  ⟨(hB.block _ (blk_lt h.box)).trans h.box, Kd.C_below h.e hB, Kd.C_below h.a hB, Kd.C_below h.f hB⟩
set_option maxHeartbeats 16000000 in
set_option maxRecDepth 100000 in
theorem cruciblelaw18_awake.calls (r : Bool) (w : World) (h : cruciblelaw18_awake.f = some r) :
    Calls Tryd.prog 32 #[] w fun e w' => e = .returned (.bool r) ∧ Below w.heap.size w w' := by
  obtain rfl : true = r := Option.some.inj h
  clear h
  have hu := Tryd.underlying62
  have hu2 := Tryd.underlying58
  have hu3 := Tryd.underlying25
  have hu4 := Tryd.underlying28
  have hu5 := Tryd.underlying33
  have c1 := st18.calls w
  go_enter Tryd.func32, Tryd.ntmps32
  go_wp2_with fail
  refine c1.mono ?_
  clear c1
  rintro e w1 ⟨rfl, hw1⟩
  have CE := Aside0.mk (st_E w)
  have CA := Aside0.mk (st_A w)
  have CF := Aside0.mk (st_F w)
  have E1 := Aside0.mk (st_below w)
  rw [← hw1] at CE CA CF E1
  clear hw1
  generalize w.heap.size + 1 + 1 + 1 + 1 + 1 + 1 + 1 + 1 + 1 + 1 + 1 + 1 + 1 + 1 + 1 + 1 = gA at CA ⊢
  generalize w.heap.size + 1 + 1 + 1 + 1 + 1 + 1 + 1 + 1 + 1 + 1 + 1 + 1 + 1 = gF at CF ⊢
  generalize w.heap.size + 1 + 1 + 1 + 1 + 1 + 1 + 1 + 1 + 1 + 1 + 1 = gD
  generalize w.heap.size + 1 + 1 + 1 + 1 + 1 + 1 + 1 + 1 + 1 + 1 = gP
  generalize w.heap.size + 1 + 1 + 1 + 1 + 1 + 1 + 1 + 1 + 1 = gE at CE ⊢
  go_upto_region 2 with fail
  obtain ⟨W2, HW⟩ : ∃ W, Aside0 (W = w1.alloc (stBox gE gP gD gA gF)) := ⟨_, ⟨rfl⟩⟩
  have N : Below w1.heap.size w1 W2 := by rw [HW.out]; exact below_alloc (Below.refl _ _) _
  have AW : Aside0 (AwAt W2 w1.heap.size gE gP gD gA gF) := ⟨by rw [HW.out]; exact heap_alloc_new w1 _, Kd.C_below CE.out N, Kd.C_below CA.out N, Kd.C_below CF.out N⟩
  have E2 := Aside0.mk (below_then E1.out E1.out.size N)
  rw [← HW.out]
  clear HW N CE CA CF E1
  generalize w1.heap.size = gB at AW ⊢
  clear w1
  have x3 : W2.cell? ⟨gB, 3, none⟩ = some (.slice (some ⟨gA, 0, none⟩) 1 1) := by rw [blk_cell AW.out.box]; rfl
  have c2 := command_Action.calls 40 (some ⟨gA, 0, none⟩) 1 [stA0] ⟨#[99, 99, 32, 98]⟩ _ _ _ W2 AW.out.a (Nat.le_refl _) aw18_1
  go_wp2_with fail
  refine c2.mono ?_
  clear c2 x3
  rintro e w3 ⟨v, rfl, hR, hB⟩
  obtain ⟨A2, k2, rfl⟩ := Kd.R_slice hR
  obtain ⟨W3, HW⟩ : ∃ W, Aside0 (W = w3.alloc (acF ⟨#[99, 99, 32, 98]⟩ (.slice A2 0 k2) false)) := ⟨_, ⟨rfl⟩⟩
  have N : Below W2.heap.size W2 W3 := by rw [HW.out]; exact hB.alloc hB.size _
  replace AW := Aside0.mk (AW.out.below N)
  have XX : Aside0 (W3.heap[w3.heap.size]? = some (acF ⟨#[99, 99, 32, 98]⟩ (.slice A2 0 k2) false)) := ⟨by rw [HW.out]; exact heap_alloc_new w3 _⟩
  have E3 := Aside0.mk (below_then E2.out E2.out.size N)
  clear hR hB N E2
  go_upto_region 3 with fail
  rw [← HW.out]
  clear HW
  generalize w3.heap.size = gX at XX ⊢
  clear w3
  have y3 : W3.cell? ⟨gB, 3, none⟩ = some (.slice (some ⟨gA, 0, none⟩) 1 1) := by rw [blk_cell AW.out.box]; rfl
  have y0 : W3.cell? ⟨gB, 0, none⟩ = some (.slice (some ⟨gE, 0, none⟩) 3 3) := by rw [blk_cell AW.out.box]; rfl
  obtain ⟨ad, A0, c0, A1, c1, A2_, c2, A3, c3, hA, z0, z1, z2, z3, z4, z5, z6, l0, g0, l1, g1, l2, g2, l3, g3⟩ := at_T25 AW.out.e (1 : Int) (by omega) (by omega)
  cases hA
  rw [show rd_T25 [stE0, stE1, stE2] (1 : Int) = stE1 from rfl] at z0 z1 z2 z3 z4 z5 z6 l0 l1 l2 l3 g0 g1 g2 g3
  simp only [show (1 : Int).toNat * 7 = 7 from rfl, add_plain, Nat.reduceAdd] at z0 z1 z2 z3 z4 z5 z6
  have hgB : gB < W3.heap.size := blk_lt AW.out.box
  have hgE : gE < W3.heap.size := World.block_lt_of_cell? _ _ z0
  have cR := fun (W : World) (hB : Below W3.heap.size W3 W) => command_Reads.calls 40 (some ⟨gA, 0, none⟩) 1 [stA0] A0 c0 stE1.f0 A1 c1 stE1.f1 A2_ c2 stE1.f2 A3 c3 stE1.f3 stE1.f4 stE1.f5 stE1.f6 [⟨#[122, 46, 104]⟩] 0 W (Kd.C_below AW.out.a hB) (Nat.le_refl _) (Kd.C_below g0 hB) l0 (Kd.C_below g1 hB) l1 (Kd.C_below g2 hB) l2 (Kd.C_below g3 hB) l3 aw18_2
  clear l0 g0 l1 g1 l2 g2 l3 g3
  generalize stE1.f0.length = n0 at z0 cR
  generalize stE1.f1.length = n1 at z1 cR
  generalize stE1.f2.length = n2 at z2 cR
  generalize stE1.f3.length = n3 at z3 cR
  generalize stE1.f4 = q4 at z4 cR
  generalize stE1.f5 = q5 at z5 cR
  generalize stE1.f6 = q6 at z6 cR
  have toS : ∀ W, Below W3.heap.size W3 W → (W.cell? ⟨gB, 3, none⟩ = some (.slice (some ⟨gA, 0, none⟩) 1 1) ∧ W.cell? ⟨gB, 0, none⟩ = some (.slice (some ⟨gE, 0, none⟩) 3 3) ∧ W.cell? ⟨gE, 7, none⟩ = some (.slice A0 n0 c0) ∧ W.cell? ⟨gE, 8, none⟩ = some (.slice A1 n1 c1) ∧ W.cell? ⟨gE, 9, none⟩ = some (.slice A2_ n2 c2) ∧ W.cell? ⟨gE, 10, none⟩ = some (.slice A3 n3 c3) ∧ W.cell? ⟨gE, 11, none⟩ = some (.string q4) ∧ W.cell? ⟨gE, 12, none⟩ = some (.bool q5) ∧ W.cell? ⟨gE, 13, none⟩ = some (.string q6) ∧ Below W3.heap.size W3 W) := fun W hB => ⟨(hB.cell (p := ⟨gB, 3, none⟩) hgB).trans y3, (hB.cell (p := ⟨gB, 0, none⟩) hgB).trans y0, (hB.cell (p := ⟨gE, 7, none⟩) hgE).trans z0, (hB.cell (p := ⟨gE, 8, none⟩) hgE).trans z1, (hB.cell (p := ⟨gE, 9, none⟩) hgE).trans z2, (hB.cell (p := ⟨gE, 10, none⟩) hgE).trans z3, (hB.cell (p := ⟨gE, 11, none⟩) hgE).trans z4, (hB.cell (p := ⟨gE, 12, none⟩) hgE).trans z5, (hB.cell (p := ⟨gE, 13, none⟩) hgE).trans z6, hB⟩
  have dR : ∀ W, (W.cell? ⟨gB, 3, none⟩ = some (.slice (some ⟨gA, 0, none⟩) 1 1) ∧ W.cell? ⟨gB, 0, none⟩ = some (.slice (some ⟨gE, 0, none⟩) 3 3) ∧ W.cell? ⟨gE, 7, none⟩ = some (.slice A0 n0 c0) ∧ W.cell? ⟨gE, 8, none⟩ = some (.slice A1 n1 c1) ∧ W.cell? ⟨gE, 9, none⟩ = some (.slice A2_ n2 c2) ∧ W.cell? ⟨gE, 10, none⟩ = some (.slice A3 n3 c3) ∧ W.cell? ⟨gE, 11, none⟩ = some (.string q4) ∧ W.cell? ⟨gE, 12, none⟩ = some (.bool q5) ∧ W.cell? ⟨gE, 13, none⟩ = some (.string q6) ∧ Below W3.heap.size W3 W) → Calls Tryd.prog 20 #[.slice (some ⟨gA, 0, none⟩) 1 1, .agg #[.slice A0 n0 c0, .slice A1 n1 c1, .slice A2_ n2 c2, .slice A3 n3 c3, .string q4, .bool q5, .string q6]] W fun e w' => ∃ v : Value, e = .returned (.tuple #[v, .int .i64 0]) ∧ Kd.R Kd.string 9 w' W3.heap.size (fun _ => True) v ([⟨#[122, 46, 104]⟩]) ∧ Below W3.heap.size W3 w' := fun W h => (cR W h.2.2.2.2.2.2.2.2.2).mono fun e w' ⟨v, he, hR, hb⟩ => ⟨v, he, Kd.R_lower hR (h.2.2.2.2.2.2.2.2.2).size, below_then (h.2.2.2.2.2.2.2.2.2) (h.2.2.2.2.2.2.2.2.2).size hb⟩
  clear cR hgB hgE
  have sB := Below.refl W3.heap.size W3
  go_region_held3 (fun w' => w'.cell? ⟨gB, 3, none⟩ = some (.slice (some ⟨gA, 0, none⟩) 1 1) ∧ w'.cell? ⟨gB, 0, none⟩ = some (.slice (some ⟨gE, 0, none⟩) 3 3) ∧ w'.cell? ⟨gE, 7, none⟩ = some (.slice A0 n0 c0) ∧ w'.cell? ⟨gE, 8, none⟩ = some (.slice A1 n1 c1) ∧ w'.cell? ⟨gE, 9, none⟩ = some (.slice A2_ n2 c2) ∧ w'.cell? ⟨gE, 10, none⟩ = some (.slice A3 n3 c3) ∧ w'.cell? ⟨gE, 11, none⟩ = some (.string q4) ∧ w'.cell? ⟨gE, 12, none⟩ = some (.bool q5) ∧ w'.cell? ⟨gE, 13, none⟩ = some (.string q6) ∧ Below W3.heap.size W3 w')
    (first | (with_reducible exact toS _ hb) | (with_reducible exact toS _ (below_drew sB)) | (with_reducible exact toS _ sB) | assumption | go_keep)
    (first | (go_at_call 20; refine (dR _ ?_).mono ?_; assumption; rintro e W4 ⟨v, rfl, hR, hb⟩))
  rename_i hHeld
  clear hHeld toS dR sB z0 z1 z2 z3 z4 z5 z6 y0 y3
  obtain ⟨A4, k4, e9⟩ := Kd.R_slice hR
  subst e9
  replace XX := Aside0.mk ((hb.block _ (blk_lt XX.out)).trans XX.out)
  replace AW := Aside0.mk (AW.out.below hb)
  have E4 := Aside0.mk (below_then E3.out E3.out.size hb)
  clear E3
  have C4 := Aside0.mk (Kd.R_reads' hR)
  clear hR hb
  go_upto_region 4 with fail
  have y3 : W4.cell? ⟨gB, 3, none⟩ = some (.slice (some ⟨gA, 0, none⟩) 1 1) := by rw [blk_cell AW.out.box]; rfl
  have y0 : W4.cell? ⟨gB, 0, none⟩ = some (.slice (some ⟨gE, 0, none⟩) 3 3) := by rw [blk_cell AW.out.box]; rfl
  obtain ⟨ad, A0, c0, A1, c1, A2_, c2, A3, c3, hA, z0, z1, z2, z3, z4, z5, z6, l0, g0, l1, g1, l2, g2, l3, g3⟩ := at_T25 AW.out.e (2 : Int) (by omega) (by omega)
  cases hA
  rw [show rd_T25 [stE0, stE1, stE2] (2 : Int) = stE2 from rfl] at z0 z1 z2 z3 z4 z5 z6 l0 l1 l2 l3 g0 g1 g2 g3
  simp only [show (2 : Int).toNat * 7 = 14 from rfl, add_plain, Nat.reduceAdd] at z0 z1 z2 z3 z4 z5 z6
  have hgB : gB < W4.heap.size := blk_lt AW.out.box
  have hgE : gE < W4.heap.size := World.block_lt_of_cell? _ _ z0
  have cR := fun (W : World) (hB : Below W4.heap.size W4 W) => command_Reads.calls 40 (some ⟨gA, 0, none⟩) 1 [stA0] A0 c0 stE2.f0 A1 c1 stE2.f1 A2_ c2 stE2.f2 A3 c3 stE2.f3 stE2.f4 stE2.f5 stE2.f6 [] 0 W (Kd.C_below AW.out.a hB) (Nat.le_refl _) (Kd.C_below g0 hB) l0 (Kd.C_below g1 hB) l1 (Kd.C_below g2 hB) l2 (Kd.C_below g3 hB) l3 aw18_3
  clear l0 g0 l1 g1 l2 g2 l3 g3
  generalize stE2.f0.length = n0 at z0 cR
  generalize stE2.f1.length = n1 at z1 cR
  generalize stE2.f2.length = n2 at z2 cR
  generalize stE2.f3.length = n3 at z3 cR
  generalize stE2.f4 = q4 at z4 cR
  generalize stE2.f5 = q5 at z5 cR
  generalize stE2.f6 = q6 at z6 cR
  have toS : ∀ W, Below W4.heap.size W4 W → (W.cell? ⟨gB, 3, none⟩ = some (.slice (some ⟨gA, 0, none⟩) 1 1) ∧ W.cell? ⟨gB, 0, none⟩ = some (.slice (some ⟨gE, 0, none⟩) 3 3) ∧ W.cell? ⟨gE, 14, none⟩ = some (.slice A0 n0 c0) ∧ W.cell? ⟨gE, 15, none⟩ = some (.slice A1 n1 c1) ∧ W.cell? ⟨gE, 16, none⟩ = some (.slice A2_ n2 c2) ∧ W.cell? ⟨gE, 17, none⟩ = some (.slice A3 n3 c3) ∧ W.cell? ⟨gE, 18, none⟩ = some (.string q4) ∧ W.cell? ⟨gE, 19, none⟩ = some (.bool q5) ∧ W.cell? ⟨gE, 20, none⟩ = some (.string q6) ∧ Below W4.heap.size W4 W) := fun W hB => ⟨(hB.cell (p := ⟨gB, 3, none⟩) hgB).trans y3, (hB.cell (p := ⟨gB, 0, none⟩) hgB).trans y0, (hB.cell (p := ⟨gE, 14, none⟩) hgE).trans z0, (hB.cell (p := ⟨gE, 15, none⟩) hgE).trans z1, (hB.cell (p := ⟨gE, 16, none⟩) hgE).trans z2, (hB.cell (p := ⟨gE, 17, none⟩) hgE).trans z3, (hB.cell (p := ⟨gE, 18, none⟩) hgE).trans z4, (hB.cell (p := ⟨gE, 19, none⟩) hgE).trans z5, (hB.cell (p := ⟨gE, 20, none⟩) hgE).trans z6, hB⟩
  have dR : ∀ W, (W.cell? ⟨gB, 3, none⟩ = some (.slice (some ⟨gA, 0, none⟩) 1 1) ∧ W.cell? ⟨gB, 0, none⟩ = some (.slice (some ⟨gE, 0, none⟩) 3 3) ∧ W.cell? ⟨gE, 14, none⟩ = some (.slice A0 n0 c0) ∧ W.cell? ⟨gE, 15, none⟩ = some (.slice A1 n1 c1) ∧ W.cell? ⟨gE, 16, none⟩ = some (.slice A2_ n2 c2) ∧ W.cell? ⟨gE, 17, none⟩ = some (.slice A3 n3 c3) ∧ W.cell? ⟨gE, 18, none⟩ = some (.string q4) ∧ W.cell? ⟨gE, 19, none⟩ = some (.bool q5) ∧ W.cell? ⟨gE, 20, none⟩ = some (.string q6) ∧ Below W4.heap.size W4 W) → Calls Tryd.prog 20 #[.slice (some ⟨gA, 0, none⟩) 1 1, .agg #[.slice A0 n0 c0, .slice A1 n1 c1, .slice A2_ n2 c2, .slice A3 n3 c3, .string q4, .bool q5, .string q6]] W fun e w' => ∃ v : Value, e = .returned (.tuple #[v, .int .i64 0]) ∧ Kd.R Kd.string 9 w' W4.heap.size (fun _ => True) v ([]) ∧ Below W4.heap.size W4 w' := fun W h => (cR W h.2.2.2.2.2.2.2.2.2).mono fun e w' ⟨v, he, hR, hb⟩ => ⟨v, he, Kd.R_lower hR (h.2.2.2.2.2.2.2.2.2).size, below_then (h.2.2.2.2.2.2.2.2.2) (h.2.2.2.2.2.2.2.2.2).size hb⟩
  clear cR hgB hgE
  have sB := Below.refl W4.heap.size W4
  go_region_held3 (fun w' => w'.cell? ⟨gB, 3, none⟩ = some (.slice (some ⟨gA, 0, none⟩) 1 1) ∧ w'.cell? ⟨gB, 0, none⟩ = some (.slice (some ⟨gE, 0, none⟩) 3 3) ∧ w'.cell? ⟨gE, 14, none⟩ = some (.slice A0 n0 c0) ∧ w'.cell? ⟨gE, 15, none⟩ = some (.slice A1 n1 c1) ∧ w'.cell? ⟨gE, 16, none⟩ = some (.slice A2_ n2 c2) ∧ w'.cell? ⟨gE, 17, none⟩ = some (.slice A3 n3 c3) ∧ w'.cell? ⟨gE, 18, none⟩ = some (.string q4) ∧ w'.cell? ⟨gE, 19, none⟩ = some (.bool q5) ∧ w'.cell? ⟨gE, 20, none⟩ = some (.string q6) ∧ Below W4.heap.size W4 w')
    (first | (with_reducible exact toS _ hb) | (with_reducible exact toS _ (below_drew sB)) | (with_reducible exact toS _ sB) | assumption | go_keep)
    (first | (go_at_call 20; refine (dR _ ?_).mono ?_; assumption; rintro e W5 ⟨v, rfl, hR, hb⟩))
  rename_i hHeld
  clear hHeld toS dR sB z0 z1 z2 z3 z4 z5 z6 y0 y3
  obtain ⟨A5, k5, e9⟩ := Kd.R_slice hR
  subst e9
  replace XX := Aside0.mk ((hb.block _ (blk_lt XX.out)).trans XX.out)
  replace AW := Aside0.mk (AW.out.below hb)
  have E5 := Aside0.mk (below_then E4.out E4.out.size hb)
  clear E4
  replace C4 := Aside0.mk (And.intro C4.out.1 (And.intro C4.out.2.1 (Kd.C_below C4.out.2.2 hb)))
  clear hR hb
  go_upto_region 5 with fail
  have y3 : W5.cell? ⟨gB, 3, none⟩ = some (.slice (some ⟨gA, 0, none⟩) 1 1) := by rw [blk_cell AW.out.box]; rfl
  have y0 : W5.cell? ⟨gB, 0, none⟩ = some (.slice (some ⟨gE, 0, none⟩) 3 3) := by rw [blk_cell AW.out.box]; rfl
  have y4 : W5.cell? ⟨gB, 4, none⟩ = some (.int .i64 4) := by rw [blk_cell AW.out.box]; rfl
  have y5 : W5.cell? ⟨gB, 5, none⟩ = some (.slice (some ⟨gF, 0, none⟩) 4 4) := by rw [blk_cell AW.out.box]; rfl
  obtain ⟨ad, A0, c0, A1, c1, A2_, c2, A3, c3, hA, z0, z1, z2, z3, z4, z5, z6, l0, g0, l1, g1, l2, g2, l3, g3⟩ := at_T25 AW.out.e (1 : Int) (by omega) (by omega)
  cases hA
  rw [show rd_T25 [stE0, stE1, stE2] (1 : Int) = stE1 from rfl] at z0 z1 z2 z3 z4 z5 z6 l0 l1 l2 l3 g0 g1 g2 g3
  simp only [show (1 : Int).toNat * 7 = 7 from rfl, add_plain, Nat.reduceAdd] at z0 z1 z2 z3 z4 z5 z6
  have hgB : gB < W5.heap.size := blk_lt AW.out.box
  have hgE : gE < W5.heap.size := World.block_lt_of_cell? _ _ z0
  have cR := fun (W : World) (hB : Below W5.heap.size W5 W) => command_Run.calls 40 (some ⟨gA, 0, none⟩) 1 [stA0] A0 c0 stE1.f0 A1 c1 stE1.f1 A2_ c2 stE1.f2 A3 c3 stE1.f3 stE1.f4 stE1.f5 stE1.f6 4 (some ⟨gF, 0, none⟩) 4 stF [1561313691, 1561313692] 0 W (Kd.C_below AW.out.a hB) (Nat.le_refl _) (Kd.C_below g0 hB) l0 (Kd.C_below g1 hB) l1 (Kd.C_below g2 hB) l2 (Kd.C_below g3 hB) l3 (Kd.C_below AW.out.f hB) (Nat.le_refl _) aw18_4
  clear l0 g0 l1 g1 l2 g2 l3 g3
  generalize stE1.f0.length = n0 at z0 cR
  generalize stE1.f1.length = n1 at z1 cR
  generalize stE1.f2.length = n2 at z2 cR
  generalize stE1.f3.length = n3 at z3 cR
  generalize stE1.f4 = q4 at z4 cR
  generalize stE1.f5 = q5 at z5 cR
  generalize stE1.f6 = q6 at z6 cR
  have toS : ∀ W, Below W5.heap.size W5 W → (W.cell? ⟨gB, 3, none⟩ = some (.slice (some ⟨gA, 0, none⟩) 1 1) ∧ W.cell? ⟨gB, 0, none⟩ = some (.slice (some ⟨gE, 0, none⟩) 3 3) ∧ W.cell? ⟨gB, 4, none⟩ = some (.int .i64 4) ∧ W.cell? ⟨gB, 5, none⟩ = some (.slice (some ⟨gF, 0, none⟩) 4 4) ∧ W.cell? ⟨gE, 7, none⟩ = some (.slice A0 n0 c0) ∧ W.cell? ⟨gE, 8, none⟩ = some (.slice A1 n1 c1) ∧ W.cell? ⟨gE, 9, none⟩ = some (.slice A2_ n2 c2) ∧ W.cell? ⟨gE, 10, none⟩ = some (.slice A3 n3 c3) ∧ W.cell? ⟨gE, 11, none⟩ = some (.string q4) ∧ W.cell? ⟨gE, 12, none⟩ = some (.bool q5) ∧ W.cell? ⟨gE, 13, none⟩ = some (.string q6) ∧ Below W5.heap.size W5 W) := fun W hB => ⟨(hB.cell (p := ⟨gB, 3, none⟩) hgB).trans y3, (hB.cell (p := ⟨gB, 0, none⟩) hgB).trans y0, (hB.cell (p := ⟨gB, 4, none⟩) hgB).trans y4, (hB.cell (p := ⟨gB, 5, none⟩) hgB).trans y5, (hB.cell (p := ⟨gE, 7, none⟩) hgE).trans z0, (hB.cell (p := ⟨gE, 8, none⟩) hgE).trans z1, (hB.cell (p := ⟨gE, 9, none⟩) hgE).trans z2, (hB.cell (p := ⟨gE, 10, none⟩) hgE).trans z3, (hB.cell (p := ⟨gE, 11, none⟩) hgE).trans z4, (hB.cell (p := ⟨gE, 12, none⟩) hgE).trans z5, (hB.cell (p := ⟨gE, 13, none⟩) hgE).trans z6, hB⟩
  have dR : ∀ W, (W.cell? ⟨gB, 3, none⟩ = some (.slice (some ⟨gA, 0, none⟩) 1 1) ∧ W.cell? ⟨gB, 0, none⟩ = some (.slice (some ⟨gE, 0, none⟩) 3 3) ∧ W.cell? ⟨gB, 4, none⟩ = some (.int .i64 4) ∧ W.cell? ⟨gB, 5, none⟩ = some (.slice (some ⟨gF, 0, none⟩) 4 4) ∧ W.cell? ⟨gE, 7, none⟩ = some (.slice A0 n0 c0) ∧ W.cell? ⟨gE, 8, none⟩ = some (.slice A1 n1 c1) ∧ W.cell? ⟨gE, 9, none⟩ = some (.slice A2_ n2 c2) ∧ W.cell? ⟨gE, 10, none⟩ = some (.slice A3 n3 c3) ∧ W.cell? ⟨gE, 11, none⟩ = some (.string q4) ∧ W.cell? ⟨gE, 12, none⟩ = some (.bool q5) ∧ W.cell? ⟨gE, 13, none⟩ = some (.string q6) ∧ Below W5.heap.size W5 W) → Calls Tryd.prog 22 #[.slice (some ⟨gA, 0, none⟩) 1 1, .agg #[.slice A0 n0 c0, .slice A1 n1 c1, .slice A2_ n2 c2, .slice A3 n3 c3, .string q4, .bool q5, .string q6], .agg #[.int .i64 4, .slice (some ⟨gF, 0, none⟩) 4 4]] W fun e w' => ∃ v : Value, e = .returned (.tuple #[v, .int .i64 0]) ∧ Kd.R (Kd.int .i64) 3 w' W5.heap.size (fun _ => True) v ([1561313691, 1561313692]) ∧ Below W5.heap.size W5 w' := fun W h => (cR W h.2.2.2.2.2.2.2.2.2.2.2).mono fun e w' ⟨v, he, hR, hb⟩ => ⟨v, he, Kd.R_lower hR (h.2.2.2.2.2.2.2.2.2.2.2).size, below_then (h.2.2.2.2.2.2.2.2.2.2.2) (h.2.2.2.2.2.2.2.2.2.2.2).size hb⟩
  clear cR hgB hgE
  have sB := Below.refl W5.heap.size W5
  go_region_held3 (fun w' => w'.cell? ⟨gB, 3, none⟩ = some (.slice (some ⟨gA, 0, none⟩) 1 1) ∧ w'.cell? ⟨gB, 0, none⟩ = some (.slice (some ⟨gE, 0, none⟩) 3 3) ∧ w'.cell? ⟨gB, 4, none⟩ = some (.int .i64 4) ∧ w'.cell? ⟨gB, 5, none⟩ = some (.slice (some ⟨gF, 0, none⟩) 4 4) ∧ w'.cell? ⟨gE, 7, none⟩ = some (.slice A0 n0 c0) ∧ w'.cell? ⟨gE, 8, none⟩ = some (.slice A1 n1 c1) ∧ w'.cell? ⟨gE, 9, none⟩ = some (.slice A2_ n2 c2) ∧ w'.cell? ⟨gE, 10, none⟩ = some (.slice A3 n3 c3) ∧ w'.cell? ⟨gE, 11, none⟩ = some (.string q4) ∧ w'.cell? ⟨gE, 12, none⟩ = some (.bool q5) ∧ w'.cell? ⟨gE, 13, none⟩ = some (.string q6) ∧ Below W5.heap.size W5 w')
    (first | (with_reducible exact toS _ hb) | (with_reducible exact toS _ (below_drew sB)) | (with_reducible exact toS _ sB) | assumption | go_keep)
    (first | (go_at_call 22; refine (dR _ ?_).mono ?_; assumption; rintro e W6 ⟨v, rfl, hR, hb⟩))
  rename_i hHeld
  clear hHeld toS dR sB z0 z1 z2 z3 z4 z5 z6 y0 y3 y4 y5
  obtain ⟨A6, k6, e9⟩ := Kd.R_slice hR
  subst e9
  replace XX := Aside0.mk ((hb.block _ (blk_lt XX.out)).trans XX.out)
  replace AW := Aside0.mk (AW.out.below hb)
  have E6 := Aside0.mk (below_then E5.out E5.out.size hb)
  clear E5
  replace C4 := Aside0.mk (And.intro C4.out.1 (And.intro C4.out.2.1 (Kd.C_below C4.out.2.2 hb)))
  clear hR hb
  go_upto_region 6 with fail
  have y3 : W6.cell? ⟨gB, 3, none⟩ = some (.slice (some ⟨gA, 0, none⟩) 1 1) := by rw [blk_cell AW.out.box]; rfl
  have y0 : W6.cell? ⟨gB, 0, none⟩ = some (.slice (some ⟨gE, 0, none⟩) 3 3) := by rw [blk_cell AW.out.box]; rfl
  have y4 : W6.cell? ⟨gB, 4, none⟩ = some (.int .i64 4) := by rw [blk_cell AW.out.box]; rfl
  have y5 : W6.cell? ⟨gB, 5, none⟩ = some (.slice (some ⟨gF, 0, none⟩) 4 4) := by rw [blk_cell AW.out.box]; rfl
  obtain ⟨ad, A0, c0, A1, c1, A2_, c2, A3, c3, hA, z0, z1, z2, z3, z4, z5, z6, l0, g0, l1, g1, l2, g2, l3, g3⟩ := at_T25 AW.out.e (0 : Int) (by omega) (by omega)
  cases hA
  rw [show rd_T25 [stE0, stE1, stE2] (0 : Int) = stE0 from rfl] at z0 z1 z2 z3 z4 z5 z6 l0 l1 l2 l3 g0 g1 g2 g3
  simp only [show (0 : Int).toNat * 7 = 0 from rfl, add_plain, Nat.reduceAdd, Nat.zero_add] at z0 z1 z2 z3 z4 z5 z6
  have hgB : gB < W6.heap.size := blk_lt AW.out.box
  have hgE : gE < W6.heap.size := World.block_lt_of_cell? _ _ z0
  have cR := fun (W : World) (hB : Below W6.heap.size W6 W) => command_Run.calls 40 (some ⟨gA, 0, none⟩) 1 [stA0] A0 c0 stE0.f0 A1 c1 stE0.f1 A2_ c2 stE0.f2 A3 c3 stE0.f3 stE0.f4 stE0.f5 stE0.f6 4 (some ⟨gF, 0, none⟩) 4 stF [] 1801 W (Kd.C_below AW.out.a hB) (Nat.le_refl _) (Kd.C_below g0 hB) l0 (Kd.C_below g1 hB) l1 (Kd.C_below g2 hB) l2 (Kd.C_below g3 hB) l3 (Kd.C_below AW.out.f hB) (Nat.le_refl _) aw18_5
  clear l0 g0 l1 g1 l2 g2 l3 g3
  generalize stE0.f0.length = n0 at z0 cR
  generalize stE0.f1.length = n1 at z1 cR
  generalize stE0.f2.length = n2 at z2 cR
  generalize stE0.f3.length = n3 at z3 cR
  generalize stE0.f4 = q4 at z4 cR
  generalize stE0.f5 = q5 at z5 cR
  generalize stE0.f6 = q6 at z6 cR
  have toS : ∀ W, Below W6.heap.size W6 W → (W.cell? ⟨gB, 3, none⟩ = some (.slice (some ⟨gA, 0, none⟩) 1 1) ∧ W.cell? ⟨gB, 0, none⟩ = some (.slice (some ⟨gE, 0, none⟩) 3 3) ∧ W.cell? ⟨gB, 4, none⟩ = some (.int .i64 4) ∧ W.cell? ⟨gB, 5, none⟩ = some (.slice (some ⟨gF, 0, none⟩) 4 4) ∧ W.cell? ⟨gE, 0, none⟩ = some (.slice A0 n0 c0) ∧ W.cell? ⟨gE, 1, none⟩ = some (.slice A1 n1 c1) ∧ W.cell? ⟨gE, 2, none⟩ = some (.slice A2_ n2 c2) ∧ W.cell? ⟨gE, 3, none⟩ = some (.slice A3 n3 c3) ∧ W.cell? ⟨gE, 4, none⟩ = some (.string q4) ∧ W.cell? ⟨gE, 5, none⟩ = some (.bool q5) ∧ W.cell? ⟨gE, 6, none⟩ = some (.string q6) ∧ Below W6.heap.size W6 W) := fun W hB => ⟨(hB.cell (p := ⟨gB, 3, none⟩) hgB).trans y3, (hB.cell (p := ⟨gB, 0, none⟩) hgB).trans y0, (hB.cell (p := ⟨gB, 4, none⟩) hgB).trans y4, (hB.cell (p := ⟨gB, 5, none⟩) hgB).trans y5, (hB.cell (p := ⟨gE, 0, none⟩) hgE).trans z0, (hB.cell (p := ⟨gE, 1, none⟩) hgE).trans z1, (hB.cell (p := ⟨gE, 2, none⟩) hgE).trans z2, (hB.cell (p := ⟨gE, 3, none⟩) hgE).trans z3, (hB.cell (p := ⟨gE, 4, none⟩) hgE).trans z4, (hB.cell (p := ⟨gE, 5, none⟩) hgE).trans z5, (hB.cell (p := ⟨gE, 6, none⟩) hgE).trans z6, hB⟩
  have dR : ∀ W, (W.cell? ⟨gB, 3, none⟩ = some (.slice (some ⟨gA, 0, none⟩) 1 1) ∧ W.cell? ⟨gB, 0, none⟩ = some (.slice (some ⟨gE, 0, none⟩) 3 3) ∧ W.cell? ⟨gB, 4, none⟩ = some (.int .i64 4) ∧ W.cell? ⟨gB, 5, none⟩ = some (.slice (some ⟨gF, 0, none⟩) 4 4) ∧ W.cell? ⟨gE, 0, none⟩ = some (.slice A0 n0 c0) ∧ W.cell? ⟨gE, 1, none⟩ = some (.slice A1 n1 c1) ∧ W.cell? ⟨gE, 2, none⟩ = some (.slice A2_ n2 c2) ∧ W.cell? ⟨gE, 3, none⟩ = some (.slice A3 n3 c3) ∧ W.cell? ⟨gE, 4, none⟩ = some (.string q4) ∧ W.cell? ⟨gE, 5, none⟩ = some (.bool q5) ∧ W.cell? ⟨gE, 6, none⟩ = some (.string q6) ∧ Below W6.heap.size W6 W) → Calls Tryd.prog 22 #[.slice (some ⟨gA, 0, none⟩) 1 1, .agg #[.slice A0 n0 c0, .slice A1 n1 c1, .slice A2_ n2 c2, .slice A3 n3 c3, .string q4, .bool q5, .string q6], .agg #[.int .i64 4, .slice (some ⟨gF, 0, none⟩) 4 4]] W fun e w' => ∃ v : Value, e = .returned (.tuple #[v, .int .i64 1801]) ∧ Kd.R (Kd.int .i64) 3 w' W6.heap.size (fun _ => True) v ([]) ∧ Below W6.heap.size W6 w' := fun W h => (cR W h.2.2.2.2.2.2.2.2.2.2.2).mono fun e w' ⟨v, he, hR, hb⟩ => ⟨v, he, Kd.R_lower hR (h.2.2.2.2.2.2.2.2.2.2.2).size, below_then (h.2.2.2.2.2.2.2.2.2.2.2) (h.2.2.2.2.2.2.2.2.2.2.2).size hb⟩
  clear cR hgB hgE
  have sB := Below.refl W6.heap.size W6
  go_region_held3 (fun w' => w'.cell? ⟨gB, 3, none⟩ = some (.slice (some ⟨gA, 0, none⟩) 1 1) ∧ w'.cell? ⟨gB, 0, none⟩ = some (.slice (some ⟨gE, 0, none⟩) 3 3) ∧ w'.cell? ⟨gB, 4, none⟩ = some (.int .i64 4) ∧ w'.cell? ⟨gB, 5, none⟩ = some (.slice (some ⟨gF, 0, none⟩) 4 4) ∧ w'.cell? ⟨gE, 0, none⟩ = some (.slice A0 n0 c0) ∧ w'.cell? ⟨gE, 1, none⟩ = some (.slice A1 n1 c1) ∧ w'.cell? ⟨gE, 2, none⟩ = some (.slice A2_ n2 c2) ∧ w'.cell? ⟨gE, 3, none⟩ = some (.slice A3 n3 c3) ∧ w'.cell? ⟨gE, 4, none⟩ = some (.string q4) ∧ w'.cell? ⟨gE, 5, none⟩ = some (.bool q5) ∧ w'.cell? ⟨gE, 6, none⟩ = some (.string q6) ∧ Below W6.heap.size W6 w')
    (first | (with_reducible exact toS _ hb) | (with_reducible exact toS _ (below_drew sB)) | (with_reducible exact toS _ sB) | assumption | go_keep)
    (first | (go_at_call 22; refine (dR _ ?_).mono ?_; assumption; rintro e W7 ⟨v, rfl, hR, hb⟩))
  rename_i hHeld
  clear hHeld toS dR sB z0 z1 z2 z3 z4 z5 z6 y0 y3 y4 y5
  obtain ⟨A7, k7, e9⟩ := Kd.R_slice hR
  subst e9
  replace XX := Aside0.mk ((hb.block _ (blk_lt XX.out)).trans XX.out)
  replace AW := Aside0.mk (AW.out.below hb)
  have E7 := Aside0.mk (below_then E6.out E6.out.size hb)
  clear E6
  replace C4 := Aside0.mk (And.intro C4.out.1 (And.intro C4.out.2.1 (Kd.C_below C4.out.2.2 hb)))
  clear hR hb
  go_upto_region 7 with fail
  have y4 : W7.cell? ⟨gB, 4, none⟩ = some (.int .i64 4) := by rw [blk_cell AW.out.box]; rfl
  have y5 : W7.cell? ⟨gB, 5, none⟩ = some (.slice (some ⟨gF, 0, none⟩) 4 4) := by rw [blk_cell AW.out.box]; rfl
  have nA : ∀ W, Kd.C k33 W none 0 [] := fun W => (Kd.R_reads' (Kd.R_nil k33 33 W 0 (fun _ => True))).2.2
  have c7 := command_Run.calls 40 none 0 [] none 0 [] none 0 [] none 0 [] none 0 [] ⟨#[]⟩ false ⟨#[]⟩ 4 (some ⟨gF, 0, none⟩) 4 stF [] 1800 W7 (nA _) (Nat.le_refl _) (st_nil _) (Nat.le_refl _) (st_nil _) (Nat.le_refl _) (st_nil _) (Nat.le_refl _) (st_nil _) (Nat.le_refl _) AW.out.f (Nat.le_refl _) aw18_6
  go_wp2_with fail
  refine c7.mono ?_
  clear c7 y4 y5
  rintro e W8 ⟨v, rfl, hR, hb⟩
  obtain ⟨A8, k8, e9⟩ := Kd.R_slice hR
  subst e9
  replace XX := Aside0.mk ((hb.block _ (blk_lt XX.out)).trans XX.out)
  replace C4 := Aside0.mk (And.intro C4.out.1 (And.intro C4.out.2.1 (Kd.C_below C4.out.2.2 hb)))
  have E8 := Aside0.mk (below_then E7.out E7.out.size hb)
  clear hR hb E7 AW
  go_upto_region 8 with fail
  obtain ⟨W9, HW⟩ : ∃ W, Aside0 (W = W8.alloc (.cells #[.string ⟨#[120]⟩, .string ⟨#[121]⟩] 9)) := ⟨_, ⟨rfl⟩⟩
  have N : Below W8.heap.size W8 W9 := by rw [HW.out]; exact below_alloc (Below.refl _ _) _
  have cL : Kd.C Kd.string W9 (some ⟨W8.heap.size, 0, none⟩) 2 [⟨#[120]⟩, ⟨#[121]⟩] := st_str [⟨#[120]⟩, ⟨#[121]⟩] (by rw [HW.out]; exact heap_alloc_new W8 _) (by decide)
  have nF : Kd.C k72 W9 none 0 [] := (Kd.R_reads' (Kd.R_nil k72 72 W9 0 (fun _ => True))).2.2
  have c8 := command_Run.calls 40 none 0 [] (some ⟨W8.heap.size, 0, none⟩) 2 [⟨#[120]⟩, ⟨#[121]⟩] none 0 [] none 0 [] none 0 [] ⟨#[33]⟩ false ⟨#[]⟩ 0 none 0 [] [1023, 1024] 0 W9 (nA _) (Nat.le_refl _) cL (Nat.le_refl _) (st_nil _) (Nat.le_refl _) (st_nil _) (Nat.le_refl _) (st_nil _) (Nat.le_refl _) nF (Nat.le_refl _) aw18_7
  clear cL nF nA
  have HN := Aside0.mk N
  clear N
  go_wp2_with fail
  rw [← HW.out]
  clear HW
  refine c8.mono ?_
  clear c8
  rintro e W10 ⟨v, rfl, hR, hb⟩
  obtain ⟨A10, k10, e9⟩ := Kd.R_slice hR
  subst e9
  have N := below_then HN.out HN.out.size hb
  replace XX := Aside0.mk ((N.block _ (blk_lt XX.out)).trans XX.out)
  replace C4 := Aside0.mk (And.intro C4.out.1 (And.intro C4.out.2.1 (Kd.C_below C4.out.2.2 N)))
  have CB := Aside0.mk (Kd.R_reads' hR)
  have E10 := Aside0.mk (below_then E8.out E8.out.size N)
  clear hR hb HN N E8
  go_upto_region 9 with fail
  obtain ⟨f0, f1, f2⟩ := ac_cells XX.out
  obtain ⟨W11, HW⟩ : ∃ W, Aside0 (W = W10.alloc (.cells #[.string ⟨#[122, 46, 104]⟩] 9)) := ⟨_, ⟨rfl⟩⟩
  have N : Below W10.heap.size W10 W11 := by rw [HW.out]; exact below_alloc (Below.refl _ _) _
  have c9 := cruciblelaw0_SameTexts.calls 40 A4 k4 [⟨#[122, 46, 104]⟩] (some ⟨W10.heap.size, 0, none⟩) 1 [⟨#[122, 46, 104]⟩] true W11 (Kd.C_below C4.out.2.2 N) C4.out.2.1 (st_str [⟨#[122, 46, 104]⟩] (by rw [HW.out]; exact heap_alloc_new W10 _) (by decide)) (Nat.le_refl _) aw18_8
  have HN := Aside0.mk N
  clear N
  go_wp2_with fail
  rw [← HW.out]
  clear HW
  refine c9.mono ?_
  clear c9 f0 f1 f2 XX C4
  rintro e W12 ⟨rfl, hd⟩
  have N := below_then HN.out HN.out.size hd.below
  replace CB := Aside0.mk (And.intro CB.out.1 (And.intro CB.out.2.1 (Kd.C_below CB.out.2.2 N)))
  have E12 := Aside0.mk (below_then E10.out E10.out.size N)
  clear N HN hd E10
  have c9 := cruciblelaw0_Num.calls 0 0 W12 rfl
  go_wp2_with fail
  refine c9.mono ?_
  clear c9
  rintro e W13 ⟨rfl, hd⟩
  have N := hd.below
  replace CB := Aside0.mk (And.intro CB.out.1 (And.intro CB.out.2.1 (Kd.C_below CB.out.2.2 N)))
  have E13 := Aside0.mk (below_then E12.out E12.out.size N)
  clear N hd E12
  have c9 := cruciblelaw0_Num.calls 0 0 W13 rfl
  go_wp2_with fail
  refine c9.mono ?_
  clear c9
  rintro e W14 ⟨rfl, hd⟩
  have N := hd.below
  replace CB := Aside0.mk (And.intro CB.out.1 (And.intro CB.out.2.1 (Kd.C_below CB.out.2.2 N)))
  have E14 := Aside0.mk (below_then E13.out E13.out.size N)
  clear N hd E13
  have c9 := cruciblelaw0_Num.calls 0 0 W14 rfl
  go_wp2_with fail
  refine c9.mono ?_
  clear c9
  rintro e W15 ⟨rfl, hd⟩
  have N := hd.below
  replace CB := Aside0.mk (And.intro CB.out.1 (And.intro CB.out.2.1 (Kd.C_below CB.out.2.2 N)))
  have E15 := Aside0.mk (below_then E14.out E14.out.size N)
  clear N hd E14
  have c9 := cruciblelaw0_Num.calls 1801 1801 W15 rfl
  go_wp2_with fail
  refine c9.mono ?_
  clear c9
  rintro e W16 ⟨rfl, hd⟩
  have N := hd.below
  replace CB := Aside0.mk (And.intro CB.out.1 (And.intro CB.out.2.1 (Kd.C_below CB.out.2.2 N)))
  have E16 := Aside0.mk (below_then E15.out E15.out.size N)
  clear N hd E15
  have c9 := cruciblelaw0_Num.calls 1800 1800 W16 rfl
  go_wp2_with fail
  refine c9.mono ?_
  clear c9
  rintro e W17 ⟨rfl, hd⟩
  have N := hd.below
  replace CB := Aside0.mk (And.intro CB.out.1 (And.intro CB.out.2.1 (Kd.C_below CB.out.2.2 N)))
  have E17 := Aside0.mk (below_then E16.out E16.out.size N)
  clear N hd E16
  obtain ⟨Wl, HW⟩ : ∃ W, Aside0 (W = W17.alloc (.cells #[.int .i64 1023, .int .i64 1024] 3)) := ⟨_, ⟨rfl⟩⟩
  have N : Below W17.heap.size W17 Wl := by rw [HW.out]; exact below_alloc (Below.refl _ _) _
  have cL : Kd.C (Kd.int .i64) Wl (some ⟨W17.heap.size, 0, none⟩) 2 [1023, 1024] := (Kd.R_reads' (Kd.R_of_own (enc := Value.int .i64) (h1 := fun _ => rfl) (e := 3) (base := 0) (ok := fun _ => True) (v := .slice (some ⟨W17.heap.size, 0, none⟩) 2 2) (xs := [1023, 1024]) ⟨rfl, .inr ⟨W17.heap.size, 2, _, rfl, Nat.zero_le _, by rw [HW.out]; exact heap_alloc_new W17 _, Nat.le_refl _, by unfold maxLen; omega, rfl, rfl⟩⟩ (fun _ _ => trivial))).2.2
  have c9 := cruciblelaw0_SameInts.calls 40 A10 k10 [1023, 1024] (some ⟨W17.heap.size, 0, none⟩) 2 [1023, 1024] true Wl (Kd.C_below CB.out.2.2 N) CB.out.2.1 cL (Nat.le_refl _) aw18_9
  have HN := Aside0.mk N
  clear N cL
  go_wp2_with fail
  rw [← HW.out]
  clear HW
  refine c9.mono ?_
  clear c9 CB
  rintro e W20 ⟨rfl, hd⟩
  have N := below_then HN.out HN.out.size hd.below
  have E20 := Aside0.mk (below_then E17.out E17.out.size N)
  clear N HN hd E17
  have c9 := cruciblelaw0_Num.calls 0 0 W20 rfl
  go_wp2_with fail
  refine c9.mono ?_
  clear c9
  rintro e W21 ⟨rfl, hd⟩
  have N := hd.below
  have E21 := Aside0.mk (below_then E20.out E20.out.size N)
  clear N hd E20
  go_wp2
  go_ret
  exact ⟨rfl, E21.out⟩

end Go.Proofs.YtilnamobmjngbaaDoor.P
