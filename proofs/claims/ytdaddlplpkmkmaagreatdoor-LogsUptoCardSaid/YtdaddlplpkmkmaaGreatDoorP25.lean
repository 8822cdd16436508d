-- Made by a program of this work's own (wip/myprint.py) over the kit's print; leaves by hand.
import Derived.Test.YtdaddlplpkmkmaaGreatDoorP0
import Derived.Test.YtdaddlplpkmkmaaGreatDoorP5
import Derived.Test.YtdaddlplpkmkmaaGreatDoorP7
import Derived.Test.YtdaddlplpkmkmaaGreatDoorP16
import Derived.Test.YtdaddlplpkmkmaaGreatDoorP18
import Derived.Test.YtdaddlplpkmkmaaGreatDoorP19
import Derived.Test.YtdaddlplpkmkmaaGreatDoorP20
import Derived.Test.YtdaddlplpkmkmaaGreatDoorP21
import Derived.Deep.RegionHeld3
import Derived.Test.YtdaddlplpkmkmaaGreatDoorMg1
import Derived.Test.YtdaddlplpkmkmaaGreatDoorTb
namespace Go.Proofs.YtdaddlplpkmkmaaGreatDoor.P
open Go.RowKit Go.Proofs.YtdaddlplpkmkmaaGreatDoorW.PrintWords Go.Proofs.YtdaddlplpkmkmaaGreatDoorW.PrintLast Go.Proofs.YtdaddlplpkmkmaaGreatDoorW.PrintMore
attribute [local go_sem] max2_int min2_int max_two min_two max_three min_three max_four min_four   -- for this text's walks alone
set_option linter.unusedVariables false
set_option linter.unusedSimpArgs false

-- HANDBIG Awake14.lean
-- IMPORT Derived.Test.YtdaddlplpkmkmaaGreatDoorPlain
-- IMPORT Derived.Test.YtdaddlplpkmkmaaGreatDoorTb
-- IMPORT Derived.Deep.RegionHeld3
/-! ### cruciblelaw14_awake, by hand -/
def cruciblelaw14_awake.f : Option Bool := some true
def aw_a : S31 := ⟨⟨#[97]⟩, 1, ⟨#[120]⟩⟩
def aw_b : S31 := ⟨⟨#[98]⟩, 2, ⟨#[121]⟩⟩
def aw_c : S31 := ⟨⟨#[97]⟩, 3, ⟨#[122]⟩⟩
def aw_z : S31 := ⟨⟨#[]⟩, 0, ⟨#[]⟩⟩
def aw_s : ByteArray := ⟨#[97, 9, 49, 9, 120, 10, 98, 9, 50, 9, 121, 10, 97, 9, 51, 9, 122, 10]⟩
theorem aw1 : log_Text.f 40 [aw_a, aw_b, aw_c] = some (aw_s, 0) := by kernel_rfl
theorem aw2 : log_Last.f 40 [aw_a, aw_b, aw_c] ⟨#[97]⟩ = some (⟨#[97]⟩, 3, ⟨#[122]⟩, true) := by kernel_rfl
theorem aw2b : log_Last.f 40 [aw_a] ⟨#[98]⟩ = some (⟨#[]⟩, 0, ⟨#[]⟩, false) := by kernel_rfl
theorem aw3 : log_Compact.f 40 [aw_a, aw_b, aw_c] = some ([aw_b, aw_c], 0) := by kernel_rfl
theorem aw4 : log_Text.f 40 [aw_z] = some (⟨#[]⟩, 1400) := by kernel_rfl
theorem aw6 : cruciblelaw0_SameRecords.f 40 [aw_b, aw_c] [aw_b, aw_c] = some true := by kernel_rfl
theorem aw7 : log_Load.f 40 ⟨#[97, 9, 49, 9, 120, 10, 98, 9, 50]⟩ = some [aw_a] := by kernel_rfl
theorem aw8 : cruciblelaw0_SameRecords.f 40 [aw_a] [aw_a] = some true := by kernel_rfl
theorem aw9 : log_May.f 40 [aw_b, aw_c] = some true := by kernel_rfl
theorem aw10 : (aw_s.toList == [97, 9, 49, 9, 120, 10, 98, 9, 50, 9, 121, 10, 97, 9, 51, 9, 122, 10]) = true := by decide +kernel
def litCells : List (S31) → List Value
  | [] => []
  | p :: r => .string p.f0 :: .int .i64 p.f1 :: .string p.f2 :: litCells r
theorem litCells_at : ∀ (ps : List (S31)) (j : Nat) (p : S31), ps[j]? = some p → ∀ (i : Nat) (u : Value), ([.string p.f0, .int .i64 p.f1, .string p.f2] : List Value)[i]? = some u → (litCells ps)[j * 3 + i]? = some u
  | [], j, p, h, _, _, _ => by simp at h
  | q :: r, 0, p, h, i, u, hu => by
    obtain rfl : q = p := by simpa using h
    rw [Nat.zero_mul, Nat.zero_add, litCells]
    match i, hu with
    | 0, hu => exact hu
    | 1, hu => exact hu
    | 2, hu => exact hu
    | n + 3, hu => simp at hu
  | q :: r, j + 1, p, h, i, u, hu => by
    rw [litCells, show (j + 1) * 3 + i = (j * 3 + i) + 1 + 1 + 1 by omega, List.getElem?_cons_succ, List.getElem?_cons_succ, List.getElem?_cons_succ]
    exact litCells_at r j p (by simpa using h) i u hu
theorem recs_lit (W' : World) (g : Nat) (ps : List (S31)) (hl : ps.length ≤ 1000) (hg : W'.heap[g]? = some (.cells (litCells ps).toArray 31 (0, 0))) :
    Kd.C k31 W' (some ⟨g, 0, none⟩) ps.length ps := by
  refine ⟨rfl, by omega, fun _ => ⟨_, rfl, fun j x hx => ?_⟩⟩
  refine ⟨_, rfl, k31_mk W' x, fun i u hu => ?_⟩
  rw [add_plain, blk_cell hg]
  show (litCells ps).toArray[j * 3 + i]? = some u
  rw [List.getElem?_toArray]
  exact litCells_at ps j x hx i u hu
abbrev awAo : Obj := .cells #[.string ⟨#[97]⟩, .int .i64 1, .string ⟨#[120]⟩] 31
abbrev awBo : Obj := .cells #[.string ⟨#[98]⟩, .int .i64 2, .string ⟨#[121]⟩] 31
abbrev awCo : Obj := .cells #[.string ⟨#[97]⟩, .int .i64 3, .string ⟨#[122]⟩] 31
abbrev awZo : Obj := .cells #[.string ⟨#[]⟩, .int .i64 0, .string ⟨#[]⟩] 31
structure AwB (w W : World) : Prop where
  a : W.heap[w.heap.size]? = some awAo
  b : W.heap[w.heap.size + 1]? = some awBo
  c : W.heap[w.heap.size + 1 + 1]? = some awCo
  below : Below w.heap.size w W
theorem AwB.step {w W W' : World} (h : AwB w W) (hB : Below W.heap.size W W') : AwB w W' :=
  ⟨(hB.block _ (blk_lt h.a)).trans h.a, (hB.block _ (blk_lt h.b)).trans h.b, (hB.block _ (blk_lt h.c)).trans h.c, below_then h.below h.below.size hB⟩
theorem AwB.new (w : World) : AwB w (((w.alloc awAo).alloc awBo).alloc awCo) := by
  have h2 := heap_alloc_new w awAo
  have h3 := heap_alloc_new (w.alloc awAo) awBo
  have h4 := heap_alloc_new ((w.alloc awAo).alloc awBo) awCo
  simp only [World.size_alloc] at h3 h4
  have st : ∀ (W : World) (o : Obj) (k : Nat) (q : Obj), W.heap[k]? = some q → (W.alloc o).heap[k]? = some q := fun W o k q h => (Below.heap_alloc W o k (blk_lt h)).trans h
  exact ⟨st _ _ _ _ (st _ _ _ _ h2), st _ _ _ _ h3, h4, below_alloc (below_alloc (below_alloc (Below.refl _ _) _) _) _⟩
theorem AwB.cells {w W : World} (h : AwB w W) : W.cell? ⟨w.heap.size, 0, none⟩ = some (.string ⟨#[97]⟩) ∧ W.cell? ⟨w.heap.size, 1, none⟩ = some (.int .i64 1) ∧ W.cell? ⟨w.heap.size, 2, none⟩ = some (.string ⟨#[120]⟩) ∧
    W.cell? ⟨w.heap.size + 1, 0, none⟩ = some (.string ⟨#[98]⟩) ∧ W.cell? ⟨w.heap.size + 1, 1, none⟩ = some (.int .i64 2) ∧ W.cell? ⟨w.heap.size + 1, 2, none⟩ = some (.string ⟨#[121]⟩) ∧
    W.cell? ⟨w.heap.size + 1 + 1, 0, none⟩ = some (.string ⟨#[97]⟩) ∧ W.cell? ⟨w.heap.size + 1 + 1, 1, none⟩ = some (.int .i64 3) ∧ W.cell? ⟨w.heap.size + 1 + 1, 2, none⟩ = some (.string ⟨#[122]⟩) :=
  ⟨by rw [blk_cell h.a]; rfl, by rw [blk_cell h.a]; rfl, by rw [blk_cell h.a]; rfl, by rw [blk_cell h.b]; rfl, by rw [blk_cell h.b]; rfl, by rw [blk_cell h.b]; rfl, by rw [blk_cell h.c]; rfl, by rw [blk_cell h.c]; rfl, by rw [blk_cell h.c]; rfl⟩
abbrev awLo : Obj := .cells #[.string ⟨#[97]⟩, .int .i64 1, .string ⟨#[120]⟩, .string ⟨#[98]⟩, .int .i64 2, .string ⟨#[121]⟩, .string ⟨#[97]⟩, .int .i64 3, .string ⟨#[122]⟩] 31
abbrev awMo : Obj := .cells #[.string ⟨#[98]⟩, .int .i64 2, .string ⟨#[121]⟩, .string ⟨#[97]⟩, .int .i64 3, .string ⟨#[122]⟩] 31
theorem aw_abc {W : World} {g : Nat} (h : W.heap[g]? = some awLo) : Kd.C k31 W (some ⟨g, 0, none⟩) 3 [aw_a, aw_b, aw_c] := recs_lit W g [aw_a, aw_b, aw_c] (by decide) h
theorem aw_bc {W : World} {g : Nat} (h : W.heap[g]? = some awMo) : Kd.C k31 W (some ⟨g, 0, none⟩) 2 [aw_b, aw_c] := recs_lit W g [aw_b, aw_c] (by decide) h
theorem aw_la {W : World} {g : Nat} (h : W.heap[g]? = some awAo) : Kd.C k31 W (some ⟨g, 0, none⟩) 1 [aw_a] := recs_lit W g [aw_a] (by decide) h
theorem aw_lz {W : World} {g : Nat} (h : W.heap[g]? = some awZo) : Kd.C k31 W (some ⟨g, 0, none⟩) 1 [aw_z] := recs_lit W g [aw_z] (by decide) h
theorem aw_at {W : World} {o : Obj} {g : Nat} (h : g = W.heap.size) : (W.alloc o).heap[g]? = some o := by rw [h]; exact heap_alloc_new W o
set_option maxHeartbeats 4000000 in
set_option maxRecDepth 100000 in
theorem cruciblelaw14_awake.calls (r : Bool) (w : World) (h : cruciblelaw14_awake.f = some r) (hT : Tb w) : Calls Tryz.prog 21 #[] w fun e w' => e = .returned (.bool r) ∧ Below w.heap.size w w' := by
  obtain rfl : true = r := Option.some.inj h
  clear h
  have HT := Aside0.mk hT
  clear hT
  have N3 := AwB.new w
  have c1 := log_Text.calls 40 (some ⟨w.heap.size + 1 + 1 + 1, 0, none⟩) 3 [aw_a, aw_b, aw_c] aw_s 0 _ (aw_abc (aw_at (W := ((w.alloc awAo).alloc awBo).alloc awCo) (o := awLo) (by simp))) (by decide) aw1 (HT.out.below (below_alloc N3.below awLo))
  have NL := Aside0.mk (N3.step (below_alloc (Below.refl _ _) awLo))
  clear N3
  go_enter Tryz.func21, Tryz.ntmps21
  go_wp2_with fail
  refine c1.mono ?_
  rintro e w5 ⟨rfl, B5⟩
  clear c1
  have N5 := NL.out.step B5
  clear B5 NL
  obtain ⟨a0, a1, a2, b0, b1, b2, d0, d1, d2⟩ := N5.cells
  have c2 := log_Last.calls 40 (some ⟨w5.heap.size, 0, none⟩) 3 [aw_a, aw_b, aw_c] ⟨#[97]⟩ _ _ _ _ _ (aw_abc (aw_at (W := w5) (o := awLo) rfl)) (by decide) aw2
  have N5 := Aside0.mk N5
  go_wp2_with fail
  refine c2.mono ?_
  rintro e w6 ⟨rfl, B6⟩
  clear c2 a0 a1 a2 b0 b1 b2 d0 d1 d2
  have N6 := (N5.out.step (below_alloc (Below.refl _ _) awLo)).step B6
  clear B6 N5
  have N6b := N6.step (below_alloc (Below.refl _ _) awCo)
  have c2b := log_Last.calls 40 (some ⟨w6.heap.size + 1, 0, none⟩) 1 [aw_a] ⟨#[98]⟩ _ _ _ _ _ (aw_la (aw_at (W := w6.alloc awCo) (o := awAo) (by simp))) (by decide) aw2b
  obtain ⟨a0, a1, a2, b0, b1, b2, d0, d1, d2⟩ := N6b.cells
  have H6 := Aside0.mk (heap_alloc_new w6 awCo)
  have N6 := Aside0.mk N6
  have N6b := Aside0.mk N6b
  go_wp2_with fail
  refine c2b.mono ?_
  rintro e w7 ⟨rfl, B7⟩
  clear c2b a0 a1 a2 b0 b1 b2 d0 d1 d2
  have b7 := below_then (below_alloc (Below.refl _ (w6.alloc awCo)) awAo) (below_alloc (Below.refl _ (w6.alloc awCo)) awAo).size B7
  have N7 := N6b.out.step b7
  have X7 := (b7.block _ (blk_lt H6.out)).trans H6.out
  clear B7 b7 H6 N6 N6b
  have N7b := N7.step (below_alloc (Below.refl _ _) awZo)
  have X7b := (Below.heap_alloc w7 awZo _ (blk_lt X7)).trans X7
  have c3 := log_Compact.calls 40 (some ⟨w7.heap.size + 1, 0, none⟩) 3 [aw_a, aw_b, aw_c] _ _ _ (aw_abc (aw_at (W := w7.alloc awZo) (o := awLo) (by simp))) (by decide) aw3
  obtain ⟨a0, a1, a2, b0, b1, b2, d0, d1, d2⟩ := N7b.cells
  have N7b := Aside0.mk N7b
  have X7b := Aside0.mk X7b
  clear N7 X7
  go_wp2_with fail
  refine c3.mono ?_
  rintro e w8 ⟨v8, rfl, hR8, B8⟩
  clear c3 a0 a1 a2 b0 b1 b2 d0 d1 d2
  have b8 := below_then (below_alloc (Below.refl _ (w7.alloc awZo)) awLo) (below_alloc (Below.refl _ (w7.alloc awZo)) awLo).size B8
  have N8 := N7b.out.step b8
  have X8 := (b8.block _ (blk_lt X7b.out)).trans X7b.out
  obtain ⟨A8, k8, rfl⟩ := Kd.R_slice hR8
  have hC8 := (Kd.R_reads' hR8).2.2
  have hk8 := (Kd.R_reads' hR8).2.1
  clear hR8 B8 b8 N7b X7b
  have c4 := log_Text.calls 40 (some ⟨w8.heap.size, 0, none⟩) 1 [aw_z] _ _ _ (aw_lz (aw_at (W := w8) (o := awZo) rfl)) (by decide) aw4 (HT.out.below (below_alloc N8.below awZo))
  have HC8 := Aside0.mk hC8
  have HK8 := Aside0.mk hk8
  have N8 := Aside0.mk N8
  have X8 := Aside0.mk X8
  clear hC8 hk8
  go_wp2_with fail
  refine c4.mono ?_
  rintro e w9 ⟨rfl, B9⟩
  clear c4
  have b9 := below_then (below_alloc (Below.refl _ w8) awZo) (below_alloc (Below.refl _ w8) awZo).size B9
  have N9 := N8.out.step b9
  have X9 := (b9.block _ (blk_lt X8.out)).trans X8.out
  have C9 := Aside0.mk (Kd.C_below HC8.out b9)
  clear B9 b9 N8 X8 HC8
  have hst := aw10
  have toS : ∀ W', Below w9.heap.size w9 W' → (W'.cell? ⟨w6.heap.size, 0, none⟩ = some (.string ⟨#[97]⟩) ∧ W'.cell? ⟨w6.heap.size, 1, none⟩ = some (.int .i64 3) ∧ W'.cell? ⟨w6.heap.size, 2, none⟩ = some (.string ⟨#[122]⟩) ∧ W'.cell? ⟨w.heap.size, 0, none⟩ = some (.string ⟨#[97]⟩) ∧ W'.cell? ⟨w.heap.size, 1, none⟩ = some (.int .i64 1) ∧ W'.cell? ⟨w.heap.size, 2, none⟩ = some (.string ⟨#[120]⟩) ∧ W'.cell? ⟨w.heap.size + 1, 0, none⟩ = some (.string ⟨#[98]⟩) ∧ W'.cell? ⟨w.heap.size + 1, 1, none⟩ = some (.int .i64 2) ∧ W'.cell? ⟨w.heap.size + 1, 2, none⟩ = some (.string ⟨#[121]⟩) ∧ W'.cell? ⟨w.heap.size + 1 + 1, 0, none⟩ = some (.string ⟨#[97]⟩) ∧ W'.cell? ⟨w.heap.size + 1 + 1, 1, none⟩ = some (.int .i64 3) ∧ W'.cell? ⟨w.heap.size + 1 + 1, 2, none⟩ = some (.string ⟨#[122]⟩) ∧ Below w9.heap.size w9 W') := fun W' hB => by
    obtain ⟨a0, a1, a2, b0, b1, b2, d0, d1, d2⟩ := (N9.step hB).cells
    have hX := (hB.block _ (blk_lt X9)).trans X9
    exact ⟨by rw [blk_cell hX]; rfl, by rw [blk_cell hX]; rfl, by rw [blk_cell hX]; rfl, a0, a1, a2, b0, b1, b2, d0, d1, d2, hB⟩
  have aS : ∀ (W : World) (o : Obj), (W.cell? ⟨w6.heap.size, 0, none⟩ = some (.string ⟨#[97]⟩) ∧ W.cell? ⟨w6.heap.size, 1, none⟩ = some (.int .i64 3) ∧ W.cell? ⟨w6.heap.size, 2, none⟩ = some (.string ⟨#[122]⟩) ∧ W.cell? ⟨w.heap.size, 0, none⟩ = some (.string ⟨#[97]⟩) ∧ W.cell? ⟨w.heap.size, 1, none⟩ = some (.int .i64 1) ∧ W.cell? ⟨w.heap.size, 2, none⟩ = some (.string ⟨#[120]⟩) ∧ W.cell? ⟨w.heap.size + 1, 0, none⟩ = some (.string ⟨#[98]⟩) ∧ W.cell? ⟨w.heap.size + 1, 1, none⟩ = some (.int .i64 2) ∧ W.cell? ⟨w.heap.size + 1, 2, none⟩ = some (.string ⟨#[121]⟩) ∧ W.cell? ⟨w.heap.size + 1 + 1, 0, none⟩ = some (.string ⟨#[97]⟩) ∧ W.cell? ⟨w.heap.size + 1 + 1, 1, none⟩ = some (.int .i64 3) ∧ W.cell? ⟨w.heap.size + 1 + 1, 2, none⟩ = some (.string ⟨#[122]⟩) ∧ Below w9.heap.size w9 W) → ((W.alloc o).cell? ⟨w6.heap.size, 0, none⟩ = some (.string ⟨#[97]⟩) ∧ (W.alloc o).cell? ⟨w6.heap.size, 1, none⟩ = some (.int .i64 3) ∧ (W.alloc o).cell? ⟨w6.heap.size, 2, none⟩ = some (.string ⟨#[122]⟩) ∧ (W.alloc o).cell? ⟨w.heap.size, 0, none⟩ = some (.string ⟨#[97]⟩) ∧ (W.alloc o).cell? ⟨w.heap.size, 1, none⟩ = some (.int .i64 1) ∧ (W.alloc o).cell? ⟨w.heap.size, 2, none⟩ = some (.string ⟨#[120]⟩) ∧ (W.alloc o).cell? ⟨w.heap.size + 1, 0, none⟩ = some (.string ⟨#[98]⟩) ∧ (W.alloc o).cell? ⟨w.heap.size + 1, 1, none⟩ = some (.int .i64 2) ∧ (W.alloc o).cell? ⟨w.heap.size + 1, 2, none⟩ = some (.string ⟨#[121]⟩) ∧ (W.alloc o).cell? ⟨w.heap.size + 1 + 1, 0, none⟩ = some (.string ⟨#[97]⟩) ∧ (W.alloc o).cell? ⟨w.heap.size + 1 + 1, 1, none⟩ = some (.int .i64 3) ∧ (W.alloc o).cell? ⟨w.heap.size + 1 + 1, 2, none⟩ = some (.string ⟨#[122]⟩) ∧ Below w9.heap.size w9 (W.alloc o)) := fun W o h => toS _ (below_then h.2.2.2.2.2.2.2.2.2.2.2.2 h.2.2.2.2.2.2.2.2.2.2.2.2.size (below_alloc (Below.refl _ W) o))
  have cNum : ∀ (n : Int) (W : World), (W.cell? ⟨w6.heap.size, 0, none⟩ = some (.string ⟨#[97]⟩) ∧ W.cell? ⟨w6.heap.size, 1, none⟩ = some (.int .i64 3) ∧ W.cell? ⟨w6.heap.size, 2, none⟩ = some (.string ⟨#[122]⟩) ∧ W.cell? ⟨w.heap.size, 0, none⟩ = some (.string ⟨#[97]⟩) ∧ W.cell? ⟨w.heap.size, 1, none⟩ = some (.int .i64 1) ∧ W.cell? ⟨w.heap.size, 2, none⟩ = some (.string ⟨#[120]⟩) ∧ W.cell? ⟨w.heap.size + 1, 0, none⟩ = some (.string ⟨#[98]⟩) ∧ W.cell? ⟨w.heap.size + 1, 1, none⟩ = some (.int .i64 2) ∧ W.cell? ⟨w.heap.size + 1, 2, none⟩ = some (.string ⟨#[121]⟩) ∧ W.cell? ⟨w.heap.size + 1 + 1, 0, none⟩ = some (.string ⟨#[97]⟩) ∧ W.cell? ⟨w.heap.size + 1 + 1, 1, none⟩ = some (.int .i64 3) ∧ W.cell? ⟨w.heap.size + 1 + 1, 2, none⟩ = some (.string ⟨#[122]⟩) ∧ Below w9.heap.size w9 W) → Calls Tryz.prog 14 #[.int .i64 n] W fun e w' => e = .returned (.int .i64 n) ∧ Below w9.heap.size w9 w' := fun n W h => (cruciblelaw0_Num.calls n n W rfl).mono fun e w' ⟨he, hd⟩ => ⟨he, below_then h.2.2.2.2.2.2.2.2.2.2.2.2 h.2.2.2.2.2.2.2.2.2.2.2.2.size hd.below⟩
  have cSR1 : ∀ (W : World), ((W.alloc awMo).cell? ⟨w6.heap.size, 0, none⟩ = some (.string ⟨#[97]⟩) ∧ (W.alloc awMo).cell? ⟨w6.heap.size, 1, none⟩ = some (.int .i64 3) ∧ (W.alloc awMo).cell? ⟨w6.heap.size, 2, none⟩ = some (.string ⟨#[122]⟩) ∧ (W.alloc awMo).cell? ⟨w.heap.size, 0, none⟩ = some (.string ⟨#[97]⟩) ∧ (W.alloc awMo).cell? ⟨w.heap.size, 1, none⟩ = some (.int .i64 1) ∧ (W.alloc awMo).cell? ⟨w.heap.size, 2, none⟩ = some (.string ⟨#[120]⟩) ∧ (W.alloc awMo).cell? ⟨w.heap.size + 1, 0, none⟩ = some (.string ⟨#[98]⟩) ∧ (W.alloc awMo).cell? ⟨w.heap.size + 1, 1, none⟩ = some (.int .i64 2) ∧ (W.alloc awMo).cell? ⟨w.heap.size + 1, 2, none⟩ = some (.string ⟨#[121]⟩) ∧ (W.alloc awMo).cell? ⟨w.heap.size + 1 + 1, 0, none⟩ = some (.string ⟨#[97]⟩) ∧ (W.alloc awMo).cell? ⟨w.heap.size + 1 + 1, 1, none⟩ = some (.int .i64 3) ∧ (W.alloc awMo).cell? ⟨w.heap.size + 1 + 1, 2, none⟩ = some (.string ⟨#[122]⟩) ∧ Below w9.heap.size w9 (W.alloc awMo)) → Calls Tryz.prog 15 #[.slice A8 2 k8, .slice (some ⟨W.heap.size, 0, none⟩) 2 2] (W.alloc awMo) fun e w' => e = .returned (.bool true) ∧ Below w9.heap.size w9 w' := fun W h => (cruciblelaw0_SameRecords.calls 40 A8 k8 [aw_b, aw_c] (some ⟨W.heap.size, 0, none⟩) 2 [aw_b, aw_c] true _ (Kd.C_below C9.out h.2.2.2.2.2.2.2.2.2.2.2.2) HK8.out (aw_bc (heap_alloc_new W _)) (by decide) aw6).mono fun e w' ⟨he, hd⟩ => ⟨he, below_then h.2.2.2.2.2.2.2.2.2.2.2.2 h.2.2.2.2.2.2.2.2.2.2.2.2.size hd.below⟩
  have cLoad : ∀ (W : World), (W.cell? ⟨w6.heap.size, 0, none⟩ = some (.string ⟨#[97]⟩) ∧ W.cell? ⟨w6.heap.size, 1, none⟩ = some (.int .i64 3) ∧ W.cell? ⟨w6.heap.size, 2, none⟩ = some (.string ⟨#[122]⟩) ∧ W.cell? ⟨w.heap.size, 0, none⟩ = some (.string ⟨#[97]⟩) ∧ W.cell? ⟨w.heap.size, 1, none⟩ = some (.int .i64 1) ∧ W.cell? ⟨w.heap.size, 2, none⟩ = some (.string ⟨#[120]⟩) ∧ W.cell? ⟨w.heap.size + 1, 0, none⟩ = some (.string ⟨#[98]⟩) ∧ W.cell? ⟨w.heap.size + 1, 1, none⟩ = some (.int .i64 2) ∧ W.cell? ⟨w.heap.size + 1, 2, none⟩ = some (.string ⟨#[121]⟩) ∧ W.cell? ⟨w.heap.size + 1 + 1, 0, none⟩ = some (.string ⟨#[97]⟩) ∧ W.cell? ⟨w.heap.size + 1 + 1, 1, none⟩ = some (.int .i64 3) ∧ W.cell? ⟨w.heap.size + 1 + 1, 2, none⟩ = some (.string ⟨#[122]⟩) ∧ Below w9.heap.size w9 W) → Calls Tryz.prog 9 #[.string ⟨#[97, 9, 49, 9, 120, 10, 98, 9, 50]⟩] W fun e w' => ∃ AL cL, e = .returned (.slice AL 1 cL) ∧ 1 ≤ cL ∧ Kd.C k31 w' AL 1 [aw_a] ∧ Below W.heap.size W w' ∧ Below w9.heap.size w9 w' := fun W h => (log_Load.calls 40 _ _ W aw7 ((HT.out.below N9.below).below h.2.2.2.2.2.2.2.2.2.2.2.2)).mono fun e w' ⟨v, he, hR, hd⟩ => by
    obtain ⟨AL, cL, rfl⟩ := Kd.R_slice hR
    exact ⟨AL, cL, he, (Kd.R_reads' hR).2.1, (Kd.R_reads' hR).2.2, hd, below_then h.2.2.2.2.2.2.2.2.2.2.2.2 h.2.2.2.2.2.2.2.2.2.2.2.2.size hd⟩
  have cSR2 : ∀ (W : World) (AL : Option Addr) (cL g : Nat), (W.cell? ⟨w6.heap.size, 0, none⟩ = some (.string ⟨#[97]⟩) ∧ W.cell? ⟨w6.heap.size, 1, none⟩ = some (.int .i64 3) ∧ W.cell? ⟨w6.heap.size, 2, none⟩ = some (.string ⟨#[122]⟩) ∧ W.cell? ⟨w.heap.size, 0, none⟩ = some (.string ⟨#[97]⟩) ∧ W.cell? ⟨w.heap.size, 1, none⟩ = some (.int .i64 1) ∧ W.cell? ⟨w.heap.size, 2, none⟩ = some (.string ⟨#[120]⟩) ∧ W.cell? ⟨w.heap.size + 1, 0, none⟩ = some (.string ⟨#[98]⟩) ∧ W.cell? ⟨w.heap.size + 1, 1, none⟩ = some (.int .i64 2) ∧ W.cell? ⟨w.heap.size + 1, 2, none⟩ = some (.string ⟨#[121]⟩) ∧ W.cell? ⟨w.heap.size + 1 + 1, 0, none⟩ = some (.string ⟨#[97]⟩) ∧ W.cell? ⟨w.heap.size + 1 + 1, 1, none⟩ = some (.int .i64 3) ∧ W.cell? ⟨w.heap.size + 1 + 1, 2, none⟩ = some (.string ⟨#[122]⟩) ∧ Below w9.heap.size w9 W) → Kd.C k31 W AL 1 [aw_a] → 1 ≤ cL → W.heap[g]? = some awAo → Calls Tryz.prog 15 #[.slice AL 1 cL, .slice (some ⟨g, 0, none⟩) 1 1] W fun e w' => e = .returned (.bool true) ∧ Below w9.heap.size w9 w' := fun W AL cL g h hC hk hg => (cruciblelaw0_SameRecords.calls 40 AL cL [aw_a] (some ⟨g, 0, none⟩) 1 [aw_a] true W hC hk (aw_la hg) (by decide) aw8).mono fun e w' ⟨he, hd⟩ => ⟨he, below_then h.2.2.2.2.2.2.2.2.2.2.2.2 h.2.2.2.2.2.2.2.2.2.2.2.2.size hd.below⟩
  have cMay : ∀ (W : World), (W.cell? ⟨w6.heap.size, 0, none⟩ = some (.string ⟨#[97]⟩) ∧ W.cell? ⟨w6.heap.size, 1, none⟩ = some (.int .i64 3) ∧ W.cell? ⟨w6.heap.size, 2, none⟩ = some (.string ⟨#[122]⟩) ∧ W.cell? ⟨w.heap.size, 0, none⟩ = some (.string ⟨#[97]⟩) ∧ W.cell? ⟨w.heap.size, 1, none⟩ = some (.int .i64 1) ∧ W.cell? ⟨w.heap.size, 2, none⟩ = some (.string ⟨#[120]⟩) ∧ W.cell? ⟨w.heap.size + 1, 0, none⟩ = some (.string ⟨#[98]⟩) ∧ W.cell? ⟨w.heap.size + 1, 1, none⟩ = some (.int .i64 2) ∧ W.cell? ⟨w.heap.size + 1, 2, none⟩ = some (.string ⟨#[121]⟩) ∧ W.cell? ⟨w.heap.size + 1 + 1, 0, none⟩ = some (.string ⟨#[97]⟩) ∧ W.cell? ⟨w.heap.size + 1 + 1, 1, none⟩ = some (.int .i64 3) ∧ W.cell? ⟨w.heap.size + 1 + 1, 2, none⟩ = some (.string ⟨#[122]⟩) ∧ Below w9.heap.size w9 W) → Calls Tryz.prog 17 #[.slice A8 2 k8] W fun e w' => e = .returned (.bool true) ∧ Below w9.heap.size w9 w' := fun W h => (log_May.calls 40 A8 k8 [aw_b, aw_c] true W (Kd.C_below C9.out h.2.2.2.2.2.2.2.2.2.2.2.2) HK8.out aw9).mono fun e w' ⟨he, hd⟩ => ⟨he, below_then h.2.2.2.2.2.2.2.2.2.2.2.2 h.2.2.2.2.2.2.2.2.2.2.2.2.size hd⟩
  have fin : ∀ (W : World), (W.cell? ⟨w6.heap.size, 0, none⟩ = some (.string ⟨#[97]⟩) ∧ W.cell? ⟨w6.heap.size, 1, none⟩ = some (.int .i64 3) ∧ W.cell? ⟨w6.heap.size, 2, none⟩ = some (.string ⟨#[122]⟩) ∧ W.cell? ⟨w.heap.size, 0, none⟩ = some (.string ⟨#[97]⟩) ∧ W.cell? ⟨w.heap.size, 1, none⟩ = some (.int .i64 1) ∧ W.cell? ⟨w.heap.size, 2, none⟩ = some (.string ⟨#[120]⟩) ∧ W.cell? ⟨w.heap.size + 1, 0, none⟩ = some (.string ⟨#[98]⟩) ∧ W.cell? ⟨w.heap.size + 1, 1, none⟩ = some (.int .i64 2) ∧ W.cell? ⟨w.heap.size + 1, 2, none⟩ = some (.string ⟨#[121]⟩) ∧ W.cell? ⟨w.heap.size + 1 + 1, 0, none⟩ = some (.string ⟨#[97]⟩) ∧ W.cell? ⟨w.heap.size + 1 + 1, 1, none⟩ = some (.int .i64 3) ∧ W.cell? ⟨w.heap.size + 1 + 1, 2, none⟩ = some (.string ⟨#[122]⟩) ∧ Below w9.heap.size w9 W) → Below w.heap.size w W := fun W h => below_then N9.below N9.below.size h.2.2.2.2.2.2.2.2.2.2.2.2
  obtain ⟨s0, s1, s2, s3, s4, s5, s6, s7, s8, s9, s10, s11, sB⟩ := toS _ (Below.refl _ w9)
  clear N9 X9 C9 HK8 HT
  go_wp2_with fail
  go_region_held3 (fun w' => w'.cell? ⟨w6.heap.size, 0, none⟩ = some (.string ⟨#[97]⟩) ∧ w'.cell? ⟨w6.heap.size, 1, none⟩ = some (.int .i64 3) ∧ w'.cell? ⟨w6.heap.size, 2, none⟩ = some (.string ⟨#[122]⟩) ∧ w'.cell? ⟨w.heap.size, 0, none⟩ = some (.string ⟨#[97]⟩) ∧ w'.cell? ⟨w.heap.size, 1, none⟩ = some (.int .i64 1) ∧ w'.cell? ⟨w.heap.size, 2, none⟩ = some (.string ⟨#[120]⟩) ∧ w'.cell? ⟨w.heap.size + 1, 0, none⟩ = some (.string ⟨#[98]⟩) ∧ w'.cell? ⟨w.heap.size + 1, 1, none⟩ = some (.int .i64 2) ∧ w'.cell? ⟨w.heap.size + 1, 2, none⟩ = some (.string ⟨#[121]⟩) ∧ w'.cell? ⟨w.heap.size + 1 + 1, 0, none⟩ = some (.string ⟨#[97]⟩) ∧ w'.cell? ⟨w.heap.size + 1 + 1, 1, none⟩ = some (.int .i64 3) ∧ w'.cell? ⟨w.heap.size + 1 + 1, 2, none⟩ = some (.string ⟨#[122]⟩) ∧ Below w9.heap.size w9 w')
    (first | (with_reducible exact toS _ hb) | (with_reducible exact toS _ (below_drew sB)) | (with_reducible exact toS _ sB) | (refine aS _ _ ?_; assumption) | assumption | go_keep)
    (first
      | (go_at_call 14; (with_reducible refine (cNum _ _ ?_).mono ?_); assumption; rintro e w' ⟨rfl, hb⟩)
      | (go_at_call_of 15 (Value.slice A8 2 k8); refine (cSR1 _ ?_).mono ?_; assumption; rintro e w' ⟨rfl, hb⟩)
      | (go_at_call 9; refine (cLoad _ ?_).mono ?_; assumption; rintro e w' ⟨AL, cL, rfl, hkL, hCL, hBL, hb⟩)
      | (go_at_call 15; (first | ((with_reducible refine (cSR2 _ _ _ _ ?_ (Kd.C_alloc hCL _) hkL (heap_alloc_new _ _)).mono ?_); assumption) | ((with_reducible refine (cSR2 _ _ _ _ ?_ hCL hkL ((hBL.block _ (by simp)).trans (heap_alloc_new _ _))).mono ?_); assumption)); rintro e w' ⟨rfl, hb⟩)
      | (go_at_call 17; refine (cMay _ ?_).mono ?_; assumption; rintro e w' ⟨rfl, hb⟩))
  all_goals (try go_wp2)
  all_goals go_ret
  all_goals exact ⟨rfl, fin _ (by assumption)⟩

end Go.Proofs.YtdaddlplpkmkmaaGreatDoor.P
