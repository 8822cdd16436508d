-- Made by a program of this work's own (wip/myprint.py) over the kit's print; leaves by hand.
import Derived.Test.YtaokgnhdagcepaaDoorP0
import Derived.Test.YtaokgnhdagcepaaDoorP3
import Derived.Test.YtaokgnhdagcepaaDoorP6
import Derived.Test.YtaokgnhdagcepaaDoorP14
import Derived.Test.YtaokgnhdagcepaaDoorP16
import Derived.Test.YtaokgnhdagcepaaDoorP17
import Derived.Test.YtaokgnhdagcepaaDoorP18
import Derived.Test.YtaokgnhdagcepaaDoorP19
import Derived.Test.YtaokgnhdagcepaaDoorP20
import Derived.Deep.RegionHeld3
import Derived.Test.YtaokgnhdagcepaaDoorMg1
namespace Go.Proofs.YtaokgnhdagcepaaDoor.P
open Go.RowKit Go.Proofs.YtaokgnhdagcepaaDoorW.PrintWords Go.Proofs.YtaokgnhdagcepaaDoorW.PrintLast Go.Proofs.YtaokgnhdagcepaaDoorW.PrintMore
attribute [local go_sem] max2_int min2_int max_two min_two max_three min_three max_four min_four   -- for this text's walks alone
set_option linter.unusedVariables false
set_option linter.unusedSimpArgs false

-- HANDBIG Awake16.lean
-- IMPORT Derived.Test.YtaokgnhdagcepaaDoorPlain
-- IMPORT Derived.Deep.RegionHeld3
/-! ### cruciblelaw16_awake, by hand -/
def cruciblelaw16_awake.f : Option Bool := some true
def aw_a : S32 := ⟨⟨#[97]⟩, 1, [⟨#[120]⟩]⟩
def aw_b : S32 := ⟨⟨#[98]⟩, 2, []⟩
def aw_c : S32 := ⟨⟨#[97]⟩, 3, []⟩
def aw_z : S32 := ⟨⟨#[]⟩, 0, []⟩
def aw_s : ByteArray := ⟨#[9, 0, 1, 97, 1, 0, 0, 0, 1, 1, 120, 7, 0, 1, 98, 2, 0, 0, 0, 0, 7, 0, 1, 97, 3, 0, 0, 0, 0]⟩
def aw_s13 : ByteArray := ⟨#[9, 0, 1, 97, 1, 0, 0, 0, 1, 1, 120, 7, 0]⟩
theorem aw1 : deplog_Text.f 40 [aw_a, aw_b, aw_c] = some (aw_s, 0) := by kernel_rfl
theorem aw2 : deplog_Last.f 40 [aw_a, aw_b, aw_c] ⟨#[97]⟩ = some (⟨#[97]⟩, 3, [], true) := by kernel_rfl
theorem aw3 : deplog_Compact.f 40 [aw_a, aw_b, aw_c] = some ([aw_b, aw_c], 0) := by kernel_rfl
theorem aw4 : deplog_Text.f 40 [aw_z] = some (⟨#[]⟩, 1600) := by kernel_rfl
theorem aw5 : cruciblelaw0_SameFound.f 40 ⟨#[97]⟩ 3 [] ⟨#[97]⟩ 3 [] = some true := by kernel_rfl
theorem aw6 : cruciblelaw0_SameFounds.f 40 [aw_b, aw_c] [aw_b, aw_c] = some true := by kernel_rfl
theorem aw7 : deplog_Load.f 40 aw_s13 = some [aw_a] := by kernel_rfl
theorem aw8 : cruciblelaw0_SameFounds.f 40 [aw_a] [aw_a] = some true := by kernel_rfl
theorem aw9 : deplog_May.f 40 [aw_b, aw_c] = some true := by kernel_rfl
theorem aw10 : aw_s.extract 0 13 = aw_s13 := by kernel_rfl
abbrev FdL := S32 × Option Addr × Nat
def litCells : List FdL → List Value
  | [] => []
  | p :: r => .string p.1.f0 :: .int .i64 p.1.f1 :: .slice p.2.1 p.1.f2.length p.2.2 :: litCells r
theorem litCells_at : ∀ (ps : List FdL) (j : Nat) (p : FdL), ps[j]? = some p → ∀ (i : Nat) (u : Value), ([.string p.1.f0, .int .i64 p.1.f1, .slice p.2.1 p.1.f2.length p.2.2] : List Value)[i]? = some u → (litCells ps)[j * 3 + i]? = some u
  | [], j, p, h, _, _, _ => by simp at h
  | q :: r, 0, p, h, i, u, hu => by
    obtain rfl : q = p := by simpa using h
    rw [Nat.zero_mul, Nat.zero_add, litCells]
    match i, hu with
    | 0, hu => exact hu
    | 1, hu => exact hu
    | 2, hu => exact hu
    | n + 3, hu => simp at hu
  | q :: r, j + 1, p, h, i, u, hu => by
    rw [litCells, show (j + 1) * 3 + i = (j * 3 + i) + 1 + 1 + 1 by omega, List.getElem?_cons_succ, List.getElem?_cons_succ, List.getElem?_cons_succ]
    exact litCells_at r j p (by simpa using h) i u hu
theorem founds_lit (W' : World) (g : Nat) (ps : List FdL) (hl : ps.length ≤ 1000) (hg : W'.heap[g]? = some (.cells (litCells ps).toArray 32 (0, 0))) (h : ∀ p ∈ ps, p.1.f2.length ≤ p.2.2 ∧ Kd.C Kd.string W' p.2.1 p.1.f2.length p.1.f2) :
    Kd.C k32 W' (some ⟨g, 0, none⟩) ps.length (ps.map (·.1)) := by
  refine ⟨by simp, by omega, fun _ => ⟨_, rfl, fun j x hx => ?_⟩⟩
  rw [List.getElem?_map] at hx
  obtain ⟨p, hp, rfl⟩ := Option.map_eq_some_iff.1 hx
  obtain ⟨h1, h2⟩ := h p (List.mem_of_getElem? hp)
  refine ⟨_, rfl, k32_mk W' p.1 h1 h2, fun i u hu => ?_⟩
  rw [add_plain, blk_cell hg]
  show (litCells ps).toArray[j * 3 + i]? = some u
  rw [List.getElem?_toArray]
  exact litCells_at ps j p hp i u hu
abbrev awXo : Obj := .cells #[.string ⟨#[120]⟩] 9
abbrev awAo (g : Nat) : Obj := .cells #[.string ⟨#[97]⟩, .int .i64 1, .slice (some ⟨g, 0, none⟩) 1 1] 32
abbrev awBo : Obj := .cells #[.string ⟨#[98]⟩, .int .i64 2, .slice none 0 0] 32
abbrev awCo : Obj := .cells #[.string ⟨#[97]⟩, .int .i64 3, .slice none 0 0] 32
structure AwB (w W : World) : Prop where
  x : W.heap[w.heap.size]? = some awXo
  a : W.heap[w.heap.size + 1]? = some (awAo w.heap.size)
  b : W.heap[w.heap.size + 1 + 1]? = some awBo
  c : W.heap[w.heap.size + 1 + 1 + 1]? = some awCo
  below : Below w.heap.size w W
theorem AwB.step {w W W' : World} (h : AwB w W) (hB : Below W.heap.size W W') : AwB w W' :=
  ⟨(hB.block _ (blk_lt h.x)).trans h.x, (hB.block _ (blk_lt h.a)).trans h.a, (hB.block _ (blk_lt h.b)).trans h.b, (hB.block _ (blk_lt h.c)).trans h.c, below_then h.below h.below.size hB⟩
theorem AwB.new (w : World) : AwB w ((((w.alloc awXo).alloc (awAo w.heap.size)).alloc awBo).alloc awCo) := by
  have h1 := heap_alloc_new w awXo
  have h2 := heap_alloc_new (w.alloc awXo) (awAo w.heap.size)
  have h3 := heap_alloc_new ((w.alloc awXo).alloc (awAo w.heap.size)) awBo
  have h4 := heap_alloc_new (((w.alloc awXo).alloc (awAo w.heap.size)).alloc awBo) awCo
  simp only [World.size_alloc] at h2 h3 h4
  have st : ∀ (W : World) (o : Obj) (k : Nat) (q : Obj), W.heap[k]? = some q → (W.alloc o).heap[k]? = some q := fun W o k q h => (Below.heap_alloc W o k (blk_lt h)).trans h
  exact ⟨st _ _ _ _ (st _ _ _ _ (st _ _ _ _ h1)), st _ _ _ _ (st _ _ _ _ h2), st _ _ _ _ h3, h4, below_alloc (below_alloc (below_alloc (below_alloc (Below.refl _ _) _) _) _) _⟩
theorem AwB.cells {w W : World} (h : AwB w W) : W.cell? ⟨w.heap.size + 1, 0, none⟩ = some (.string ⟨#[97]⟩) ∧ W.cell? ⟨w.heap.size + 1, 1, none⟩ = some (.int .i64 1) ∧ W.cell? ⟨w.heap.size + 1, 2, none⟩ = some (.slice (some ⟨w.heap.size, 0, none⟩) 1 1) ∧
    W.cell? ⟨w.heap.size + 1 + 1, 0, none⟩ = some (.string ⟨#[98]⟩) ∧ W.cell? ⟨w.heap.size + 1 + 1, 1, none⟩ = some (.int .i64 2) ∧ W.cell? ⟨w.heap.size + 1 + 1, 2, none⟩ = some (.slice none 0 0) ∧
    W.cell? ⟨w.heap.size + 1 + 1 + 1, 0, none⟩ = some (.string ⟨#[97]⟩) ∧ W.cell? ⟨w.heap.size + 1 + 1 + 1, 1, none⟩ = some (.int .i64 3) ∧ W.cell? ⟨w.heap.size + 1 + 1 + 1, 2, none⟩ = some (.slice none 0 0) :=
  ⟨by rw [blk_cell h.a]; rfl, by rw [blk_cell h.a]; rfl, by rw [blk_cell h.a]; rfl, by rw [blk_cell h.b]; rfl, by rw [blk_cell h.b]; rfl, by rw [blk_cell h.b]; rfl, by rw [blk_cell h.c]; rfl, by rw [blk_cell h.c]; rfl, by rw [blk_cell h.c]; rfl⟩
theorem AwB.inx {w W : World} (h : AwB w W) : Kd.C Kd.string W (some ⟨w.heap.size, 0, none⟩) 1 [⟨#[120]⟩] := by
  refine ⟨rfl, by decide, fun _ => ⟨_, rfl, fun j p hp => ?_⟩⟩
  cases j with
  | succ j => simp at hp
  | zero =>
    obtain rfl : (⟨#[120]⟩ : ByteArray) = p := by simpa using hp
    refine ⟨[.string ⟨#[120]⟩], rfl, rfl, fun i u hu => ?_⟩
    rw [add_plain, blk_cell h.x]
    cases i with
    | zero => exact hu
    | succ i => simp at hu
theorem c_none (W : World) : Kd.C Kd.string W none 0 [] := ⟨rfl, by decide, fun h => absurd h (by decide)⟩
abbrev awLo (g : Nat) : Obj := .cells #[.string ⟨#[97]⟩, .int .i64 1, .slice (some ⟨g, 0, none⟩) 1 1, .string ⟨#[98]⟩, .int .i64 2, .slice none 0 0, .string ⟨#[97]⟩, .int .i64 3, .slice none 0 0] 32
theorem AwB.abc {w W : World} (h : AwB w W) (g : Nat) (hg : g = W.heap.size) : Kd.C k32 (W.alloc (awLo w.heap.size)) (some ⟨g, 0, none⟩) 3 [aw_a, aw_b, aw_c] := by
  subst hg
  have h2 := h.step (below_alloc (Below.refl _ W) (awLo w.heap.size))
  exact founds_lit _ _ [(aw_a, some ⟨w.heap.size, 0, none⟩, 1), (aw_b, none, 0), (aw_c, none, 0)] (show (3 : Nat) ≤ 1000 by decide) (heap_alloc_new W _) (by
    intro p hp
    rcases List.mem_cons.1 hp with rfl | hp
    · exact ⟨Nat.le_refl _, h2.inx⟩
    · rcases List.mem_cons.1 hp with rfl | hp
      · exact ⟨by decide, c_none _⟩
      · obtain rfl := List.mem_singleton.1 hp
        exact ⟨by decide, c_none _⟩)
abbrev awMo : Obj := .cells #[.string ⟨#[98]⟩, .int .i64 2, .slice none 0 0, .string ⟨#[97]⟩, .int .i64 3, .slice none 0 0] 32
theorem aw_bc {W : World} {g : Nat} (h : W.heap[g]? = some awMo) : Kd.C k32 W (some ⟨g, 0, none⟩) 2 [aw_b, aw_c] :=
  founds_lit _ _ [(aw_b, none, 0), (aw_c, none, 0)] (by decide) h (by
    intro p hp
    rcases List.mem_cons.1 hp with rfl | hp
    · exact ⟨by decide, c_none _⟩
    · obtain rfl := List.mem_singleton.1 hp
      exact ⟨by decide, c_none _⟩)
abbrev awNo (g : Nat) : Obj := .cells #[.string ⟨#[97]⟩, .int .i64 1, .slice (some ⟨g, 0, none⟩) 1 1] 32
theorem AwB.la {w W : World} (h : AwB w W) {g : Nat} (hg : W.heap[g]? = some (awNo w.heap.size)) : Kd.C k32 W (some ⟨g, 0, none⟩) 1 [aw_a] :=
  founds_lit _ _ [(aw_a, some ⟨w.heap.size, 0, none⟩, 1)] (show (1 : Nat) ≤ 1000 by decide) hg (by
    intro p hp
    obtain rfl := List.mem_singleton.1 hp
    exact ⟨Nat.le_refl _, h.inx⟩)
abbrev awZo : Obj := .cells #[.string ⟨#[]⟩, .int .i64 0, .slice none 0 0] 32
theorem aw_lz (W : World) : Kd.C k32 (W.alloc awZo) (some ⟨W.heap.size, 0, none⟩) 1 [aw_z] :=
  founds_lit _ _ [(aw_z, none, 0)] (by decide) (heap_alloc_new W _) (by
    intro p hp
    obtain rfl := List.mem_singleton.1 hp
    exact ⟨by decide, c_none _⟩)
set_option maxHeartbeats 4000000 in
set_option maxRecDepth 100000 in
theorem cruciblelaw16_awake.calls (r : Bool) (w : World) (h : cruciblelaw16_awake.f = some r) : Calls Tryd.prog 20 #[] w fun e w' => e = .returned (.bool r) ∧ Below w.heap.size w w' := by
  obtain rfl : true = r := Option.some.inj h
  clear h
  have N4 := AwB.new w
  have c1 := deplog_Text.calls 40 (some ⟨w.heap.size + 1 + 1 + 1 + 1, 0, none⟩) 3 [aw_a, aw_b, aw_c] aw_s 0 _ (N4.abc (w.heap.size + 1 + 1 + 1 + 1) (by simp)) (by decide) aw1
  have NL := Aside0.mk (N4.step (below_alloc (Below.refl _ _) (awLo w.heap.size)))
  clear N4
  go_enter Tryd.func20, Tryd.ntmps20
  go_wp2_with fail
  refine c1.mono ?_
  rintro e w5 ⟨rfl, B5⟩
  clear c1
  have N5 := NL.out.step B5
  clear B5 NL
  obtain ⟨a0, a1, a2, b0, b1, b2, d0, d1, d2⟩ := N5.cells
  have c2 := deplog_Last.calls 40 (some ⟨w5.heap.size, 0, none⟩) 3 [aw_a, aw_b, aw_c] ⟨#[97]⟩ _ _ _ _ _ (N5.abc _ rfl) (by decide) aw2
  have N5 := Aside0.mk N5
  go_wp2_with fail
  refine c2.mono ?_
  rintro e w6 ⟨v2, rfl, hR6, B6⟩
  clear c2 a0 a1 a2 b0 b1 b2 d0 d1 d2
  obtain ⟨A2, k2, rfl⟩ := Kd.R_slice hR6
  rw [List.length_nil] at *
  have N6 := (N5.out.step (below_alloc (Below.refl _ _) (awLo w.heap.size))).step B6
  clear B6 N5
  have N6b := N6.step (below_alloc (Below.refl _ _) (.cells #[.string ⟨#[97]⟩, .int .i64 3, .slice A2 0 k2] 32))
  have c3 := deplog_Compact.calls 40 (some ⟨w6.heap.size + 1, 0, none⟩) 3 [aw_a, aw_b, aw_c] _ _ _ (N6b.abc (w6.heap.size + 1) (by simp)) (by decide) aw3
  obtain ⟨a0, a1, a2, b0, b1, b2, d0, d1, d2⟩ := N6b.cells
  have H6 := Aside0.mk (heap_alloc_new w6 (.cells #[.string ⟨#[97]⟩, .int .i64 3, .slice A2 0 k2] 32))
  have C6 := Aside0.mk (Kd.R_reads' hR6).2.2
  have K6 := Aside0.mk (Kd.R_reads' hR6).2.1
  clear hR6
  have N6 := Aside0.mk N6
  have N6b := Aside0.mk N6b
  go_wp2_with fail
  refine c3.mono ?_
  rintro e w7 ⟨v8, rfl, hS8, B7⟩
  clear c3 a0 a1 a2 b0 b1 b2 d0 d1 d2
  have N7 := (N6b.out.step (below_alloc (Below.refl _ _) (awLo w.heap.size))).step B7
  have X7 := (B7.block _ (blk_lt ((Below.heap_alloc _ (awLo w.heap.size) _ (blk_lt H6.out)).trans H6.out))).trans ((Below.heap_alloc _ (awLo w.heap.size) _ (blk_lt H6.out)).trans H6.out)
  obtain ⟨A8, k8, rfl, hk8, hC8⟩ := Kd.S_reads hS8
  clear hS8
  have c4 := deplog_Text.calls 40 (some ⟨w7.heap.size, 0, none⟩) 1 [aw_z] _ _ _ (aw_lz w7) (by decide) aw4
  have C7 := Aside0.mk (Kd.C_below (Kd.C_below (Kd.C_below C6.out (below_alloc (Below.refl _ w6) (.cells #[.string ⟨#[97]⟩, .int .i64 3, .slice A2 0 k2] 32))) (below_alloc (Below.refl _ _) (awLo w.heap.size))) B7)
  clear B7 H6 C6 N6 N6b
  have hC8 := Aside0.mk hC8
  have N7 := Aside0.mk N7
  have X7 := Aside0.mk X7
  go_wp2_with fail
  refine c4.mono ?_
  rintro e w8 ⟨rfl, B8⟩
  clear c4
  have b8 := below_then (below_alloc (Below.refl _ w7) awZo) (below_alloc (Below.refl _ w7) awZo).size B8
  have N8 := N7.out.step b8
  have X8 := (b8.block _ (blk_lt X7.out)).trans X7.out
  have C8 := Aside0.mk (Kd.C_below hC8.out b8)
  have I8 := Aside0.mk (Kd.C_below C7.out b8)
  clear B8 b8 N7 X7 C7 hC8
  have hlen : decide ((aw_s.size : Int) < 14) = false := by decide +kernel
  have hex := aw10
  have hle : (13 : Int) ≤ (aw_s.size : Int) := by decide +kernel
  have hle2 : 13 ≤ aw_s.size := by decide +kernel
  have toS : ∀ W', Below w8.heap.size w8 W' → (W'.cell? ⟨w6.heap.size, 0, none⟩ = some (.string ⟨#[97]⟩) ∧ W'.cell? ⟨w6.heap.size, 1, none⟩ = some (.int .i64 3) ∧ W'.cell? ⟨w6.heap.size, 2, none⟩ = some (.slice A2 0 k2) ∧ W'.cell? ⟨w.heap.size + 1, 0, none⟩ = some (.string ⟨#[97]⟩) ∧ W'.cell? ⟨w.heap.size + 1, 1, none⟩ = some (.int .i64 1) ∧ W'.cell? ⟨w.heap.size + 1, 2, none⟩ = some (.slice (some ⟨w.heap.size, 0, none⟩) 1 1) ∧ W'.cell? ⟨w.heap.size + 1 + 1, 0, none⟩ = some (.string ⟨#[98]⟩) ∧ W'.cell? ⟨w.heap.size + 1 + 1, 1, none⟩ = some (.int .i64 2) ∧ W'.cell? ⟨w.heap.size + 1 + 1, 2, none⟩ = some (.slice none 0 0) ∧ W'.cell? ⟨w.heap.size + 1 + 1 + 1, 0, none⟩ = some (.string ⟨#[97]⟩) ∧ W'.cell? ⟨w.heap.size + 1 + 1 + 1, 1, none⟩ = some (.int .i64 3) ∧ W'.cell? ⟨w.heap.size + 1 + 1 + 1, 2, none⟩ = some (.slice none 0 0) ∧ Below w8.heap.size w8 W') := fun W' hB => by
    obtain ⟨a0, a1, a2, b0, b1, b2, d0, d1, d2⟩ := (N8.step hB).cells
    have hX := (hB.block _ (blk_lt X8)).trans X8
    exact ⟨by rw [blk_cell hX]; rfl, by rw [blk_cell hX]; rfl, by rw [blk_cell hX]; rfl, a0, a1, a2, b0, b1, b2, d0, d1, d2, hB⟩
  have aS : ∀ (W : World) (o : Obj), (W.cell? ⟨w6.heap.size, 0, none⟩ = some (.string ⟨#[97]⟩) ∧ W.cell? ⟨w6.heap.size, 1, none⟩ = some (.int .i64 3) ∧ W.cell? ⟨w6.heap.size, 2, none⟩ = some (.slice A2 0 k2) ∧ W.cell? ⟨w.heap.size + 1, 0, none⟩ = some (.string ⟨#[97]⟩) ∧ W.cell? ⟨w.heap.size + 1, 1, none⟩ = some (.int .i64 1) ∧ W.cell? ⟨w.heap.size + 1, 2, none⟩ = some (.slice (some ⟨w.heap.size, 0, none⟩) 1 1) ∧ W.cell? ⟨w.heap.size + 1 + 1, 0, none⟩ = some (.string ⟨#[98]⟩) ∧ W.cell? ⟨w.heap.size + 1 + 1, 1, none⟩ = some (.int .i64 2) ∧ W.cell? ⟨w.heap.size + 1 + 1, 2, none⟩ = some (.slice none 0 0) ∧ W.cell? ⟨w.heap.size + 1 + 1 + 1, 0, none⟩ = some (.string ⟨#[97]⟩) ∧ W.cell? ⟨w.heap.size + 1 + 1 + 1, 1, none⟩ = some (.int .i64 3) ∧ W.cell? ⟨w.heap.size + 1 + 1 + 1, 2, none⟩ = some (.slice none 0 0) ∧ Below w8.heap.size w8 W) → ((W.alloc o).cell? ⟨w6.heap.size, 0, none⟩ = some (.string ⟨#[97]⟩) ∧ (W.alloc o).cell? ⟨w6.heap.size, 1, none⟩ = some (.int .i64 3) ∧ (W.alloc o).cell? ⟨w6.heap.size, 2, none⟩ = some (.slice A2 0 k2) ∧ (W.alloc o).cell? ⟨w.heap.size + 1, 0, none⟩ = some (.string ⟨#[97]⟩) ∧ (W.alloc o).cell? ⟨w.heap.size + 1, 1, none⟩ = some (.int .i64 1) ∧ (W.alloc o).cell? ⟨w.heap.size + 1, 2, none⟩ = some (.slice (some ⟨w.heap.size, 0, none⟩) 1 1) ∧ (W.alloc o).cell? ⟨w.heap.size + 1 + 1, 0, none⟩ = some (.string ⟨#[98]⟩) ∧ (W.alloc o).cell? ⟨w.heap.size + 1 + 1, 1, none⟩ = some (.int .i64 2) ∧ (W.alloc o).cell? ⟨w.heap.size + 1 + 1, 2, none⟩ = some (.slice none 0 0) ∧ (W.alloc o).cell? ⟨w.heap.size + 1 + 1 + 1, 0, none⟩ = some (.string ⟨#[97]⟩) ∧ (W.alloc o).cell? ⟨w.heap.size + 1 + 1 + 1, 1, none⟩ = some (.int .i64 3) ∧ (W.alloc o).cell? ⟨w.heap.size + 1 + 1 + 1, 2, none⟩ = some (.slice none 0 0) ∧ Below w8.heap.size w8 (W.alloc o)) := fun W o h => toS _ (below_then h.2.2.2.2.2.2.2.2.2.2.2.2 h.2.2.2.2.2.2.2.2.2.2.2.2.size (below_alloc (Below.refl _ W) o))
  have cNum : ∀ (n : Int) (W : World), (W.cell? ⟨w6.heap.size, 0, none⟩ = some (.string ⟨#[97]⟩) ∧ W.cell? ⟨w6.heap.size, 1, none⟩ = some (.int .i64 3) ∧ W.cell? ⟨w6.heap.size, 2, none⟩ = some (.slice A2 0 k2) ∧ W.cell? ⟨w.heap.size + 1, 0, none⟩ = some (.string ⟨#[97]⟩) ∧ W.cell? ⟨w.heap.size + 1, 1, none⟩ = some (.int .i64 1) ∧ W.cell? ⟨w.heap.size + 1, 2, none⟩ = some (.slice (some ⟨w.heap.size, 0, none⟩) 1 1) ∧ W.cell? ⟨w.heap.size + 1 + 1, 0, none⟩ = some (.string ⟨#[98]⟩) ∧ W.cell? ⟨w.heap.size + 1 + 1, 1, none⟩ = some (.int .i64 2) ∧ W.cell? ⟨w.heap.size + 1 + 1, 2, none⟩ = some (.slice none 0 0) ∧ W.cell? ⟨w.heap.size + 1 + 1 + 1, 0, none⟩ = some (.string ⟨#[97]⟩) ∧ W.cell? ⟨w.heap.size + 1 + 1 + 1, 1, none⟩ = some (.int .i64 3) ∧ W.cell? ⟨w.heap.size + 1 + 1 + 1, 2, none⟩ = some (.slice none 0 0) ∧ Below w8.heap.size w8 W) → Calls Tryd.prog 12 #[.int .i64 n] W fun e w' => e = .returned (.int .i64 n) ∧ Below w8.heap.size w8 w' := fun n W h => (cruciblelaw0_Num.calls n n W rfl).mono fun e w' ⟨he, hd⟩ => ⟨he, below_then h.2.2.2.2.2.2.2.2.2.2.2.2 h.2.2.2.2.2.2.2.2.2.2.2.2.size hd.below⟩
  have cSame : ∀ (W : World), (W.cell? ⟨w6.heap.size, 0, none⟩ = some (.string ⟨#[97]⟩) ∧ W.cell? ⟨w6.heap.size, 1, none⟩ = some (.int .i64 3) ∧ W.cell? ⟨w6.heap.size, 2, none⟩ = some (.slice A2 0 k2) ∧ W.cell? ⟨w.heap.size + 1, 0, none⟩ = some (.string ⟨#[97]⟩) ∧ W.cell? ⟨w.heap.size + 1, 1, none⟩ = some (.int .i64 1) ∧ W.cell? ⟨w.heap.size + 1, 2, none⟩ = some (.slice (some ⟨w.heap.size, 0, none⟩) 1 1) ∧ W.cell? ⟨w.heap.size + 1 + 1, 0, none⟩ = some (.string ⟨#[98]⟩) ∧ W.cell? ⟨w.heap.size + 1 + 1, 1, none⟩ = some (.int .i64 2) ∧ W.cell? ⟨w.heap.size + 1 + 1, 2, none⟩ = some (.slice none 0 0) ∧ W.cell? ⟨w.heap.size + 1 + 1 + 1, 0, none⟩ = some (.string ⟨#[97]⟩) ∧ W.cell? ⟨w.heap.size + 1 + 1 + 1, 1, none⟩ = some (.int .i64 3) ∧ W.cell? ⟨w.heap.size + 1 + 1 + 1, 2, none⟩ = some (.slice none 0 0) ∧ Below w8.heap.size w8 W) → Calls Tryd.prog 15 #[.agg #[.string ⟨#[97]⟩, .int .i64 3, .slice A2 0 k2], .agg #[.string ⟨#[97]⟩, .int .i64 3, .slice none 0 0]] W fun e w' => e = .returned (.bool true) ∧ Below w8.heap.size w8 w' := fun W h => (cruciblelaw0_SameFound.calls 40 ⟨#[97]⟩ 3 A2 k2 [] ⟨#[97]⟩ 3 none 0 [] true W (Kd.C_below I8.out h.2.2.2.2.2.2.2.2.2.2.2.2) K6.out (c_none _) (by decide) aw5).mono fun e w' ⟨he, hd⟩ => ⟨he, below_then h.2.2.2.2.2.2.2.2.2.2.2.2 h.2.2.2.2.2.2.2.2.2.2.2.2.size hd⟩
  have cSF1 : ∀ (W : World), ((W.alloc awMo).cell? ⟨w6.heap.size, 0, none⟩ = some (.string ⟨#[97]⟩) ∧ (W.alloc awMo).cell? ⟨w6.heap.size, 1, none⟩ = some (.int .i64 3) ∧ (W.alloc awMo).cell? ⟨w6.heap.size, 2, none⟩ = some (.slice A2 0 k2) ∧ (W.alloc awMo).cell? ⟨w.heap.size + 1, 0, none⟩ = some (.string ⟨#[97]⟩) ∧ (W.alloc awMo).cell? ⟨w.heap.size + 1, 1, none⟩ = some (.int .i64 1) ∧ (W.alloc awMo).cell? ⟨w.heap.size + 1, 2, none⟩ = some (.slice (some ⟨w.heap.size, 0, none⟩) 1 1) ∧ (W.alloc awMo).cell? ⟨w.heap.size + 1 + 1, 0, none⟩ = some (.string ⟨#[98]⟩) ∧ (W.alloc awMo).cell? ⟨w.heap.size + 1 + 1, 1, none⟩ = some (.int .i64 2) ∧ (W.alloc awMo).cell? ⟨w.heap.size + 1 + 1, 2, none⟩ = some (.slice none 0 0) ∧ (W.alloc awMo).cell? ⟨w.heap.size + 1 + 1 + 1, 0, none⟩ = some (.string ⟨#[97]⟩) ∧ (W.alloc awMo).cell? ⟨w.heap.size + 1 + 1 + 1, 1, none⟩ = some (.int .i64 3) ∧ (W.alloc awMo).cell? ⟨w.heap.size + 1 + 1 + 1, 2, none⟩ = some (.slice none 0 0) ∧ Below w8.heap.size w8 (W.alloc awMo)) → Calls Tryd.prog 13 #[.slice A8 2 k8, .slice (some ⟨W.heap.size, 0, none⟩) 2 2] (W.alloc awMo) fun e w' => e = .returned (.bool true) ∧ Below w8.heap.size w8 w' := fun W h => (cruciblelaw0_SameFounds.calls 40 A8 k8 [aw_b, aw_c] (some ⟨W.heap.size, 0, none⟩) 2 [aw_b, aw_c] true _ (Kd.C_below C8.out h.2.2.2.2.2.2.2.2.2.2.2.2) hk8 (aw_bc (heap_alloc_new W _)) (by decide) aw6).mono fun e w' ⟨he, hd⟩ => ⟨he, below_then h.2.2.2.2.2.2.2.2.2.2.2.2 h.2.2.2.2.2.2.2.2.2.2.2.2.size hd⟩
  have cLoad : ∀ (W : World), (W.cell? ⟨w6.heap.size, 0, none⟩ = some (.string ⟨#[97]⟩) ∧ W.cell? ⟨w6.heap.size, 1, none⟩ = some (.int .i64 3) ∧ W.cell? ⟨w6.heap.size, 2, none⟩ = some (.slice A2 0 k2) ∧ W.cell? ⟨w.heap.size + 1, 0, none⟩ = some (.string ⟨#[97]⟩) ∧ W.cell? ⟨w.heap.size + 1, 1, none⟩ = some (.int .i64 1) ∧ W.cell? ⟨w.heap.size + 1, 2, none⟩ = some (.slice (some ⟨w.heap.size, 0, none⟩) 1 1) ∧ W.cell? ⟨w.heap.size + 1 + 1, 0, none⟩ = some (.string ⟨#[98]⟩) ∧ W.cell? ⟨w.heap.size + 1 + 1, 1, none⟩ = some (.int .i64 2) ∧ W.cell? ⟨w.heap.size + 1 + 1, 2, none⟩ = some (.slice none 0 0) ∧ W.cell? ⟨w.heap.size + 1 + 1 + 1, 0, none⟩ = some (.string ⟨#[97]⟩) ∧ W.cell? ⟨w.heap.size + 1 + 1 + 1, 1, none⟩ = some (.int .i64 3) ∧ W.cell? ⟨w.heap.size + 1 + 1 + 1, 2, none⟩ = some (.slice none 0 0) ∧ Below w8.heap.size w8 W) → Calls Tryd.prog 7 #[.string aw_s13] W fun e w' => ∃ AL cL, e = .returned (.slice AL 1 cL) ∧ 1 ≤ cL ∧ Kd.C k32 w' AL 1 [aw_a] ∧ Below W.heap.size W w' ∧ Below w8.heap.size w8 w' := fun W h => (deplog_Load.calls 40 aw_s13 _ W aw7).mono fun e w' ⟨v, he, hS, hd⟩ => by
    obtain ⟨AL, cL, rfl, h1, h2⟩ := Kd.S_reads hS
    exact ⟨AL, cL, he, h1, h2, hd, below_then h.2.2.2.2.2.2.2.2.2.2.2.2 h.2.2.2.2.2.2.2.2.2.2.2.2.size hd⟩
  have cSF2 : ∀ (W : World) (AL : Option Addr) (cL g : Nat), (W.cell? ⟨w6.heap.size, 0, none⟩ = some (.string ⟨#[97]⟩) ∧ W.cell? ⟨w6.heap.size, 1, none⟩ = some (.int .i64 3) ∧ W.cell? ⟨w6.heap.size, 2, none⟩ = some (.slice A2 0 k2) ∧ W.cell? ⟨w.heap.size + 1, 0, none⟩ = some (.string ⟨#[97]⟩) ∧ W.cell? ⟨w.heap.size + 1, 1, none⟩ = some (.int .i64 1) ∧ W.cell? ⟨w.heap.size + 1, 2, none⟩ = some (.slice (some ⟨w.heap.size, 0, none⟩) 1 1) ∧ W.cell? ⟨w.heap.size + 1 + 1, 0, none⟩ = some (.string ⟨#[98]⟩) ∧ W.cell? ⟨w.heap.size + 1 + 1, 1, none⟩ = some (.int .i64 2) ∧ W.cell? ⟨w.heap.size + 1 + 1, 2, none⟩ = some (.slice none 0 0) ∧ W.cell? ⟨w.heap.size + 1 + 1 + 1, 0, none⟩ = some (.string ⟨#[97]⟩) ∧ W.cell? ⟨w.heap.size + 1 + 1 + 1, 1, none⟩ = some (.int .i64 3) ∧ W.cell? ⟨w.heap.size + 1 + 1 + 1, 2, none⟩ = some (.slice none 0 0) ∧ Below w8.heap.size w8 W) → Kd.C k32 W AL 1 [aw_a] → 1 ≤ cL → W.heap[g]? = some (awNo w.heap.size) → Calls Tryd.prog 13 #[.slice AL 1 cL, .slice (some ⟨g, 0, none⟩) 1 1] W fun e w' => e = .returned (.bool true) ∧ Below w8.heap.size w8 w' := fun W AL cL g h hC hk hg => (cruciblelaw0_SameFounds.calls 40 AL cL [aw_a] (some ⟨g, 0, none⟩) 1 [aw_a] true W hC hk ((N8.step h.2.2.2.2.2.2.2.2.2.2.2.2).la hg) (by decide) aw8).mono fun e w' ⟨he, hd⟩ => ⟨he, below_then h.2.2.2.2.2.2.2.2.2.2.2.2 h.2.2.2.2.2.2.2.2.2.2.2.2.size hd⟩
  have cMay : ∀ (W : World), (W.cell? ⟨w6.heap.size, 0, none⟩ = some (.string ⟨#[97]⟩) ∧ W.cell? ⟨w6.heap.size, 1, none⟩ = some (.int .i64 3) ∧ W.cell? ⟨w6.heap.size, 2, none⟩ = some (.slice A2 0 k2) ∧ W.cell? ⟨w.heap.size + 1, 0, none⟩ = some (.string ⟨#[97]⟩) ∧ W.cell? ⟨w.heap.size + 1, 1, none⟩ = some (.int .i64 1) ∧ W.cell? ⟨w.heap.size + 1, 2, none⟩ = some (.slice (some ⟨w.heap.size, 0, none⟩) 1 1) ∧ W.cell? ⟨w.heap.size + 1 + 1, 0, none⟩ = some (.string ⟨#[98]⟩) ∧ W.cell? ⟨w.heap.size + 1 + 1, 1, none⟩ = some (.int .i64 2) ∧ W.cell? ⟨w.heap.size + 1 + 1, 2, none⟩ = some (.slice none 0 0) ∧ W.cell? ⟨w.heap.size + 1 + 1 + 1, 0, none⟩ = some (.string ⟨#[97]⟩) ∧ W.cell? ⟨w.heap.size + 1 + 1 + 1, 1, none⟩ = some (.int .i64 3) ∧ W.cell? ⟨w.heap.size + 1 + 1 + 1, 2, none⟩ = some (.slice none 0 0) ∧ Below w8.heap.size w8 W) → Calls Tryd.prog 16 #[.slice A8 2 k8] W fun e w' => e = .returned (.bool true) ∧ Below w8.heap.size w8 w' := fun W h => (deplog_May.calls 40 A8 k8 [aw_b, aw_c] true W (Kd.C_below C8.out h.2.2.2.2.2.2.2.2.2.2.2.2) hk8 aw9).mono fun e w' ⟨he, hd⟩ => ⟨he, below_then h.2.2.2.2.2.2.2.2.2.2.2.2 h.2.2.2.2.2.2.2.2.2.2.2.2.size hd⟩
  have fin : ∀ (W : World), (W.cell? ⟨w6.heap.size, 0, none⟩ = some (.string ⟨#[97]⟩) ∧ W.cell? ⟨w6.heap.size, 1, none⟩ = some (.int .i64 3) ∧ W.cell? ⟨w6.heap.size, 2, none⟩ = some (.slice A2 0 k2) ∧ W.cell? ⟨w.heap.size + 1, 0, none⟩ = some (.string ⟨#[97]⟩) ∧ W.cell? ⟨w.heap.size + 1, 1, none⟩ = some (.int .i64 1) ∧ W.cell? ⟨w.heap.size + 1, 2, none⟩ = some (.slice (some ⟨w.heap.size, 0, none⟩) 1 1) ∧ W.cell? ⟨w.heap.size + 1 + 1, 0, none⟩ = some (.string ⟨#[98]⟩) ∧ W.cell? ⟨w.heap.size + 1 + 1, 1, none⟩ = some (.int .i64 2) ∧ W.cell? ⟨w.heap.size + 1 + 1, 2, none⟩ = some (.slice none 0 0) ∧ W.cell? ⟨w.heap.size + 1 + 1 + 1, 0, none⟩ = some (.string ⟨#[97]⟩) ∧ W.cell? ⟨w.heap.size + 1 + 1 + 1, 1, none⟩ = some (.int .i64 3) ∧ W.cell? ⟨w.heap.size + 1 + 1 + 1, 2, none⟩ = some (.slice none 0 0) ∧ Below w8.heap.size w8 W) → Below w.heap.size w W := fun W h => below_then N8.below N8.below.size h.2.2.2.2.2.2.2.2.2.2.2.2
  obtain ⟨s0, s1, s2, s3, s4, s5, s6, s7, s8, s9, s10, s11, sB⟩ := toS _ (Below.refl _ w8)
  clear N8 X8 C8 I8 K6 hk8
  go_wp2_with fail
  go_region_held3 (fun w' => w'.cell? ⟨w6.heap.size, 0, none⟩ = some (.string ⟨#[97]⟩) ∧ w'.cell? ⟨w6.heap.size, 1, none⟩ = some (.int .i64 3) ∧ w'.cell? ⟨w6.heap.size, 2, none⟩ = some (.slice A2 0 k2) ∧ w'.cell? ⟨w.heap.size + 1, 0, none⟩ = some (.string ⟨#[97]⟩) ∧ w'.cell? ⟨w.heap.size + 1, 1, none⟩ = some (.int .i64 1) ∧ w'.cell? ⟨w.heap.size + 1, 2, none⟩ = some (.slice (some ⟨w.heap.size, 0, none⟩) 1 1) ∧ w'.cell? ⟨w.heap.size + 1 + 1, 0, none⟩ = some (.string ⟨#[98]⟩) ∧ w'.cell? ⟨w.heap.size + 1 + 1, 1, none⟩ = some (.int .i64 2) ∧ w'.cell? ⟨w.heap.size + 1 + 1, 2, none⟩ = some (.slice none 0 0) ∧ w'.cell? ⟨w.heap.size + 1 + 1 + 1, 0, none⟩ = some (.string ⟨#[97]⟩) ∧ w'.cell? ⟨w.heap.size + 1 + 1 + 1, 1, none⟩ = some (.int .i64 3) ∧ w'.cell? ⟨w.heap.size + 1 + 1 + 1, 2, none⟩ = some (.slice none 0 0) ∧ Below w8.heap.size w8 w')
    (first | (with_reducible exact toS _ hb) | (with_reducible exact toS _ (below_drew sB)) | (with_reducible exact toS _ sB) | (refine aS _ _ ?_; assumption) | assumption | go_keep)
    (first
      | (go_at_call 12; (with_reducible refine (cNum _ _ ?_).mono ?_); assumption; rintro e w' ⟨rfl, hb⟩)
      | (go_at_call 15; refine (cSame _ ?_).mono ?_; assumption; rintro e w' ⟨rfl, hb⟩)
      | (go_at_call_of 13 (Value.slice A8 2 k8); refine (cSF1 _ ?_).mono ?_; assumption; rintro e w' ⟨rfl, hb⟩)
      | (go_at_call 7; refine (cLoad _ ?_).mono ?_; assumption; rintro e w' ⟨AL, cL, rfl, hkL, hCL, hBL, hb⟩)
      | (go_at_call 13; (first | ((with_reducible refine (cSF2 _ _ _ _ ?_ (Kd.C_alloc hCL _) hkL (heap_alloc_new _ _)).mono ?_); assumption) | ((with_reducible refine (cSF2 _ _ _ _ ?_ hCL hkL ((hBL.block _ (by simp)).trans (heap_alloc_new _ _))).mono ?_); assumption)); rintro e w' ⟨rfl, hb⟩)
      | (go_at_call 16; refine (cMay _ ?_).mono ?_; assumption; rintro e w' ⟨rfl, hb⟩))
  all_goals (try go_wp2)
  all_goals go_ret
  all_goals exact ⟨rfl, fin _ (by assumption)⟩

end Go.Proofs.YtaokgnhdagcepaaDoor.P
