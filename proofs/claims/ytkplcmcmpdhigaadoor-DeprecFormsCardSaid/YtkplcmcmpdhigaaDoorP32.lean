-- Made by a program of this work's own (wip/myprint.py) over the kit's print; leaves by hand.
import Derived.Test.YtkplcmcmpdhigaaDoorP0
import Derived.Test.YtkplcmcmpdhigaaDoorP1
import Derived.Test.YtkplcmcmpdhigaaDoorP10
import Derived.Test.YtkplcmcmpdhigaaDoorP23
import Derived.Test.YtkplcmcmpdhigaaDoorP30
import Derived.Deep.RegionHeld3
import Derived.Test.YtkplcmcmpdhigaaDoorDeprec
namespace Go.Proofs.YtkplcmcmpdhigaaDoor.P
open Go.RowKit Go.Proofs.YtkplcmcmpdhigaaDoorW.PrintWords Go.Proofs.YtkplcmcmpdhigaaDoorW.PrintLast Go.Proofs.YtkplcmcmpdhigaaDoorW.PrintMore
attribute [local go_sem] max2_int min2_int max_two min_two max_three min_three max_four min_four   -- for this text's walks alone
set_option linter.unusedVariables false
set_option linter.unusedSimpArgs false

-- HANDBIG DeprecForms.lean
-- IMPORT Derived.Test.YtkplcmcmpdhigaaDoorDeprec
-- IMPORT Derived.Deep.RegionHeld3
/-! ### cruciblelaw15_DeprecForms, by hand -/
def cruciblelaw15_DeprecForms.f (k : Nat) (a0 : Int) (a1 : Int) : Option Bool := if cruciblelaw15_awake.f k = some true then some true else none
theorem cruciblelaw15_DeprecForms.mono : ∀ a0 a1 k, LeO (cruciblelaw15_DeprecForms.f k a0 a1) (cruciblelaw15_DeprecForms.f (k + 1) a0 a1) := by
  intro a0 a1 k r h
  unfold cruciblelaw15_DeprecForms.f at h ⊢
  split at h
  · rename_i ha
    rw [if_pos (cruciblelaw15_awake.mono k _ ha)]; exact h
  · cases h
abbrev DfL := S41 × Option Addr × Nat
def dfCells : List DfL → List Value
  | [] => []
  | p :: r => .string p.1.f0 :: .int .i64 p.1.f1 :: .slice p.2.1 p.1.f2.length p.2.2 :: dfCells r
theorem dfCells_at : ∀ (ps : List DfL) (j : Nat) (p : DfL), ps[j]? = some p → ∀ (i : Nat) (u : Value), ([.string p.1.f0, .int .i64 p.1.f1, .slice p.2.1 p.1.f2.length p.2.2] : List Value)[i]? = some u → (dfCells ps)[j * 3 + i]? = some u
  | [], j, p, h, _, _, _ => by simp at h
  | q :: r, 0, p, h, i, u, hu => by
    obtain rfl : q = p := by simpa using h
    rw [Nat.zero_mul, Nat.zero_add, dfCells]
    match i, hu with
    | 0, hu => exact hu
    | 1, hu => exact hu
    | 2, hu => exact hu
    | n + 3, hu => simp at hu
  | q :: r, j + 1, p, h, i, u, hu => by
    rw [dfCells, show (j + 1) * 3 + i = (j * 3 + i) + 1 + 1 + 1 by omega, List.getElem?_cons_succ, List.getElem?_cons_succ, List.getElem?_cons_succ]
    exact dfCells_at r j p (by simpa using h) i u hu
theorem df_lit (W' : World) (g : Nat) (ps : List DfL) (hl : ps.length ≤ 1000) (hg : W'.heap[g]? = some (.cells (dfCells ps).toArray 41 (0, 0))) (h : ∀ p ∈ ps, p.1.f2.length ≤ p.2.2 ∧ Kd.C Kd.string W' p.2.1 p.1.f2.length p.1.f2) :
    Kd.C k41 W' (some ⟨g, 0, none⟩) ps.length (ps.map (·.1)) := by
  refine ⟨by simp, by omega, fun _ => ⟨_, rfl, fun j x hx => ?_⟩⟩
  rw [List.getElem?_map] at hx
  obtain ⟨p, hp, rfl⟩ := Option.map_eq_some_iff.1 hx
  obtain ⟨h1, h2⟩ := h p (List.mem_of_getElem? hp)
  refine ⟨_, rfl, k41_mk W' p.1 h1 h2, fun i u hu => ?_⟩
  rw [add_plain, blk_cell hg]
  show (dfCells ps).toArray[j * 3 + i]? = some u
  rw [List.getElem?_toArray]
  exact dfCells_at ps j p hp i u hu
theorem df_row (W' : World) (g : Nat) (xs : List ByteArray) (hl : xs.length ≤ 1000) (hg : W'.heap[g]? = some (.cells (xs.map Value.string).toArray 9 (0, 0))) : Kd.C Kd.string W' (some ⟨g, 0, none⟩) xs.length xs := by
  refine ⟨rfl, by omega, fun _ => ⟨_, rfl, fun j p hp => ⟨[.string p], rfl, rfl, fun i u hu => ?_⟩⟩⟩
  rw [add_plain, blk_cell hg]
  cases i with
  | zero =>
    show (xs.map Value.string).toArray[j * 1 + 0]? = some u
    obtain rfl : Value.string p = u := by simpa using hu
    rw [List.getElem?_toArray, Nat.mul_one, Nat.add_zero, List.getElem?_map, hp]; rfl
  | succ i => simp at hu
def df_nine : List ByteArray := [⟨#[113, 49]⟩, ⟨#[113, 50]⟩, ⟨#[113, 51]⟩, ⟨#[113, 52]⟩, ⟨#[113, 53]⟩, ⟨#[113, 54]⟩, ⟨#[113, 55]⟩, ⟨#[113, 56]⟩, ⟨#[113, 57]⟩]
def df_bads (d : Int) (g : Nat) : List DfL :=
  [(⟨⟨#[]⟩, 1, []⟩, none, 0), (⟨⟨#[46, 47, 97]⟩, 1, []⟩, none, 0), (⟨⟨#[97]⟩, 1 - d, []⟩, none, 0), (⟨⟨#[97]⟩, 1048576 + d, []⟩, none, 0), (⟨⟨#[97]⟩, 1, [⟨#[]⟩]⟩, some ⟨g + 1, 0, none⟩, 1),
   (⟨⟨#[97]⟩, 1, df_nine⟩, some ⟨g, 0, none⟩, 9), (⟨⟨#[97]⟩, 1, [⟨#[98]⟩, ⟨#[47, 99]⟩]⟩, some ⟨g + 1 + 1, 0, none⟩, 2), (⟨⟨#[]⟩, 0, []⟩, none, 0)]
abbrev dfNo : Obj := .cells #[.string ⟨#[113, 49]⟩, .string ⟨#[113, 50]⟩, .string ⟨#[113, 51]⟩, .string ⟨#[113, 52]⟩, .string ⟨#[113, 53]⟩, .string ⟨#[113, 54]⟩, .string ⟨#[113, 55]⟩, .string ⟨#[113, 56]⟩, .string ⟨#[113, 57]⟩] 9
abbrev dfEo : Obj := .cells #[.string ⟨#[]⟩] 9
abbrev dfTo : Obj := .cells #[.string ⟨#[98]⟩, .string ⟨#[47, 99]⟩] 9
abbrev dfBo (d : Int) (g : Nat) : Obj := .cells #[.string ⟨#[]⟩, .int .i64 1, .slice none 0 0, .string ⟨#[46, 47, 97]⟩, .int .i64 1, .slice none 0 0, .string ⟨#[97]⟩, .int .i64 (1 - d), .slice none 0 0, .string ⟨#[97]⟩, .int .i64 (1048576 + d), .slice none 0 0,
  .string ⟨#[97]⟩, .int .i64 1, .slice (some ⟨g + 1, 0, none⟩) 1 1, .string ⟨#[97]⟩, .int .i64 1, .slice (some ⟨g, 0, none⟩) 9 9, .string ⟨#[97]⟩, .int .i64 1, .slice (some ⟨g + 1 + 1, 0, none⟩) 2 2, .string ⟨#[]⟩, .int .i64 0, .slice none 0 0] 41
abbrev dfW (w : World) (d : Int) : World := (((w.alloc dfNo).alloc dfEo).alloc dfTo).alloc (dfBo d w.heap.size)
theorem df_new (w : World) (d : Int) : Kd.C k41 (dfW w d) (some ⟨w.heap.size + 1 + 1 + 1, 0, none⟩) 8 ((df_bads d w.heap.size).map (·.1)) := by
  have h1 := heap_alloc_new w dfNo
  have h2 := heap_alloc_new (w.alloc dfNo) dfEo
  have h3 := heap_alloc_new ((w.alloc dfNo).alloc dfEo) dfTo
  have h4 := heap_alloc_new (((w.alloc dfNo).alloc dfEo).alloc dfTo) (dfBo d w.heap.size)
  simp only [World.size_alloc] at h2 h3 h4
  have st : ∀ (W : World) (o : Obj) (k : Nat) (q : Obj), W.heap[k]? = some q → (W.alloc o).heap[k]? = some q := fun W o k q h => (Below.heap_alloc W o k (blk_lt h)).trans h
  have h1 := st _ (dfBo d w.heap.size) _ _ (st _ dfTo _ _ (st _ dfEo _ _ h1))
  have h2 := st _ (dfBo d w.heap.size) _ _ (st _ dfTo _ _ h2)
  have h3 := st _ (dfBo d w.heap.size) _ _ h3
  have no : Kd.C Kd.string (dfW w d) none 0 [] := ⟨rfl, by decide, fun h => absurd h (by decide)⟩
  refine df_lit _ _ (df_bads d w.heap.size) (show (8 : Nat) ≤ 1000 by decide) h4 (fun p hp => ?_)
  unfold df_bads at hp
  rcases List.mem_cons.1 hp with rfl | hp
  · exact ⟨Nat.le_refl 0, no⟩
  rcases List.mem_cons.1 hp with rfl | hp
  · exact ⟨Nat.le_refl 0, no⟩
  rcases List.mem_cons.1 hp with rfl | hp
  · exact ⟨Nat.le_refl 0, no⟩
  rcases List.mem_cons.1 hp with rfl | hp
  · exact ⟨Nat.le_refl 0, no⟩
  rcases List.mem_cons.1 hp with rfl | hp
  · exact ⟨Nat.le_refl _, df_row _ _ [⟨#[]⟩] (by decide) h2⟩
  rcases List.mem_cons.1 hp with rfl | hp
  · exact ⟨Nat.le_refl _, df_row _ _ df_nine (by decide) h1⟩
  rcases List.mem_cons.1 hp with rfl | hp
  · exact ⟨Nat.le_refl _, df_row _ _ [⟨#[98]⟩, ⟨#[47, 99]⟩] (by decide) h3⟩
  · obtain rfl := List.mem_singleton.1 hp
    exact ⟨Nat.le_refl 0, no⟩
theorem df_lo (o : ByteArray) (t : Int) (ins : List ByteArray) (h : ¬ 1 ≤ t) : Spec.mayD o t ins = false := by
  rw [Spec.mayD, decide_eq_false h]; simp
theorem df_hi (o : ByteArray) (t : Int) (ins : List ByteArray) (h : ¬ t ≤ 1048576) : Spec.mayD o t ins = false := by
  rw [Spec.mayD, decide_eq_false h]; simp
theorem df_bad (d : Int) (g : Nat) (hd : 1 ≤ d) (p : S41) (hp : p ∈ (df_bads d g).map (·.1)) : Spec.mayD p.f0 p.f1 p.f2 = false ∧ p.f2.length ≤ 10 := by
  obtain ⟨q, hq, rfl⟩ := List.mem_map.1 hp
  clear hp
  unfold df_bads at hq
  rcases List.mem_cons.1 hq with rfl | hq
  · exact ⟨by decide +kernel, by decide⟩
  rcases List.mem_cons.1 hq with rfl | hq
  · exact ⟨by decide +kernel, by decide⟩
  rcases List.mem_cons.1 hq with rfl | hq
  · exact ⟨df_lo _ _ _ (show ¬ 1 ≤ 1 - d by omega), Nat.zero_le _⟩
  rcases List.mem_cons.1 hq with rfl | hq
  · exact ⟨df_hi _ _ _ (show ¬ 1048576 + d ≤ 1048576 by omega), Nat.zero_le _⟩
  rcases List.mem_cons.1 hq with rfl | hq
  · exact ⟨show Spec.mayD ⟨#[97]⟩ 1 [⟨#[]⟩] = false by decide +kernel, show 1 ≤ 10 by decide⟩
  rcases List.mem_cons.1 hq with rfl | hq
  · exact ⟨show Spec.mayD ⟨#[97]⟩ 1 df_nine = false by decide +kernel, show 9 ≤ 10 by decide⟩
  rcases List.mem_cons.1 hq with rfl | hq
  · exact ⟨show Spec.mayD ⟨#[97]⟩ 1 [⟨#[98]⟩, ⟨#[47, 99]⟩] = false by decide +kernel, show 2 ≤ 10 by decide⟩
  · obtain rfl := List.mem_singleton.1 hq
    exact ⟨by decide +kernel, by decide⟩
theorem df_put (W : World) (A : Option Addr) (c : Nat) (p : S41) (h : Kd.C Kd.string W A p.f2.length p.f2) (hc : p.f2.length ≤ c) (hm : Spec.mayD p.f0 p.f1 p.f2 = false) (hl : p.f2.length ≤ 10) :
    Calls Tryd.prog 27 #[.agg #[.string p.f0, .int .i64 p.f1, .slice A p.f2.length c]] W fun e w' => e = .returned (.tuple #[.string ⟨#[]⟩, .int .i64 1500]) ∧ Below W.heap.size W w' := by
  have e := Spec.ev_Put p.f0 p.f1 p.f2 (by omega)
  have hd : Spec.putF p.f0 p.f1 p.f2 = (⟨#[]⟩, 1500) := by
    unfold Spec.putF
    rw [if_neg (by rw [hm]; decide)]; rfl
  rw [hd] at e
  obtain ⟨k, hk⟩ := Ev.rounds e
  exact deprec_Put.calls k p.f0 p.f1 A c p.f2 _ _ W h hc hk
def df_t : ByteArray := ⟨#[10, 0, 2, 97, 98, 7, 0, 0, 0, 1, 1, 99]⟩
theorem df_t1 : deprec_Put.f 40 ⟨#[97, 98]⟩ 7 [⟨#[99]⟩] = some (df_t, 0) := by kernel_rfl
theorem df_g0 (n : Nat) (h : n < 12) : deprec_Get.f 40 (df_t.extract 0 n) = some (⟨#[]⟩, 0, [], 1500) := by
  rcases (by omega : n = 0 ∨ n = 1 ∨ n = 2 ∨ n = 3 ∨ n = 4 ∨ n = 5 ∨ n = 6 ∨ n = 7 ∨ n = 8 ∨ n = 9 ∨ n = 10 ∨ n = 11) with rfl | rfl | rfl | rfl | rfl | rfl | rfl | rfl | rfl | rfl | rfl | rfl <;> kernel_rfl
theorem df_g1 : deprec_Get.f 40 (df_t ++ ⟨#[120]⟩) = some (⟨#[]⟩, 0, [], 1500) := by kernel_rfl
theorem df_g2 : deprec_Get.f 40 (⟨#[11]⟩ ++ df_t.extract 1 df_t.size) = some (⟨#[]⟩, 0, [], 1500) := by kernel_rfl
theorem df_g3 : deprec_Get.f 40 (df_t.extract 0 2 ++ ⟨#[9]⟩ ++ df_t.extract 3 df_t.size) = some (⟨#[]⟩, 0, [], 1500) := by kernel_rfl
theorem df_get (s : ByteArray) (h : deprec_Get.f 40 s = some (⟨#[]⟩, 0, [], 1500)) (W : World) : Calls Tryd.prog 29 #[.string s] W fun e w' => ∃ A c, e = .returned (.tuple #[.agg #[.string ⟨#[]⟩, .int .i64 0, .slice A 0 c], .int .i64 1500]) ∧ Below W.heap.size W w' :=
  (deprec_Get.calls 40 s _ _ _ _ W h).mono fun e w' ⟨v, he, hR, hB⟩ => by
    obtain ⟨A, c, rfl⟩ := Kd.R_slice hR
    exact ⟨A, c, he, hB⟩
theorem df_then {w W w' : World} (h : Below w.heap.size w W) (hB : Below W.heap.size W w') : Below w.heap.size w w' := below_then h h.size hB
theorem df_idx {m : Int} (h0 : 0 ≤ m) (h8 : m < 8) (d : Int) (g : Nat) : rd_T41 ((df_bads d g).map (·.1)) m ∈ (df_bads d g).map (·.1) := by
  have hl : ((df_bads d g).map (·.1)).length = 8 := rfl
  have : m.toNat < ((df_bads d g).map (·.1)).length := by omega
  rw [rd_T41, List.getD_eq_getElem?_getD, List.getElem?_eq_getElem this]
  exact List.getElem_mem this
abbrev dfZo : Obj := .cells #[.string ⟨#[]⟩, .int .i64 0, .slice none 0 0] 41
theorem df_box {W w' : World} {b : Nat} (hB : Below W.heap.size W w') (h : W.heap[b]? = some dfZo) : w'.cell? ⟨b, 0, none⟩ = some (.string ⟨#[]⟩) ∧ w'.cell? ⟨b, 1, none⟩ = some (.int .i64 0) ∧ w'.cell? ⟨b, 2, none⟩ = some (.slice none 0 0) ∧ w'.frozen? ⟨b, 0, none⟩ = false ∧ w'.frozen? ⟨b, 1, none⟩ = false ∧ w'.frozen? ⟨b, 2, none⟩ = false := by
  have hX : w'.heap[b]? = some dfZo := (hB.block _ (blk_lt h)).trans h
  exact ⟨by rw [blk_cell hX]; rfl, by rw [blk_cell hX]; rfl, by rw [blk_cell hX]; rfl, blk_frozen hX 0, blk_frozen hX 1, blk_frozen hX 2⟩
set_option maxHeartbeats 8000000 in
set_option maxRecDepth 100000 in
theorem cruciblelaw15_DeprecForms.calls (k : Nat) (a0 : Int) (a1 : Int) (r : Bool) (w : World) (h : cruciblelaw15_DeprecForms.f k a0 a1 = some r) : Calls Tryd.prog 8 #[.int .i64 a0, .int .i64 a1] w fun e w' => e = .returned (.bool r) ∧ Below w.heap.size w w' := by
  unfold cruciblelaw15_DeprecForms.f at h
  split at h
  case isFalse => cases h
  rename_i ha
  obtain rfl : true = r := Option.some.inj h
  have h7 : Go.bits .and .i64 a0 7 = a0 % 8 := Spec.bits_low 3 (by omega) a0
  have h1023 : Go.bits .and .i64 a1 1023 = a1 % 1024 := Spec.bits_low 10 (by omega) a1
  obtain ⟨m, hm⟩ : ∃ m : Int, a0 % 8 = m := ⟨_, rfl⟩
  obtain ⟨d, hd⟩ : ∃ d : Int, a1 % 1024 = d := ⟨_, rfl⟩
  have hm0 : 0 ≤ m := by omega
  have hm8 : m < 8 := by omega
  have hd0 : 0 ≤ d := by omega
  have hd8 : d < 1024 := by omega
  rw [hm] at h7
  rw [hd] at h1023
  have cA := fun W => cruciblelaw15_awake.calls k true W ha
  clear h hm hd ha
  go_enter Tryd.func8, Tryd.ntmps8
  go_wp2_with fail
  refine (cA _).mono ?_
  rintro e w1 ⟨rfl, B1⟩
  obtain ⟨ad, A2, c2, ead, hx0, hx1, hx2, hl2, hC2⟩ := at_T41 (df_new w1 (1 + d)) m hm0 hm8
  cases ead
  simp only [add_plain, Nat.zero_add] at hx0 hx1 hx2
  have HC2 := Aside0.mk hC2
  have HL2 := Aside0.mk hl2
  clear hC2 hl2
  have B1 := Aside0.mk B1
  go_wp2_with fail
  obtain ⟨hbd, hln⟩ := df_bad (1 + d) w1.heap.size (by omega) _ (df_idx hm0 hm8 (1 + d) w1.heap.size)
  refine (df_put (dfW w1 (1 + d)) A2 c2 _ HC2.out HL2.out hbd hln).mono ?_
  rintro e w2 ⟨rfl, B2⟩
  have B2 := Aside0.mk (df_then (below_alloc (below_alloc (below_alloc (below_alloc B1.out _) _) _) _) B2)
  clear hx0 hx1 hx2 HC2 HL2 hbd hln B1 h7 hm0 hm8
  have c3 := deprec_Put.calls 40 ⟨#[97, 98]⟩ 7 (some ⟨w2.heap.size, 0, none⟩) 1 [⟨#[99]⟩] df_t 0 (w2.alloc (.cells #[.string ⟨#[99]⟩] 9)) (df_row _ _ [⟨#[99]⟩] (by decide) (heap_alloc_new w2 _)) (by decide) df_t1
  go_wp2_with fail
  refine c3.mono ?_
  rintro e w3 ⟨rfl, B3⟩
  have B3 := Aside0.mk (df_then (below_alloc B2.out _) B3)
  clear c3 B2
  have hsz : df_t.size = 12 := by decide +kernel
  obtain ⟨n, hn, hk⟩ := Spec.umod a1 12 (by decide) (by decide)
  have hk : wrap64 (Int.tmod (IntKind.u64.wrap a1) 12) = (n : Int) := hk
  have hn1 : n ≤ 12 := by omega
  go_wp2_with fail
  go_at_call 22
  refine (cruciblelaw0_Num.calls _ _ _ rfl).mono ?_
  rintro e w4 ⟨rfl, B4⟩
  have B4 := Aside0.mk (df_then B3.out B4.below)
  clear B3
  go_wp2_with fail
  refine (df_get _ (df_g0 n hn) _).mono ?_
  rintro e w5 ⟨A5, k5, rfl, B5⟩
  have B5 := Aside0.mk (df_then B4.out B5)
  clear B4 hk hn hn1 h1023 hd0 hd8 cA
  go_wp2_with fail
  refine (df_get _ df_g1 _).mono ?_
  rintro e w6 ⟨A6, k6, rfl, B6⟩
  have B6 := Aside0.mk (df_then (below_alloc B5.out _) B6)
  clear B5
  go_wp2_with fail
  refine (df_get _ df_g2 _).mono ?_
  rintro e w7 ⟨A7, k7, rfl, B7⟩
  have B7 := Aside0.mk (df_then (below_alloc B6.out _) B7)
  clear B6
  go_wp2_with fail
  have sB : Below w.heap.size w (w7.alloc (.cells #[.string ⟨#[]⟩, .int .i64 0, .slice A7 0 k7] 41)) := below_alloc B7.out _
  have cG : ∀ W, Below w.heap.size w W → Calls Tryd.prog 29 #[.string (df_t.extract 0 2 ++ ⟨#[9]⟩ ++ df_t.extract 3 df_t.size)] W fun e w' => ∃ A c, e = .returned (.tuple #[.agg #[.string ⟨#[]⟩, .int .i64 0, .slice A 0 c], .int .i64 1500]) ∧ Below w.heap.size w w' ∧ Below W.heap.size W w' := fun W hW =>
    (df_get _ df_g3 W).mono fun e w' ⟨A, c, he, hB⟩ => ⟨A, c, he, df_then hW hB, hB⟩
  have hs := B7.out.size
  have hZ : ((w7.alloc (.cells #[.string ⟨#[]⟩, .int .i64 0, .slice A7 0 k7] 41)).alloc dfZo).heap[w7.heap.size + 1]? = some dfZo := by
    have := heap_alloc_new (w7.alloc (.cells #[.string ⟨#[]⟩, .int .i64 0, .slice A7 0 k7] 41)) dfZo
    simpa only [World.size_alloc] using this
  have cN : ∀ (n : Int) W, Below w.heap.size w W → Calls Tryd.prog 22 #[.int .i64 n] W fun e w' => e = .returned (.int .i64 n) ∧ Below w.heap.size w w' := fun n W hW => (cruciblelaw0_Num.calls n n W rfl).mono fun e w' ⟨he, hd⟩ => ⟨he, df_then hW hd.below⟩
  clear B7
  go_region_held3 (fun w' => Below w.heap.size w w')
    (first | assumption | ((repeat (first | assumption | (with_reducible refine below_drew ?_) | (with_reducible refine below_alloc ?_ _) | (with_reducible refine Below.setCell ?_ ?_ _))); (all_goals (first | omega | (simp; omega))); done) | go_keep)
    (first | (go_at_call 29; refine (cG _ ?_).mono ?_; assumption; rintro e w' ⟨A8, k8, rfl, hb, hb2⟩; (first | (obtain ⟨z0, z1, z2, z3, z4, z5⟩ := df_box hb2 hZ) | skip)))
  all_goals (go_wp2_with (go_at_call 22; refine (cN _ _ ?_).mono ?_; assumption; rintro e w9 ⟨rfl, hb9⟩))
  all_goals go_ret
  all_goals exact ⟨rfl, by assumption⟩

end Go.Proofs.YtkplcmcmpdhigaaDoor.P
