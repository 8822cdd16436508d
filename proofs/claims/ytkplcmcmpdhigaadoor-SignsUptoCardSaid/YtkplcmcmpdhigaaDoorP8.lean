-- Made by a program of this work's own (wip/myprint.py) over the kit's print; leaves by hand.
import Derived.Test.YtkplcmcmpdhigaaDoorP0
import Derived.Test.YtkplcmcmpdhigaaDoorP2
import Derived.Test.YtkplcmcmpdhigaaDoorP7
import Derived.Deep.RegionHeld3
import Derived.Test.YtkplcmcmpdhigaaDoorBase
namespace Go.Proofs.YtkplcmcmpdhigaaDoor.P
open Go.RowKit Go.Proofs.YtkplcmcmpdhigaaDoorW.PrintWords Go.Proofs.YtkplcmcmpdhigaaDoorW.PrintLast Go.Proofs.YtkplcmcmpdhigaaDoorW.PrintMore
attribute [local go_sem] max2_int min2_int max_two min_two max_three min_three max_four min_four   -- for this text's walks alone
set_option linter.unusedVariables false
set_option linter.unusedSimpArgs false

-- HAND SignOf.lean
-- IMPORT Derived.Test.YtkplcmcmpdhigaaDoorBase
-- IMPORT Derived.Deep.RegionHeld3
/-! ### sign_Of, by hand -/
def sign_Of.f (k : Nat) (l0 l1 l2 l3 : List ByteArray) (cmd : ByteArray) (dep : Bool) (pool : ByteArray) : Option (ByteArray × Int) :=
  (graph_Edge.f k l0 l1 l2 l3 cmd pool).bind fun b => if b = true then ((strings_Join.f l0 (⟨#[32]⟩ : ByteArray)).bind fun j0 => (strings_Join.f l1 (⟨#[32]⟩ : ByteArray)).bind fun j1 => (strings_Join.f l2 (⟨#[32]⟩ : ByteArray)).bind fun j2 =>
    (strings_Join.f [j0, j1, j2, (if dep = true then (⟨#[100]⟩ : ByteArray) else ⟨#[110]⟩), cmd] (⟨#[124]⟩ : ByteArray)).bind fun s => some (s, 0)) else some (⟨#[]⟩, 1100)
theorem sign_Of.mono : ∀ l0 l1 l2 l3 cmd dep pool k, LeO (sign_Of.f k l0 l1 l2 l3 cmd dep pool) (sign_Of.f (k + 1) l0 l1 l2 l3 cmd dep pool) := by
  intro l0 l1 l2 l3 cmd dep pool k
  unfold sign_Of.f
  exact LeO.bind (graph_Edge.mono _ _ _ _ _ _ _) (fun _ => LeO.refl _)
theorem sign_lit (W : World) (xs : List ByteArray) (hl : xs.length ≤ 1000) : Kd.C Kd.string (W.alloc (.cells (xs.map Value.string).toArray 9)) (some ⟨W.heap.size, 0, none⟩) xs.length xs := by
  have h : Kd.R Kd.string 9 (W.alloc (.cells (xs.map Value.string).toArray 9)) W.heap.size (fun _ => True) (.slice (some ⟨W.heap.size, 0, none⟩) xs.length xs.length) xs :=
    Kd.R_of_own ⟨by simp [encs], .inr ⟨W.heap.size, xs.length, (xs.map Value.string).toArray, rfl, Nat.le_refl _, by simpa using heap_alloc_new W _, Nat.le_refl _, by simp [maxLen]; omega, by simp, by rw [Nat.mul_one, List.take_of_length_le (by simp)]; rfl⟩⟩ (fun _ _ => trivial)
  exact (Kd.R_reads' h).2.2
theorem limb5 {a b c d e : Prop} (h : a ∧ b ∧ c ∧ d ∧ e) : e := h.2.2.2.2
set_option maxHeartbeats 4000000 in
set_option maxRecDepth 100000 in
theorem sign_Of.calls (k : Nat) (A0_0 : Option Addr) (c0_0 : Nat) (l0_0 : List ByteArray) (A0_1 : Option Addr) (c0_1 : Nat) (l0_1 : List ByteArray) (A0_2 : Option Addr) (c0_2 : Nat) (l0_2 : List ByteArray) (A0_3 : Option Addr) (c0_3 : Nat) (l0_3 : List ByteArray) (a0_4 : ByteArray) (a0_5 : Bool) (a0_6 : ByteArray) (r1 : ByteArray) (r2 : Int) (w : World) (hr0_0 : Kd.C Kd.string w A0_0 l0_0.length l0_0) (hc0_0 : l0_0.length ≤ c0_0) (hr0_1 : Kd.C Kd.string w A0_1 l0_1.length l0_1) (hc0_1 : l0_1.length ≤ c0_1) (hr0_2 : Kd.C Kd.string w A0_2 l0_2.length l0_2) (hc0_2 : l0_2.length ≤ c0_2) (hr0_3 : Kd.C Kd.string w A0_3 l0_3.length l0_3) (hc0_3 : l0_3.length ≤ c0_3) (h : sign_Of.f k l0_0 l0_1 l0_2 l0_3 a0_4 a0_5 a0_6 = some (r1, r2)) :
    Calls Tryd.prog 20 #[.agg #[.slice A0_0 l0_0.length c0_0, .slice A0_1 l0_1.length c0_1, .slice A0_2 l0_2.length c0_2, .slice A0_3 l0_3.length c0_3, .string a0_4, .bool a0_5, .string a0_6]] w fun e w' => e = .returned (.tuple #[.string r1, .int .i64 r2]) ∧ Below w.heap.size w w' := by
  obtain ⟨b, hE, h⟩ := Option.bind_eq_some_iff.1 h
  obtain ⟨w1, hw1⟩ : ∃ w1, w.alloc (.cells #[.slice A0_0 l0_0.length c0_0, .slice A0_1 l0_1.length c0_1, .slice A0_2 l0_2.length c0_2, .slice A0_3 l0_3.length c0_3, .string a0_4, .bool a0_5, .string a0_6] 24) = w1 := ⟨_, rfl⟩
  have B1 : Below w.heap.size w w1 := by rw [← hw1]; exact below_alloc (Below.refl _ _) _
  have hb1 : w1.heap[w.heap.size]? = some (.cells #[.slice A0_0 l0_0.length c0_0, .slice A0_1 l0_1.length c0_1, .slice A0_2 l0_2.length c0_2, .slice A0_3 l0_3.length c0_3, .string a0_4, .bool a0_5, .string a0_6] 24 (0, 0)) := by rw [← hw1]; exact heap_alloc_new w _
  have cE := graph_Edge.walk k w.heap.size A0_0 A0_1 A0_2 A0_3 c0_0 c0_1 c0_2 c0_3 l0_0 l0_1 l0_2 l0_3 a0_4 a0_5 a0_6 b w1
    ⟨by rw [blk_cell hb1 0]; rfl, by rw [blk_cell hb1 1]; rfl, by rw [blk_cell hb1 2]; rfl, by rw [blk_cell hb1 3]; rfl, by rw [blk_cell hb1 4]; rfl, by rw [blk_cell hb1 5]; rfl, by rw [blk_cell hb1 6]; rfl,
     Kd.C_below hr0_0 B1, Kd.C_below hr0_1 B1, Kd.C_below hr0_2 B1, Kd.C_below hr0_3 B1, hc0_0, hc0_1, hc0_2, hc0_3⟩ hE
  have hg : w.heap.size < w1.heap.size := blk_lt hb1
  have HW := Aside0.mk hw1
  cases b with
  | false =>
    have hr : ((⟨#[]⟩ : ByteArray), (1100 : Int)) = (r1, r2) := Option.some.inj h
    injection hr with e1 e2
    subst e1 e2
    clear hb1 h hw1
    go_enter Tryd.func20, Tryd.ntmps20
    go_wp2_with fail
    rw [HW.out]
    go_wp2_with (go_at_call 47; refine cE.mono ?_; rintro e w2 ⟨rfl, B2⟩)
    go_ret2
    exact ⟨rfl, below_then B1 B1.size B2⟩
  | true =>
    rw [if_pos rfl] at h
    obtain ⟨j0, e0, h⟩ := Option.bind_eq_some_iff.1 h
    obtain ⟨j1, e1, h⟩ := Option.bind_eq_some_iff.1 h
    obtain ⟨j2, e2, h⟩ := Option.bind_eq_some_iff.1 h
    obtain ⟨s, e3, h⟩ := Option.bind_eq_some_iff.1 h
    have hr : (s, (0 : Int)) = (r1, r2) := Option.some.inj h
    injection hr with e4 e5
    subst e4 e5
    have f0 : w1.cell? ⟨w.heap.size, 0, none⟩ = some (.slice A0_0 l0_0.length c0_0) := by rw [blk_cell hb1 0]; rfl
    have f1 : w1.cell? ⟨w.heap.size, 1, none⟩ = some (.slice A0_1 l0_1.length c0_1) := by rw [blk_cell hb1 1]; rfl
    have f2 : w1.cell? ⟨w.heap.size, 2, none⟩ = some (.slice A0_2 l0_2.length c0_2) := by rw [blk_cell hb1 2]; rfl
    have f4 : w1.cell? ⟨w.heap.size, 4, none⟩ = some (.string a0_4) := by rw [blk_cell hb1 4]; rfl
    have f5 : w1.cell? ⟨w.heap.size, 5, none⟩ = some (.bool a0_5) := by rw [blk_cell hb1 5]; rfl
    have toS : ∀ W, Below w1.heap.size w1 W → (W.cell? ⟨w.heap.size, 0, none⟩ = some (.slice A0_0 l0_0.length c0_0) ∧ W.cell? ⟨w.heap.size, 1, none⟩ = some (.slice A0_1 l0_1.length c0_1) ∧ W.cell? ⟨w.heap.size, 2, none⟩ = some (.slice A0_2 l0_2.length c0_2) ∧ W.cell? ⟨w.heap.size, 4, none⟩ = some (.string a0_4) ∧ Below w1.heap.size w1 W) :=
      fun W hB => ⟨(hB.cell (p := ⟨_, 0, none⟩) hg).trans f0, (hB.cell (p := ⟨_, 1, none⟩) hg).trans f1, (hB.cell (p := ⟨_, 2, none⟩) hg).trans f2, (hB.cell (p := ⟨_, 4, none⟩) hg).trans f4, hB⟩
    have cJ0 : ∀ W, Below w1.heap.size w1 W → Calls Tryd.prog 48 #[.slice A0_0 l0_0.length c0_0, .string ⟨#[32]⟩] W fun e w' => e = .returned (.string j0) ∧ Below w1.heap.size w1 w' := fun W hB => (strings_Join.calls A0_0 c0_0 l0_0 _ j0 W (Kd.C_below (Kd.C_below hr0_0 B1) hB) hc0_0 e0).mono fun e w' ⟨he, hb⟩ => ⟨he, below_then hB hB.size hb⟩
    have cJ1 : ∀ W, Below w1.heap.size w1 W → Calls Tryd.prog 48 #[.slice A0_1 l0_1.length c0_1, .string ⟨#[32]⟩] W fun e w' => e = .returned (.string j1) ∧ Below w1.heap.size w1 w' := fun W hB => (strings_Join.calls A0_1 c0_1 l0_1 _ j1 W (Kd.C_below (Kd.C_below hr0_1 B1) hB) hc0_1 e1).mono fun e w' ⟨he, hb⟩ => ⟨he, below_then hB hB.size hb⟩
    have cJ2 : ∀ W, Below w1.heap.size w1 W → Calls Tryd.prog 48 #[.slice A0_2 l0_2.length c0_2, .string ⟨#[32]⟩] W fun e w' => e = .returned (.string j2) ∧ Below w1.heap.size w1 w' := fun W hB => (strings_Join.calls A0_2 c0_2 l0_2 _ j2 W (Kd.C_below (Kd.C_below hr0_2 B1) hB) hc0_2 e2).mono fun e w' ⟨he, hb⟩ => ⟨he, below_then hB hB.size hb⟩
    have hJ : ∀ (d : ByteArray), strings_Join.f [j0, j1, j2, d, a0_4] (⟨#[124]⟩ : ByteArray) = some s → ∀ (W : World), Below w1.heap.size w1 (W.alloc (.cells #[.string j0, .string j1, .string j2, .string d, .string a0_4] 9)) → Calls Tryd.prog 48 #[.slice (some ⟨W.heap.size, 0, none⟩) 5 5, .string ⟨#[124]⟩] (W.alloc (.cells #[.string j0, .string j1, .string j2, .string d, .string a0_4] 9)) fun e w' => e = .returned (.string s) ∧ Below w1.heap.size w1 w' := fun d hd W hB =>
      (strings_Join.calls (some ⟨W.heap.size, 0, none⟩) 5 [j0, j1, j2, d, a0_4] _ s (W.alloc (.cells #[.string j0, .string j1, .string j2, .string d, .string a0_4] 9)) (sign_lit W [j0, j1, j2, d, a0_4] (by simp)) (by simp) hd).mono fun e w' ⟨he, hb⟩ => ⟨he, below_then hB hB.size hb⟩
    generalize l0_0.length = n0 at *
    generalize l0_1.length = n1 at *
    generalize l0_2.length = n2 at *
    generalize l0_3.length = n3 at *
    have dJ0 : ∀ W, (W.cell? ⟨w.heap.size, 0, none⟩ = some (.slice A0_0 n0 c0_0) ∧ W.cell? ⟨w.heap.size, 1, none⟩ = some (.slice A0_1 n1 c0_1) ∧ W.cell? ⟨w.heap.size, 2, none⟩ = some (.slice A0_2 n2 c0_2) ∧ W.cell? ⟨w.heap.size, 4, none⟩ = some (.string a0_4) ∧ Below w1.heap.size w1 W) → Calls Tryd.prog 48 #[.slice A0_0 n0 c0_0, .string ⟨#[32]⟩] W fun e w' => e = .returned (.string j0) ∧ Below w1.heap.size w1 w' := fun W hS => cJ0 W hS.2.2.2.2
    have dJ1 : ∀ W, (W.cell? ⟨w.heap.size, 0, none⟩ = some (.slice A0_0 n0 c0_0) ∧ W.cell? ⟨w.heap.size, 1, none⟩ = some (.slice A0_1 n1 c0_1) ∧ W.cell? ⟨w.heap.size, 2, none⟩ = some (.slice A0_2 n2 c0_2) ∧ W.cell? ⟨w.heap.size, 4, none⟩ = some (.string a0_4) ∧ Below w1.heap.size w1 W) → Calls Tryd.prog 48 #[.slice A0_1 n1 c0_1, .string ⟨#[32]⟩] W fun e w' => e = .returned (.string j1) ∧ Below w1.heap.size w1 w' := fun W hS => cJ1 W hS.2.2.2.2
    have dJ2 : ∀ W, (W.cell? ⟨w.heap.size, 0, none⟩ = some (.slice A0_0 n0 c0_0) ∧ W.cell? ⟨w.heap.size, 1, none⟩ = some (.slice A0_1 n1 c0_1) ∧ W.cell? ⟨w.heap.size, 2, none⟩ = some (.slice A0_2 n2 c0_2) ∧ W.cell? ⟨w.heap.size, 4, none⟩ = some (.string a0_4) ∧ Below w1.heap.size w1 W) → Calls Tryd.prog 48 #[.slice A0_2 n2 c0_2, .string ⟨#[32]⟩] W fun e w' => e = .returned (.string j2) ∧ Below w1.heap.size w1 w' := fun W hS => cJ2 W hS.2.2.2.2
    have aS : ∀ W o, (W.cell? ⟨w.heap.size, 0, none⟩ = some (.slice A0_0 n0 c0_0) ∧ W.cell? ⟨w.heap.size, 1, none⟩ = some (.slice A0_1 n1 c0_1) ∧ W.cell? ⟨w.heap.size, 2, none⟩ = some (.slice A0_2 n2 c0_2) ∧ W.cell? ⟨w.heap.size, 4, none⟩ = some (.string a0_4) ∧ Below w1.heap.size w1 W) → ((W.alloc o).cell? ⟨w.heap.size, 0, none⟩ = some (.slice A0_0 n0 c0_0) ∧ (W.alloc o).cell? ⟨w.heap.size, 1, none⟩ = some (.slice A0_1 n1 c0_1) ∧ (W.alloc o).cell? ⟨w.heap.size, 2, none⟩ = some (.slice A0_2 n2 c0_2) ∧ (W.alloc o).cell? ⟨w.heap.size, 4, none⟩ = some (.string a0_4) ∧ Below w1.heap.size w1 (W.alloc o)) := fun W o hS => toS _ (hS.2.2.2.2.alloc hS.2.2.2.2.size o)
    have fin : ∀ (W : World), (W.cell? ⟨w.heap.size, 0, none⟩ = some (.slice A0_0 n0 c0_0) ∧ W.cell? ⟨w.heap.size, 1, none⟩ = some (.slice A0_1 n1 c0_1) ∧ W.cell? ⟨w.heap.size, 2, none⟩ = some (.slice A0_2 n2 c0_2) ∧ W.cell? ⟨w.heap.size, 4, none⟩ = some (.string a0_4) ∧ Below w1.heap.size w1 W) → Below w.heap.size w W := fun W hS => below_then B1 B1.size hS.2.2.2.2
    have F5 := Aside0.mk f5
    have E3 := Aside0.mk e3
    clear hb1 h hw1 f0 f1 f2 f4 f5 e0 e1 e2 e3 hE cJ0 cJ1 cJ2
    cases a0_5 with
    | false =>
      have cL0 := hJ _ E3.out
      simp only [Bool.false_eq_true, if_false] at cL0
      have cL : ∀ (W : World), ((W.alloc (.cells #[.string j0, .string j1, .string j2, .string ⟨#[110]⟩, .string a0_4] 9)).cell? ⟨w.heap.size, 0, none⟩ = some (.slice A0_0 n0 c0_0) ∧ (W.alloc (.cells #[.string j0, .string j1, .string j2, .string ⟨#[110]⟩, .string a0_4] 9)).cell? ⟨w.heap.size, 1, none⟩ = some (.slice A0_1 n1 c0_1) ∧ (W.alloc (.cells #[.string j0, .string j1, .string j2, .string ⟨#[110]⟩, .string a0_4] 9)).cell? ⟨w.heap.size, 2, none⟩ = some (.slice A0_2 n2 c0_2) ∧ (W.alloc (.cells #[.string j0, .string j1, .string j2, .string ⟨#[110]⟩, .string a0_4] 9)).cell? ⟨w.heap.size, 4, none⟩ = some (.string a0_4) ∧ Below w1.heap.size w1 (W.alloc (.cells #[.string j0, .string j1, .string j2, .string ⟨#[110]⟩, .string a0_4] 9))) → Calls Tryd.prog 48 #[.slice (some ⟨W.heap.size, 0, none⟩) 5 5, .string ⟨#[124]⟩] (W.alloc (.cells #[.string j0, .string j1, .string j2, .string ⟨#[110]⟩, .string a0_4] 9)) fun e w' => e = .returned (.string s) ∧ Below w1.heap.size w1 w' := fun W hS => cL0 W hS.2.2.2.2
      clear hJ cL0
      go_enter Tryd.func20, Tryd.ntmps20
      go_wp2_with fail
      rw [HW.out]
      go_wp2_with (go_at_call 47; refine cE.mono ?_; rintro e w2 ⟨rfl, B2⟩; obtain ⟨s0, s1, s2, s4, sB⟩ := toS _ B2; have s5 := (B2.cell (p := ⟨w.heap.size, 5, none⟩) hg).trans F5.out)
      clear s5
      go_region_held3 (fun w' => w'.cell? ⟨w.heap.size, 0, none⟩ = some (.slice A0_0 n0 c0_0) ∧ w'.cell? ⟨w.heap.size, 1, none⟩ = some (.slice A0_1 n1 c0_1) ∧ w'.cell? ⟨w.heap.size, 2, none⟩ = some (.slice A0_2 n2 c0_2) ∧ w'.cell? ⟨w.heap.size, 4, none⟩ = some (.string a0_4) ∧ Below w1.heap.size w1 w')
        (first | (with_reducible exact toS _ hb) | (with_reducible exact toS _ (below_drew sB)) | (with_reducible exact toS _ sB) | (refine aS _ _ ?_; assumption) | assumption | go_keep)
        (first
          | (go_at_call_of 48 (Value.slice A0_0 n0 c0_0); refine (dJ0 _ ?_).mono ?_; assumption; rintro e w' ⟨rfl, hb⟩)
          | (go_at_call_of 48 (Value.slice A0_1 n1 c0_1); refine (dJ1 _ ?_).mono ?_; assumption; rintro e w' ⟨rfl, hb⟩)
          | (go_at_call_of 48 (Value.slice A0_2 n2 c0_2); refine (dJ2 _ ?_).mono ?_; assumption; rintro e w' ⟨rfl, hb⟩)
          | (go_at_call 48; refine (cL _ ?_).mono ?_; assumption; rintro e w' ⟨rfl, hb⟩))
      go_wp2
      go_ret2
      exact ⟨rfl, fin _ (by assumption)⟩
    | true =>
      have cL0 := hJ _ E3.out
      simp only [if_true] at cL0
      have cL : ∀ (W : World), ((W.alloc (.cells #[.string j0, .string j1, .string j2, .string ⟨#[100]⟩, .string a0_4] 9)).cell? ⟨w.heap.size, 0, none⟩ = some (.slice A0_0 n0 c0_0) ∧ (W.alloc (.cells #[.string j0, .string j1, .string j2, .string ⟨#[100]⟩, .string a0_4] 9)).cell? ⟨w.heap.size, 1, none⟩ = some (.slice A0_1 n1 c0_1) ∧ (W.alloc (.cells #[.string j0, .string j1, .string j2, .string ⟨#[100]⟩, .string a0_4] 9)).cell? ⟨w.heap.size, 2, none⟩ = some (.slice A0_2 n2 c0_2) ∧ (W.alloc (.cells #[.string j0, .string j1, .string j2, .string ⟨#[100]⟩, .string a0_4] 9)).cell? ⟨w.heap.size, 4, none⟩ = some (.string a0_4) ∧ Below w1.heap.size w1 (W.alloc (.cells #[.string j0, .string j1, .string j2, .string ⟨#[100]⟩, .string a0_4] 9))) → Calls Tryd.prog 48 #[.slice (some ⟨W.heap.size, 0, none⟩) 5 5, .string ⟨#[124]⟩] (W.alloc (.cells #[.string j0, .string j1, .string j2, .string ⟨#[100]⟩, .string a0_4] 9)) fun e w' => e = .returned (.string s) ∧ Below w1.heap.size w1 w' := fun W hS => cL0 W hS.2.2.2.2
      clear hJ cL0
      go_enter Tryd.func20, Tryd.ntmps20
      go_wp2_with fail
      rw [HW.out]
      go_wp2_with (go_at_call 47; refine cE.mono ?_; rintro e w2 ⟨rfl, B2⟩; obtain ⟨s0, s1, s2, s4, sB⟩ := toS _ B2; have s5 := (B2.cell (p := ⟨w.heap.size, 5, none⟩) hg).trans F5.out)
      clear s5
      go_region_held3 (fun w' => w'.cell? ⟨w.heap.size, 0, none⟩ = some (.slice A0_0 n0 c0_0) ∧ w'.cell? ⟨w.heap.size, 1, none⟩ = some (.slice A0_1 n1 c0_1) ∧ w'.cell? ⟨w.heap.size, 2, none⟩ = some (.slice A0_2 n2 c0_2) ∧ w'.cell? ⟨w.heap.size, 4, none⟩ = some (.string a0_4) ∧ Below w1.heap.size w1 w')
        (first | (with_reducible exact toS _ hb) | (with_reducible exact toS _ (below_drew sB)) | (with_reducible exact toS _ sB) | (refine aS _ _ ?_; assumption) | assumption | go_keep)
        (first
          | (go_at_call_of 48 (Value.slice A0_0 n0 c0_0); refine (dJ0 _ ?_).mono ?_; assumption; rintro e w' ⟨rfl, hb⟩)
          | (go_at_call_of 48 (Value.slice A0_1 n1 c0_1); refine (dJ1 _ ?_).mono ?_; assumption; rintro e w' ⟨rfl, hb⟩)
          | (go_at_call_of 48 (Value.slice A0_2 n2 c0_2); refine (dJ2 _ ?_).mono ?_; assumption; rintro e w' ⟨rfl, hb⟩)
          | (go_at_call 48; refine (cL _ ?_).mono ?_; assumption; rintro e w' ⟨rfl, hb⟩))
      go_wp2
      go_ret2
      exact ⟨rfl, fin _ (by assumption)⟩

end Go.Proofs.YtkplcmcmpdhigaaDoor.P
