-- Made by a program of this work's own (wip/myprint.py) over the kit's print; leaves by hand.
import Derived.Test.YtilnamobmjngbaaDoorP0
import Derived.Test.YtilnamobmjngbaaDoorP1
import Derived.Test.YtilnamobmjngbaaDoorP24
import Derived.Test.YtilnamobmjngbaaDoorMg1
namespace Go.Proofs.YtilnamobmjngbaaDoor.P
open Go.RowKit Go.Proofs.YtilnamobmjngbaaDoorW.PrintWords Go.Proofs.YtilnamobmjngbaaDoorW.PrintLast Go.Proofs.YtilnamobmjngbaaDoorW.PrintMore
attribute [local go_sem] max2_int min2_int max_two min_two max_three min_three max_four min_four   -- for this text's walks alone
set_option linter.unusedVariables false
set_option linter.unusedSimpArgs false

attribute [local go_sem high] eqA72
-- HAND SameEdge.lean
-- IMPORT Derived.Test.YtilnamobmjngbaaDoorPlain
/-! ### cruciblelaw0_SameEdge, by hand: told where it says yes -/
def cruciblelaw0_SameEdge.f (k : Nat) (l0_0 l0_1 l0_2 l0_3 : List ByteArray) (a0_4 : ByteArray) (a0_5 : Bool) (a0_6 : ByteArray) (l1_0 l1_1 l1_2 l1_3 : List ByteArray) (a1_4 : ByteArray) (a1_5 : Bool) (a1_6 : ByteArray) : Option (Bool) :=
  if (cruciblelaw0_SameTexts.f k l0_0 l1_0 = some true ∧ cruciblelaw0_SameTexts.f k l0_1 l1_1 = some true ∧ cruciblelaw0_SameTexts.f k l0_2 l1_2 = some true ∧ cruciblelaw0_SameTexts.f k l0_3 l1_3 = some true) ∧ a0_4.toList = a1_4.toList ∧ a0_5 = a1_5 ∧ a0_6.toList = a1_6.toList then some true else none
theorem cruciblelaw0_SameEdge.mono : ∀ a0 a1 a2 a3 a4 a5 a6 a7 a8 a9 a10 a11 a12 a13 k, LeO (cruciblelaw0_SameEdge.f k a0 a1 a2 a3 a4 a5 a6 a7 a8 a9 a10 a11 a12 a13) (cruciblelaw0_SameEdge.f (k + 1) a0 a1 a2 a3 a4 a5 a6 a7 a8 a9 a10 a11 a12 a13) := by
  intro a0 a1 a2 a3 a4 a5 a6 a7 a8 a9 a10 a11 a12 a13 k r h
  unfold cruciblelaw0_SameEdge.f at h ⊢
  split at h
  case isFalse => cases h
  rename_i hw
  obtain ⟨⟨w1, w2, w3, w4⟩, w5⟩ := hw
  rw [if_pos ⟨⟨cruciblelaw0_SameTexts.mono _ _ k _ w1, cruciblelaw0_SameTexts.mono _ _ k _ w2, cruciblelaw0_SameTexts.mono _ _ k _ w3, cruciblelaw0_SameTexts.mono _ _ k _ w4⟩, w5⟩]
  exact h
abbrev seE (A0 A1 A2 A3 : Option Addr) (n0 n1 n2 n3 c0 c1 c2 c3 : Nat) (c : ByteArray) (d : Bool) (p : ByteArray) : Obj := .cells #[.slice A0 n0 c0, .slice A1 n1 c1, .slice A2 n2 c2, .slice A3 n3 c3, .string c, .bool d, .string p] 25 (0, 0)
/-- a box of an edge, as it stands -/
abbrev seC (g : Nat) (A0 A1 A2 A3 : Option Addr) (n0 n1 n2 n3 c0 c1 c2 c3 : Nat) (c : ByteArray) (d : Bool) (p : ByteArray) (W : World) : Prop :=
  W.cell? ⟨g, 0, none⟩ = some (.slice A0 n0 c0) ∧ W.cell? ⟨g, 1, none⟩ = some (.slice A1 n1 c1) ∧ W.cell? ⟨g, 2, none⟩ = some (.slice A2 n2 c2) ∧ W.cell? ⟨g, 3, none⟩ = some (.slice A3 n3 c3) ∧ W.cell? ⟨g, 4, none⟩ = some (.string c) ∧ W.cell? ⟨g, 5, none⟩ = some (.bool d) ∧ W.cell? ⟨g, 6, none⟩ = some (.string p)
theorem se_cells {W : World} {g : Nat} {A0 A1 A2 A3 : Option Addr} {n0 n1 n2 n3 c0 c1 c2 c3 : Nat} {c : ByteArray} {d : Bool} {p : ByteArray} (h : W.heap[g]? = some (seE A0 A1 A2 A3 n0 n1 n2 n3 c0 c1 c2 c3 c d p)) : seC g A0 A1 A2 A3 n0 n1 n2 n3 c0 c1 c2 c3 c d p W :=
  ⟨(blk_cell h 0).trans rfl, (blk_cell h 1).trans rfl, (blk_cell h 2).trans rfl, (blk_cell h 3).trans rfl, (blk_cell h 4).trans rfl, (blk_cell h 5).trans rfl, (blk_cell h 6).trans rfl⟩
set_option maxHeartbeats 8000000 in
set_option maxRecDepth 100000 in
theorem cruciblelaw0_SameEdge.calls (k : Nat) (A0_0 : Option Addr) (c0_0 : Nat) (l0_0 : List ByteArray) (A0_1 : Option Addr) (c0_1 : Nat) (l0_1 : List ByteArray) (A0_2 : Option Addr) (c0_2 : Nat) (l0_2 : List ByteArray) (A0_3 : Option Addr) (c0_3 : Nat) (l0_3 : List ByteArray) (a0_4 : ByteArray) (a0_5 : Bool) (a0_6 : ByteArray) (A1_0 : Option Addr) (c1_0 : Nat) (l1_0 : List ByteArray) (A1_1 : Option Addr) (c1_1 : Nat) (l1_1 : List ByteArray) (A1_2 : Option Addr) (c1_2 : Nat) (l1_2 : List ByteArray) (A1_3 : Option Addr) (c1_3 : Nat) (l1_3 : List ByteArray) (a1_4 : ByteArray) (a1_5 : Bool) (a1_6 : ByteArray) (r : Bool) (w : World) (hr0_0 : Kd.C Kd.string w A0_0 l0_0.length l0_0) (hc0_0 : l0_0.length ≤ c0_0) (hr0_1 : Kd.C Kd.string w A0_1 l0_1.length l0_1) (hc0_1 : l0_1.length ≤ c0_1) (hr0_2 : Kd.C Kd.string w A0_2 l0_2.length l0_2) (hc0_2 : l0_2.length ≤ c0_2) (hr0_3 : Kd.C Kd.string w A0_3 l0_3.length l0_3) (hc0_3 : l0_3.length ≤ c0_3) (hr1_0 : Kd.C Kd.string w A1_0 l1_0.length l1_0) (hc1_0 : l1_0.length ≤ c1_0) (hr1_1 : Kd.C Kd.string w A1_1 l1_1.length l1_1) (hc1_1 : l1_1.length ≤ c1_1) (hr1_2 : Kd.C Kd.string w A1_2 l1_2.length l1_2) (hc1_2 : l1_2.length ≤ c1_2) (hr1_3 : Kd.C Kd.string w A1_3 l1_3.length l1_3) (hc1_3 : l1_3.length ≤ c1_3) (h : cruciblelaw0_SameEdge.f k l0_0 l0_1 l0_2 l0_3 a0_4 a0_5 a0_6 l1_0 l1_1 l1_2 l1_3 a1_4 a1_5 a1_6 = some r) :
    Calls Tryd.prog 30 #[.agg #[.slice A0_0 l0_0.length c0_0, .slice A0_1 l0_1.length c0_1, .slice A0_2 l0_2.length c0_2, .slice A0_3 l0_3.length c0_3, .string a0_4, .bool a0_5, .string a0_6], .agg #[.slice A1_0 l1_0.length c1_0, .slice A1_1 l1_1.length c1_1, .slice A1_2 l1_2.length c1_2, .slice A1_3 l1_3.length c1_3, .string a1_4, .bool a1_5, .string a1_6]] w fun e w' => e = .returned (.bool r) ∧ Below w.heap.size w w' := by
  have hu := Tryd.underlying25
  unfold cruciblelaw0_SameEdge.f at h
  split at h
  case isFalse => cases h
  rename_i hw
  obtain ⟨⟨q0, q1, q2, q3⟩, q4, q5, q6⟩ := hw
  obtain rfl : true = r := Option.some.inj h
  obtain ⟨W0, hW0⟩ : ∃ W, W = (w.alloc (seE A0_0 A0_1 A0_2 A0_3 l0_0.length l0_1.length l0_2.length l0_3.length c0_0 c0_1 c0_2 c0_3 a0_4 a0_5 a0_6)).alloc (seE A1_0 A1_1 A1_2 A1_3 l1_0.length l1_1.length l1_2.length l1_3.length c1_0 c1_1 c1_2 c1_3 a1_4 a1_5 a1_6) := ⟨_, rfl⟩
  have E0 : Below w.heap.size w W0 := by rw [hW0]; exact below_alloc (below_alloc (Below.refl _ _) _) _
  have x0 : W0.heap[w.heap.size]? = some (seE A0_0 A0_1 A0_2 A0_3 l0_0.length l0_1.length l0_2.length l0_3.length c0_0 c0_1 c0_2 c0_3 a0_4 a0_5 a0_6) := by rw [hW0]; exact blk_alloc (heap_alloc_new w _) _
  have x1 : W0.heap[w.heap.size + 1]? = some (seE A1_0 A1_1 A1_2 A1_3 l1_0.length l1_1.length l1_2.length l1_3.length c1_0 c1_1 c1_2 c1_3 a1_4 a1_5 a1_6) := by
    rw [hW0]
    have := heap_alloc_new (w.alloc (seE A0_0 A0_1 A0_2 A0_3 l0_0.length l0_1.length l0_2.length l0_3.length c0_0 c0_1 c0_2 c0_3 a0_4 a0_5 a0_6)) (seE A1_0 A1_1 A1_2 A1_3 l1_0.length l1_1.length l1_2.length l1_3.length c1_0 c1_1 c1_2 c1_3 a1_4 a1_5 a1_6)
    rwa [World.size_alloc] at this
  have cS : ∀ (A B : Option Addr) (x y : List ByteArray) (c d : Nat), Kd.C Kd.string w A x.length x → x.length ≤ c → Kd.C Kd.string w B y.length y → y.length ≤ d → cruciblelaw0_SameTexts.f k x y = some true → ∀ W, Below W0.heap.size W0 W →
      Calls Tryd.prog 24 #[.slice A x.length c, .slice B y.length d] W fun e w' => e = .returned (.bool true) ∧ Below W0.heap.size W0 w' := fun A B x y c d h1 h2 h3 h4 h5 W hW =>
    have hb := below_then E0 E0.size hW
    (cruciblelaw0_SameTexts.calls k A c x B d y true W (Kd.C_below h1 hb) h2 (Kd.C_below h3 hb) h4 h5).mono fun e w' hh => ⟨hh.1, below_then hW hW.size hh.2.below⟩
  obtain ⟨C, hC⟩ : ∃ C : World → Prop, C = fun W => (seC w.heap.size A0_0 A0_1 A0_2 A0_3 l0_0.length l0_1.length l0_2.length l0_3.length c0_0 c0_1 c0_2 c0_3 a0_4 a0_5 a0_6 W ∧ seC (w.heap.size + 1) A1_0 A1_1 A1_2 A1_3 l1_0.length l1_1.length l1_2.length l1_3.length c1_0 c1_1 c1_2 c1_3 a1_4 a1_5 a1_6 W) ∧ Below W0.heap.size W0 W := ⟨_, rfl⟩
  have toC : ∀ W, Below W0.heap.size W0 W → C W := fun W hW => by rw [hC]; exact ⟨⟨se_cells ((hW.block _ (blk_lt x0)).trans x0), se_cells ((hW.block _ (blk_lt x1)).trans x1)⟩, hW⟩
  have ofC : ∀ W, C W → (seC w.heap.size A0_0 A0_1 A0_2 A0_3 l0_0.length l0_1.length l0_2.length l0_3.length c0_0 c0_1 c0_2 c0_3 a0_4 a0_5 a0_6 W ∧ seC (w.heap.size + 1) A1_0 A1_1 A1_2 A1_3 l1_0.length l1_1.length l1_2.length l1_3.length c1_0 c1_1 c1_2 c1_3 a1_4 a1_5 a1_6 W) ∧ Below W0.heap.size W0 W := fun W h => by rw [hC] at h; exact h
  have s0 : ∀ W, C W → Calls Tryd.prog 24 #[.slice A0_0 l0_0.length c0_0, .slice A1_0 l1_0.length c1_0] W fun e w' => e = .returned (.bool true) ∧ C w' := fun W h => (cS _ _ _ _ _ _ hr0_0 hc0_0 hr1_0 hc1_0 q0 W (ofC W h).2).mono fun e w' hh => ⟨hh.1, toC w' hh.2⟩
  have s1 : ∀ W, C W → Calls Tryd.prog 24 #[.slice A0_1 l0_1.length c0_1, .slice A1_1 l1_1.length c1_1] W fun e w' => e = .returned (.bool true) ∧ C w' := fun W h => (cS _ _ _ _ _ _ hr0_1 hc0_1 hr1_1 hc1_1 q1 W (ofC W h).2).mono fun e w' hh => ⟨hh.1, toC w' hh.2⟩
  have s2 : ∀ W, C W → Calls Tryd.prog 24 #[.slice A0_2 l0_2.length c0_2, .slice A1_2 l1_2.length c1_2] W fun e w' => e = .returned (.bool true) ∧ C w' := fun W h => (cS _ _ _ _ _ _ hr0_2 hc0_2 hr1_2 hc1_2 q2 W (ofC W h).2).mono fun e w' hh => ⟨hh.1, toC w' hh.2⟩
  have s3 : ∀ W, C W → Calls Tryd.prog 24 #[.slice A0_3 l0_3.length c0_3, .slice A1_3 l1_3.length c1_3] W fun e w' => e = .returned (.bool true) ∧ C w' := fun W h => (cS _ _ _ _ _ _ hr0_3 hc0_3 hr1_3 hc1_3 q3 W (ofC W h).2).mono fun e w' hh => ⟨hh.1, toC w' hh.2⟩
  have hd0 := toC W0 (Below.refl _ _)
  have E0' := Aside0.mk E0
  have OC := Aside0.mk ofC
  have S0 := Aside0.mk s0; have S1 := Aside0.mk s1; have S2 := Aside0.mk s2; have S3 := Aside0.mk s3
  have HD := Aside0.mk hd0
  have HW := Aside0.mk hW0
  have c4 : (a0_4.toList == a1_4.toList) = true := beq_iff_eq.mpr q4
  have c5 : (a0_5 == a1_5) = true := beq_iff_eq.mpr q5
  have c6 : (a0_6.toList == a1_6.toList) = true := beq_iff_eq.mpr q6
  clear hC toC ofC s0 s1 s2 s3 hd0 cS x0 x1 E0 hW0 q0 q1 q2 q3 q4 q5 q6 h hr0_0 hc0_0 hr0_1 hc0_1 hr0_2 hc0_2 hr0_3 hc0_3 hr1_0 hc1_0 hr1_1 hc1_1 hr1_2 hc1_2 hr1_3 hc1_3
  go_enter Tryd.func30, Tryd.ntmps30
  go_upto_region 1 with fail
  rw [← HW.out]
  have h0 := HD.out
  obtain ⟨⟨⟨a0, a1, a2, a3, a4, a5, a6⟩, b0, b1, b2, b3, b4, b5, b6⟩, sB⟩ := OC.out _ h0
  have cc := S0.out _ h0
  clear sB
  go_wp2_with fail
  refine cc.mono ?_
  clear cc a0 a1 a2 a3 a4 a5 a6 b0 b1 b2 b3 b4 b5 b6
  rintro e W1 ⟨rfl, h1⟩
  obtain ⟨⟨⟨a0, a1, a2, a3, a4, a5, a6⟩, b0, b1, b2, b3, b4, b5, b6⟩, sB⟩ := OC.out _ h1
  have cc := S1.out _ h1
  clear sB
  go_wp2_with fail
  refine cc.mono ?_
  clear cc a0 a1 a2 a3 a4 a5 a6 b0 b1 b2 b3 b4 b5 b6
  rintro e W2 ⟨rfl, h2⟩
  obtain ⟨⟨⟨a0, a1, a2, a3, a4, a5, a6⟩, b0, b1, b2, b3, b4, b5, b6⟩, sB⟩ := OC.out _ h2
  have cc := S2.out _ h2
  clear sB
  go_wp2_with fail
  refine cc.mono ?_
  clear cc a0 a1 a2 a3 a4 a5 a6 b0 b1 b2 b3 b4 b5 b6
  rintro e W3 ⟨rfl, h3⟩
  obtain ⟨⟨⟨a0, a1, a2, a3, a4, a5, a6⟩, b0, b1, b2, b3, b4, b5, b6⟩, sB⟩ := OC.out _ h3
  have cc := S3.out _ h3
  clear sB
  go_wp2_with fail
  refine cc.mono ?_
  clear cc a0 a1 a2 a3 a4 a5 a6 b0 b1 b2 b3 b4 b5 b6
  rintro e W4 ⟨rfl, h4⟩
  obtain ⟨⟨⟨a0, a1, a2, a3, a4, a5, a6⟩, b0, b1, b2, b3, b4, b5, b6⟩, sB⟩ := OC.out _ h4
  have F9 := Aside0.mk sB
  clear sB h0 h1 h2 h3 h4
  go_wp2
  go_ret
  exact ⟨rfl, below_then E0'.out E0'.out.size F9.out⟩

/-! ### cruciblelaw0_SameFiles: function 46 -/
def cruciblelaw0_SameFiles.l0 : Nat → List (S72) → List (S72) → Int → Option (Bool)
 | 0, _, _, _ => none
 | k + 1, x0, x1, x5 => if x5 < (x0.length : Int) then (if 0 ≤ x5 then (if x5 < (x1.length : Int) then (if (!((((rd_T72 x0 x5).f0).toList) == (((rd_T72 x1 x5).f0).toList)) || (!(((rd_T72 x0 x5).f1) == ((rd_T72 x1 x5).f1)) || (!(((rd_T72 x0 x5).f2) == ((rd_T72 x1 x5).f2))))) = true then (some false) else (cruciblelaw0_SameFiles.l0 k x0 x1 (wrap64 (x5 + 1)))) else (none)) else (none)) else (some true)
def cruciblelaw0_SameFiles.f (k : Nat) (l0 : List (S72)) (l1 : List (S72)) : Option (Bool) := if (l0.length : Int) = (l1.length : Int) then (cruciblelaw0_SameFiles.l0 k l0 l1 0) else (some false)
set_option maxRecDepth 100000 in
theorem cruciblelaw0_SameFiles.mono_l : ∀ k, (∀ y0 y1 y2, LeO (cruciblelaw0_SameFiles.l0 k y0 y1 y2) (cruciblelaw0_SameFiles.l0 (k + 1) y0 y1 y2))
 | 0 => fun _ _ _ r h => by simp [cruciblelaw0_SameFiles.l0] at h
 | k + 1 => by
  have ih0 := cruciblelaw0_SameFiles.mono_l k
  ·
   intro y0 y1 y2
   unfold cruciblelaw0_SameFiles.l0
   repeat' first
   | (with_reducible exact ih0 _ _ _)
   | (with_reducible exact LeO.refl _)
   | (with_reducible exact LeO.none _)
   | (with_reducible refine LeO.ite ?_ ?_)
   | (with_reducible refine LeO.bind ?_ (fun _ => ?_))
   | exact ih0 _ _ _
   | exact LeO.none _
   | refine LeO.ite ?_ ?_
   | refine LeO.bind ?_ (fun _ => ?_)
theorem cruciblelaw0_SameFiles.mono : ∀ a0 a1 k, LeO (cruciblelaw0_SameFiles.f k a0 a1) (cruciblelaw0_SameFiles.f (k + 1) a0 a1) := by
 intro a0 a1 k
 have ih0 := cruciblelaw0_SameFiles.mono_l k
 unfold cruciblelaw0_SameFiles.f
 repeat' first
   | (with_reducible exact ih0 _ _ _)
   | (with_reducible exact LeO.refl _)
   | (with_reducible exact LeO.none _)
   | (with_reducible refine LeO.ite ?_ ?_)
   | (with_reducible refine LeO.bind ?_ (fun _ => ?_))
   | exact ih0 _ _ _
   | exact LeO.none _
   | refine LeO.ite ?_ ?_
   | refine LeO.bind ?_ (fun _ => ?_)
set_option maxHeartbeats 8000000 in
set_option maxRecDepth 100000 in
theorem cruciblelaw0_SameFiles.calls (k : Nat) (A0 : Option Addr) (c0 : Nat) (l0 : List (S72)) (A1 : Option Addr) (c1 : Nat) (l1 : List (S72)) (r : Bool) (w : World) (hr0 : Kd.C k72 w A0 l0.length l0) (hc0 : l0.length ≤ c0) (hr1 : Kd.C k72 w A1 l1.length l1) (hc1 : l1.length ≤ c1) (h : cruciblelaw0_SameFiles.f k l0 l1 = some r) :
  Calls Tryd.prog 46 #[.slice A0 l0.length c0, .slice A1 l1.length c1] w fun e w' => e = .returned (.bool r) ∧ Drawn0 w w' := by
 have hu72 := Tryd.underlying72
 have HR0 := Aside0.mk hr0
 have HC0 := Aside0.mk hc0
 clear hr0 hc0
 have HR1 := Aside0.mk hr1
 have HC1 := Aside0.mk hc1
 clear hr1 hc1
 have H : (if (l0.length : Int) = (l1.length : Int) then (cruciblelaw0_SameFiles.l0 k l0 l1 0) else (some false)) = some r := h
 clear h
 by_cases c3 : (l0.length : Int) = (l1.length : Int)
 ·
  rw [if_pos c3] at H
  have c3b0 : ((l0.length : Int) == (l1.length : Int)) = true := beq_iff_eq.mpr c3
  have c3b1 : ((l0.length : Int) != (l1.length : Int)) = false := bne_eq_false_iff_eq.mpr c3
  have c3b2 : (l0.length == l1.length) = true := by first | simpa using c3 | (simp at c3 ⊢; omega)
  clear c3
  have H' := Aside0.mk H
  clear H
  go_enter Tryd.func46, Tryd.ntmps46
  go_wp2
  repeat (go_quiet (fail); try go_wp2)
  go_loopg [5] k (fun kq v5 w' => ∃ (x5_1 : Int), v5 = .int .i64 x5_1 ∧ Aside0 (cruciblelaw0_SameFiles.l0 kq l0 l1 x5_1 = some r) ∧ Aside0 (kq ≤ k) ∧ Drawn0 w w')
  case atStart => exact ⟨(0), (by first | rfl | (simp; done) | (simp [*]; done)), H', ⟨Nat.le_refl _⟩, by repeat (first | exact Drawn0.refl _ | apply Drawn0.step)⟩
  case round =>
   clear H'
   try clear c1
   try clear p2
   try clear c3
   try clear c3b0
   try clear c3b1
   try clear c3b2
   obtain ⟨x5_1, rfl, HA, HK1, ⟨m1, rfl⟩⟩ := hrel
   cases gk with
   | zero => exact absurd HA.out (by simp [cruciblelaw0_SameFiles.l0])
   | succ k1 =>
    have H := HA.out
    clear HA
    simp only [cruciblelaw0_SameFiles.l0] at H
    by_cases c4 : x5_1 < (l0.length : Int)
    ·
     rw [if_pos c4] at H
     have c4b0 : decide (x5_1 < (l0.length : Int)) = true := decide_eq_true c4
     clear c4
     by_cases c5 : 0 ≤ x5_1
     ·
      rw [if_pos c5] at H
      have c5b0 : decide (0 ≤ x5_1) = true := decide_eq_true c5
      clear c5
      by_cases c6 : x5_1 < (l1.length : Int)
      ·
       rw [if_pos c6] at H
       have c6b0 : decide (x5_1 < (l1.length : Int)) = true := decide_eq_true c6
       clear c6
       by_cases c7 : (!((((rd_T72 l0 x5_1).f0).toList) == (((rd_T72 l1 x5_1).f0).toList)) || (!(((rd_T72 l0 x5_1).f1) == ((rd_T72 l1 x5_1).f1)) || (!(((rd_T72 l0 x5_1).f2) == ((rd_T72 l1 x5_1).f2))))) = true
       ·
        rw [if_pos c7] at H
        have c7b0 : (!((((rd_T72 l0 x5_1).f0).toList) == (((rd_T72 l1 x5_1).f0).toList)) || (!(((rd_T72 l0 x5_1).f1) == ((rd_T72 l1 x5_1).f1)) || (!(((rd_T72 l0 x5_1).f2) == ((rd_T72 l1 x5_1).f2))))) = true := c7
        clear c7
        obtain rfl := Option.some.inj H
        have p272 : 0 ≤ (x5_1 : Int) := of_decide_eq_true (by first | (with_reducible assumption) | assumption)
        have q272 : x5_1 < (l0.length : Int) := of_decide_eq_true (by first | (with_reducible assumption) | assumption)
        obtain ⟨ad272, e272, hx272_0, hx272_1, hx272_2⟩ := at_T72 HR0.out x5_1 p272 q272
        cases e272
        replace p272 := eq_true p272
        replace q272 := eq_true q272
        have p273 : 0 ≤ (x5_1 : Int) := of_decide_eq_true (by first | (with_reducible assumption) | assumption)
        have q273 : x5_1 < (l1.length : Int) := of_decide_eq_true (by first | (with_reducible assumption) | assumption)
        obtain ⟨ad273, e273, hx273_0, hx273_1, hx273_2⟩ := at_T72 HR1.out x5_1 p273 q273
        cases e273
        replace p273 := eq_true p273
        replace q273 := eq_true q273
        go_wp2
        repeat (go_quiet (fail); try go_wp2)
        go_ret
        exact ⟨by first | rfl | (simp; done) | (simp [*]; done), by repeat (first | exact Drawn0.refl _ | apply Drawn0.step)⟩
       ·
        rw [if_neg c7] at H
        have c7b0 : (!((((rd_T72 l0 x5_1).f0).toList) == (((rd_T72 l1 x5_1).f0).toList)) || (!(((rd_T72 l0 x5_1).f1) == ((rd_T72 l1 x5_1).f1)) || (!(((rd_T72 l0 x5_1).f2) == ((rd_T72 l1 x5_1).f2))))) = false := by simpa using c7
        clear c7
        have H' := Aside0.mk H
        clear H
        have p272 : 0 ≤ (x5_1 : Int) := of_decide_eq_true (by first | (with_reducible assumption) | assumption)
        have q272 : x5_1 < (l0.length : Int) := of_decide_eq_true (by first | (with_reducible assumption) | assumption)
        obtain ⟨ad272, e272, hx272_0, hx272_1, hx272_2⟩ := at_T72 HR0.out x5_1 p272 q272
        cases e272
        replace p272 := eq_true p272
        replace q272 := eq_true q272
        have p273 : 0 ≤ (x5_1 : Int) := of_decide_eq_true (by first | (with_reducible assumption) | assumption)
        have q273 : x5_1 < (l1.length : Int) := of_decide_eq_true (by first | (with_reducible assumption) | assumption)
        obtain ⟨ad273, e273, hx273_0, hx273_1, hx273_2⟩ := at_T72 HR1.out x5_1 p273 q273
        cases e273
        replace p273 := eq_true p273
        replace q273 := eq_true q273
        go_wp2
        repeat (go_quiet (fail); try go_wp2)
        go_roundg k1
        case measure => have := HK1.out; omega
        case rel => exact ⟨(wrap64 (x5_1 + 1)), (by first | rfl | (simp; done) | (simp [*]; done)), H', ⟨by have := HK1.out; omega⟩, by repeat (first | exact Drawn0.refl _ | apply Drawn0.step)⟩
      ·
       rw [if_neg c6] at H
       exact absurd H (by simp)
     ·
      rw [if_neg c5] at H
      exact absurd H (by simp)
    ·
     rw [if_neg c4] at H
     have c4b0 : decide (x5_1 < (l0.length : Int)) = false := decide_eq_false c4
     clear c4
     obtain rfl := Option.some.inj H
     go_wp2
     repeat (go_quiet (fail); try go_wp2)
     go_ret
     exact ⟨by first | rfl | (simp; done) | (simp [*]; done), by repeat (first | exact Drawn0.refl _ | apply Drawn0.step)⟩
 ·
  rw [if_neg c3] at H
  have c3b0 : ((l0.length : Int) == (l1.length : Int)) = false := beq_eq_false_iff_ne.mpr c3
  have c3b1 : ((l0.length : Int) != (l1.length : Int)) = true := bne_iff_ne.mpr c3
  have c3b2 : (l0.length == l1.length) = false := by first | simpa using c3 | (simp at c3 ⊢; omega)
  obtain rfl := Option.some.inj H
  go_enter Tryd.func46, Tryd.ntmps46
  go_wp2
  repeat (go_quiet (fail); try go_wp2)
  go_ret
  exact ⟨by first | rfl | (simp; done) | (simp [*]; done), by repeat (first | exact Drawn0.refl _ | apply Drawn0.step)⟩

/-! ### cruciblelaw0_SameDisk: function 31 -/
def cruciblelaw0_SameDisk.f (k : Nat) (a0_0 : Int) (l0_1 : List (S72)) (a1_0 : Int) (l1_1 : List (S72)) : Option (Bool) := if a0_0 = a1_0 then ((cruciblelaw0_SameFiles.f k l0_1 l1_1).bind fun t276 => (some t276)) else (some false)
theorem cruciblelaw0_SameDisk.mono : ∀ a0 a1 a2 a3 k, LeO (cruciblelaw0_SameDisk.f k a0 a1 a2 a3) (cruciblelaw0_SameDisk.f (k + 1) a0 a1 a2 a3) := by
 intro a0 a1 a2 a3 k
 unfold cruciblelaw0_SameDisk.f
 repeat' first
   | (with_reducible exact cruciblelaw0_SameFiles.mono _ _ _)
   | (with_reducible exact LeO.refl _)
   | (with_reducible exact LeO.none _)
   | (with_reducible refine LeO.ite ?_ ?_)
   | (with_reducible refine LeO.bind ?_ (fun _ => ?_))
   | exact cruciblelaw0_SameFiles.mono _ _ _
   | exact LeO.none _
   | refine LeO.ite ?_ ?_
   | refine LeO.bind ?_ (fun _ => ?_)
set_option maxHeartbeats 8000000 in
set_option maxRecDepth 100000 in
theorem cruciblelaw0_SameDisk.calls (k : Nat) (a0_0 : Int) (A0_1 : Option Addr) (c0_1 : Nat) (l0_1 : List (S72)) (a1_0 : Int) (A1_1 : Option Addr) (c1_1 : Nat) (l1_1 : List (S72)) (r : Bool) (w : World) (hr0_1 : Kd.C k72 w A0_1 l0_1.length l0_1) (hc0_1 : l0_1.length ≤ c0_1) (hr1_1 : Kd.C k72 w A1_1 l1_1.length l1_1) (hc1_1 : l1_1.length ≤ c1_1) (h : cruciblelaw0_SameDisk.f k a0_0 l0_1 a1_0 l1_1 = some r) :
  Calls Tryd.prog 31 #[.agg #[.int .i64 a0_0, .slice A0_1 l0_1.length c0_1], .agg #[.int .i64 a1_0, .slice A1_1 l1_1.length c1_1]] w fun e w' => e = .returned (.bool r) ∧ Below w.heap.size w w' := by
 have hu28 := Tryd.underlying28
 have HR0_1 := Aside0.mk hr0_1
 have HC0_1 := Aside0.mk hc0_1
 clear hr0_1 hc0_1
 have HR1_1 := Aside0.mk hr1_1
 have HC1_1 := Aside0.mk hc1_1
 clear hr1_1 hc1_1
 have HB := Aside0.mk (Below.refl w.heap.size w)
 have H : (if a0_0 = a1_0 then ((cruciblelaw0_SameFiles.f k l0_1 l1_1).bind fun t276 => (some t276)) else (some false)) = some r := h
 clear h
 by_cases c3 : a0_0 = a1_0
 ·
  rw [if_pos c3] at H
  have c3b0 : (a0_0 == a1_0) = true := beq_iff_eq.mpr c3
  have c3b1 : (a0_0 != a1_0) = false := bne_eq_false_iff_eq.mpr c3
  clear c3
  replace H := Option.bind_eq_some_iff.mp H
  obtain ⟨t276, A40, H⟩ := H
  replace H : (some t276) = some r := H
  have A4 := Aside0.mk A40
  clear A40
  obtain rfl := Option.some.inj H
  go_enter Tryd.func31, Tryd.ntmps31
  go_wp2_with (first | ((with_reducible refine gate_dst (N := 2) rfl ?_); refine box_event ?hg (N := 2) ?hd (cs := #[.int .i64 a0_0, .slice A0_1 l0_1.length c0_1]) (t := 28) ?hr ?_; (case hd => rfl); (case hg => rfl); (case hr => first | (go_simp; done) | (go_simp; rfl)); intro gb274 hg w5 hbox hb; have n0_ := Aside0.mk (below_step (by repeat (first | (with_reducible first | exact HB.out | apply below_alloc | apply pw_below_drewN | apply below_drew1) | exact HB.out)) hb); have n1_ := Aside0.mk (hbox); have n2_ := Aside0.mk ((by rw [hg]; exact (below_size (by repeat (first | (with_reducible first | exact HB.out | apply below_alloc | apply pw_below_drewN | apply below_drew1) | exact HB.out))) : w.heap.size ≤ gb274)); have n3_ := Aside0.mk ((by rw [hg]; exact (below_size (by repeat (first | (with_reducible first | exact HB.out | apply below_alloc | apply pw_below_drewN | apply below_drew1) | exact HB.out))) : w.heap.size ≤ gb274)); clear HB; have HB := n0_; have BK274 := n1_; have GW274 := n2_; have GE274 := n3_; clear n0_ n1_ n2_ n3_; clear hb hbox hg) | ((with_reducible refine gate_dst (N := 3) rfl ?_); refine box_event ?hg (N := 3) ?hd (cs := #[.int .i64 a1_0, .slice A1_1 l1_1.length c1_1]) (t := 28) ?hr ?_; (case hd => rfl); (case hg => rfl); (case hr => first | (go_simp; done) | (go_simp; rfl)); intro gb275 hg w6 hbox hb; have n0_ := Aside0.mk (blk_below (g := gb274) (o := .cells #[.int .i64 a0_0, .slice A0_1 l0_1.length c0_1] 28 (0, 0)) (by (with_reducible repeat (first | refine blk_drewN ?_ _ | refine blk_drew ?_ | refine blk_alloc ?_ _)); exact BK274.out) hb); have n1_ := Aside0.mk (below_step (by repeat (first | (with_reducible first | exact HB.out | apply below_alloc | apply pw_below_drewN | apply below_drew1 | refine below_set ?_ GE274.out) | exact HB.out)) hb); have n2_ := Aside0.mk (hbox); have n3_ := Aside0.mk ((by rw [hg]; exact (below_size (by repeat (first | (with_reducible first | exact HB.out | apply below_alloc | apply pw_below_drewN | apply below_drew1 | refine below_set ?_ GE274.out) | exact HB.out))) : w.heap.size ≤ gb275)); have n4_ := Aside0.mk ((by rw [hg]; exact (below_size (by repeat (first | (with_reducible first | exact HB.out | apply below_alloc | apply pw_below_drewN | apply below_drew1 | refine below_set ?_ GE274.out) | exact HB.out))) : w.heap.size ≤ gb275)); have n5_ := Aside0.mk ((by rw [hg]; exact Nat.ne_of_lt (blk_lt (g := gb274) (o := .cells #[.int .i64 a0_0, .slice A0_1 l0_1.length c0_1] 28 (0, 0)) (by (with_reducible repeat (first | refine blk_drewN ?_ _ | refine blk_drew ?_ | refine blk_alloc ?_ _)); exact BK274.out)) : gb274 ≠ gb275)); have n6_ := Aside0.mk ((by rw [hg]; exact Nat.ne_of_gt (blk_lt (g := gb274) (o := .cells #[.int .i64 a0_0, .slice A0_1 l0_1.length c0_1] 28 (0, 0)) (by (with_reducible repeat (first | refine blk_drewN ?_ _ | refine blk_drew ?_ | refine blk_alloc ?_ _)); exact BK274.out)) : gb275 ≠ gb274)); clear BK274; clear HB; have BK274 := n0_; have HB := n1_; have BK275 := n2_; have GW275 := n3_; have GE275 := n4_; have NB274_275 := n5_; have NB275_274 := n6_; clear n0_ n1_ n2_ n3_ n4_ n5_ n6_; clear hb hbox hg; have hnb7 := NB274_275.out; have hnc7 := NB275_274.out; have hcz8_0 : w6.cell? ⟨gb274, 0, none⟩ = some (.int .i64 a0_0) := (blk_cell BK274.out 0).trans rfl; have hcz8_1 : w6.cell? ⟨gb274, 1, none⟩ = some (.slice A0_1 l0_1.length c0_1) := (blk_cell BK274.out 1).trans rfl; have hfz8_0 := blk_frozen BK274.out 0; have hfz8_1 := blk_frozen BK274.out 1; have hcz9_0 : w6.cell? ⟨gb275, 0, none⟩ = some (.int .i64 a1_0) := (blk_cell BK275.out 0).trans rfl; have hcz9_1 : w6.cell? ⟨gb275, 1, none⟩ = some (.slice A1_1 l1_1.length c1_1) := (blk_cell BK275.out 1).trans rfl; have hfz9_0 := blk_frozen BK275.out 0; have hfz9_1 := blk_frozen BK275.out 1) | (go_at_call 46; (with_reducible refine (cruciblelaw0_SameFiles.calls k _ _ l0_1 _ _ l1_1 t276 _ ?side1 ?side2 ?side3 ?side4 A4.out).mono ?_); (case side1 => repeat (first | exact (Kd.C_below HR0_1.out HB.out) | (with_reducible refine Kd.C_alloc ?_ _) | (with_reducible refine Kd.C_drewN ?_ _) | (with_reducible refine Kd.C_drew ?_))); (case side2 => exact HC0_1.out); (case side3 => repeat (first | exact (Kd.C_below HR1_1.out HB.out) | (with_reducible refine Kd.C_alloc ?_ _) | (with_reducible refine Kd.C_drewN ?_ _) | (with_reducible refine Kd.C_drew ?_))); (case side4 => exact HC1_1.out); rintro e w' ⟨rfl, ⟨nd, rfl⟩⟩))
  go_ret
  exact ⟨by first | rfl | (simp [errW_none, errW_some] <;> rfl) | (simp [*, errW_none, errW_some] <;> rfl), by repeat (first | (with_reducible first | exact HB.out | apply below_alloc | apply pw_below_drewN | apply below_drew1 | refine below_set ?_ GE274.out | refine below_set ?_ GE275.out) | exact HB.out)⟩
 ·
  rw [if_neg c3] at H
  have c3b0 : (a0_0 == a1_0) = false := beq_eq_false_iff_ne.mpr c3
  have c3b1 : (a0_0 != a1_0) = true := bne_iff_ne.mpr c3
  obtain rfl := Option.some.inj H
  go_enter Tryd.func31, Tryd.ntmps31
  go_wp2_with (first | ((with_reducible refine gate_dst (N := 2) rfl ?_); refine box_event ?hg (N := 2) ?hd (cs := #[.int .i64 a0_0, .slice A0_1 l0_1.length c0_1]) (t := 28) ?hr ?_; (case hd => rfl); (case hg => rfl); (case hr => first | (go_simp; done) | (go_simp; rfl)); intro gb274 hg w10 hbox hb; have n0_ := Aside0.mk (below_step (by repeat (first | (with_reducible first | exact HB.out | apply below_alloc | apply pw_below_drewN | apply below_drew1) | exact HB.out)) hb); have n1_ := Aside0.mk (hbox); have n2_ := Aside0.mk ((by rw [hg]; exact (below_size (by repeat (first | (with_reducible first | exact HB.out | apply below_alloc | apply pw_below_drewN | apply below_drew1) | exact HB.out))) : w.heap.size ≤ gb274)); have n3_ := Aside0.mk ((by rw [hg]; exact (below_size (by repeat (first | (with_reducible first | exact HB.out | apply below_alloc | apply pw_below_drewN | apply below_drew1) | exact HB.out))) : w.heap.size ≤ gb274)); clear HB; have HB := n0_; have BK274 := n1_; have GW274 := n2_; have GE274 := n3_; clear n0_ n1_ n2_ n3_; clear hb hbox hg) | ((with_reducible refine gate_dst (N := 3) rfl ?_); refine box_event ?hg (N := 3) ?hd (cs := #[.int .i64 a1_0, .slice A1_1 l1_1.length c1_1]) (t := 28) ?hr ?_; (case hd => rfl); (case hg => rfl); (case hr => first | (go_simp; done) | (go_simp; rfl)); intro gb275 hg w11 hbox hb; have n0_ := Aside0.mk (blk_below (g := gb274) (o := .cells #[.int .i64 a0_0, .slice A0_1 l0_1.length c0_1] 28 (0, 0)) (by (with_reducible repeat (first | refine blk_drewN ?_ _ | refine blk_drew ?_ | refine blk_alloc ?_ _)); exact BK274.out) hb); have n1_ := Aside0.mk (below_step (by repeat (first | (with_reducible first | exact HB.out | apply below_alloc | apply pw_below_drewN | apply below_drew1 | refine below_set ?_ GE274.out) | exact HB.out)) hb); have n2_ := Aside0.mk (hbox); have n3_ := Aside0.mk ((by rw [hg]; exact (below_size (by repeat (first | (with_reducible first | exact HB.out | apply below_alloc | apply pw_below_drewN | apply below_drew1 | refine below_set ?_ GE274.out) | exact HB.out))) : w.heap.size ≤ gb275)); have n4_ := Aside0.mk ((by rw [hg]; exact (below_size (by repeat (first | (with_reducible first | exact HB.out | apply below_alloc | apply pw_below_drewN | apply below_drew1 | refine below_set ?_ GE274.out) | exact HB.out))) : w.heap.size ≤ gb275)); have n5_ := Aside0.mk ((by rw [hg]; exact Nat.ne_of_lt (blk_lt (g := gb274) (o := .cells #[.int .i64 a0_0, .slice A0_1 l0_1.length c0_1] 28 (0, 0)) (by (with_reducible repeat (first | refine blk_drewN ?_ _ | refine blk_drew ?_ | refine blk_alloc ?_ _)); exact BK274.out)) : gb274 ≠ gb275)); have n6_ := Aside0.mk ((by rw [hg]; exact Nat.ne_of_gt (blk_lt (g := gb274) (o := .cells #[.int .i64 a0_0, .slice A0_1 l0_1.length c0_1] 28 (0, 0)) (by (with_reducible repeat (first | refine blk_drewN ?_ _ | refine blk_drew ?_ | refine blk_alloc ?_ _)); exact BK274.out)) : gb275 ≠ gb274)); clear BK274; clear HB; have BK274 := n0_; have HB := n1_; have BK275 := n2_; have GW275 := n3_; have GE275 := n4_; have NB274_275 := n5_; have NB275_274 := n6_; clear n0_ n1_ n2_ n3_ n4_ n5_ n6_; clear hb hbox hg; have hnb12 := NB274_275.out; have hnc12 := NB275_274.out; have hcz13_0 : w11.cell? ⟨gb274, 0, none⟩ = some (.int .i64 a0_0) := (blk_cell BK274.out 0).trans rfl; have hcz13_1 : w11.cell? ⟨gb274, 1, none⟩ = some (.slice A0_1 l0_1.length c0_1) := (blk_cell BK274.out 1).trans rfl; have hfz13_0 := blk_frozen BK274.out 0; have hfz13_1 := blk_frozen BK274.out 1; have hcz14_0 : w11.cell? ⟨gb275, 0, none⟩ = some (.int .i64 a1_0) := (blk_cell BK275.out 0).trans rfl; have hcz14_1 : w11.cell? ⟨gb275, 1, none⟩ = some (.slice A1_1 l1_1.length c1_1) := (blk_cell BK275.out 1).trans rfl; have hfz14_0 := blk_frozen BK275.out 0; have hfz14_1 := blk_frozen BK275.out 1))
  go_ret
  exact ⟨by first | rfl | (simp [errW_none, errW_some] <;> rfl) | (simp [*, errW_none, errW_some] <;> rfl), by repeat (first | (with_reducible first | exact HB.out | apply below_alloc | apply pw_below_drewN | apply below_drew1 | refine below_set ?_ GE274.out | refine below_set ?_ GE275.out) | exact HB.out)⟩

end Go.Proofs.YtilnamobmjngbaaDoor.P
