-- Made by a program of this work's own (wip/myprint.py) over the kit's print; leaves by hand.
import Derived.Test.YtilnamobmjngbaaDoorP0
import Derived.Test.YtilnamobmjngbaaDoorWRepsOne
import Derived.Test.YtilnamobmjngbaaDoorP1
import Derived.Test.YtilnamobmjngbaaDoorP2
import Derived.Test.YtilnamobmjngbaaDoorP7
import Derived.Test.YtilnamobmjngbaaDoorP8
import Derived.Test.YtilnamobmjngbaaDoorP12
import Derived.Test.YtilnamobmjngbaaDoorP15
import Derived.Test.YtilnamobmjngbaaDoorP17
import Derived.Test.YtilnamobmjngbaaDoorP18
import Derived.Test.YtilnamobmjngbaaDoorP20
import Derived.Test.YtilnamobmjngbaaDoorP21
import Derived.Test.YtilnamobmjngbaaDoorP22
import Derived.BigQuiet
import Derived.Test.YtilnamobmjngbaaDoorPlain
namespace Go.Proofs.YtilnamobmjngbaaDoor.P
open Go.RowKit Go.Proofs.YtilnamobmjngbaaDoorW.PrintWords Go.Proofs.YtilnamobmjngbaaDoorW.PrintLast Go.Proofs.YtilnamobmjngbaaDoorW.PrintMore
attribute [local go_sem] max2_int min2_int max_two min_two max_three min_three max_four min_four   -- for this text's walks alone
set_option linter.unusedVariables false
set_option linter.unusedSimpArgs false

-- HANDBIG Disks.lean
-- IMPORT Derived.Test.YtilnamobmjngbaaDoorPlain
-- IMPORT Derived.BigQuiet
attribute [local go_sem high] eqA72
/-! ### cruciblelaw12_Disks, by hand -/
open Classical in
noncomputable def cruciblelaw12_Disks.f (k : Nat) (t : Int) (l : List (S72)) (s : ByteArray) (x : Int) : Option Bool :=
  (disk_Put.f k t l s x).bind fun a => (disk_Remove.f k t l s).bind fun c => (disk_Find.f k t l s).bind fun y => (disk_May.f k t l).bind fun m => (cruciblelaw0_SpoilFiles.f k a.2.1).bind fun sa => (cruciblelaw0_SpoilFiles.f k c.2.1).bind fun sc =>
  if (crucibleref12_PutFile.f k t l s x = some a ∧ crucibleref12_RemoveFile.f k t l s = some c ∧ crucibleref12_Find.f k t l s = some y ∧ crucibleref12_DiskMay.f k t l = some m) ∧
    (cruciblelaw0_SameDisk.f k a.1 a.2.1 a.1 a.2.1 = some true ∧ cruciblelaw0_SameDisk.f k c.1 c.2.1 c.1 c.2.1 = some true ∧ cruciblelaw0_SameDisk.f k t l t l = some true ∧ l.length ≤ 1000000) then some true else none
theorem cruciblelaw12_Disks.mono : ∀ a0 a1 a2 a3 k, LeO (cruciblelaw12_Disks.f k a0 a1 a2 a3) (cruciblelaw12_Disks.f (k + 1) a0 a1 a2 a3) := by
  intro t l s x k r h
  unfold cruciblelaw12_Disks.f at h ⊢
  obtain ⟨a, ha, h⟩ := Option.bind_eq_some_iff.1 h
  obtain ⟨c, hc, h⟩ := Option.bind_eq_some_iff.1 h
  obtain ⟨y, hy, h⟩ := Option.bind_eq_some_iff.1 h
  obtain ⟨m, hm, h⟩ := Option.bind_eq_some_iff.1 h
  obtain ⟨sa, hsa, h⟩ := Option.bind_eq_some_iff.1 h
  obtain ⟨sc, hsc, h⟩ := Option.bind_eq_some_iff.1 h
  split at h
  case isFalse => cases h
  rename_i hq
  obtain ⟨⟨q1, q2, q3, q4⟩, q5, q6, q7, q8⟩ := hq
  rw [disk_Put.mono _ _ _ _ k _ ha, Option.bind_some, disk_Remove.mono _ _ _ k _ hc, Option.bind_some, disk_Find.mono _ _ _ k _ hy, Option.bind_some, disk_May.mono _ _ k _ hm, Option.bind_some, cruciblelaw0_SpoilFiles.mono _ k _ hsa, Option.bind_some, cruciblelaw0_SpoilFiles.mono _ k _ hsc, Option.bind_some,
    if_pos ⟨⟨crucibleref12_PutFile.mono _ _ _ _ k _ q1, crucibleref12_RemoveFile.mono _ _ _ k _ q2, crucibleref12_Find.mono _ _ _ k _ q3, crucibleref12_DiskMay.mono _ _ k _ q4⟩, cruciblelaw0_SameDisk.mono _ _ _ _ k _ q5, cruciblelaw0_SameDisk.mono _ _ _ _ k _ q6, cruciblelaw0_SameDisk.mono _ _ _ _ k _ q7, q8⟩]
  exact h
abbrev dsF (a : ByteArray) (c t : Int) : Obj := .cells #[.string a, .int .i64 c, .int .i64 t] 72
/-- the boxes of the law, as they stand while the answers are held against one another -/
structure DsC (W7 : World) (bd bx ba bb bc bp bY bz : Nat) (vd vx va vb vc vp : Value) (t ta tc : Int) (yn : ByteArray) (yc yt : Int) (W : World) : Prop where
  d0 : W.cell? ⟨bd, 0, none⟩ = some (.int .i64 t)
  d1 : W.cell? ⟨bd, 1, none⟩ = some vd
  x0 : W.cell? ⟨bx, 0, none⟩ = some (.int .i64 t)
  x1 : W.cell? ⟨bx, 1, none⟩ = some vx
  a0 : W.cell? ⟨ba, 0, none⟩ = some (.int .i64 ta)
  a1 : W.cell? ⟨ba, 1, none⟩ = some va
  b0 : W.cell? ⟨bb, 0, none⟩ = some (.int .i64 ta)
  b1 : W.cell? ⟨bb, 1, none⟩ = some vb
  c0 : W.cell? ⟨bc, 0, none⟩ = some (.int .i64 tc)
  c1 : W.cell? ⟨bc, 1, none⟩ = some vc
  p0 : W.cell? ⟨bp, 0, none⟩ = some (.int .i64 tc)
  p1 : W.cell? ⟨bp, 1, none⟩ = some vp
  y0 : W.cell? ⟨bY, 0, none⟩ = some (.string yn)
  y1 : W.cell? ⟨bY, 1, none⟩ = some (.int .i64 yc)
  y2 : W.cell? ⟨bY, 2, none⟩ = some (.int .i64 yt)
  z0 : W.cell? ⟨bz, 0, none⟩ = some (.string yn)
  z1 : W.cell? ⟨bz, 1, none⟩ = some (.int .i64 yc)
  z2 : W.cell? ⟨bz, 2, none⟩ = some (.int .i64 yt)
  low : Below W7.heap.size W7 W
theorem ds_kept {w W : World} {S : Nat → Prop} {b : Nat} {t : Int} {v : Value} (hb : w.heap[b]? = some (drD t v)) (hk : Kept w W S) (hn : ¬ S b) : W.heap[b]? = some (drD t v) := (hk.2 b (blk_lt hb) hn).trans hb
set_option maxHeartbeats 8000000 in
set_option maxRecDepth 100000 in
theorem cruciblelaw12_Disks.calls (k : Nat) (a0_0 : Int) (A0_1 : Option Addr) (c0_1 : Nat) (l0_1 : List (S72)) (a1 : ByteArray) (a2 : Int) (r : Bool) (w : World) (hr0_1 : Kd.C k72 w A0_1 l0_1.length l0_1) (hc0_1 : l0_1.length ≤ c0_1) (h : cruciblelaw12_Disks.f k a0_0 l0_1 a1 a2 = some r) :
    Calls Tryd.prog 9 #[.agg #[.int .i64 a0_0, .slice A0_1 l0_1.length c0_1], .string a1, .int .i64 a2] w fun e w' => e = .returned (.bool r) ∧ Below w.heap.size w w' := by
  have hu := Tryd.underlying72
  have hu2 := Tryd.underlying28
  unfold cruciblelaw12_Disks.f at h
  obtain ⟨⟨ta, la, ea⟩, ha, h⟩ := Option.bind_eq_some_iff.1 h
  obtain ⟨⟨tc, lc, ec⟩, hc, h⟩ := Option.bind_eq_some_iff.1 h
  obtain ⟨⟨yn, yc, yt, yb⟩, hy, h⟩ := Option.bind_eq_some_iff.1 h
  obtain ⟨m, hm, h⟩ := Option.bind_eq_some_iff.1 h
  obtain ⟨sa, hsa, h⟩ := Option.bind_eq_some_iff.1 h
  obtain ⟨sc, hsc, h⟩ := Option.bind_eq_some_iff.1 h
  split at h
  case isFalse => cases h
  rename_i hq
  obtain rfl : true = r := Option.some.inj h
  obtain ⟨⟨q1, q2, q3, q4⟩, q5, q6, q7, q8⟩ := hq
  simp only [] at ha hc hy hm hsa hsc q1 q2 q3 q4 q5 q6
  have HA := Aside0.mk ha; have HC := Aside0.mk hc; have HY := Aside0.mk hy; have HM := Aside0.mk hm; have HSA := Aside0.mk hsa; have HSC := Aside0.mk hsc
  have Q1 := Aside0.mk q1; have Q2 := Aside0.mk q2; have Q3 := Aside0.mk q3; have Q4 := Aside0.mk q4; have Q5 := Aside0.mk q5; have Q6 := Aside0.mk q6; have Q7 := Aside0.mk q7; have Q8 := Aside0.mk q8
  obtain ⟨W0, hW0⟩ : ∃ W, W = w.alloc (drD a0_0 (.slice A0_1 l0_1.length c0_1)) := ⟨_, rfl⟩
  have D0 : Aside0 (DkAt W0 w.heap.size a0_0 A0_1 c0_1 l0_1) := ⟨by rw [hW0]; exact ⟨heap_alloc_new w _, Kd.C_below hr0_1 (below_alloc (Below.refl _ _) _), hc0_1⟩⟩
  have E0 : Aside0 (Below w.heap.size w W0) := ⟨by rw [hW0]; exact below_alloc (Below.refl _ _) _⟩
  have HW0 := Aside0.mk hW0
  clear ha hc hy hm hsa hsc q1 q2 q3 q4 q5 q6 q7 q8 h hW0 hr0_1 hc0_1
  go_enter Tryd.func9, Tryd.ntmps9
  go_upto_region 1 with fail
  rw [← HW0.out]
  obtain ⟨x0, x1⟩ := dr_cells D0.out.box
  have c1 := cruciblelaw0_CopyDisk.calls a0_0 A0_1 c0_1 l0_1 a0_0 l0_1 W0 D0.out.row D0.out.cap (by unfold cruciblelaw0_CopyDisk.f; rw [Option.bind_some, if_pos (by have := Q8.out; simp; omega)]; rfl)
  go_wp2_with fail
  refine c1.mono ?_
  clear c1 x0 x1
  rintro e w1 ⟨v1, rfl, hR1, B1⟩
  obtain ⟨A1, k1, rfl⟩ := Kd.R_slice hR1
  obtain ⟨W1, hW1⟩ : ∃ W, W = w1.alloc (drD a0_0 (.slice A1 l0_1.length k1)) := ⟨_, rfl⟩
  have D1 : Aside0 (DkAt W1 w1.heap.size a0_0 A1 k1 l0_1) := ⟨by rw [hW1]; exact dk_new a0_0 hR1⟩
  have N1 : Below W0.heap.size W0 W1 := by rw [hW1]; exact B1.alloc B1.size _
  have HW1 := Aside0.mk hW1
  clear hR1 B1 hW1
  have E1 := Aside0.mk (below_then E0.out E0.out.size N1)
  replace D0 := Aside0.mk (D0.out.below N1)
  have D0a := Aside0.mk D0.out
  have D1a := Aside0.mk D1.out
  have M1 := Aside0.mk N1
  clear N1
  go_upto_region 2 with fail
  rw [← HW1.out]
  obtain ⟨x0, x1⟩ := dr_cells D1.out.box
  have c2 := disk_Put.calls k a0_0 A1 k1 l0_1 a1 a2 _ _ _ W1 D1.out.row D1.out.cap HA.out
  go_wp2_with fail
  refine c2.mono ?_
  clear c2 x0 x1
  rintro e w2 ⟨v2, rfl, hR2, B2⟩
  obtain ⟨A2, k2, rfl⟩ := Kd.R_slice hR2
  obtain ⟨W2, hW2⟩ : ∃ W, W = w2.alloc (drD ta (.slice A2 la.length k2)) := ⟨_, rfl⟩
  have D2 : Aside0 (DkAt W2 w2.heap.size ta A2 k2 la) := ⟨by rw [hW2]; exact dk_new ta hR2⟩
  have N2 : Below W1.heap.size W1 W2 := by rw [hW2]; exact B2.alloc B2.size _
  have HW2 := Aside0.mk hW2
  have P2 : Aside0 (Kd.R k72 72 W2 W1.heap.size (fun g => W1.heap.size ≤ g ∧ g < w2.heap.size) (.slice A2 la.length k2) la) := ⟨by rw [hW2]; exact Kd.R_alloc (Kd.R_mono (Kd.R_bound hR2) (fun g hg => ⟨hg.2.1, hg.2.2.1⟩)) _⟩
  have Z2 : Aside0 (w2.heap.size < W2.heap.size ∧ W1.heap.size ≤ w2.heap.size) := ⟨⟨blk_lt D2.out.box, B2.size⟩⟩
  clear hR2 B2 hW2
  have E2 := Aside0.mk (below_then E1.out E1.out.size N2)
  replace D0 := Aside0.mk (D0.out.below N2)
  replace D1 := Aside0.mk (D1.out.below N2)
  have M2 := Aside0.mk N2
  clear N2
  go_upto_region 3 with fail
  rw [← HW2.out]
  obtain ⟨x0, x1⟩ := dr_cells D0.out.box
  have c3 := crucibleref12_PutFile.calls k a0_0 A0_1 c0_1 l0_1 a1 a2 _ _ _ W2 D0.out.row D0.out.cap Q1.out
  go_wp2_with fail
  refine c3.mono ?_
  clear c3 x0 x1
  rintro e w3 ⟨v3, rfl, hR3, B3⟩
  obtain ⟨A3, k3, rfl⟩ := Kd.R_slice hR3
  obtain ⟨W3, hW3⟩ : ∃ W, W = w3.alloc (drD ta (.slice A3 la.length k3)) := ⟨_, rfl⟩
  have D3 : Aside0 (DkAt W3 w3.heap.size ta A3 k3 la) := ⟨by rw [hW3]; exact dk_new ta hR3⟩
  have N3 : Below W2.heap.size W2 W3 := by rw [hW3]; exact B3.alloc B3.size _
  have HW3 := Aside0.mk hW3
  clear hR3 B3 hW3
  have E3 := Aside0.mk (below_then E2.out E2.out.size N3)
  replace D0 := Aside0.mk (D0.out.below N3)
  replace D1 := Aside0.mk (D1.out.below N3)
  replace D2 := Aside0.mk (D2.out.below N3)
  replace P2 := Aside0.mk (Kd.R_below P2.out N3)
  have M3 := Aside0.mk N3
  clear N3
  go_upto_region 4 with fail
  rw [← HW3.out]
  obtain ⟨x0, x1⟩ := dr_cells D1.out.box
  have c4 := disk_Remove.calls k a0_0 A1 k1 l0_1 a1 _ _ _ W3 D1.out.row D1.out.cap HC.out
  go_wp2_with fail
  refine c4.mono ?_
  clear c4 x0 x1
  rintro e w4 ⟨v4, rfl, hR4, B4⟩
  obtain ⟨A4, k4, rfl⟩ := Kd.R_slice hR4
  obtain ⟨W4, hW4⟩ : ∃ W, W = w4.alloc (drD tc (.slice A4 lc.length k4)) := ⟨_, rfl⟩
  have D4 : Aside0 (DkAt W4 w4.heap.size tc A4 k4 lc) := ⟨by rw [hW4]; exact dk_new tc hR4⟩
  have N4 : Below W3.heap.size W3 W4 := by rw [hW4]; exact B4.alloc B4.size _
  have HW4 := Aside0.mk hW4
  have P4 : Aside0 (Kd.R k72 72 W4 W3.heap.size (fun g => W3.heap.size ≤ g ∧ g < w4.heap.size) (.slice A4 lc.length k4) lc) := ⟨by rw [hW4]; exact Kd.R_alloc (Kd.R_mono (Kd.R_bound hR4) (fun g hg => ⟨hg.2.1, hg.2.2.1⟩)) _⟩
  have Z4 : Aside0 (w4.heap.size < W4.heap.size ∧ W3.heap.size ≤ w4.heap.size) := ⟨⟨blk_lt D4.out.box, B4.size⟩⟩
  clear hR4 B4 hW4
  have E4 := Aside0.mk (below_then E3.out E3.out.size N4)
  replace D0 := Aside0.mk (D0.out.below N4)
  replace D1 := Aside0.mk (D1.out.below N4)
  replace D2 := Aside0.mk (D2.out.below N4)
  replace D3 := Aside0.mk (D3.out.below N4)
  replace P2 := Aside0.mk (Kd.R_below P2.out N4)
  have M4 := Aside0.mk N4
  clear N4
  go_upto_region 5 with fail
  rw [← HW4.out]
  obtain ⟨x0, x1⟩ := dr_cells D0.out.box
  have c5 := crucibleref12_RemoveFile.calls k a0_0 A0_1 c0_1 l0_1 a1 _ _ _ W4 D0.out.row D0.out.cap Q2.out
  go_wp2_with fail
  refine c5.mono ?_
  clear c5 x0 x1
  rintro e w5 ⟨v5, rfl, hR5, B5⟩
  obtain ⟨A5, k5, rfl⟩ := Kd.R_slice hR5
  obtain ⟨W5, hW5⟩ : ∃ W, W = w5.alloc (drD tc (.slice A5 lc.length k5)) := ⟨_, rfl⟩
  have D5 : Aside0 (DkAt W5 w5.heap.size tc A5 k5 lc) := ⟨by rw [hW5]; exact dk_new tc hR5⟩
  have N5 : Below W4.heap.size W4 W5 := by rw [hW5]; exact B5.alloc B5.size _
  have HW5 := Aside0.mk hW5
  clear hR5 B5 hW5
  have E5 := Aside0.mk (below_then E4.out E4.out.size N5)
  replace D0 := Aside0.mk (D0.out.below N5)
  replace D1 := Aside0.mk (D1.out.below N5)
  replace D2 := Aside0.mk (D2.out.below N5)
  replace D3 := Aside0.mk (D3.out.below N5)
  replace D4 := Aside0.mk (D4.out.below N5)
  replace P2 := Aside0.mk (Kd.R_below P2.out N5)
  replace P4 := Aside0.mk (Kd.R_below P4.out N5)
  have M5 := Aside0.mk N5
  clear N5
  go_upto_region 6 with fail
  rw [← HW5.out]
  obtain ⟨x0, x1⟩ := dr_cells D1.out.box
  have c6 := disk_Find.calls k a0_0 A1 k1 l0_1 a1 _ _ _ _ W5 D1.out.row D1.out.cap HY.out
  go_wp2_with fail
  refine c6.mono ?_
  clear c6 x0 x1
  rintro e w6 ⟨rfl, B6⟩
  obtain ⟨W6, hW6⟩ : ∃ W, W = w6.alloc (dsF yn yc yt) := ⟨_, rfl⟩
  have F6 : Aside0 (W6.heap[w6.heap.size]? = some (dsF yn yc yt)) := ⟨by rw [hW6]; exact heap_alloc_new w6 _⟩
  have N6 : Below W5.heap.size W5 W6 := by rw [hW6]; exact B6.alloc B6.size _
  have HW6 := Aside0.mk hW6
  clear B6 hW6
  have E6 := Aside0.mk (below_then E5.out E5.out.size N6)
  replace D0 := Aside0.mk (D0.out.below N6)
  replace D1 := Aside0.mk (D1.out.below N6)
  replace D2 := Aside0.mk (D2.out.below N6)
  replace D3 := Aside0.mk (D3.out.below N6)
  replace D4 := Aside0.mk (D4.out.below N6)
  replace D5 := Aside0.mk (D5.out.below N6)
  replace P2 := Aside0.mk (Kd.R_below P2.out N6)
  replace P4 := Aside0.mk (Kd.R_below P4.out N6)
  have M6 := Aside0.mk N6
  clear N6
  go_upto_region 7 with fail
  rw [← HW6.out]
  obtain ⟨x0, x1⟩ := dr_cells D0.out.box
  have c7 := crucibleref12_Find.calls k a0_0 A0_1 c0_1 l0_1 a1 _ _ _ _ W6 D0.out.row D0.out.cap Q3.out
  go_wp2_with fail
  refine c7.mono ?_
  clear c7 x0 x1
  rintro e w7 ⟨rfl, B7⟩
  obtain ⟨W7, hW7⟩ : ∃ W, W = w7.alloc (dsF yn yc yt) := ⟨_, rfl⟩
  have F7 : Aside0 (W7.heap[w7.heap.size]? = some (dsF yn yc yt)) := ⟨by rw [hW7]; exact heap_alloc_new w7 _⟩
  have N7 : Below W6.heap.size W6 W7 := by rw [hW7]; exact B7.alloc B7.size _
  have HW7 := Aside0.mk hW7
  clear B7 hW7
  have E7 := Aside0.mk (below_then E6.out E6.out.size N7)
  replace D0 := Aside0.mk (D0.out.below N7)
  replace D1 := Aside0.mk (D1.out.below N7)
  replace D2 := Aside0.mk (D2.out.below N7)
  replace D3 := Aside0.mk (D3.out.below N7)
  replace D4 := Aside0.mk (D4.out.below N7)
  replace D5 := Aside0.mk (D5.out.below N7)
  replace P2 := Aside0.mk (Kd.R_below P2.out N7)
  replace P4 := Aside0.mk (Kd.R_below P4.out N7)
  replace F6 := Aside0.mk ((N7.block _ (blk_lt F6.out)).trans F6.out)
  have M7 := Aside0.mk N7
  clear N7
  go_upto_region 8 with fail
  rw [← HW7.out]
  have toS : ∀ W, Below W7.heap.size W7 W → DsC W7 w.heap.size w1.heap.size w2.heap.size w3.heap.size w4.heap.size w5.heap.size w6.heap.size w7.heap.size (.slice A0_1 l0_1.length c0_1) (.slice A1 l0_1.length k1) (.slice A2 la.length k2) (.slice A3 la.length k3) (.slice A4 lc.length k4) (.slice A5 lc.length k5) a0_0 ta tc yn yc yt W := fun W hB => by
    obtain ⟨d0, d1⟩ := dr_cells (D0.out.below hB).box
    obtain ⟨x0, x1⟩ := dr_cells (D1.out.below hB).box
    obtain ⟨a0, a1⟩ := dr_cells (D2.out.below hB).box
    obtain ⟨b0, b1⟩ := dr_cells (D3.out.below hB).box
    obtain ⟨c0, c1⟩ := dr_cells (D4.out.below hB).box
    obtain ⟨p0, p1⟩ := dr_cells (D5.out.below hB).box
    have fy := (hB.block _ (blk_lt F6.out)).trans F6.out
    have fz := (hB.block _ (blk_lt F7.out)).trans F7.out
    exact ⟨d0, d1, x0, x1, a0, a1, b0, b1, c0, c1, p0, p1, by rw [blk_cell fy]; rfl, by rw [blk_cell fy]; rfl, by rw [blk_cell fy]; rfl, by rw [blk_cell fz]; rfl, by rw [blk_cell fz]; rfl, by rw [blk_cell fz]; rfl, hB⟩
  have cAB : ∀ W, DsC W7 w.heap.size w1.heap.size w2.heap.size w3.heap.size w4.heap.size w5.heap.size w6.heap.size w7.heap.size (.slice A0_1 l0_1.length c0_1) (.slice A1 l0_1.length k1) (.slice A2 la.length k2) (.slice A3 la.length k3) (.slice A4 lc.length k4) (.slice A5 lc.length k5) a0_0 ta tc yn yc yt W → Calls Tryd.prog 31 #[.agg #[.int .i64 ta, .slice A2 la.length k2], .agg #[.int .i64 ta, .slice A3 la.length k3]] W fun e w' => e = .returned (.bool true) ∧ DsC W7 w.heap.size w1.heap.size w2.heap.size w3.heap.size w4.heap.size w5.heap.size w6.heap.size w7.heap.size (.slice A0_1 l0_1.length c0_1) (.slice A1 l0_1.length k1) (.slice A2 la.length k2) (.slice A3 la.length k3) (.slice A4 lc.length k4) (.slice A5 lc.length k5) a0_0 ta tc yn yc yt w' := fun W hS => (cruciblelaw0_SameDisk.calls k ta A2 k2 la ta A3 k3 la true W (Kd.C_below D2.out.row hS.low) D2.out.cap (Kd.C_below D3.out.row hS.low) D3.out.cap Q5.out).mono fun e w' ⟨he, hb⟩ => ⟨he, toS _ (below_then hS.low hS.low.size hb)⟩
  have cCP : ∀ W, DsC W7 w.heap.size w1.heap.size w2.heap.size w3.heap.size w4.heap.size w5.heap.size w6.heap.size w7.heap.size (.slice A0_1 l0_1.length c0_1) (.slice A1 l0_1.length k1) (.slice A2 la.length k2) (.slice A3 la.length k3) (.slice A4 lc.length k4) (.slice A5 lc.length k5) a0_0 ta tc yn yc yt W → Calls Tryd.prog 31 #[.agg #[.int .i64 tc, .slice A4 lc.length k4], .agg #[.int .i64 tc, .slice A5 lc.length k5]] W fun e w' => e = .returned (.bool true) ∧ DsC W7 w.heap.size w1.heap.size w2.heap.size w3.heap.size w4.heap.size w5.heap.size w6.heap.size w7.heap.size (.slice A0_1 l0_1.length c0_1) (.slice A1 l0_1.length k1) (.slice A2 la.length k2) (.slice A3 la.length k3) (.slice A4 lc.length k4) (.slice A5 lc.length k5) a0_0 ta tc yn yc yt w' := fun W hS => (cruciblelaw0_SameDisk.calls k tc A4 k4 lc tc A5 k5 lc true W (Kd.C_below D4.out.row hS.low) D4.out.cap (Kd.C_below D5.out.row hS.low) D5.out.cap Q6.out).mono fun e w' ⟨he, hb⟩ => ⟨he, toS _ (below_then hS.low hS.low.size hb)⟩
  have cN : ∀ (n : Int) W, DsC W7 w.heap.size w1.heap.size w2.heap.size w3.heap.size w4.heap.size w5.heap.size w6.heap.size w7.heap.size (.slice A0_1 l0_1.length c0_1) (.slice A1 l0_1.length k1) (.slice A2 la.length k2) (.slice A3 la.length k3) (.slice A4 lc.length k4) (.slice A5 lc.length k5) a0_0 ta tc yn yc yt W → Calls Tryd.prog 25 #[.int .i64 n] W fun e w' => e = .returned (.int .i64 n) ∧ DsC W7 w.heap.size w1.heap.size w2.heap.size w3.heap.size w4.heap.size w5.heap.size w6.heap.size w7.heap.size (.slice A0_1 l0_1.length c0_1) (.slice A1 l0_1.length k1) (.slice A2 la.length k2) (.slice A3 la.length k3) (.slice A4 lc.length k4) (.slice A5 lc.length k5) a0_0 ta tc yn yc yt w' := fun n W hS => (cruciblelaw0_Num.calls n n W rfl).mono fun e w' ⟨he, hd⟩ => ⟨he, toS _ (below_then hS.low hS.low.size hd.below)⟩
  have cMx : ∀ W, DsC W7 w.heap.size w1.heap.size w2.heap.size w3.heap.size w4.heap.size w5.heap.size w6.heap.size w7.heap.size (.slice A0_1 l0_1.length c0_1) (.slice A1 l0_1.length k1) (.slice A2 la.length k2) (.slice A3 la.length k3) (.slice A4 lc.length k4) (.slice A5 lc.length k5) a0_0 ta tc yn yc yt W → Calls Tryd.prog 43 #[.agg #[.int .i64 a0_0, .slice A1 l0_1.length k1]] W fun e w' => e = .returned (.bool m) ∧ DsC W7 w.heap.size w1.heap.size w2.heap.size w3.heap.size w4.heap.size w5.heap.size w6.heap.size w7.heap.size (.slice A0_1 l0_1.length c0_1) (.slice A1 l0_1.length k1) (.slice A2 la.length k2) (.slice A3 la.length k3) (.slice A4 lc.length k4) (.slice A5 lc.length k5) a0_0 ta tc yn yc yt w' := fun W hS => (disk_May.calls k a0_0 A1 k1 l0_1 m W (Kd.C_below D1.out.row hS.low) D1.out.cap HM.out).mono fun e w' ⟨he, hb⟩ => ⟨he, toS _ (below_then hS.low hS.low.size hb)⟩
  have cMd : ∀ W, DsC W7 w.heap.size w1.heap.size w2.heap.size w3.heap.size w4.heap.size w5.heap.size w6.heap.size w7.heap.size (.slice A0_1 l0_1.length c0_1) (.slice A1 l0_1.length k1) (.slice A2 la.length k2) (.slice A3 la.length k3) (.slice A4 lc.length k4) (.slice A5 lc.length k5) a0_0 ta tc yn yc yt W → Calls Tryd.prog 37 #[.agg #[.int .i64 a0_0, .slice A0_1 l0_1.length c0_1]] W fun e w' => e = .returned (.bool m) ∧ DsC W7 w.heap.size w1.heap.size w2.heap.size w3.heap.size w4.heap.size w5.heap.size w6.heap.size w7.heap.size (.slice A0_1 l0_1.length c0_1) (.slice A1 l0_1.length k1) (.slice A2 la.length k2) (.slice A3 la.length k3) (.slice A4 lc.length k4) (.slice A5 lc.length k5) a0_0 ta tc yn yc yt w' := fun W hS => (crucibleref12_DiskMay.calls k a0_0 A0_1 c0_1 l0_1 m W (Kd.C_below D0.out.row hS.low) D0.out.cap Q4.out).mono fun e w' ⟨he, hb⟩ => ⟨he, toS _ (below_then hS.low hS.low.size hb)⟩
  have hd0 := toS W7.drew (below_drew1 (Below.refl _ _))
  have L3 := below_then M2.out M2.out.size M3.out
  have L4 := below_then L3 L3.size M4.out
  have L5 := below_then L4 L4.size M5.out
  have L6 := below_then L5 L5.size M6.out
  have L7 := Aside0.mk (below_then L6 L6.size M7.out)
  have U1 : Aside0 (w2.heap.size ≤ w4.heap.size ∧ w2.heap.size < W3.heap.size ∧ W1.heap.size ≤ W3.heap.size) := ⟨by have := Z2.out; have := Z4.out; have := M3.out.size; omega⟩
  clear toS L3 L4 L5 L6
  refine wp_quiet_C (DsC W7 w.heap.size w1.heap.size w2.heap.size w3.heap.size w4.heap.size w5.heap.size w6.heap.size w7.heap.size (.slice A0_1 l0_1.length c0_1) (.slice A1 l0_1.length k1) (.slice A2 la.length k2) (.slice A3 la.length k3) (.slice A4 lc.length k4) (.slice A5 lc.length k5) a0_0 ta tc yn yc yt) (by kernel_rfl) (by kernel_rfl) hd0 ?_
  (go_big_quiet_want; refine ⟨.agg #[.int .i64 ta, .slice A2 la.length k2], fun w' hS => ?_, ?_⟩; · obtain ⟨d0, d1, x0, x1, a0, a1, b0, b1, c0, c1, p0, p1, y0, y1, y2, z0, z1, z2, low⟩ := hS; (unfold Oper.quietAt; go_simp))
  (try simp only [Act.put, List.setIfInBounds_toArray, List.set_cons_zero, List.set_cons_succ])
  go_big_quiet_on
  (go_big_quiet_want; refine ⟨.agg #[.int .i64 ta, .slice A3 la.length k3], fun w' hS => ?_, ?_⟩; · obtain ⟨d0, d1, x0, x1, a0, a1, b0, b1, c0, c1, p0, p1, y0, y1, y2, z0, z1, z2, low⟩ := hS; (unfold Oper.quietAt; go_simp))
  (try simp only [Act.put, List.setIfInBounds_toArray, List.set_cons_zero, List.set_cons_succ])
  go_big_quiet_on
  (go_big_quiet_want; refine ⟨.bool true, fun w' hS => ?_, ?_⟩; · exact quiet_enters Tryd.func31 (by kernel_rfl) rfl _ _ _ _ _ #[.agg #[.int .i64 ta, .slice A2 la.length k2], .agg #[.int .i64 ta, .slice A3 la.length k3]] (by go_simp) (cAB _ hS))
  (try simp only [Act.put, List.setIfInBounds_toArray, List.set_cons_zero, List.set_cons_succ])
  go_big_quiet_on
  (go_big_quiet_want; apply Exists.intro; refine ⟨fun w' hS => ?_, ?_⟩; · clear hS; (unfold Oper.quietAt; go_simp); first | done | rfl | exact ⟨rfl, rfl⟩)
  (try simp only [Act.put, List.setIfInBounds_toArray, List.set_cons_zero, List.set_cons_succ])
  go_big_quiet_on
  (go_big_quiet_want; go_big_quiet_op; go_big_quiet_on)
  (go_big_quiet_want; go_big_quiet_op; go_big_quiet_on)
  (go_big_quiet_want; refine ⟨.int .i64 ea, fun w' hS => ?_, ?_⟩; · exact quiet_enters Tryd.func25 (by kernel_rfl) rfl _ _ _ _ _ #[.int .i64 ea] (by go_simp) (cN _ _ hS))
  (try simp only [Act.put, List.setIfInBounds_toArray, List.set_cons_zero, List.set_cons_succ])
  go_big_quiet_on
  (go_big_quiet_want; go_big_quiet_op; go_big_quiet_on)
  (go_big_quiet_want; apply Exists.intro; refine ⟨fun w' hS => ?_, ?_⟩; · clear hS; (unfold Oper.quietAt; go_simp); first | done | rfl | exact ⟨rfl, rfl⟩)
  (try simp only [Act.put, List.setIfInBounds_toArray, List.set_cons_zero, List.set_cons_succ])
  go_big_quiet_on
  (go_big_quiet_want; apply Exists.intro; refine ⟨fun w' hS => ?_, ?_⟩; · clear hS; (unfold Oper.quietAt; go_simp); first | done | rfl | exact ⟨rfl, rfl⟩)
  (try simp only [Act.put, List.setIfInBounds_toArray, List.set_cons_zero, List.set_cons_succ])
  go_big_quiet_on
  (go_big_quiet_want; go_big_quiet_op; go_big_quiet_on)
  (go_big_quiet_want; refine ⟨.agg #[.int .i64 tc, .slice A4 lc.length k4], fun w' hS => ?_, ?_⟩; · obtain ⟨d0, d1, x0, x1, a0, a1, b0, b1, c0, c1, p0, p1, y0, y1, y2, z0, z1, z2, low⟩ := hS; (unfold Oper.quietAt; go_simp))
  (try simp only [Act.put, List.setIfInBounds_toArray, List.set_cons_zero, List.set_cons_succ])
  go_big_quiet_on
  (go_big_quiet_want; refine ⟨.agg #[.int .i64 tc, .slice A5 lc.length k5], fun w' hS => ?_, ?_⟩; · obtain ⟨d0, d1, x0, x1, a0, a1, b0, b1, c0, c1, p0, p1, y0, y1, y2, z0, z1, z2, low⟩ := hS; (unfold Oper.quietAt; go_simp))
  (try simp only [Act.put, List.setIfInBounds_toArray, List.set_cons_zero, List.set_cons_succ])
  go_big_quiet_on
  (go_big_quiet_want; refine ⟨.bool true, fun w' hS => ?_, ?_⟩; · exact quiet_enters Tryd.func31 (by kernel_rfl) rfl _ _ _ _ _ #[.agg #[.int .i64 tc, .slice A4 lc.length k4], .agg #[.int .i64 tc, .slice A5 lc.length k5]] (by go_simp) (cCP _ hS))
  (try simp only [Act.put, List.setIfInBounds_toArray, List.set_cons_zero, List.set_cons_succ])
  go_big_quiet_on
  (go_big_quiet_want; apply Exists.intro; refine ⟨fun w' hS => ?_, ?_⟩; · clear hS; (unfold Oper.quietAt; go_simp); first | done | rfl | exact ⟨rfl, rfl⟩)
  (try simp only [Act.put, List.setIfInBounds_toArray, List.set_cons_zero, List.set_cons_succ])
  go_big_quiet_on
  (go_big_quiet_want; apply Exists.intro; refine ⟨fun w' hS => ?_, ?_⟩; · clear hS; (unfold Oper.quietAt; go_simp); first | done | rfl | exact ⟨rfl, rfl⟩)
  (try simp only [Act.put, List.setIfInBounds_toArray, List.set_cons_zero, List.set_cons_succ])
  go_big_quiet_on
  (go_big_quiet_want; go_big_quiet_op; go_big_quiet_on)
  (go_big_quiet_want; go_big_quiet_op; go_big_quiet_on)
  (go_big_quiet_want; refine ⟨.int .i64 ec, fun w' hS => ?_, ?_⟩; · exact quiet_enters Tryd.func25 (by kernel_rfl) rfl _ _ _ _ _ #[.int .i64 ec] (by go_simp) (cN _ _ hS))
  (try simp only [Act.put, List.setIfInBounds_toArray, List.set_cons_zero, List.set_cons_succ])
  go_big_quiet_on
  (go_big_quiet_want; go_big_quiet_op; go_big_quiet_on)
  (go_big_quiet_want; apply Exists.intro; refine ⟨fun w' hS => ?_, ?_⟩; · clear hS; (unfold Oper.quietAt; go_simp); first | done | rfl | exact ⟨rfl, rfl⟩)
  (try simp only [Act.put, List.setIfInBounds_toArray, List.set_cons_zero, List.set_cons_succ])
  go_big_quiet_on
  (go_big_quiet_want; apply Exists.intro; refine ⟨fun w' hS => ?_, ?_⟩; · clear hS; (unfold Oper.quietAt; go_simp); first | done | rfl | exact ⟨rfl, rfl⟩)
  (try simp only [Act.put, List.setIfInBounds_toArray, List.set_cons_zero, List.set_cons_succ])
  go_big_quiet_on
  (go_big_quiet_want; go_big_quiet_op; go_big_quiet_on)
  (go_big_quiet_want; refine ⟨.agg #[.string yn, .int .i64 yc, .int .i64 yt], fun w' hS => ?_, ?_⟩; · obtain ⟨d0, d1, x0, x1, a0, a1, b0, b1, c0, c1, p0, p1, y0, y1, y2, z0, z1, z2, low⟩ := hS; (unfold Oper.quietAt; go_simp))
  (try simp only [Act.put, List.setIfInBounds_toArray, List.set_cons_zero, List.set_cons_succ])
  go_big_quiet_on
  (go_big_quiet_want; refine ⟨.agg #[.string yn, .int .i64 yc, .int .i64 yt], fun w' hS => ?_, ?_⟩; · obtain ⟨d0, d1, x0, x1, a0, a1, b0, b1, c0, c1, p0, p1, y0, y1, y2, z0, z1, z2, low⟩ := hS; (unfold Oper.quietAt; go_simp))
  (try simp only [Act.put, List.setIfInBounds_toArray, List.set_cons_zero, List.set_cons_succ])
  go_big_quiet_on
  (go_big_quiet_want; apply Exists.intro; refine ⟨fun w' hS => ?_, ?_⟩; · clear hS; (unfold Oper.quietAt; go_simp); first | done | rfl | exact ⟨rfl, rfl⟩)
  (try simp only [Act.put, List.setIfInBounds_toArray, List.set_cons_zero, List.set_cons_succ])
  go_big_quiet_on
  (go_big_quiet_want; apply Exists.intro; refine ⟨fun w' hS => ?_, ?_⟩; · clear hS; (unfold Oper.quietAt; go_simp); first | done | rfl | exact ⟨rfl, rfl⟩)
  (try simp only [Act.put, List.setIfInBounds_toArray, List.set_cons_zero, List.set_cons_succ])
  go_big_quiet_on
  (go_big_quiet_want; go_big_quiet_op; go_big_quiet_on)
  (go_big_quiet_want; go_big_quiet_op; go_big_quiet_on)
  (go_big_quiet_want; go_big_quiet_op; go_big_quiet_on)
  (go_big_quiet_want; apply Exists.intro; refine ⟨fun w' hS => ?_, ?_⟩; · clear hS; (unfold Oper.quietAt; go_simp); first | done | rfl | exact ⟨rfl, rfl⟩)
  (try simp only [Act.put, List.setIfInBounds_toArray, List.set_cons_zero, List.set_cons_succ])
  go_big_quiet_on
  (go_big_quiet_want; apply Exists.intro; refine ⟨fun w' hS => ?_, ?_⟩; · clear hS; (unfold Oper.quietAt; go_simp); first | done | rfl | exact ⟨rfl, rfl⟩)
  (try simp only [Act.put, List.setIfInBounds_toArray, List.set_cons_zero, List.set_cons_succ])
  go_big_quiet_on
  (go_big_quiet_want; go_big_quiet_op; go_big_quiet_on)
  (go_big_quiet_want; refine ⟨.agg #[.int .i64 a0_0, .slice A1 l0_1.length k1], fun w' hS => ?_, ?_⟩; · obtain ⟨d0, d1, x0, x1, a0, a1, b0, b1, c0, c1, p0, p1, y0, y1, y2, z0, z1, z2, low⟩ := hS; (unfold Oper.quietAt; go_simp))
  (try simp only [Act.put, List.setIfInBounds_toArray, List.set_cons_zero, List.set_cons_succ])
  go_big_quiet_on
  (go_big_quiet_want; refine ⟨.bool m, fun w' hS => ?_, ?_⟩; · exact quiet_enters Tryd.func43 (by kernel_rfl) rfl _ _ _ _ _ #[.agg #[.int .i64 a0_0, .slice A1 l0_1.length k1]] (by go_simp) (cMx _ hS))
  (try simp only [Act.put, List.setIfInBounds_toArray, List.set_cons_zero, List.set_cons_succ])
  go_big_quiet_on
  (go_big_quiet_want; refine ⟨.agg #[.int .i64 a0_0, .slice A0_1 l0_1.length c0_1], fun w' hS => ?_, ?_⟩; · obtain ⟨d0, d1, x0, x1, a0, a1, b0, b1, c0, c1, p0, p1, y0, y1, y2, z0, z1, z2, low⟩ := hS; (unfold Oper.quietAt; go_simp))
  (try simp only [Act.put, List.setIfInBounds_toArray, List.set_cons_zero, List.set_cons_succ])
  go_big_quiet_on
  (go_big_quiet_want; refine ⟨.bool m, fun w' hS => ?_, ?_⟩; · exact quiet_enters Tryd.func37 (by kernel_rfl) rfl _ _ _ _ _ #[.agg #[.int .i64 a0_0, .slice A0_1 l0_1.length c0_1]] (by go_simp) (cMd _ hS))
  (try simp only [Act.put, List.setIfInBounds_toArray, List.set_cons_zero, List.set_cons_succ])
  go_big_quiet_on
  (go_big_quiet_want; apply Exists.intro; refine ⟨fun w' hS => ?_, ?_⟩; · clear hS; (unfold Oper.quietAt; go_simp); first | done | rfl | exact ⟨rfl, rfl⟩)
  (try simp only [Act.put, List.setIfInBounds_toArray, List.set_cons_zero, List.set_cons_succ])
  go_big_quiet_on
  (go_big_quiet_want; apply Exists.intro; refine ⟨fun w' hS => ?_, ?_⟩; · clear hS; (unfold Oper.quietAt; go_simp); first | done | rfl | exact ⟨rfl, rfl⟩)
  (try simp only [Act.put, List.setIfInBounds_toArray, List.set_cons_zero, List.set_cons_succ])
  go_big_quiet_on
  refine wpQuiet_nil ?_
  intro w8 hS
  have low := hS.low
  have g0 := hS.a0
  have g1 := hS.a1
  have LOW := Aside0.mk low
  clear hS hd0 cAB cCP cN cMx cMd low
  have B8 := below_then L7.out L7.out.size LOW.out
  have s1 := cruciblelaw0_SpoilFiles.calls k (fun g => W1.heap.size ≤ g ∧ g < w2.heap.size) (.slice A2 la.length k2) la sa W1 w8 B8 (Kd.R_below P2.out LOW.out) HSA.out
  clear B8
  go_wp2_with fail
  refine s1.mono ?_
  rintro e w9 ⟨rfl, _, B9, K9⟩
  clear s1 g0 g1
  have d4 := D4.out.below LOW.out
  have d4' := ds_kept d4.box K9 (fun hg => by have := U1.out; omega)
  obtain ⟨g0, g1⟩ := dr_cells d4'
  have rc := Kd.R_below P4.out LOW.out
  have rc' := Kd.R_lower (Kd.R_step rc (w1 := w9) (fun q hq hlt => K9.2 q hlt (fun hg => by have := U1.out; omega))) U1.out.2.2
  have s2 := cruciblelaw0_SpoilFiles.calls k (fun g => W3.heap.size ≤ g ∧ g < w4.heap.size) (.slice A4 lc.length k4) lc sc W1 w9 B9 rc' HSC.out
  clear d4 d4' rc rc' K9 B9
  go_wp2_with fail
  refine s2.mono ?_
  rintro e w10 ⟨rfl, _, B10, _⟩
  clear s2 g0 g1
  have e0 := D0a.out.below B10
  have e1 := D1a.out.below B10
  obtain ⟨g0, g1⟩ := dr_cells e0.box
  obtain ⟨g2, g3⟩ := dr_cells e1.box
  have s3 := cruciblelaw0_SameDisk.calls k a0_0 A1 k1 l0_1 a0_0 A0_1 c0_1 l0_1 true w10 e1.row e1.cap e0.row e0.cap Q7.out
  have E10 := Aside0.mk (below_then E1.out E1.out.size B10)
  clear B10 e0 e1
  go_wp2_with fail
  refine s3.mono ?_
  rintro e w11 ⟨rfl, B11⟩
  have s4 := cruciblelaw12_awake.calls true w11 rfl
  have E11 := Aside0.mk (below_then E10.out E10.out.size B11)
  clear s3 g0 g1 g2 g3 B11
  go_wp2_with fail
  refine s4.mono ?_
  rintro e w12 ⟨rfl, B12⟩
  have E12 := Aside0.mk (below_then E11.out E11.out.size B12)
  clear s4 B12
  go_wp2
  go_ret
  exact ⟨rfl, E12.out⟩

end Go.Proofs.YtilnamobmjngbaaDoor.P
