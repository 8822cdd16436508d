-- Made by a program of this work's own (wip/myprint.py) over the kit's print; leaves by hand.
import Derived.Test.YtilnamobmjngbaaDoorP0
import Derived.Test.YtilnamobmjngbaaDoorP2
import Derived.Test.YtilnamobmjngbaaDoorP7
import Derived.Test.YtilnamobmjngbaaDoorP12
import Derived.Test.YtilnamobmjngbaaDoorP13
import Derived.Test.YtilnamobmjngbaaDoorP14
import Derived.Test.YtilnamobmjngbaaDoorP19
import Derived.Test.YtilnamobmjngbaaDoorP23
import Derived.Test.YtilnamobmjngbaaDoorP24
import Derived.Test.YtilnamobmjngbaaDoorP25
import Derived.Test.YtilnamobmjngbaaDoorP26
import Derived.Test.YtilnamobmjngbaaDoorP27
import Derived.Test.YtilnamobmjngbaaDoorP28
import Derived.Test.YtilnamobmjngbaaDoorMg1
import Derived.Test.YtilnamobmjngbaaDoorWApart
import Derived.Test.YtilnamobmjngbaaDoorWKept
import Derived.Test.YtilnamobmjngbaaDoorWTab
namespace Go.Proofs.YtilnamobmjngbaaDoor.P
open Go.RowKit Go.Proofs.YtilnamobmjngbaaDoorW.PrintWords Go.Proofs.YtilnamobmjngbaaDoorW.PrintLast Go.Proofs.YtilnamobmjngbaaDoorW.PrintMore
attribute [local go_sem] max2_int min2_int max_two min_two max_three min_three max_four min_four   -- for this text's walks alone
set_option linter.unusedVariables false
set_option linter.unusedSimpArgs false

-- HANDBIG Commands.lean
-- IMPORT Derived.Test.YtilnamobmjngbaaDoorPlain
-- IMPORT Derived.Test.YtilnamobmjngbaaDoorWTab
-- IMPORT Derived.Test.YtilnamobmjngbaaDoorWKept
-- IMPORT Derived.Test.YtilnamobmjngbaaDoorWApart
/-! ### cruciblelaw18_Commands, by hand -/
abbrev cmAs := List (S33)
abbrev cmE (o i m r : Value) (c : ByteArray) (d : Bool) (p : ByteArray) : Obj := .cells #[o, i, m, r, .string c, .bool d, .string p] 25 (0, 0)
abbrev cmD (t : Int) (v : Value) : Obj := .cells #[.int .i64 t, v] 28 (0, 0)
abbrev cmA (c : ByteArray) (v : Value) (f : Bool) : Obj := .cells #[.string c, v, .bool f] 33 (0, 0)
open Classical in
noncomputable def cruciblelaw18_Commands.f (k : Nat) (l : List (S33)) (o i m r : List ByteArray) (cmd : ByteArray) (dep : Bool) (pool : ByteArray) (t : Int) (fs : List (S72)) (s : ByteArray) : Option Bool :=
  (command_Action.f k l s).bind fun p => (command_Reads.f k l o i m r cmd dep pool).bind fun q => (command_Run.f k l o i m r cmd dep pool t fs).bind fun z =>
  (cruciblelaw0_SpoilTexts.f k p.2.1).bind fun _ => (cruciblelaw0_SpoilTexts.f k q.1).bind fun _ => (cruciblelaw0_SpoilInts.f k z.1).bind fun _ =>
  if ((cruciblelaw0_CopyActions.f k l = some l ∧ cruciblelaw0_CopyEdge.f o i m r cmd dep pool = some (o, i, m, r, cmd, dep, pool) ∧ cruciblelaw0_CopyDisk.f t fs = some (t, fs)) ∧
    (crucibleref12_ActionOf.f k l s = some p ∧ crucibleref12_Reads.f k l o i m r cmd dep pool = some q ∧ crucibleref12_RunEdge.f k l o i m r cmd dep pool t fs = some z)) ∧
    (cruciblelaw0_SameTexts.f k p.2.1 p.2.1 = some true ∧ cruciblelaw0_SameTexts.f k q.1 q.1 = some true ∧ cruciblelaw0_SameInts.f k z.1 z.1 = some true) ∧
    (cruciblelaw0_SameActions.f k l l = some true ∧ cruciblelaw0_SameEdge.f k o i m r cmd dep pool o i m r cmd dep pool = some true ∧ cruciblelaw0_SameDisk.f k t fs t fs = some true) then some true else none
theorem cruciblelaw18_Commands.mono : ∀ a0 a1 a2 a3 a4 a5 a6 a7 a8 a9 a10 k, LeO (cruciblelaw18_Commands.f k a0 a1 a2 a3 a4 a5 a6 a7 a8 a9 a10) (cruciblelaw18_Commands.f (k + 1) a0 a1 a2 a3 a4 a5 a6 a7 a8 a9 a10) := by
  intro l o i m r cmd dep pool t fs s k v h
  unfold cruciblelaw18_Commands.f at h ⊢
  obtain ⟨p, hp, h⟩ := Option.bind_eq_some_iff.1 h
  obtain ⟨q, hq, h⟩ := Option.bind_eq_some_iff.1 h
  obtain ⟨z, hz, h⟩ := Option.bind_eq_some_iff.1 h
  obtain ⟨a, ha, h⟩ := Option.bind_eq_some_iff.1 h
  obtain ⟨b, hb, h⟩ := Option.bind_eq_some_iff.1 h
  obtain ⟨c, hc, h⟩ := Option.bind_eq_some_iff.1 h
  split at h
  case isFalse => cases h
  rename_i hw
  obtain ⟨⟨⟨w1, w2, w3⟩, w4, w5, w6⟩, ⟨w7, w8, w9⟩, w10, w11, w12⟩ := hw
  rw [command_Action.mono _ _ k _ hp, Option.bind_some, command_Reads.mono _ _ _ _ _ _ _ _ k _ hq, Option.bind_some, command_Run.mono _ _ _ _ _ _ _ _ _ _ k _ hz, Option.bind_some, cruciblelaw0_SpoilTexts.mono _ k _ ha, Option.bind_some, cruciblelaw0_SpoilTexts.mono _ k _ hb, Option.bind_some, cruciblelaw0_SpoilInts.mono _ k _ hc, Option.bind_some,
    if_pos ⟨⟨⟨cruciblelaw0_CopyActions.mono _ k _ w1, w2, w3⟩, crucibleref12_ActionOf.mono _ _ k _ w4, crucibleref12_Reads.mono _ _ _ _ _ _ _ _ k _ w5, crucibleref12_RunEdge.mono _ _ _ _ _ _ _ _ _ _ k _ w6⟩, ⟨cruciblelaw0_SameTexts.mono _ _ k _ w7, cruciblelaw0_SameTexts.mono _ _ k _ w8, cruciblelaw0_SameInts.mono _ _ k _ w9⟩,
      cruciblelaw0_SameActions.mono _ _ k _ w10, cruciblelaw0_SameEdge.mono _ _ _ _ _ _ _ _ _ _ _ _ _ _ k _ w11, cruciblelaw0_SameDisk.mono _ _ _ _ k _ w12⟩]
  exact h
theorem cm_open {k : Nat} {l : List (S33)} {o i m r : List ByteArray} {cmd : ByteArray} {dep : Bool} {pool : ByteArray} {t : Int} {fs : List (S72)} {s : ByteArray} {v : Bool} (h : cruciblelaw18_Commands.f k l o i m r cmd dep pool t fs s = some v) : true = v ∧ ∃ p1 p2 p3 q1 q2 z1 z2 sa sb sc,
    command_Action.f k l s = some (p1, p2, p3) ∧ command_Reads.f k l o i m r cmd dep pool = some (q1, q2) ∧ command_Run.f k l o i m r cmd dep pool t fs = some (z1, z2) ∧
    cruciblelaw0_SpoilTexts.f k p2 = some sa ∧ cruciblelaw0_SpoilTexts.f k q1 = some sb ∧ cruciblelaw0_SpoilInts.f k z1 = some sc ∧
    cruciblelaw0_CopyActions.f k l = some l ∧ cruciblelaw0_CopyEdge.f o i m r cmd dep pool = some (o, i, m, r, cmd, dep, pool) ∧ cruciblelaw0_CopyDisk.f t fs = some (t, fs) ∧
    crucibleref12_ActionOf.f k l s = some (p1, p2, p3) ∧ crucibleref12_Reads.f k l o i m r cmd dep pool = some (q1, q2) ∧ crucibleref12_RunEdge.f k l o i m r cmd dep pool t fs = some (z1, z2) ∧
    cruciblelaw0_SameTexts.f k p2 p2 = some true ∧ cruciblelaw0_SameTexts.f k q1 q1 = some true ∧ cruciblelaw0_SameInts.f k z1 z1 = some true ∧
    cruciblelaw0_SameActions.f k l l = some true ∧ cruciblelaw0_SameEdge.f k o i m r cmd dep pool o i m r cmd dep pool = some true ∧ cruciblelaw0_SameDisk.f k t fs t fs = some true := by
  unfold cruciblelaw18_Commands.f at h
  obtain ⟨⟨p1, p2, p3⟩, hp, h⟩ := Option.bind_eq_some_iff.1 h
  obtain ⟨⟨q1, q2⟩, hq, h⟩ := Option.bind_eq_some_iff.1 h
  obtain ⟨⟨z1, z2⟩, hz, h⟩ := Option.bind_eq_some_iff.1 h
  obtain ⟨sa, hsa, h⟩ := Option.bind_eq_some_iff.1 h
  obtain ⟨sb, hsb, h⟩ := Option.bind_eq_some_iff.1 h
  obtain ⟨sc, hsc, h⟩ := Option.bind_eq_some_iff.1 h
  split at h
  case isFalse => cases h
  rename_i hw
  obtain ⟨⟨⟨u1, u2, u3⟩, u4, u5, u6⟩, ⟨u7, u8, u9⟩, u10, u11, u12⟩ := hw
  exact ⟨Option.some.inj h, p1, p2, p3, q1, q2, z1, z2, sa, sb, sc, hp, hq, hz, hsa, hsb, hsc, u1, u2, u3, u4, u5, u6, u7, u8, u9, u10, u11, u12⟩
/-- what stands while the copies are made: so many of the three calls are done, the boxes are made or not -/
structure CmS (W0 : World) (l : List (S33)) (o i m r : List ByteArray) (fs : List (S72)) (c : Nat) (pa pb : Bool) (vx y0 y1 y2 y3 vz : Value) (ga gb : Nat) (W : World) : Prop where
  low : Below W0.heap.size W0 W
  x : 1 ≤ c → Kd.S k33 33 W W0.heap.size (fun _ => True) vx l
  y0 : 2 ≤ c → Kd.R Kd.string 9 W W0.heap.size (fun _ => True) y0 o
  y1 : 2 ≤ c → Kd.R Kd.string 9 W W0.heap.size (fun _ => True) y1 i
  y2 : 2 ≤ c → Kd.R Kd.string 9 W W0.heap.size (fun _ => True) y2 m
  y3 : 2 ≤ c → Kd.R Kd.string 9 W W0.heap.size (fun _ => True) y3 r
  z : 3 ≤ c → Kd.R k72 72 W W0.heap.size (fun _ => True) vz fs
  a : pa = true → W.heap[ga]? = some (cmE (.slice none 0 0) (.slice none 0 0) (.slice none 0 0) (.slice none 0 0) ⟨#[]⟩ false ⟨#[]⟩) ∧ W0.heap.size ≤ ga
  b : pb = true → W.heap[gb]? = some (cmD 0 (.slice none 0 0)) ∧ W0.heap.size ≤ gb
  ne : pa = true → pb = true → ga ≠ gb
theorem CmS.grow {W0 : World} {l : List (S33)} {o i m r : List ByteArray} {fs : List (S72)} {c : Nat} {pa pb : Bool} {vx y0 y1 y2 y3 vz : Value} {ga gb : Nat} {W W' : World} (h : CmS W0 l o i m r fs c pa pb vx y0 y1 y2 y3 vz ga gb W) (hb : Below W.heap.size W W') : CmS W0 l o i m r fs c pa pb vx y0 y1 y2 y3 vz ga gb W' :=
  ⟨below_then h.low h.low.size hb, fun q => Kd.S_below (h.x q) hb, fun q => Kd.R_below (h.y0 q) hb, fun q => Kd.R_below (h.y1 q) hb, fun q => Kd.R_below (h.y2 q) hb, fun q => Kd.R_below (h.y3 q) hb, fun q => Kd.R_below (h.z q) hb,
    fun q => ⟨(hb.block _ (blk_lt (h.a q).1)).trans (h.a q).1, (h.a q).2⟩, fun q => ⟨(hb.block _ (blk_lt (h.b q).1)).trans (h.b q).1, (h.b q).2⟩, h.ne⟩
theorem CmS.callX {W0 : World} {l : List (S33)} {o i m r : List ByteArray} {fs : List (S72)} {pa pb : Bool} {vx y0 y1 y2 y3 vz v : Value} {ga gb : Nat} {W W' : World} (h : CmS W0 l o i m r fs 0 pa pb vx y0 y1 y2 y3 vz ga gb W) (ho : Kd.S k33 33 W' W.heap.size (fun _ => True) v l) (hb : Below W.heap.size W W') : CmS W0 l o i m r fs 1 pa pb v y0 y1 y2 y3 vz ga gb W' :=
  ⟨(h.grow hb).low, fun _ => Kd.S_lower ho h.low.size, fun q => absurd q (by decide), fun q => absurd q (by decide), fun q => absurd q (by decide), fun q => absurd q (by decide), fun q => absurd q (by decide), (h.grow hb).a, (h.grow hb).b, h.ne⟩
theorem CmS.callY {W0 : World} {l : List (S33)} {o i m r : List ByteArray} {fs : List (S72)} {pa pb : Bool} {vx y0 y1 y2 y3 vz v0 v1 v2 v3 : Value} {ga gb : Nat} {W W' : World} {k0 k1 k2 k3 : Nat → Prop} (h : CmS W0 l o i m r fs 1 pa pb vx y0 y1 y2 y3 vz ga gb W)
    (h0 : Kd.R Kd.string 9 W' W.heap.size k0 v0 o) (h1 : Kd.R Kd.string 9 W' W.heap.size k1 v1 i) (h2 : Kd.R Kd.string 9 W' W.heap.size k2 v2 m) (h3 : Kd.R Kd.string 9 W' W.heap.size k3 v3 r) (hb : Below W.heap.size W W') : CmS W0 l o i m r fs 2 pa pb vx v0 v1 v2 v3 vz ga gb W' :=
  ⟨(h.grow hb).low, fun _ => (h.grow hb).x (by decide), fun _ => Kd.R_mono (Kd.R_lower h0 h.low.size) (fun _ _ => trivial), fun _ => Kd.R_mono (Kd.R_lower h1 h.low.size) (fun _ _ => trivial), fun _ => Kd.R_mono (Kd.R_lower h2 h.low.size) (fun _ _ => trivial), fun _ => Kd.R_mono (Kd.R_lower h3 h.low.size) (fun _ _ => trivial), fun q => absurd q (by decide), (h.grow hb).a, (h.grow hb).b, h.ne⟩
theorem CmS.callZ {W0 : World} {l : List (S33)} {o i m r : List ByteArray} {fs : List (S72)} {pa pb : Bool} {vx y0 y1 y2 y3 vz v : Value} {ga gb : Nat} {W W' : World} (h : CmS W0 l o i m r fs 2 pa pb vx y0 y1 y2 y3 vz ga gb W) (ho : Kd.R k72 72 W' W.heap.size (fun _ => True) v fs) (hb : Below W.heap.size W W') : CmS W0 l o i m r fs 3 pa pb vx y0 y1 y2 y3 v ga gb W' :=
  ⟨(h.grow hb).low, fun _ => (h.grow hb).x (by decide), fun _ => (h.grow hb).y0 (by decide), fun _ => (h.grow hb).y1 (by decide), fun _ => (h.grow hb).y2 (by decide), fun _ => (h.grow hb).y3 (by decide), fun _ => Kd.R_lower ho h.low.size, (h.grow hb).a, (h.grow hb).b, h.ne⟩
theorem CmS.boxA {W0 : World} {l : List (S33)} {o i m r : List ByteArray} {fs : List (S72)} {c : Nat} {pb : Bool} {vx y0 y1 y2 y3 vz : Value} {ga gb g : Nat} {W W' : World} (h : CmS W0 l o i m r fs c false pb vx y0 y1 y2 y3 vz ga gb W) (hg : g = W.heap.size) (hx : W'.heap[g]? = some (cmE (.slice none 0 0) (.slice none 0 0) (.slice none 0 0) (.slice none 0 0) ⟨#[]⟩ false ⟨#[]⟩)) (hb : Below W.heap.size W W') : CmS W0 l o i m r fs c true pb vx y0 y1 y2 y3 vz g gb W' :=
  have h' := h.grow hb
  ⟨h'.low, h'.x, h'.y0, h'.y1, h'.y2, h'.y3, h'.z, fun _ => ⟨hx, hg ▸ h.low.size⟩, h'.b, fun _ q => hg ▸ Nat.ne_of_gt (blk_lt (h.b q).1)⟩
theorem CmS.boxB {W0 : World} {l : List (S33)} {o i m r : List ByteArray} {fs : List (S72)} {c : Nat} {pa : Bool} {vx y0 y1 y2 y3 vz : Value} {ga gb g : Nat} {W W' : World} (h : CmS W0 l o i m r fs c pa false vx y0 y1 y2 y3 vz ga gb W) (hg : g = W.heap.size) (hx : W'.heap[g]? = some (cmD 0 (.slice none 0 0))) (hb : Below W.heap.size W W') : CmS W0 l o i m r fs c pa true vx y0 y1 y2 y3 vz ga g W' :=
  have h' := h.grow hb
  ⟨h'.low, h'.x, h'.y0, h'.y1, h'.y2, h'.y3, h'.z, h'.a, fun _ => ⟨hx, hg ▸ h.low.size⟩, fun q _ => hg ▸ Nat.ne_of_lt (blk_lt (h.a q).1)⟩
/-- the copies are made -/
structure CmT (W0 : World) (l : List (S33)) (o i m r : List ByteArray) (fs : List (S72)) (vx y0 y1 y2 y3 vz : Value) (W : World) : Prop where
  low : Below W0.heap.size W0 W
  x : Kd.S k33 33 W W0.heap.size (fun _ => True) vx l
  y0 : Kd.R Kd.string 9 W W0.heap.size (fun _ => True) y0 o
  y1 : Kd.R Kd.string 9 W W0.heap.size (fun _ => True) y1 i
  y2 : Kd.R Kd.string 9 W W0.heap.size (fun _ => True) y2 m
  y3 : Kd.R Kd.string 9 W W0.heap.size (fun _ => True) y3 r
  z : Kd.R k72 72 W W0.heap.size (fun _ => True) vz fs
theorem CmT.set {W0 : World} {l : List (S33)} {o i m r : List ByteArray} {fs : List (S72)} {vx y0 y1 y2 y3 vz : Value} {W : World} (h : CmT W0 l o i m r fs vx y0 y1 y2 y3 vz W) {g t : Nat} {cs : Array Value} (hb : W.heap[g]? = some (.cells cs t (0, 0))) (ht : t = 25 ∨ t = 28) (hg : W0.heap.size ≤ g) (j : Nat) (u : Value) : CmT W0 l o i m r fs vx y0 y1 y2 y3 vz (W.setCell ⟨g, j, none⟩ u) := by
  rcases ht with rfl | rfl
  · exact ⟨below_set h.low hg, Kd.S_set h.x hb (by decide) j u, Kd.R_set h.y0 hb (by decide) j u, Kd.R_set h.y1 hb (by decide) j u, Kd.R_set h.y2 hb (by decide) j u, Kd.R_set h.y3 hb (by decide) j u, Kd.R_set h.z hb (by decide) j u⟩
  · exact ⟨below_set h.low hg, Kd.S_set h.x hb (by decide) j u, Kd.R_set h.y0 hb (by decide) j u, Kd.R_set h.y1 hb (by decide) j u, Kd.R_set h.y2 hb (by decide) j u, Kd.R_set h.y3 hb (by decide) j u, Kd.R_set h.z hb (by decide) j u⟩
theorem cm_far {W : World} {g h : Nat} {ob : Obj} (hb : W.heap[g]? = some ob) (hn : g ≠ h) (j : Nat) (u : Value) : (W.setCell ⟨h, j, none⟩ u).heap[g]? = some ob := (Below.heap_setCell W ⟨h, j, none⟩ u g hn).trans hb
/-- the copies, and the boxes that hold two of them -/
structure CmU (W0 : World) (l : List (S33)) (o i m r : List ByteArray) (cmd : ByteArray) (dep : Bool) (pool : ByteArray) (t : Int) (fs : List (S72)) (vx y0 y1 y2 y3 vz : Value) (ga gb : Nat) (W : World) : Prop where
  rows : CmT W0 l o i m r fs vx y0 y1 y2 y3 vz W
  a : W.heap[ga]? = some (cmE y0 y1 y2 y3 cmd dep pool)
  b : W.heap[gb]? = some (cmD t vz)
/-- the copies, the first box full, the second made -/
structure CmV (W0 : World) (l : List (S33)) (o i m r : List ByteArray) (cmd : ByteArray) (dep : Bool) (pool : ByteArray) (fs : List (S72)) (vx y0 y1 y2 y3 vz : Value) (ga gb : Nat) (W : World) : Prop where
  rows : CmT W0 l o i m r fs vx y0 y1 y2 y3 vz W
  a : W.heap[ga]? = some (cmE y0 y1 y2 y3 cmd dep pool)
  b : W.heap[gb]? = some (cmD 0 (.slice none 0 0))
  hb : W0.heap.size ≤ gb
  ne : ga ≠ gb
theorem CmS.storeA {W0 : World} {l : List (S33)} {o i m r : List ByteArray} {fs : List (S72)} {vx y0 y1 y2 y3 vz : Value} {ga gb : Nat} {W : World} (h : CmS W0 l o i m r fs 3 true true vx y0 y1 y2 y3 vz ga gb W) (cmd : ByteArray) (dep : Bool) (pool : ByteArray) :
    CmV W0 l o i m r cmd dep pool fs vx y0 y1 y2 y3 vz ga gb (((((((W.setCell ⟨ga, 0, none⟩ y0).setCell ⟨ga, 1, none⟩ y1).setCell ⟨ga, 2, none⟩ y2).setCell ⟨ga, 3, none⟩ y3).setCell ⟨ga, 4, none⟩ (.string cmd)).setCell ⟨ga, 5, none⟩ (.bool dep)).setCell ⟨ga, 6, none⟩ (.string pool)) := by
  obtain ⟨a0, ga0⟩ := h.a rfl
  obtain ⟨b0, gb0⟩ := h.b rfl
  have hn := h.ne rfl rfl
  have R0 : CmT W0 l o i m r fs vx y0 y1 y2 y3 vz W := ⟨h.low, h.x (by decide), h.y0 (by decide), h.y1 (by decide), h.y2 (by decide), h.y3 (by decide), h.z (by decide)⟩
  have a1 := blk_put (cs' := #[y0, (.slice none 0 0), (.slice none 0 0), (.slice none 0 0), (.string ⟨#[]⟩), (.bool false), (.string ⟨#[]⟩)]) a0 0 y0 rfl
  have R1 := R0.set a0 (.inl rfl) ga0 0 y0
  have b1 := cm_far b0 (Ne.symm hn) 0 y0
  have a2 := blk_put (cs' := #[y0, y1, (.slice none 0 0), (.slice none 0 0), (.string ⟨#[]⟩), (.bool false), (.string ⟨#[]⟩)]) a1 1 y1 rfl
  have R2 := R1.set a1 (.inl rfl) ga0 1 y1
  have b2 := cm_far b1 (Ne.symm hn) 1 y1
  have a3 := blk_put (cs' := #[y0, y1, y2, (.slice none 0 0), (.string ⟨#[]⟩), (.bool false), (.string ⟨#[]⟩)]) a2 2 y2 rfl
  have R3 := R2.set a2 (.inl rfl) ga0 2 y2
  have b3 := cm_far b2 (Ne.symm hn) 2 y2
  have a4 := blk_put (cs' := #[y0, y1, y2, y3, (.string ⟨#[]⟩), (.bool false), (.string ⟨#[]⟩)]) a3 3 y3 rfl
  have R4 := R3.set a3 (.inl rfl) ga0 3 y3
  have b4 := cm_far b3 (Ne.symm hn) 3 y3
  have a5 := blk_put (cs' := #[y0, y1, y2, y3, (.string cmd), (.bool false), (.string ⟨#[]⟩)]) a4 4 (.string cmd) rfl
  have R5 := R4.set a4 (.inl rfl) ga0 4 (.string cmd)
  have b5 := cm_far b4 (Ne.symm hn) 4 (.string cmd)
  have a6 := blk_put (cs' := #[y0, y1, y2, y3, (.string cmd), (.bool dep), (.string ⟨#[]⟩)]) a5 5 (.bool dep) rfl
  have R6 := R5.set a5 (.inl rfl) ga0 5 (.bool dep)
  have b6 := cm_far b5 (Ne.symm hn) 5 (.bool dep)
  have a7 := blk_put (cs' := #[y0, y1, y2, y3, (.string cmd), (.bool dep), (.string pool)]) a6 6 (.string pool) rfl
  have R7 := R6.set a6 (.inl rfl) ga0 6 (.string pool)
  have b7 := cm_far b6 (Ne.symm hn) 6 (.string pool)
  exact ⟨R7, a7, b7, gb0, hn⟩
theorem CmV.storeB {W0 : World} {l : List (S33)} {o i m r : List ByteArray} {cmd : ByteArray} {dep : Bool} {pool : ByteArray} {fs : List (S72)} {vx y0 y1 y2 y3 vz : Value} {ga gb : Nat} {W : World} (h : CmV W0 l o i m r cmd dep pool fs vx y0 y1 y2 y3 vz ga gb W) (t : Int) :
    CmU W0 l o i m r cmd dep pool t fs vx y0 y1 y2 y3 vz ga gb ((W.setCell ⟨gb, 0, none⟩ (.int .i64 t)).setCell ⟨gb, 1, none⟩ vz) := by
  have b1 := blk_put (cs' := #[.int .i64 t, .slice none 0 0]) h.b 0 (.int .i64 t) rfl
  have R1 := h.rows.set h.b (.inr rfl) h.hb 0 (.int .i64 t)
  have a1 := cm_far h.a h.ne 0 (.int .i64 t)
  exact ⟨R1.set b1 (.inr rfl) h.hb 1 vz, cm_far a1 h.ne 1 vz, blk_put (cs' := #[.int .i64 t, vz]) b1 1 vz rfl⟩
def cm_T1 : Bool × List (List Nat × List Nat) := (true, [([], []), ([0], [0]), ([], []), ([2, 1], [2]), ([], []), ([4, 3], [4]), ([], []), ([], []), ([1, 5, 0, 1, 6, 7], [1]), ([6, 3, 8, 0, 1, 2, 3, 6, 7, 8], [3, 6]), ([7, 5, 9, 0, 1, 2, 3, 4, 5, 6, 7, 8, 9], [5, 7])])
def cm_B1 : List Nat := [0, 1, 0, 7, 0, 31, 0, 0, 255, 511, 1023]
theorem cm_tab1 : rtab .any (opsOf Tryd.f3 1) = cm_T1 := by kernel_rfl
theorem cm_bits1 : waitsOk cm_T1.2 cm_B1 = true := by kernel_rfl
theorem CmU.below {W0 : World} {l : List (S33)} {o i m r : List ByteArray} {cmd : ByteArray} {dep : Bool} {pool : ByteArray} {t : Int} {fs : List (S72)} {vx y0 y1 y2 y3 vz : Value} {ga gb : Nat} {W W' : World} (h : CmU W0 l o i m r cmd dep pool t fs vx y0 y1 y2 y3 vz ga gb W) (hb : Below W.heap.size W W') : CmU W0 l o i m r cmd dep pool t fs vx y0 y1 y2 y3 vz ga gb W' :=
  ⟨⟨below_then h.rows.low h.rows.low.size hb, Kd.S_below h.rows.x hb, Kd.R_below h.rows.y0 hb, Kd.R_below h.rows.y1 hb, Kd.R_below h.rows.y2 hb, Kd.R_below h.rows.y3 hb, Kd.R_below h.rows.z hb⟩, (hb.block _ (blk_lt h.a)).trans h.a, (hb.block _ (blk_lt h.b)).trans h.b⟩
theorem cm_R {α : Type} {d : Kd α} {e base : Nat} {ok : Nat → Prop} {W : World} {A : Option Addr} {c : Nat} {xs : List α} (h : d.R e W base ok (.slice A xs.length c) xs) : d.C W A xs.length xs ∧ xs.length ≤ c := ⟨(Kd.R_reads' h).2.2, (Kd.R_reads' h).2.1⟩
theorem cm_S {α : Type} {d : Kd α} {e base : Nat} {ok : Nat → Prop} {W : World} {A : Option Addr} {c : Nat} {xs : List α} (h : Kd.S d e W base ok (.slice A xs.length c) xs) : d.C W A xs.length xs ∧ xs.length ≤ c := cm_R (Kd.S_R h)
theorem cmE_cells {W : World} {g : Nat} {o i m r : Value} {c : ByteArray} {d : Bool} {p : ByteArray} (h : W.heap[g]? = some (cmE o i m r c d p)) : W.cell? ⟨g, 0, none⟩ = some o ∧ W.cell? ⟨g, 1, none⟩ = some i ∧ W.cell? ⟨g, 2, none⟩ = some m ∧ W.cell? ⟨g, 3, none⟩ = some r ∧ W.cell? ⟨g, 4, none⟩ = some (.string c) ∧ W.cell? ⟨g, 5, none⟩ = some (.bool d) ∧ W.cell? ⟨g, 6, none⟩ = some (.string p) :=
  ⟨(blk_cell h 0).trans rfl, (blk_cell h 1).trans rfl, (blk_cell h 2).trans rfl, (blk_cell h 3).trans rfl, (blk_cell h 4).trans rfl, (blk_cell h 5).trans rfl, (blk_cell h 6).trans rfl⟩
theorem cmD_cells {W : World} {g : Nat} {t : Int} {v : Value} (h : W.heap[g]? = some (cmD t v)) : W.cell? ⟨g, 0, none⟩ = some (.int .i64 t) ∧ W.cell? ⟨g, 1, none⟩ = some v := ⟨(blk_cell h 0).trans rfl, (blk_cell h 1).trans rfl⟩
theorem cmA_cells {W : World} {g : Nat} {c : ByteArray} {v : Value} {f : Bool} (h : W.heap[g]? = some (cmA c v f)) : W.cell? ⟨g, 0, none⟩ = some (.string c) ∧ W.cell? ⟨g, 1, none⟩ = some v ∧ W.cell? ⟨g, 2, none⟩ = some (.bool f) := ⟨(blk_cell h 0).trans rfl, (blk_cell h 1).trans rfl, (blk_cell h 2).trans rfl⟩
set_option maxHeartbeats 16000000 in
set_option maxRecDepth 100000 in
theorem cruciblelaw18_Commands.calls (k : Nat) (A0 : Option Addr) (c0 : Nat) (l0 : List (S33)) (A1_0 : Option Addr) (c1_0 : Nat) (l1_0 : List ByteArray) (A1_1 : Option Addr) (c1_1 : Nat) (l1_1 : List ByteArray) (A1_2 : Option Addr) (c1_2 : Nat) (l1_2 : List ByteArray) (A1_3 : Option Addr) (c1_3 : Nat) (l1_3 : List ByteArray) (a1_4 : ByteArray) (a1_5 : Bool) (a1_6 : ByteArray) (a2_0 : Int) (A2_1 : Option Addr) (c2_1 : Nat) (l2_1 : List (S72)) (a3 : ByteArray) (r : Bool) (w : World)
    (hr0 : Kd.C k33 w A0 l0.length l0) (hc0 : l0.length ≤ c0) (hr1_0 : Kd.C Kd.string w A1_0 l1_0.length l1_0) (hc1_0 : l1_0.length ≤ c1_0) (hr1_1 : Kd.C Kd.string w A1_1 l1_1.length l1_1) (hc1_1 : l1_1.length ≤ c1_1) (hr1_2 : Kd.C Kd.string w A1_2 l1_2.length l1_2) (hc1_2 : l1_2.length ≤ c1_2) (hr1_3 : Kd.C Kd.string w A1_3 l1_3.length l1_3) (hc1_3 : l1_3.length ≤ c1_3) (hr2_1 : Kd.C k72 w A2_1 l2_1.length l2_1) (hc2_1 : l2_1.length ≤ c2_1)
    (h : cruciblelaw18_Commands.f k l0 l1_0 l1_1 l1_2 l1_3 a1_4 a1_5 a1_6 a2_0 l2_1 a3 = some r) :
    Calls Tryd.prog 3 #[.slice A0 l0.length c0, .agg #[.slice A1_0 l1_0.length c1_0, .slice A1_1 l1_1.length c1_1, .slice A1_2 l1_2.length c1_2, .slice A1_3 l1_3.length c1_3, .string a1_4, .bool a1_5, .string a1_6], .agg #[.int .i64 a2_0, .slice A2_1 l2_1.length c2_1], .string a3] w fun e w' => e = .returned (.bool r) ∧ Below w.heap.size w w' := by
  obtain ⟨rfl, p1, p2, p3, q1, q2, z1, z2, sa, sb, sc, hp, hq, hz, hsa, hsb, hsc, u1, u2, u3, u4, u5, u6, u7, u8, u9, u10, u11, u12⟩ := cm_open h
  clear h
  have HP := Aside0.mk hp; have HQ := Aside0.mk hq; have HZ := Aside0.mk hz; have HSA := Aside0.mk hsa; have HSB := Aside0.mk hsb; have HSC := Aside0.mk hsc
  have U1 := Aside0.mk u1; have U2 := Aside0.mk u2; have U3 := Aside0.mk u3; have U4 := Aside0.mk u4; have U5 := Aside0.mk u5; have U6 := Aside0.mk u6
  have U7 := Aside0.mk u7; have U8 := Aside0.mk u8; have U9 := Aside0.mk u9; have U10 := Aside0.mk u10; have U11 := Aside0.mk u11; have U12 := Aside0.mk u12
  obtain ⟨W0, hW0⟩ : ∃ W, W = (w.alloc (cmE (.slice A1_0 l1_0.length c1_0) (.slice A1_1 l1_1.length c1_1) (.slice A1_2 l1_2.length c1_2) (.slice A1_3 l1_3.length c1_3) a1_4 a1_5 a1_6)).alloc (cmD a2_0 (.slice A2_1 l2_1.length c2_1)) := ⟨_, rfl⟩
  have E0 : Aside0 (Below w.heap.size w W0) := ⟨by rw [hW0]; exact below_alloc (below_alloc (Below.refl _ _) _) _⟩
  have XE : Aside0 (W0.heap[w.heap.size]? = some (cmE (.slice A1_0 l1_0.length c1_0) (.slice A1_1 l1_1.length c1_1) (.slice A1_2 l1_2.length c1_2) (.slice A1_3 l1_3.length c1_3) a1_4 a1_5 a1_6)) := ⟨by rw [hW0]; exact blk_alloc (heap_alloc_new w _) _⟩
  have XD : Aside0 (W0.heap[w.heap.size + 1]? = some (cmD a2_0 (.slice A2_1 l2_1.length c2_1))) := ⟨by rw [hW0]; have := heap_alloc_new (w.alloc (cmE (.slice A1_0 l1_0.length c1_0) (.slice A1_1 l1_1.length c1_1) (.slice A1_2 l1_2.length c1_2) (.slice A1_3 l1_3.length c1_3) a1_4 a1_5 a1_6)) (cmD a2_0 (.slice A2_1 l2_1.length c2_1)); rwa [World.size_alloc] at this⟩
  have R0 : Aside0 (Kd.C k33 W0 A0 l0.length l0 ∧ l0.length ≤ c0) := ⟨Kd.C_below hr0 E0.out, hc0⟩
  have R1 : Aside0 (Kd.C Kd.string W0 A1_0 l1_0.length l1_0 ∧ l1_0.length ≤ c1_0) := ⟨Kd.C_below hr1_0 E0.out, hc1_0⟩
  have R2 : Aside0 (Kd.C Kd.string W0 A1_1 l1_1.length l1_1 ∧ l1_1.length ≤ c1_1) := ⟨Kd.C_below hr1_1 E0.out, hc1_1⟩
  have R3 : Aside0 (Kd.C Kd.string W0 A1_2 l1_2.length l1_2 ∧ l1_2.length ≤ c1_2) := ⟨Kd.C_below hr1_2 E0.out, hc1_2⟩
  have R4 : Aside0 (Kd.C Kd.string W0 A1_3 l1_3.length l1_3 ∧ l1_3.length ≤ c1_3) := ⟨Kd.C_below hr1_3 E0.out, hc1_3⟩
  have R5 : Aside0 (Kd.C k72 W0 A2_1 l2_1.length l2_1 ∧ l2_1.length ≤ c2_1) := ⟨Kd.C_below hr2_1 E0.out, hc2_1⟩
  have HW0 := Aside0.mk hW0
  clear hp hq hz hsa hsb hsc u1 u2 u3 u4 u5 u6 u7 u8 u9 u10 u11 u12 hW0 hr0 hc0 hr1_0 hc1_0 hr1_1 hc1_1 hr1_2 hc1_2 hr1_3 hc1_3 hr2_1 hc2_1
  go_enter Tryd.func3, Tryd.ntmps3
  go_upto_region 1 with fail
  rw [← HW0.out]
  clear HW0
  go_cut [9, 10, 11] (fun s9 s10 s11 wx => ∃ (A : Option Addr) (c : Nat) (B0 B1 B2 B3 B4 : Option Addr) (d0 d1 d2 d3 d4 ga gb : Nat), s9 = .slice A l0.length c ∧ s10 = .pointer (some ⟨ga, 0, none⟩) ∧ s11 = .pointer (some ⟨gb, 0, none⟩) ∧ Aside0 (CmU W0 l0 l1_0 l1_1 l1_2 l1_3 a1_4 a1_5 a1_6 a2_0 l2_1 (.slice A l0.length c) (.slice B0 l1_0.length d0) (.slice B1 l1_1.length d1) (.slice B2 l1_2.length d2) (.slice B3 l1_3.length d3) (.slice B4 l2_1.length d4) ga gb wx))
  case first =>
    have toS : ∀ W, Below W0.heap.size W0 W → (W.cell? ⟨w.heap.size, 0, none⟩ = some (.slice A1_0 l1_0.length c1_0) ∧ W.cell? ⟨w.heap.size, 1, none⟩ = some (.slice A1_1 l1_1.length c1_1) ∧ W.cell? ⟨w.heap.size, 2, none⟩ = some (.slice A1_2 l1_2.length c1_2) ∧ W.cell? ⟨w.heap.size, 3, none⟩ = some (.slice A1_3 l1_3.length c1_3) ∧ W.cell? ⟨w.heap.size, 4, none⟩ = some (.string a1_4) ∧ W.cell? ⟨w.heap.size, 5, none⟩ = some (.bool a1_5) ∧ W.cell? ⟨w.heap.size, 6, none⟩ = some (.string a1_6) ∧ W.cell? ⟨w.heap.size + 1, 0, none⟩ = some (.int .i64 a2_0) ∧ W.cell? ⟨w.heap.size + 1, 1, none⟩ = some (.slice A2_1 l2_1.length c2_1)) := fun W hB => by
      have e := (hB.block _ (blk_lt XE.out)).trans XE.out
      have d := (hB.block _ (blk_lt XD.out)).trans XD.out
      exact ⟨(blk_cell e 0).trans rfl, (blk_cell e 1).trans rfl, (blk_cell e 2).trans rfl, (blk_cell e 3).trans rfl, (blk_cell e 4).trans rfl, (blk_cell e 5).trans rfl, (blk_cell e 6).trans rfl, (blk_cell d 0).trans rfl, (blk_cell d 1).trans rfl⟩
    have cY := Aside0.mk fun (W : World) (hB : Below W0.heap.size W0 W) => cruciblelaw0_CopyEdge.calls A1_0 c1_0 l1_0 A1_1 c1_1 l1_1 A1_2 c1_2 l1_2 A1_3 c1_3 l1_3 a1_4 a1_5 a1_6 l1_0 l1_1 l1_2 l1_3 a1_4 a1_5 a1_6 W (Kd.C_below R1.out.1 hB) R1.out.2 (Kd.C_below R2.out.1 hB) R2.out.2 (Kd.C_below R3.out.1 hB) R3.out.2 (Kd.C_below R4.out.1 hB) R4.out.2 U2.out
    refine start_ (n := 11) (S := fun w' => w'.cell? ⟨w.heap.size, 0, none⟩ = some (.slice A1_0 l1_0.length c1_0) ∧ w'.cell? ⟨w.heap.size, 1, none⟩ = some (.slice A1_1 l1_1.length c1_1) ∧ w'.cell? ⟨w.heap.size, 2, none⟩ = some (.slice A1_2 l1_2.length c1_2) ∧ w'.cell? ⟨w.heap.size, 3, none⟩ = some (.slice A1_3 l1_3.length c1_3) ∧ w'.cell? ⟨w.heap.size, 4, none⟩ = some (.string a1_4) ∧ w'.cell? ⟨w.heap.size, 5, none⟩ = some (.bool a1_5) ∧ w'.cell? ⟨w.heap.size, 6, none⟩ = some (.string a1_6) ∧ w'.cell? ⟨w.heap.size + 1, 0, none⟩ = some (.int .i64 a2_0) ∧ w'.cell? ⟨w.heap.size + 1, 1, none⟩ = some (.slice A2_1 l2_1.length c2_1)) (ds := []) #[false, false, false, false, false, false, false, false, false, false, false] (by kernel_rfl) rfl rfl (toS _ (below_drew1 (Below.refl _ _))) (fun hHeld => ?_)
    refine with_tabW cm_tab1 cm_bits1 (fun HT_ HW_ => ?_)
    refine pure_ (i := 0) (N := some 22) (v := ?_) (a' := ?_) #[true, false, false, false, false, false, false, false, false, false, false] rfl rfl (any_of HT_.out (by kernel_rfl)) (fun _ _ _ h => h) (Or.inl ⟨by rfl, ?_⟩) ?_ ?_
    rotate_left
    · intro w'
      go_simp
      with_reducible rfl
    rotate_left
    · simp only [Act.put, List.setIfInBounds_toArray, List.set_cons_zero, List.set_cons_succ, i64_w, i32_w]
      rfl
    refine take_ (i := 2) (N := some 24) (v := ?_) (a' := ?_) #[true, false, true, false, false, false, false, false, false, false, false] rfl rfl (take_ofW HT_.out HW_.out (by kernel_rfl)) (fun _ _ _ h => h) (Or.inl ⟨by rfl, ?_⟩) hHeld ?_ ?_
    rotate_left
    · rintro w' ⟨s0, s1, s2, s3, s4, s5, s6, s7, s8⟩
      go_simp
      with_reducible rfl
    rotate_left
    · simp only [Act.put, List.setIfInBounds_toArray, List.set_cons_zero, List.set_cons_succ, i64_w, i32_w]
      rfl
    refine take_ (i := 4) (N := some 26) (v := ?_) (a' := ?_) #[true, false, true, false, true, false, false, false, false, false, false] rfl rfl (take_ofW HT_.out HW_.out (by kernel_rfl)) (fun _ _ _ h => h) (Or.inl ⟨by rfl, ?_⟩) hHeld ?_ ?_
    rotate_left
    · rintro w' ⟨s0, s1, s2, s3, s4, s5, s6, s7, s8⟩
      go_simp
      with_reducible rfl
    rotate_left
    · simp only [Act.put, List.setIfInBounds_toArray, List.set_cons_zero, List.set_cons_succ, i64_w, i32_w]
      rfl
    refine join_ (σ := Value × Value × Value × Value × Value × Value × Nat × Nat) 3 #[true, true, true, true, true, true, true, true, false, false, false] (fun s_ => [(23, s_.1), (25, .agg #[s_.2.1, s_.2.2.1, s_.2.2.2.1, s_.2.2.2.2.1, .string a1_4, .bool a1_5, .string a1_6]), (27, .agg #[.int .i64 a2_0, s_.2.2.2.2.2.1]), (10, .pointer (some ⟨s_.2.2.2.2.2.2.1, 0, none⟩)), (11, .pointer (some ⟨s_.2.2.2.2.2.2.2, 0, none⟩))]) (fun s_ w' => CmS W0 l0 l1_0 l1_1 l1_2 l1_3 l2_1 3 true true s_.1 s_.2.1 s_.2.2.1 s_.2.2.2.1 s_.2.2.2.2.1 s_.2.2.2.2.2.1 s_.2.2.2.2.2.2.1 s_.2.2.2.2.2.2.2 w') ?_ (fun hJ311 => ?_)
    · rintro ⟨vx, y0, y1, y2, y3, vz, ga, gb⟩ W hF
      simp only [] at hF ⊢
      have hx := hF.x (by decide)
      have h0 := hF.y0 (by decide)
      have h1 := hF.y1 (by decide)
      have h2 := hF.y2 (by decide)
      have h3 := hF.y3 (by decide)
      have h4 := hF.z (by decide)
      obtain ⟨A, c, rfl⟩ := Kd.S_slice hx
      obtain ⟨B0, d0, rfl⟩ := Kd.R_slice h0
      obtain ⟨B1, d1, rfl⟩ := Kd.R_slice h1
      obtain ⟨B2, d2, rfl⟩ := Kd.R_slice h2
      obtain ⟨B3, d3, rfl⟩ := Kd.R_slice h3
      obtain ⟨B4, d4, rfl⟩ := Kd.R_slice h4
      have hV := hF.storeA a1_4 a1_5 a1_6
      have HV := Aside0.mk hV
      obtain ⟨xa, xg⟩ := hF.a rfl
      clear hx h0 h1 h2 h3 h4 hV hF
      refine norm_ (a' := ?_) ?_ ?_
      rotate_left
      · simp only [putAll, Act.put, List.setIfInBounds_toArray, List.set_cons_zero, List.set_cons_succ]
        rfl
      refine pure_ (i := 8) (N := some 9) (v := ?_) (a' := ?_) #[true, true, true, true, true, true, true, true, true, false, false] rfl rfl (any_of HT_.out (by kernel_rfl)) (fun _ _ _ h => h) (Or.inl ⟨by rfl, ?_⟩) ?_ ?_
      rotate_left
      · intro w'
        go_simp
        with_reducible rfl
      rotate_left
      · simp only [Act.put, List.setIfInBounds_toArray, List.set_cons_zero, List.set_cons_succ, i64_w, i32_w]
        rfl
      refine one_ (i := 9) (N := none) #[true, true, true, true, true, true, true, true, true, true, false] rfl rfl (one_of HT_.out (by kernel_rfl)) (by decide) (fun K hK => ?_)
      have f0 := blk_frozen xa 0
      have g0 : W.cell? ⟨ga, 0, none⟩ = some (.slice none 0 0) := (blk_cell xa 0).trans rfl
      have f1 := blk_frozen xa 1
      have g1 : W.cell? ⟨ga, 1, none⟩ = some (.slice none 0 0) := (blk_cell xa 1).trans rfl
      have f2 := blk_frozen xa 2
      have g2 : W.cell? ⟨ga, 2, none⟩ = some (.slice none 0 0) := (blk_cell xa 2).trans rfl
      have f3 := blk_frozen xa 3
      have g3 : W.cell? ⟨ga, 3, none⟩ = some (.slice none 0 0) := (blk_cell xa 3).trans rfl
      have f4 := blk_frozen xa 4
      have g4 : W.cell? ⟨ga, 4, none⟩ = some (.string (⟨#[]⟩ : ByteArray)) := (blk_cell xa 4).trans rfl
      have f5 := blk_frozen xa 5
      have g5 : W.cell? ⟨ga, 5, none⟩ = some (.bool false) := (blk_cell xa 5).trans rfl
      have f6 := blk_frozen xa 6
      have g6 : W.cell? ⟨ga, 6, none⟩ = some (.string (⟨#[]⟩ : ByteArray)) := (blk_cell xa 6).trans rfl
      have hgs : ga < W.heap.size := blk_lt xa
      refine skip_ (w1 := ?_) (by rfl) rfl ?_ ?_
      rotate_left
      · go_simp
        rfl
      refine hK.out _ _ (toS _ HV.out.rows.low) (fun _ => ?_)
      clear hK K f0 f1 f2 f3 f4 f5 f6 g0 g1 g2 g3 g4 g5 g6 hgs xa xg
      generalize ((((((World.setCell W _ _).setCell _ _).setCell _ _).setCell _ _).setCell _ _).setCell _ _).setCell _ _ = W1 at HV ⊢
      have hU := HV.out.storeB a2_0
      have HU := Aside0.mk hU
      have xb := HV.out.b
      have hgs : gb < W1.heap.size := blk_lt xb
      clear hU
      refine one_ (i := 10) (N := none) #[true, true, true, true, true, true, true, true, true, true, true] rfl rfl (one_of HT_.out (by kernel_rfl)) (by decide) (fun K hK => ?_)
      have p0 := blk_frozen xb 0
      have q0 : W1.cell? ⟨gb, 0, none⟩ = some (.int .i64 0) := (blk_cell xb 0).trans rfl
      have p1 := blk_frozen xb 1
      have q1 : W1.cell? ⟨gb, 1, none⟩ = some (.slice none 0 0) := (blk_cell xb 1).trans rfl
      refine skip_ (w1 := ?_) (by rfl) rfl ?_ ?_
      rotate_left
      · go_simp
        rfl
      refine hK.out _ _ (toS _ HU.out.rows.low) (fun _ => ?_)
      clear hK K
      refine done_ (done_of HT_.out (by kernel_rfl)) ?_
      go_wp2_with fail
      go_meet
      exact ⟨A, c, B0, B1, B2, B3, B4, d0, d1, d2, d3, d4, ga, gb, rfl, rfl, rfl, HU⟩
    refine join_ (σ := Value × Value × Value × Value × Value × Value × Nat × Nat) 4 #[true, true, true, true, true, false, true, true, false, false, false] (fun s_ => [(23, s_.1), (25, .agg #[s_.2.1, s_.2.2.1, s_.2.2.2.1, s_.2.2.2.2.1, .string a1_4, .bool a1_5, .string a1_6]), (10, .pointer (some ⟨s_.2.2.2.2.2.2.1, 0, none⟩)), (11, .pointer (some ⟨s_.2.2.2.2.2.2.2, 0, none⟩))]) (fun s_ w' => CmS W0 l0 l1_0 l1_1 l1_2 l1_3 l2_1 2 true true s_.1 s_.2.1 s_.2.2.1 s_.2.2.2.1 s_.2.2.2.2.1 s_.2.2.2.2.2.1 s_.2.2.2.2.2.2.1 s_.2.2.2.2.2.2.2 w') ?_ (fun hJ211 => ?_)
    · rintro ⟨vx, y0, y1, y2, y3, vz, ga, gb⟩ W hF
      simp only [] at hF ⊢
      refine norm_ (a' := ?_) ?_ ?_
      rotate_left
      · simp only [putAll, Act.put, List.setIfInBounds_toArray, List.set_cons_zero, List.set_cons_succ]
        rfl
      refine one_ (i := 5) (N := some 27) #[true, true, true, true, true, true, true, true, false, false, false] rfl rfl (one_of HT_.out (by kernel_rfl)) (by decide) (fun K hK => ?_)
      · refine goes_ Tryd.func17 (by kernel_rfl) rfl #[.agg #[.int .i64 a2_0, .slice A2_1 l2_1.length c2_1]] (by rfl) rfl rfl (by (try simp only [List.map_toArray, List.map_cons, List.map_nil]); first | done | rfl) ?_
        with_reducible refine (cruciblelaw0_CopyDisk.calls a2_0 A2_1 c2_1 l2_1 a2_0 l2_1 W (Kd.C_below R5.out.1 hF.low) R5.out.2 U3.out).mono ?_
        rintro e w' ⟨v, rfl, ho, hb⟩
        refine ⟨_, rfl, ?_⟩
        have hG := hF.callZ ho hb
        refine hK.out _ _ (toS _ hG.low) (fun _ => ?_)
        exact norm_ (by show Act.put _ (some 27) _ = _; simp only [putAll, Act.put, List.setIfInBounds_toArray, List.set_cons_zero, List.set_cons_succ]; try rfl) (hJ311 (vx, y0, y1, y2, y3, v, ga, gb) _ hG)
    refine join_ (σ := Value × Value × Value × Value × Value × Value × Nat × Nat) 4 #[true, true, true, true, true, true, false, true, false, false, false] (fun s_ => [(23, s_.1), (25, .agg #[s_.2.1, s_.2.2.1, s_.2.2.2.1, s_.2.2.2.2.1, .string a1_4, .bool a1_5, .string a1_6]), (27, .agg #[.int .i64 a2_0, s_.2.2.2.2.2.1]), (11, .pointer (some ⟨s_.2.2.2.2.2.2.2, 0, none⟩))]) (fun s_ w' => CmS W0 l0 l1_0 l1_1 l1_2 l1_3 l2_1 3 false true s_.1 s_.2.1 s_.2.2.1 s_.2.2.2.1 s_.2.2.2.2.1 s_.2.2.2.2.2.1 s_.2.2.2.2.2.2.1 s_.2.2.2.2.2.2.2 w') ?_ (fun hJ301 => ?_)
    · rintro ⟨vx, y0, y1, y2, y3, vz, ga, gb⟩ W hF
      simp only [] at hF ⊢
      refine norm_ (a' := ?_) ?_ ?_
      rotate_left
      · simp only [putAll, Act.put, List.setIfInBounds_toArray, List.set_cons_zero, List.set_cons_succ]
        rfl
      refine one_ (i := 6) (N := some 10) #[true, true, true, true, true, true, true, true, false, false, false] rfl rfl (one_of HT_.out (by kernel_rfl)) (by decide) (fun K hK => ?_)
      · refine box_step ?hg (N := 10) ?hd (cs := #[.slice none 0 0, .slice none 0 0, .slice none 0 0, .slice none 0 0, .string (⟨#[]⟩ : ByteArray), .bool false, .string (⟨#[]⟩ : ByteArray)]) (t := 25) ?hr ?_; (case hd => rfl); (case hg => rfl); (case hr => first | (go_simp; done) | (go_simp; rfl))
        intro g hg w' hx hb
        have hG := hF.boxA hg hx hb
        refine hK.out _ _ (toS _ hG.low) (fun _ => ?_)
        exact norm_ (by show Act.put _ (some 10) _ = _; simp only [putAll, Act.put, List.setIfInBounds_toArray, List.set_cons_zero, List.set_cons_succ]; try rfl) (hJ311 (vx, y0, y1, y2, y3, vz, g, gb) _ hG)
    refine join_ (σ := Value × Value × Value × Value × Value × Value × Nat × Nat) 4 #[true, true, true, true, true, true, true, false, false, false, false] (fun s_ => [(23, s_.1), (25, .agg #[s_.2.1, s_.2.2.1, s_.2.2.2.1, s_.2.2.2.2.1, .string a1_4, .bool a1_5, .string a1_6]), (27, .agg #[.int .i64 a2_0, s_.2.2.2.2.2.1]), (10, .pointer (some ⟨s_.2.2.2.2.2.2.1, 0, none⟩))]) (fun s_ w' => CmS W0 l0 l1_0 l1_1 l1_2 l1_3 l2_1 3 true false s_.1 s_.2.1 s_.2.2.1 s_.2.2.2.1 s_.2.2.2.2.1 s_.2.2.2.2.2.1 s_.2.2.2.2.2.2.1 s_.2.2.2.2.2.2.2 w') ?_ (fun hJ310 => ?_)
    · rintro ⟨vx, y0, y1, y2, y3, vz, ga, gb⟩ W hF
      simp only [] at hF ⊢
      refine norm_ (a' := ?_) ?_ ?_
      rotate_left
      · simp only [putAll, Act.put, List.setIfInBounds_toArray, List.set_cons_zero, List.set_cons_succ]
        rfl
      refine one_ (i := 7) (N := some 11) #[true, true, true, true, true, true, true, true, false, false, false] rfl rfl (one_of HT_.out (by kernel_rfl)) (by decide) (fun K hK => ?_)
      · refine box_step ?hg (N := 11) ?hd (cs := #[.int .i64 0, .slice none 0 0]) (t := 28) ?hr ?_; (case hd => rfl); (case hg => rfl); (case hr => first | (go_simp; done) | (go_simp; rfl))
        intro g hg w' hx hb
        have hG := hF.boxB hg hx hb
        refine hK.out _ _ (toS _ hG.low) (fun _ => ?_)
        exact norm_ (by show Act.put _ (some 11) _ = _; simp only [putAll, Act.put, List.setIfInBounds_toArray, List.set_cons_zero, List.set_cons_succ]; try rfl) (hJ311 (vx, y0, y1, y2, y3, vz, ga, g) _ hG)
    refine join_ (σ := Value × Value × Value × Value × Value × Value × Nat × Nat) 5 #[true, true, true, false, true, false, true, true, false, false, false] (fun s_ => [(23, s_.1), (10, .pointer (some ⟨s_.2.2.2.2.2.2.1, 0, none⟩)), (11, .pointer (some ⟨s_.2.2.2.2.2.2.2, 0, none⟩))]) (fun s_ w' => CmS W0 l0 l1_0 l1_1 l1_2 l1_3 l2_1 1 true true s_.1 s_.2.1 s_.2.2.1 s_.2.2.2.1 s_.2.2.2.2.1 s_.2.2.2.2.2.1 s_.2.2.2.2.2.2.1 s_.2.2.2.2.2.2.2 w') ?_ (fun hJ111 => ?_)
    · rintro ⟨vx, y0, y1, y2, y3, vz, ga, gb⟩ W hF
      simp only [] at hF ⊢
      refine norm_ (a' := ?_) ?_ ?_
      rotate_left
      · simp only [putAll, Act.put, List.setIfInBounds_toArray, List.set_cons_zero, List.set_cons_succ]
        rfl
      refine one_ (i := 3) (N := some 25) #[true, true, true, true, true, false, true, true, false, false, false] rfl rfl (one_of HT_.out (by kernel_rfl)) (by decide) (fun K hK => ?_)
      · refine goes_ Tryd.func16 (by kernel_rfl) rfl #[.agg #[.slice A1_0 l1_0.length c1_0, .slice A1_1 l1_1.length c1_1, .slice A1_2 l1_2.length c1_2, .slice A1_3 l1_3.length c1_3, .string a1_4, .bool a1_5, .string a1_6]] (by rfl) rfl rfl (by (try simp only [List.map_toArray, List.map_cons, List.map_nil]); first | done | rfl) ?_
        with_reducible refine (cY.out W hF.low).mono ?_
        rintro e w' ⟨v0, v1, v2, v3, rfl, h0, h1, h2, h3, hb⟩
        refine ⟨_, rfl, ?_⟩
        have hG := hF.callY h0 h1 h2 h3 hb
        refine hK.out _ _ (toS _ hG.low) (fun _ => ?_)
        exact norm_ (by show Act.put _ (some 25) _ = _; simp only [putAll, Act.put, List.setIfInBounds_toArray, List.set_cons_zero, List.set_cons_succ]; try rfl) (hJ211 (vx, v0, v1, v2, v3, vz, ga, gb) _ hG)
    refine join_ (σ := Value × Value × Value × Value × Value × Value × Nat × Nat) 5 #[true, true, true, true, true, false, false, true, false, false, false] (fun s_ => [(23, s_.1), (25, .agg #[s_.2.1, s_.2.2.1, s_.2.2.2.1, s_.2.2.2.2.1, .string a1_4, .bool a1_5, .string a1_6]), (11, .pointer (some ⟨s_.2.2.2.2.2.2.2, 0, none⟩))]) (fun s_ w' => CmS W0 l0 l1_0 l1_1 l1_2 l1_3 l2_1 2 false true s_.1 s_.2.1 s_.2.2.1 s_.2.2.2.1 s_.2.2.2.2.1 s_.2.2.2.2.2.1 s_.2.2.2.2.2.2.1 s_.2.2.2.2.2.2.2 w') ?_ (fun hJ201 => ?_)
    · rintro ⟨vx, y0, y1, y2, y3, vz, ga, gb⟩ W hF
      simp only [] at hF ⊢
      refine norm_ (a' := ?_) ?_ ?_
      rotate_left
      · simp only [putAll, Act.put, List.setIfInBounds_toArray, List.set_cons_zero, List.set_cons_succ]
        rfl
      refine two_ (i := 5) (j := 6) (Ni := some 27) (Nj := some 10) #[true, true, true, true, true, true, false, true, false, false, false] #[true, true, true, true, true, false, true, true, false, false, false] rfl rfl rfl rfl (two_of HT_.out (by kernel_rfl)) (by decide) (by decide) (fun K hK => ?_) (fun K hK => ?_)
      · refine goes_ Tryd.func17 (by kernel_rfl) rfl #[.agg #[.int .i64 a2_0, .slice A2_1 l2_1.length c2_1]] (by rfl) rfl rfl (by (try simp only [List.map_toArray, List.map_cons, List.map_nil]); first | done | rfl) ?_
        with_reducible refine (cruciblelaw0_CopyDisk.calls a2_0 A2_1 c2_1 l2_1 a2_0 l2_1 W (Kd.C_below R5.out.1 hF.low) R5.out.2 U3.out).mono ?_
        rintro e w' ⟨v, rfl, ho, hb⟩
        refine ⟨_, rfl, ?_⟩
        have hG := hF.callZ ho hb
        refine hK.out _ _ (toS _ hG.low) (fun _ => ?_)
        exact norm_ (by show Act.put _ (some 27) _ = _; simp only [putAll, Act.put, List.setIfInBounds_toArray, List.set_cons_zero, List.set_cons_succ]; try rfl) (hJ301 (vx, y0, y1, y2, y3, v, ga, gb) _ hG)
      · refine box_step ?hg (N := 10) ?hd (cs := #[.slice none 0 0, .slice none 0 0, .slice none 0 0, .slice none 0 0, .string (⟨#[]⟩ : ByteArray), .bool false, .string (⟨#[]⟩ : ByteArray)]) (t := 25) ?hr ?_; (case hd => rfl); (case hg => rfl); (case hr => first | (go_simp; done) | (go_simp; rfl))
        intro g hg w' hx hb
        have hG := hF.boxA hg hx hb
        refine hK.out _ _ (toS _ hG.low) (fun _ => ?_)
        exact norm_ (by show Act.put _ (some 10) _ = _; simp only [putAll, Act.put, List.setIfInBounds_toArray, List.set_cons_zero, List.set_cons_succ]; try rfl) (hJ211 (vx, y0, y1, y2, y3, vz, g, gb) _ hG)
    refine join_ (σ := Value × Value × Value × Value × Value × Value × Nat × Nat) 5 #[true, true, true, true, true, false, true, false, false, false, false] (fun s_ => [(23, s_.1), (25, .agg #[s_.2.1, s_.2.2.1, s_.2.2.2.1, s_.2.2.2.2.1, .string a1_4, .bool a1_5, .string a1_6]), (10, .pointer (some ⟨s_.2.2.2.2.2.2.1, 0, none⟩))]) (fun s_ w' => CmS W0 l0 l1_0 l1_1 l1_2 l1_3 l2_1 2 true false s_.1 s_.2.1 s_.2.2.1 s_.2.2.2.1 s_.2.2.2.2.1 s_.2.2.2.2.2.1 s_.2.2.2.2.2.2.1 s_.2.2.2.2.2.2.2 w') ?_ (fun hJ210 => ?_)
    · rintro ⟨vx, y0, y1, y2, y3, vz, ga, gb⟩ W hF
      simp only [] at hF ⊢
      refine norm_ (a' := ?_) ?_ ?_
      rotate_left
      · simp only [putAll, Act.put, List.setIfInBounds_toArray, List.set_cons_zero, List.set_cons_succ]
        rfl
      refine two_ (i := 5) (j := 7) (Ni := some 27) (Nj := some 11) #[true, true, true, true, true, true, true, false, false, false, false] #[true, true, true, true, true, false, true, true, false, false, false] rfl rfl rfl rfl (two_of HT_.out (by kernel_rfl)) (by decide) (by decide) (fun K hK => ?_) (fun K hK => ?_)
      · refine goes_ Tryd.func17 (by kernel_rfl) rfl #[.agg #[.int .i64 a2_0, .slice A2_1 l2_1.length c2_1]] (by rfl) rfl rfl (by (try simp only [List.map_toArray, List.map_cons, List.map_nil]); first | done | rfl) ?_
        with_reducible refine (cruciblelaw0_CopyDisk.calls a2_0 A2_1 c2_1 l2_1 a2_0 l2_1 W (Kd.C_below R5.out.1 hF.low) R5.out.2 U3.out).mono ?_
        rintro e w' ⟨v, rfl, ho, hb⟩
        refine ⟨_, rfl, ?_⟩
        have hG := hF.callZ ho hb
        refine hK.out _ _ (toS _ hG.low) (fun _ => ?_)
        exact norm_ (by show Act.put _ (some 27) _ = _; simp only [putAll, Act.put, List.setIfInBounds_toArray, List.set_cons_zero, List.set_cons_succ]; try rfl) (hJ310 (vx, y0, y1, y2, y3, v, ga, gb) _ hG)
      · refine box_step ?hg (N := 11) ?hd (cs := #[.int .i64 0, .slice none 0 0]) (t := 28) ?hr ?_; (case hd => rfl); (case hg => rfl); (case hr => first | (go_simp; done) | (go_simp; rfl))
        intro g hg w' hx hb
        have hG := hF.boxB hg hx hb
        refine hK.out _ _ (toS _ hG.low) (fun _ => ?_)
        exact norm_ (by show Act.put _ (some 11) _ = _; simp only [putAll, Act.put, List.setIfInBounds_toArray, List.set_cons_zero, List.set_cons_succ]; try rfl) (hJ211 (vx, y0, y1, y2, y3, vz, ga, g) _ hG)
    refine join_ (σ := Value × Value × Value × Value × Value × Value × Nat × Nat) 5 #[true, true, true, true, true, true, false, false, false, false, false] (fun s_ => [(23, s_.1), (25, .agg #[s_.2.1, s_.2.2.1, s_.2.2.2.1, s_.2.2.2.2.1, .string a1_4, .bool a1_5, .string a1_6]), (27, .agg #[.int .i64 a2_0, s_.2.2.2.2.2.1])]) (fun s_ w' => CmS W0 l0 l1_0 l1_1 l1_2 l1_3 l2_1 3 false false s_.1 s_.2.1 s_.2.2.1 s_.2.2.2.1 s_.2.2.2.2.1 s_.2.2.2.2.2.1 s_.2.2.2.2.2.2.1 s_.2.2.2.2.2.2.2 w') ?_ (fun hJ300 => ?_)
    · rintro ⟨vx, y0, y1, y2, y3, vz, ga, gb⟩ W hF
      simp only [] at hF ⊢
      refine norm_ (a' := ?_) ?_ ?_
      rotate_left
      · simp only [putAll, Act.put, List.setIfInBounds_toArray, List.set_cons_zero, List.set_cons_succ]
        rfl
      refine two_ (i := 6) (j := 7) (Ni := some 10) (Nj := some 11) #[true, true, true, true, true, true, true, false, false, false, false] #[true, true, true, true, true, true, false, true, false, false, false] rfl rfl rfl rfl (two_of HT_.out (by kernel_rfl)) (by decide) (by decide) (fun K hK => ?_) (fun K hK => ?_)
      · refine box_step ?hg (N := 10) ?hd (cs := #[.slice none 0 0, .slice none 0 0, .slice none 0 0, .slice none 0 0, .string (⟨#[]⟩ : ByteArray), .bool false, .string (⟨#[]⟩ : ByteArray)]) (t := 25) ?hr ?_; (case hd => rfl); (case hg => rfl); (case hr => first | (go_simp; done) | (go_simp; rfl))
        intro g hg w' hx hb
        have hG := hF.boxA hg hx hb
        refine hK.out _ _ (toS _ hG.low) (fun _ => ?_)
        exact norm_ (by show Act.put _ (some 10) _ = _; simp only [putAll, Act.put, List.setIfInBounds_toArray, List.set_cons_zero, List.set_cons_succ]; try rfl) (hJ310 (vx, y0, y1, y2, y3, vz, g, gb) _ hG)
      · refine box_step ?hg (N := 11) ?hd (cs := #[.int .i64 0, .slice none 0 0]) (t := 28) ?hr ?_; (case hd => rfl); (case hg => rfl); (case hr => first | (go_simp; done) | (go_simp; rfl))
        intro g hg w' hx hb
        have hG := hF.boxB hg hx hb
        refine hK.out _ _ (toS _ hG.low) (fun _ => ?_)
        exact norm_ (by show Act.put _ (some 11) _ = _; simp only [putAll, Act.put, List.setIfInBounds_toArray, List.set_cons_zero, List.set_cons_succ]; try rfl) (hJ301 (vx, y0, y1, y2, y3, vz, ga, g) _ hG)
    refine join_ (σ := Value × Value × Value × Value × Value × Value × Nat × Nat) 6 #[true, false, true, false, true, false, true, true, false, false, false] (fun s_ => [(10, .pointer (some ⟨s_.2.2.2.2.2.2.1, 0, none⟩)), (11, .pointer (some ⟨s_.2.2.2.2.2.2.2, 0, none⟩))]) (fun s_ w' => CmS W0 l0 l1_0 l1_1 l1_2 l1_3 l2_1 0 true true s_.1 s_.2.1 s_.2.2.1 s_.2.2.2.1 s_.2.2.2.2.1 s_.2.2.2.2.2.1 s_.2.2.2.2.2.2.1 s_.2.2.2.2.2.2.2 w') ?_ (fun hJ011 => ?_)
    · rintro ⟨vx, y0, y1, y2, y3, vz, ga, gb⟩ W hF
      simp only [] at hF ⊢
      refine norm_ (a' := ?_) ?_ ?_
      rotate_left
      · simp only [putAll, Act.put, List.setIfInBounds_toArray, List.set_cons_zero, List.set_cons_succ]
        rfl
      refine one_ (i := 1) (N := some 23) #[true, true, true, false, true, false, true, true, false, false, false] rfl rfl (one_of HT_.out (by kernel_rfl)) (by decide) (fun K hK => ?_)
      · refine goes_ Tryd.func15 (by kernel_rfl) rfl #[.slice A0 l0.length c0] (by rfl) rfl rfl (by (try simp only [List.map_toArray, List.map_cons, List.map_nil]); first | done | rfl) ?_
        with_reducible refine (cruciblelaw0_CopyActions.calls k A0 c0 l0 l0 W (Kd.C_below R0.out.1 hF.low) R0.out.2 U1.out).mono ?_
        rintro e w' ⟨v, rfl, ho, hb⟩
        refine ⟨_, rfl, ?_⟩
        have hG := hF.callX ho hb
        refine hK.out _ _ (toS _ hG.low) (fun _ => ?_)
        exact norm_ (by show Act.put _ (some 23) _ = _; simp only [putAll, Act.put, List.setIfInBounds_toArray, List.set_cons_zero, List.set_cons_succ]; try rfl) (hJ111 (v, y0, y1, y2, y3, vz, ga, gb) _ hG)
    refine join_ (σ := Value × Value × Value × Value × Value × Value × Nat × Nat) 6 #[true, true, true, false, true, false, false, true, false, false, false] (fun s_ => [(23, s_.1), (11, .pointer (some ⟨s_.2.2.2.2.2.2.2, 0, none⟩))]) (fun s_ w' => CmS W0 l0 l1_0 l1_1 l1_2 l1_3 l2_1 1 false true s_.1 s_.2.1 s_.2.2.1 s_.2.2.2.1 s_.2.2.2.2.1 s_.2.2.2.2.2.1 s_.2.2.2.2.2.2.1 s_.2.2.2.2.2.2.2 w') ?_ (fun hJ101 => ?_)
    · rintro ⟨vx, y0, y1, y2, y3, vz, ga, gb⟩ W hF
      simp only [] at hF ⊢
      refine norm_ (a' := ?_) ?_ ?_
      rotate_left
      · simp only [putAll, Act.put, List.setIfInBounds_toArray, List.set_cons_zero, List.set_cons_succ]
        rfl
      refine two_ (i := 3) (j := 6) (Ni := some 25) (Nj := some 10) #[true, true, true, true, true, false, false, true, false, false, false] #[true, true, true, false, true, false, true, true, false, false, false] rfl rfl rfl rfl (two_of HT_.out (by kernel_rfl)) (by decide) (by decide) (fun K hK => ?_) (fun K hK => ?_)
      · refine goes_ Tryd.func16 (by kernel_rfl) rfl #[.agg #[.slice A1_0 l1_0.length c1_0, .slice A1_1 l1_1.length c1_1, .slice A1_2 l1_2.length c1_2, .slice A1_3 l1_3.length c1_3, .string a1_4, .bool a1_5, .string a1_6]] (by rfl) rfl rfl (by (try simp only [List.map_toArray, List.map_cons, List.map_nil]); first | done | rfl) ?_
        with_reducible refine (cY.out W hF.low).mono ?_
        rintro e w' ⟨v0, v1, v2, v3, rfl, h0, h1, h2, h3, hb⟩
        refine ⟨_, rfl, ?_⟩
        have hG := hF.callY h0 h1 h2 h3 hb
        refine hK.out _ _ (toS _ hG.low) (fun _ => ?_)
        exact norm_ (by show Act.put _ (some 25) _ = _; simp only [putAll, Act.put, List.setIfInBounds_toArray, List.set_cons_zero, List.set_cons_succ]; try rfl) (hJ201 (vx, v0, v1, v2, v3, vz, ga, gb) _ hG)
      · refine box_step ?hg (N := 10) ?hd (cs := #[.slice none 0 0, .slice none 0 0, .slice none 0 0, .slice none 0 0, .string (⟨#[]⟩ : ByteArray), .bool false, .string (⟨#[]⟩ : ByteArray)]) (t := 25) ?hr ?_; (case hd => rfl); (case hg => rfl); (case hr => first | (go_simp; done) | (go_simp; rfl))
        intro g hg w' hx hb
        have hG := hF.boxA hg hx hb
        refine hK.out _ _ (toS _ hG.low) (fun _ => ?_)
        exact norm_ (by show Act.put _ (some 10) _ = _; simp only [putAll, Act.put, List.setIfInBounds_toArray, List.set_cons_zero, List.set_cons_succ]; try rfl) (hJ111 (vx, y0, y1, y2, y3, vz, g, gb) _ hG)
    refine join_ (σ := Value × Value × Value × Value × Value × Value × Nat × Nat) 6 #[true, true, true, false, true, false, true, false, false, false, false] (fun s_ => [(23, s_.1), (10, .pointer (some ⟨s_.2.2.2.2.2.2.1, 0, none⟩))]) (fun s_ w' => CmS W0 l0 l1_0 l1_1 l1_2 l1_3 l2_1 1 true false s_.1 s_.2.1 s_.2.2.1 s_.2.2.2.1 s_.2.2.2.2.1 s_.2.2.2.2.2.1 s_.2.2.2.2.2.2.1 s_.2.2.2.2.2.2.2 w') ?_ (fun hJ110 => ?_)
    · rintro ⟨vx, y0, y1, y2, y3, vz, ga, gb⟩ W hF
      simp only [] at hF ⊢
      refine norm_ (a' := ?_) ?_ ?_
      rotate_left
      · simp only [putAll, Act.put, List.setIfInBounds_toArray, List.set_cons_zero, List.set_cons_succ]
        rfl
      refine two_ (i := 3) (j := 7) (Ni := some 25) (Nj := some 11) #[true, true, true, true, true, false, true, false, false, false, false] #[true, true, true, false, true, false, true, true, false, false, false] rfl rfl rfl rfl (two_of HT_.out (by kernel_rfl)) (by decide) (by decide) (fun K hK => ?_) (fun K hK => ?_)
      · refine goes_ Tryd.func16 (by kernel_rfl) rfl #[.agg #[.slice A1_0 l1_0.length c1_0, .slice A1_1 l1_1.length c1_1, .slice A1_2 l1_2.length c1_2, .slice A1_3 l1_3.length c1_3, .string a1_4, .bool a1_5, .string a1_6]] (by rfl) rfl rfl (by (try simp only [List.map_toArray, List.map_cons, List.map_nil]); first | done | rfl) ?_
        with_reducible refine (cY.out W hF.low).mono ?_
        rintro e w' ⟨v0, v1, v2, v3, rfl, h0, h1, h2, h3, hb⟩
        refine ⟨_, rfl, ?_⟩
        have hG := hF.callY h0 h1 h2 h3 hb
        refine hK.out _ _ (toS _ hG.low) (fun _ => ?_)
        exact norm_ (by show Act.put _ (some 25) _ = _; simp only [putAll, Act.put, List.setIfInBounds_toArray, List.set_cons_zero, List.set_cons_succ]; try rfl) (hJ210 (vx, v0, v1, v2, v3, vz, ga, gb) _ hG)
      · refine box_step ?hg (N := 11) ?hd (cs := #[.int .i64 0, .slice none 0 0]) (t := 28) ?hr ?_; (case hd => rfl); (case hg => rfl); (case hr => first | (go_simp; done) | (go_simp; rfl))
        intro g hg w' hx hb
        have hG := hF.boxB hg hx hb
        refine hK.out _ _ (toS _ hG.low) (fun _ => ?_)
        exact norm_ (by show Act.put _ (some 11) _ = _; simp only [putAll, Act.put, List.setIfInBounds_toArray, List.set_cons_zero, List.set_cons_succ]; try rfl) (hJ111 (vx, y0, y1, y2, y3, vz, ga, g) _ hG)
    refine join_ (σ := Value × Value × Value × Value × Value × Value × Nat × Nat) 6 #[true, true, true, true, true, false, false, false, false, false, false] (fun s_ => [(23, s_.1), (25, .agg #[s_.2.1, s_.2.2.1, s_.2.2.2.1, s_.2.2.2.2.1, .string a1_4, .bool a1_5, .string a1_6])]) (fun s_ w' => CmS W0 l0 l1_0 l1_1 l1_2 l1_3 l2_1 2 false false s_.1 s_.2.1 s_.2.2.1 s_.2.2.2.1 s_.2.2.2.2.1 s_.2.2.2.2.2.1 s_.2.2.2.2.2.2.1 s_.2.2.2.2.2.2.2 w') ?_ (fun hJ200 => ?_)
    · rintro ⟨vx, y0, y1, y2, y3, vz, ga, gb⟩ W hF
      simp only [] at hF ⊢
      refine norm_ (a' := ?_) ?_ ?_
      rotate_left
      · simp only [putAll, Act.put, List.setIfInBounds_toArray, List.set_cons_zero, List.set_cons_succ]
        rfl
      refine three_ (i := 5) (j := 6) (k := 7) (Ni := some 27) (Nj := some 10) (Nk := some 11) #[true, true, true, true, true, true, false, false, false, false, false] #[true, true, true, true, true, false, true, false, false, false, false] #[true, true, true, true, true, false, false, true, false, false, false] rfl rfl rfl rfl rfl rfl (three_of HT_.out (by kernel_rfl)) (by decide) (by decide) (by decide) (fun K hK => ?_) (fun K hK => ?_) (fun K hK => ?_)
      · refine goes_ Tryd.func17 (by kernel_rfl) rfl #[.agg #[.int .i64 a2_0, .slice A2_1 l2_1.length c2_1]] (by rfl) rfl rfl (by (try simp only [List.map_toArray, List.map_cons, List.map_nil]); first | done | rfl) ?_
        with_reducible refine (cruciblelaw0_CopyDisk.calls a2_0 A2_1 c2_1 l2_1 a2_0 l2_1 W (Kd.C_below R5.out.1 hF.low) R5.out.2 U3.out).mono ?_
        rintro e w' ⟨v, rfl, ho, hb⟩
        refine ⟨_, rfl, ?_⟩
        have hG := hF.callZ ho hb
        refine hK.out _ _ (toS _ hG.low) (fun _ => ?_)
        exact norm_ (by show Act.put _ (some 27) _ = _; simp only [putAll, Act.put, List.setIfInBounds_toArray, List.set_cons_zero, List.set_cons_succ]; try rfl) (hJ300 (vx, y0, y1, y2, y3, v, ga, gb) _ hG)
      · refine box_step ?hg (N := 10) ?hd (cs := #[.slice none 0 0, .slice none 0 0, .slice none 0 0, .slice none 0 0, .string (⟨#[]⟩ : ByteArray), .bool false, .string (⟨#[]⟩ : ByteArray)]) (t := 25) ?hr ?_; (case hd => rfl); (case hg => rfl); (case hr => first | (go_simp; done) | (go_simp; rfl))
        intro g hg w' hx hb
        have hG := hF.boxA hg hx hb
        refine hK.out _ _ (toS _ hG.low) (fun _ => ?_)
        exact norm_ (by show Act.put _ (some 10) _ = _; simp only [putAll, Act.put, List.setIfInBounds_toArray, List.set_cons_zero, List.set_cons_succ]; try rfl) (hJ210 (vx, y0, y1, y2, y3, vz, g, gb) _ hG)
      · refine box_step ?hg (N := 11) ?hd (cs := #[.int .i64 0, .slice none 0 0]) (t := 28) ?hr ?_; (case hd => rfl); (case hg => rfl); (case hr => first | (go_simp; done) | (go_simp; rfl))
        intro g hg w' hx hb
        have hG := hF.boxB hg hx hb
        refine hK.out _ _ (toS _ hG.low) (fun _ => ?_)
        exact norm_ (by show Act.put _ (some 11) _ = _; simp only [putAll, Act.put, List.setIfInBounds_toArray, List.set_cons_zero, List.set_cons_succ]; try rfl) (hJ201 (vx, y0, y1, y2, y3, vz, ga, g) _ hG)
    refine join_ (σ := Value × Value × Value × Value × Value × Value × Nat × Nat) 7 #[true, false, true, false, true, false, false, true, false, false, false] (fun s_ => [(11, .pointer (some ⟨s_.2.2.2.2.2.2.2, 0, none⟩))]) (fun s_ w' => CmS W0 l0 l1_0 l1_1 l1_2 l1_3 l2_1 0 false true s_.1 s_.2.1 s_.2.2.1 s_.2.2.2.1 s_.2.2.2.2.1 s_.2.2.2.2.2.1 s_.2.2.2.2.2.2.1 s_.2.2.2.2.2.2.2 w') ?_ (fun hJ001 => ?_)
    · rintro ⟨vx, y0, y1, y2, y3, vz, ga, gb⟩ W hF
      simp only [] at hF ⊢
      refine norm_ (a' := ?_) ?_ ?_
      rotate_left
      · simp only [putAll, Act.put, List.setIfInBounds_toArray, List.set_cons_zero, List.set_cons_succ]
        rfl
      refine two_ (i := 1) (j := 6) (Ni := some 23) (Nj := some 10) #[true, true, true, false, true, false, false, true, false, false, false] #[true, false, true, false, true, false, true, true, false, false, false] rfl rfl rfl rfl (two_of HT_.out (by kernel_rfl)) (by decide) (by decide) (fun K hK => ?_) (fun K hK => ?_)
      · refine goes_ Tryd.func15 (by kernel_rfl) rfl #[.slice A0 l0.length c0] (by rfl) rfl rfl (by (try simp only [List.map_toArray, List.map_cons, List.map_nil]); first | done | rfl) ?_
        with_reducible refine (cruciblelaw0_CopyActions.calls k A0 c0 l0 l0 W (Kd.C_below R0.out.1 hF.low) R0.out.2 U1.out).mono ?_
        rintro e w' ⟨v, rfl, ho, hb⟩
        refine ⟨_, rfl, ?_⟩
        have hG := hF.callX ho hb
        refine hK.out _ _ (toS _ hG.low) (fun _ => ?_)
        exact norm_ (by show Act.put _ (some 23) _ = _; simp only [putAll, Act.put, List.setIfInBounds_toArray, List.set_cons_zero, List.set_cons_succ]; try rfl) (hJ101 (v, y0, y1, y2, y3, vz, ga, gb) _ hG)
      · refine box_step ?hg (N := 10) ?hd (cs := #[.slice none 0 0, .slice none 0 0, .slice none 0 0, .slice none 0 0, .string (⟨#[]⟩ : ByteArray), .bool false, .string (⟨#[]⟩ : ByteArray)]) (t := 25) ?hr ?_; (case hd => rfl); (case hg => rfl); (case hr => first | (go_simp; done) | (go_simp; rfl))
        intro g hg w' hx hb
        have hG := hF.boxA hg hx hb
        refine hK.out _ _ (toS _ hG.low) (fun _ => ?_)
        exact norm_ (by show Act.put _ (some 10) _ = _; simp only [putAll, Act.put, List.setIfInBounds_toArray, List.set_cons_zero, List.set_cons_succ]; try rfl) (hJ011 (vx, y0, y1, y2, y3, vz, g, gb) _ hG)
    refine join_ (σ := Value × Value × Value × Value × Value × Value × Nat × Nat) 7 #[true, false, true, false, true, false, true, false, false, false, false] (fun s_ => [(10, .pointer (some ⟨s_.2.2.2.2.2.2.1, 0, none⟩))]) (fun s_ w' => CmS W0 l0 l1_0 l1_1 l1_2 l1_3 l2_1 0 true false s_.1 s_.2.1 s_.2.2.1 s_.2.2.2.1 s_.2.2.2.2.1 s_.2.2.2.2.2.1 s_.2.2.2.2.2.2.1 s_.2.2.2.2.2.2.2 w') ?_ (fun hJ010 => ?_)
    · rintro ⟨vx, y0, y1, y2, y3, vz, ga, gb⟩ W hF
      simp only [] at hF ⊢
      refine norm_ (a' := ?_) ?_ ?_
      rotate_left
      · simp only [putAll, Act.put, List.setIfInBounds_toArray, List.set_cons_zero, List.set_cons_succ]
        rfl
      refine two_ (i := 1) (j := 7) (Ni := some 23) (Nj := some 11) #[true, true, true, false, true, false, true, false, false, false, false] #[true, false, true, false, true, false, true, true, false, false, false] rfl rfl rfl rfl (two_of HT_.out (by kernel_rfl)) (by decide) (by decide) (fun K hK => ?_) (fun K hK => ?_)
      · refine goes_ Tryd.func15 (by kernel_rfl) rfl #[.slice A0 l0.length c0] (by rfl) rfl rfl (by (try simp only [List.map_toArray, List.map_cons, List.map_nil]); first | done | rfl) ?_
        with_reducible refine (cruciblelaw0_CopyActions.calls k A0 c0 l0 l0 W (Kd.C_below R0.out.1 hF.low) R0.out.2 U1.out).mono ?_
        rintro e w' ⟨v, rfl, ho, hb⟩
        refine ⟨_, rfl, ?_⟩
        have hG := hF.callX ho hb
        refine hK.out _ _ (toS _ hG.low) (fun _ => ?_)
        exact norm_ (by show Act.put _ (some 23) _ = _; simp only [putAll, Act.put, List.setIfInBounds_toArray, List.set_cons_zero, List.set_cons_succ]; try rfl) (hJ110 (v, y0, y1, y2, y3, vz, ga, gb) _ hG)
      · refine box_step ?hg (N := 11) ?hd (cs := #[.int .i64 0, .slice none 0 0]) (t := 28) ?hr ?_; (case hd => rfl); (case hg => rfl); (case hr => first | (go_simp; done) | (go_simp; rfl))
        intro g hg w' hx hb
        have hG := hF.boxB hg hx hb
        refine hK.out _ _ (toS _ hG.low) (fun _ => ?_)
        exact norm_ (by show Act.put _ (some 11) _ = _; simp only [putAll, Act.put, List.setIfInBounds_toArray, List.set_cons_zero, List.set_cons_succ]; try rfl) (hJ011 (vx, y0, y1, y2, y3, vz, ga, g) _ hG)
    refine join_ (σ := Value × Value × Value × Value × Value × Value × Nat × Nat) 7 #[true, true, true, false, true, false, false, false, false, false, false] (fun s_ => [(23, s_.1)]) (fun s_ w' => CmS W0 l0 l1_0 l1_1 l1_2 l1_3 l2_1 1 false false s_.1 s_.2.1 s_.2.2.1 s_.2.2.2.1 s_.2.2.2.2.1 s_.2.2.2.2.2.1 s_.2.2.2.2.2.2.1 s_.2.2.2.2.2.2.2 w') ?_ (fun hJ100 => ?_)
    · rintro ⟨vx, y0, y1, y2, y3, vz, ga, gb⟩ W hF
      simp only [] at hF ⊢
      refine norm_ (a' := ?_) ?_ ?_
      rotate_left
      · simp only [putAll, Act.put, List.setIfInBounds_toArray, List.set_cons_zero, List.set_cons_succ]
        rfl
      refine three_ (i := 3) (j := 6) (k := 7) (Ni := some 25) (Nj := some 10) (Nk := some 11) #[true, true, true, true, true, false, false, false, false, false, false] #[true, true, true, false, true, false, true, false, false, false, false] #[true, true, true, false, true, false, false, true, false, false, false] rfl rfl rfl rfl rfl rfl (three_of HT_.out (by kernel_rfl)) (by decide) (by decide) (by decide) (fun K hK => ?_) (fun K hK => ?_) (fun K hK => ?_)
      · refine goes_ Tryd.func16 (by kernel_rfl) rfl #[.agg #[.slice A1_0 l1_0.length c1_0, .slice A1_1 l1_1.length c1_1, .slice A1_2 l1_2.length c1_2, .slice A1_3 l1_3.length c1_3, .string a1_4, .bool a1_5, .string a1_6]] (by rfl) rfl rfl (by (try simp only [List.map_toArray, List.map_cons, List.map_nil]); first | done | rfl) ?_
        with_reducible refine (cY.out W hF.low).mono ?_
        rintro e w' ⟨v0, v1, v2, v3, rfl, h0, h1, h2, h3, hb⟩
        refine ⟨_, rfl, ?_⟩
        have hG := hF.callY h0 h1 h2 h3 hb
        refine hK.out _ _ (toS _ hG.low) (fun _ => ?_)
        exact norm_ (by show Act.put _ (some 25) _ = _; simp only [putAll, Act.put, List.setIfInBounds_toArray, List.set_cons_zero, List.set_cons_succ]; try rfl) (hJ200 (vx, v0, v1, v2, v3, vz, ga, gb) _ hG)
      · refine box_step ?hg (N := 10) ?hd (cs := #[.slice none 0 0, .slice none 0 0, .slice none 0 0, .slice none 0 0, .string (⟨#[]⟩ : ByteArray), .bool false, .string (⟨#[]⟩ : ByteArray)]) (t := 25) ?hr ?_; (case hd => rfl); (case hg => rfl); (case hr => first | (go_simp; done) | (go_simp; rfl))
        intro g hg w' hx hb
        have hG := hF.boxA hg hx hb
        refine hK.out _ _ (toS _ hG.low) (fun _ => ?_)
        exact norm_ (by show Act.put _ (some 10) _ = _; simp only [putAll, Act.put, List.setIfInBounds_toArray, List.set_cons_zero, List.set_cons_succ]; try rfl) (hJ110 (vx, y0, y1, y2, y3, vz, g, gb) _ hG)
      · refine box_step ?hg (N := 11) ?hd (cs := #[.int .i64 0, .slice none 0 0]) (t := 28) ?hr ?_; (case hd => rfl); (case hg => rfl); (case hr => first | (go_simp; done) | (go_simp; rfl))
        intro g hg w' hx hb
        have hG := hF.boxB hg hx hb
        refine hK.out _ _ (toS _ hG.low) (fun _ => ?_)
        exact norm_ (by show Act.put _ (some 11) _ = _; simp only [putAll, Act.put, List.setIfInBounds_toArray, List.set_cons_zero, List.set_cons_succ]; try rfl) (hJ101 (vx, y0, y1, y2, y3, vz, ga, g) _ hG)
    have hF : CmS W0 l0 l1_0 l1_1 l1_2 l1_3 l2_1 0 false false undef undef undef undef undef undef 0 0 W0.drew := ⟨below_drew1 (Below.refl _ _), fun q => absurd q (by decide), fun q => absurd q (by decide), fun q => absurd q (by decide), fun q => absurd q (by decide), fun q => absurd q (by decide), fun q => absurd q (by decide), fun q => absurd q (by decide), fun q => absurd q (by decide), fun q _ => absurd q (by decide)⟩
    generalize W0.drew = W at hF ⊢
    refine three_ (i := 1) (j := 6) (k := 7) (Ni := some 23) (Nj := some 10) (Nk := some 11) #[true, true, true, false, true, false, false, false, false, false, false] #[true, false, true, false, true, false, true, false, false, false, false] #[true, false, true, false, true, false, false, true, false, false, false] rfl rfl rfl rfl rfl rfl (three_of HT_.out (by kernel_rfl)) (by decide) (by decide) (by decide) (fun K hK => ?_) (fun K hK => ?_) (fun K hK => ?_)
    · refine goes_ Tryd.func15 (by kernel_rfl) rfl #[.slice A0 l0.length c0] (by rfl) rfl rfl (by (try simp only [List.map_toArray, List.map_cons, List.map_nil]); first | done | rfl) ?_
      with_reducible refine (cruciblelaw0_CopyActions.calls k A0 c0 l0 l0 W (Kd.C_below R0.out.1 hF.low) R0.out.2 U1.out).mono ?_
      rintro e w' ⟨v, rfl, ho, hb⟩
      refine ⟨_, rfl, ?_⟩
      have hG := hF.callX ho hb
      refine hK.out _ _ (toS _ hG.low) (fun _ => ?_)
      exact norm_ (by show Act.put _ (some 23) _ = _; simp only [putAll, Act.put, List.setIfInBounds_toArray, List.set_cons_zero, List.set_cons_succ]; try rfl) (hJ100 (v, undef, undef, undef, undef, undef, 0, 0) _ hG)
    · refine box_step ?hg (N := 10) ?hd (cs := #[.slice none 0 0, .slice none 0 0, .slice none 0 0, .slice none 0 0, .string (⟨#[]⟩ : ByteArray), .bool false, .string (⟨#[]⟩ : ByteArray)]) (t := 25) ?hr ?_; (case hd => rfl); (case hg => rfl); (case hr => first | (go_simp; done) | (go_simp; rfl))
      intro g hg w' hx hb
      have hG := hF.boxA hg hx hb
      refine hK.out _ _ (toS _ hG.low) (fun _ => ?_)
      exact norm_ (by show Act.put _ (some 10) _ = _; simp only [putAll, Act.put, List.setIfInBounds_toArray, List.set_cons_zero, List.set_cons_succ]; try rfl) (hJ010 (undef, undef, undef, undef, undef, undef, g, 0) _ hG)
    · refine box_step ?hg (N := 11) ?hd (cs := #[.int .i64 0, .slice none 0 0]) (t := 28) ?hr ?_; (case hd => rfl); (case hg => rfl); (case hr => first | (go_simp; done) | (go_simp; rfl))
      intro g hg w' hx hb
      have hG := hF.boxB hg hx hb
      refine hK.out _ _ (toS _ hG.low) (fun _ => ?_)
      exact norm_ (by show Act.put _ (some 11) _ = _; simp only [putAll, Act.put, List.setIfInBounds_toArray, List.set_cons_zero, List.set_cons_succ]; try rfl) (hJ001 (undef, undef, undef, undef, undef, undef, 0, g) _ hG)
  case rest =>
  obtain ⟨A, c, B0, B1, B2, B3, B4, d0, d1, d2, d3, d4, ga, gb, rfl, rfl, rfl, HU⟩ := hcut
  have HUc := HU
  have CM : Aside0 (Below wc.heap.size wc wc) := ⟨Below.refl _ _⟩
  clear U1 U2 U3
  have cc := command_Action.calls k A c l0 a3 p1 p2 p3 wc (cm_S HU.out.rows.x).1 (cm_S HU.out.rows.x).2 HP.out
  go_wp2_with fail
  refine cc.mono ?_
  clear cc
  rintro e w2 ⟨v, rfl, hR, hB⟩
  obtain ⟨A2, k2, rfl⟩ := Kd.R_slice hR
  obtain ⟨W2, HW⟩ : ∃ W, Aside0 (W = w2.alloc (cmA p1 (.slice A2 p2.length k2) p3)) := ⟨_, ⟨rfl⟩⟩
  have N : Below wc.heap.size wc W2 := by rw [HW.out]; exact hB.alloc hB.size _
  have RP : Aside0 (Kd.R Kd.string 9 W2 wc.heap.size (fun g => wc.heap.size ≤ g ∧ g < w2.heap.size) (.slice A2 p2.length k2) p2) := ⟨by rw [HW.out]; exact Kd.R_alloc (Kd.R_mono (Kd.R_bound hR) (fun g hg => ⟨hg.2.1, hg.2.2.1⟩)) _⟩
  have LP : Aside0 (w2.heap.size ≤ W2.heap.size) := ⟨by rw [HW.out]; exact (below_alloc (Below.refl w2.heap.size w2) _).size⟩
  have LB : Aside0 (wc.heap.size ≤ W2.heap.size) := ⟨N.size⟩
  have BP : Aside0 (W2.heap[w2.heap.size]? = some (cmA p1 (.slice A2 p2.length k2) p3)) := ⟨by rw [HW.out]; exact heap_alloc_new w2 _⟩
  have CP : Aside0 (Kd.C Kd.string W2 A2 p2.length p2 ∧ p2.length ≤ k2) := ⟨by rw [HW.out]; exact cm_R (Kd.R_alloc hR _)⟩
  clear hR hB
  replace HU := Aside0.mk (HU.out.below N)
  replace CM := Aside0.mk (below_then CM.out CM.out.size N)
  clear N
  go_upto_region 3 with fail
  rw [← HW.out]
  clear HW
  have cc := crucibleref12_ActionOf.calls k A0 c0 l0 a3 p1 p2 p3 W2 (Kd.C_below R0.out.1 HU.out.rows.low) R0.out.2 U4.out
  go_wp2_with fail
  refine cc.mono ?_
  clear cc
  rintro e w3 ⟨v, rfl, hR, hB⟩
  obtain ⟨A3, k3, rfl⟩ := Kd.R_slice hR
  obtain ⟨W3, HW⟩ : ∃ W, Aside0 (W = w3.alloc (cmA p1 (.slice A3 p2.length k3) p3)) := ⟨_, ⟨rfl⟩⟩
  have N : Below W2.heap.size W2 W3 := by rw [HW.out]; exact hB.alloc hB.size _
  have BQ : Aside0 (W3.heap[w3.heap.size]? = some (cmA p1 (.slice A3 p2.length k3) p3)) := ⟨by rw [HW.out]; exact heap_alloc_new w3 _⟩
  have CQ : Aside0 (Kd.C Kd.string W3 A3 p2.length p2 ∧ p2.length ≤ k3) := ⟨by rw [HW.out]; exact cm_R (Kd.R_alloc hR _)⟩
  clear hR hB
  replace HU := Aside0.mk (HU.out.below N)
  replace CM := Aside0.mk (below_then CM.out CM.out.size N)
  replace BP := Aside0.mk ((N.block _ (blk_lt BP.out)).trans BP.out)
  replace CP := Aside0.mk (And.intro (Kd.C_below CP.out.1 N) CP.out.2)
  replace RP := Aside0.mk (Kd.R_below RP.out N)
  replace LP := Aside0.mk (Nat.le_trans LP.out N.size)
  replace LB := Aside0.mk (Nat.le_trans LB.out N.size)
  clear N
  go_upto_region 4 with fail
  rw [← HW.out]
  clear HW
  obtain ⟨g0, g1, g2, g3, g4, g5, g6⟩ := cmE_cells HU.out.a
  have cc := command_Reads.calls k A c l0 B0 d0 l1_0 B1 d1 l1_1 B2 d2 l1_2 B3 d3 l1_3 a1_4 a1_5 a1_6 q1 q2 W3 (cm_S HU.out.rows.x).1 (cm_S HU.out.rows.x).2 (cm_R HU.out.rows.y0).1 (cm_R HU.out.rows.y0).2 (cm_R HU.out.rows.y1).1 (cm_R HU.out.rows.y1).2 (cm_R HU.out.rows.y2).1 (cm_R HU.out.rows.y2).2 (cm_R HU.out.rows.y3).1 (cm_R HU.out.rows.y3).2 HQ.out
  go_wp2_with fail
  refine cc.mono ?_
  clear cc g0 g1 g2 g3 g4 g5 g6
  rintro e W4 ⟨v, rfl, hR, N⟩
  obtain ⟨A4, k4, rfl⟩ := Kd.R_slice hR
  have CR : Aside0 (Kd.C Kd.string W4 A4 q1.length q1 ∧ q1.length ≤ k4) := ⟨cm_R hR⟩
  have RR : Aside0 (Kd.R Kd.string 9 W4 wc.heap.size (fun g => W3.heap.size ≤ g ∧ g < W4.heap.size) (.slice A4 q1.length k4) q1) := ⟨Kd.R_lower (Kd.R_mono (Kd.R_bound hR) (fun g hg => ⟨hg.2.1, hg.2.2.1⟩)) LB.out⟩
  have LQ0 : Aside0 (w2.heap.size ≤ W3.heap.size) := ⟨LP.out⟩
  have LQ : Aside0 (W4.heap.size ≤ W4.heap.size) := ⟨Nat.le_refl _⟩
  clear hR
  replace HU := Aside0.mk (HU.out.below N)
  replace CM := Aside0.mk (below_then CM.out CM.out.size N)
  replace BP := Aside0.mk ((N.block _ (blk_lt BP.out)).trans BP.out)
  replace CP := Aside0.mk (And.intro (Kd.C_below CP.out.1 N) CP.out.2)
  replace RP := Aside0.mk (Kd.R_below RP.out N)
  replace LP := Aside0.mk (Nat.le_trans LP.out N.size)
  replace LB := Aside0.mk (Nat.le_trans LB.out N.size)
  replace BQ := Aside0.mk ((N.block _ (blk_lt BQ.out)).trans BQ.out)
  replace CQ := Aside0.mk (And.intro (Kd.C_below CQ.out.1 N) CQ.out.2)
  clear N
  go_upto_region 5 with fail
  have xe := (HU.out.rows.low.block _ (blk_lt XE.out)).trans XE.out
  obtain ⟨e0, e1, e2, e3, e4, e5, e6⟩ := cmE_cells xe
  clear xe
  have cc := crucibleref12_Reads.calls k A0 c0 l0 A1_0 c1_0 l1_0 A1_1 c1_1 l1_1 A1_2 c1_2 l1_2 A1_3 c1_3 l1_3 a1_4 a1_5 a1_6 q1 q2 W4 (Kd.C_below R0.out.1 HU.out.rows.low) R0.out.2 (Kd.C_below R1.out.1 HU.out.rows.low) R1.out.2 (Kd.C_below R2.out.1 HU.out.rows.low) R2.out.2 (Kd.C_below R3.out.1 HU.out.rows.low) R3.out.2 (Kd.C_below R4.out.1 HU.out.rows.low) R4.out.2 U5.out
  go_wp2_with fail
  refine cc.mono ?_
  clear cc e0 e1 e2 e3 e4 e5 e6
  rintro e W5 ⟨v, rfl, hR, N⟩
  obtain ⟨A5, k5, rfl⟩ := Kd.R_slice hR
  have CS : Aside0 (Kd.C Kd.string W5 A5 q1.length q1 ∧ q1.length ≤ k5) := ⟨cm_R hR⟩
  clear hR
  replace HU := Aside0.mk (HU.out.below N)
  replace CM := Aside0.mk (below_then CM.out CM.out.size N)
  replace BP := Aside0.mk ((N.block _ (blk_lt BP.out)).trans BP.out)
  replace CP := Aside0.mk (And.intro (Kd.C_below CP.out.1 N) CP.out.2)
  replace RP := Aside0.mk (Kd.R_below RP.out N)
  replace LP := Aside0.mk (Nat.le_trans LP.out N.size)
  replace LB := Aside0.mk (Nat.le_trans LB.out N.size)
  replace BQ := Aside0.mk ((N.block _ (blk_lt BQ.out)).trans BQ.out)
  replace CQ := Aside0.mk (And.intro (Kd.C_below CQ.out.1 N) CQ.out.2)
  replace CR := Aside0.mk (And.intro (Kd.C_below CR.out.1 N) CR.out.2)
  replace RR := Aside0.mk (Kd.R_below RR.out N)
  replace LQ := Aside0.mk (Nat.le_trans LQ.out N.size)
  clear N
  go_upto_region 6 with fail
  obtain ⟨g0, g1, g2, g3, g4, g5, g6⟩ := cmE_cells HU.out.a
  obtain ⟨j0, j1⟩ := cmD_cells HU.out.b
  have cc := command_Run.calls k A c l0 B0 d0 l1_0 B1 d1 l1_1 B2 d2 l1_2 B3 d3 l1_3 a1_4 a1_5 a1_6 a2_0 B4 d4 l2_1 z1 z2 W5 (cm_S HU.out.rows.x).1 (cm_S HU.out.rows.x).2 (cm_R HU.out.rows.y0).1 (cm_R HU.out.rows.y0).2 (cm_R HU.out.rows.y1).1 (cm_R HU.out.rows.y1).2 (cm_R HU.out.rows.y2).1 (cm_R HU.out.rows.y2).2 (cm_R HU.out.rows.y3).1 (cm_R HU.out.rows.y3).2 (cm_R HU.out.rows.z).1 (cm_R HU.out.rows.z).2 HZ.out
  go_wp2_with fail
  refine cc.mono ?_
  clear cc g0 g1 g2 g3 g4 g5 g6 j0 j1
  rintro e W6 ⟨v, rfl, hR, N⟩
  obtain ⟨A6, k6, rfl⟩ := Kd.R_slice hR
  have CA : Aside0 (Kd.C (Kd.int .i64) W6 A6 z1.length z1 ∧ z1.length ≤ k6) := ⟨cm_R hR⟩
  have RA : Aside0 (Kd.R (Kd.int .i64) 3 W6 wc.heap.size (fun g => W5.heap.size ≤ g ∧ g < W6.heap.size) (.slice A6 z1.length k6) z1) := ⟨Kd.R_lower (Kd.R_mono (Kd.R_bound hR) (fun g hg => ⟨hg.2.1, hg.2.2.1⟩)) LB.out⟩
  have LZ0 : Aside0 (w2.heap.size ≤ W5.heap.size ∧ W4.heap.size ≤ W5.heap.size) := ⟨⟨LP.out, LQ.out⟩⟩
  have LZ : Aside0 (W6.heap.size ≤ W6.heap.size) := ⟨Nat.le_refl _⟩
  clear hR
  replace HU := Aside0.mk (HU.out.below N)
  replace CM := Aside0.mk (below_then CM.out CM.out.size N)
  replace BP := Aside0.mk ((N.block _ (blk_lt BP.out)).trans BP.out)
  replace CP := Aside0.mk (And.intro (Kd.C_below CP.out.1 N) CP.out.2)
  replace RP := Aside0.mk (Kd.R_below RP.out N)
  replace LP := Aside0.mk (Nat.le_trans LP.out N.size)
  replace LB := Aside0.mk (Nat.le_trans LB.out N.size)
  replace BQ := Aside0.mk ((N.block _ (blk_lt BQ.out)).trans BQ.out)
  replace CQ := Aside0.mk (And.intro (Kd.C_below CQ.out.1 N) CQ.out.2)
  replace CR := Aside0.mk (And.intro (Kd.C_below CR.out.1 N) CR.out.2)
  replace RR := Aside0.mk (Kd.R_below RR.out N)
  replace LQ := Aside0.mk (Nat.le_trans LQ.out N.size)
  replace CS := Aside0.mk (And.intro (Kd.C_below CS.out.1 N) CS.out.2)
  clear N
  go_upto_region 7 with fail
  have xe := (HU.out.rows.low.block _ (blk_lt XE.out)).trans XE.out
  obtain ⟨e0, e1, e2, e3, e4, e5, e6⟩ := cmE_cells xe
  clear xe
  have xd := (HU.out.rows.low.block _ (blk_lt XD.out)).trans XD.out
  obtain ⟨f0, f1⟩ := cmD_cells xd
  clear xd
  have cc := crucibleref12_RunEdge.calls k A0 c0 l0 A1_0 c1_0 l1_0 A1_1 c1_1 l1_1 A1_2 c1_2 l1_2 A1_3 c1_3 l1_3 a1_4 a1_5 a1_6 a2_0 A2_1 c2_1 l2_1 z1 z2 W6 (Kd.C_below R0.out.1 HU.out.rows.low) R0.out.2 (Kd.C_below R1.out.1 HU.out.rows.low) R1.out.2 (Kd.C_below R2.out.1 HU.out.rows.low) R2.out.2 (Kd.C_below R3.out.1 HU.out.rows.low) R3.out.2 (Kd.C_below R4.out.1 HU.out.rows.low) R4.out.2 (Kd.C_below R5.out.1 HU.out.rows.low) R5.out.2 U6.out
  go_wp2_with fail
  refine cc.mono ?_
  clear cc e0 e1 e2 e3 e4 e5 e6 f0 f1
  rintro e W7 ⟨v, rfl, hR, N⟩
  obtain ⟨A7, k7, rfl⟩ := Kd.R_slice hR
  have CB : Aside0 (Kd.C (Kd.int .i64) W7 A7 z1.length z1 ∧ z1.length ≤ k7) := ⟨cm_R hR⟩
  clear hR
  replace HU := Aside0.mk (HU.out.below N)
  replace CM := Aside0.mk (below_then CM.out CM.out.size N)
  replace BP := Aside0.mk ((N.block _ (blk_lt BP.out)).trans BP.out)
  replace CP := Aside0.mk (And.intro (Kd.C_below CP.out.1 N) CP.out.2)
  replace RP := Aside0.mk (Kd.R_below RP.out N)
  replace LP := Aside0.mk (Nat.le_trans LP.out N.size)
  replace LB := Aside0.mk (Nat.le_trans LB.out N.size)
  replace BQ := Aside0.mk ((N.block _ (blk_lt BQ.out)).trans BQ.out)
  replace CQ := Aside0.mk (And.intro (Kd.C_below CQ.out.1 N) CQ.out.2)
  replace CR := Aside0.mk (And.intro (Kd.C_below CR.out.1 N) CR.out.2)
  replace RR := Aside0.mk (Kd.R_below RR.out N)
  replace LQ := Aside0.mk (Nat.le_trans LQ.out N.size)
  replace CS := Aside0.mk (And.intro (Kd.C_below CS.out.1 N) CS.out.2)
  replace CA := Aside0.mk (And.intro (Kd.C_below CA.out.1 N) CA.out.2)
  replace RA := Aside0.mk (Kd.R_below RA.out N)
  replace LZ := Aside0.mk (Nat.le_trans LZ.out N.size)
  clear N
  go_upto_region 8 with fail
  obtain ⟨g0, g1, g2⟩ := cmA_cells BP.out
  obtain ⟨j0, j1, j2⟩ := cmA_cells BQ.out
  have cc := cruciblelaw0_SameTexts.calls k A2 k2 p2 A3 k3 p2 true W7 CP.out.1 CP.out.2 CQ.out.1 CQ.out.2 U7.out
  go_wp2_with fail
  refine cc.mono ?_
  clear cc g0 g1 g2 j0 j1 j2
  rintro e W8 ⟨rfl, hD⟩
  have N := hD.below
  clear hD
  replace HU := Aside0.mk (HU.out.below N)
  replace CM := Aside0.mk (below_then CM.out CM.out.size N)
  replace BP := Aside0.mk ((N.block _ (blk_lt BP.out)).trans BP.out)
  replace CP := Aside0.mk (And.intro (Kd.C_below CP.out.1 N) CP.out.2)
  replace RP := Aside0.mk (Kd.R_below RP.out N)
  replace LP := Aside0.mk (Nat.le_trans LP.out N.size)
  replace LB := Aside0.mk (Nat.le_trans LB.out N.size)
  replace BQ := Aside0.mk ((N.block _ (blk_lt BQ.out)).trans BQ.out)
  replace CQ := Aside0.mk (And.intro (Kd.C_below CQ.out.1 N) CQ.out.2)
  replace CR := Aside0.mk (And.intro (Kd.C_below CR.out.1 N) CR.out.2)
  replace RR := Aside0.mk (Kd.R_below RR.out N)
  replace LQ := Aside0.mk (Nat.le_trans LQ.out N.size)
  replace CS := Aside0.mk (And.intro (Kd.C_below CS.out.1 N) CS.out.2)
  replace CA := Aside0.mk (And.intro (Kd.C_below CA.out.1 N) CA.out.2)
  replace RA := Aside0.mk (Kd.R_below RA.out N)
  replace LZ := Aside0.mk (Nat.le_trans LZ.out N.size)
  replace CB := Aside0.mk (And.intro (Kd.C_below CB.out.1 N) CB.out.2)
  clear N
  have cc := cruciblelaw0_SameTexts.calls k A4 k4 q1 A5 k5 q1 true W8 CR.out.1 CR.out.2 CS.out.1 CS.out.2 U8.out
  go_wp2_with fail
  refine cc.mono ?_
  clear cc
  rintro e W9 ⟨rfl, hD⟩
  have N := hD.below
  clear hD
  replace HU := Aside0.mk (HU.out.below N)
  replace CM := Aside0.mk (below_then CM.out CM.out.size N)
  replace BP := Aside0.mk ((N.block _ (blk_lt BP.out)).trans BP.out)
  replace CP := Aside0.mk (And.intro (Kd.C_below CP.out.1 N) CP.out.2)
  replace RP := Aside0.mk (Kd.R_below RP.out N)
  replace LP := Aside0.mk (Nat.le_trans LP.out N.size)
  replace LB := Aside0.mk (Nat.le_trans LB.out N.size)
  replace BQ := Aside0.mk ((N.block _ (blk_lt BQ.out)).trans BQ.out)
  replace CQ := Aside0.mk (And.intro (Kd.C_below CQ.out.1 N) CQ.out.2)
  replace CR := Aside0.mk (And.intro (Kd.C_below CR.out.1 N) CR.out.2)
  replace RR := Aside0.mk (Kd.R_below RR.out N)
  replace LQ := Aside0.mk (Nat.le_trans LQ.out N.size)
  replace CS := Aside0.mk (And.intro (Kd.C_below CS.out.1 N) CS.out.2)
  replace CA := Aside0.mk (And.intro (Kd.C_below CA.out.1 N) CA.out.2)
  replace RA := Aside0.mk (Kd.R_below RA.out N)
  replace LZ := Aside0.mk (Nat.le_trans LZ.out N.size)
  replace CB := Aside0.mk (And.intro (Kd.C_below CB.out.1 N) CB.out.2)
  clear N
  have cc := cruciblelaw0_Num.calls q2 q2 W9 rfl
  go_wp2_with fail
  refine cc.mono ?_
  clear cc
  rintro e W10 ⟨rfl, hD⟩
  have N := hD.below
  clear hD
  replace HU := Aside0.mk (HU.out.below N)
  replace CM := Aside0.mk (below_then CM.out CM.out.size N)
  replace BP := Aside0.mk ((N.block _ (blk_lt BP.out)).trans BP.out)
  replace CP := Aside0.mk (And.intro (Kd.C_below CP.out.1 N) CP.out.2)
  replace RP := Aside0.mk (Kd.R_below RP.out N)
  replace LP := Aside0.mk (Nat.le_trans LP.out N.size)
  replace LB := Aside0.mk (Nat.le_trans LB.out N.size)
  replace BQ := Aside0.mk ((N.block _ (blk_lt BQ.out)).trans BQ.out)
  replace CQ := Aside0.mk (And.intro (Kd.C_below CQ.out.1 N) CQ.out.2)
  replace CR := Aside0.mk (And.intro (Kd.C_below CR.out.1 N) CR.out.2)
  replace RR := Aside0.mk (Kd.R_below RR.out N)
  replace LQ := Aside0.mk (Nat.le_trans LQ.out N.size)
  replace CS := Aside0.mk (And.intro (Kd.C_below CS.out.1 N) CS.out.2)
  replace CA := Aside0.mk (And.intro (Kd.C_below CA.out.1 N) CA.out.2)
  replace RA := Aside0.mk (Kd.R_below RA.out N)
  replace LZ := Aside0.mk (Nat.le_trans LZ.out N.size)
  replace CB := Aside0.mk (And.intro (Kd.C_below CB.out.1 N) CB.out.2)
  clear N
  have cc := cruciblelaw0_SameInts.calls k A6 k6 z1 A7 k7 z1 true W10 CA.out.1 CA.out.2 CB.out.1 CB.out.2 U9.out
  go_wp2_with fail
  refine cc.mono ?_
  clear cc
  rintro e W11 ⟨rfl, hD⟩
  have N := hD.below
  clear hD
  replace HU := Aside0.mk (HU.out.below N)
  replace CM := Aside0.mk (below_then CM.out CM.out.size N)
  replace BP := Aside0.mk ((N.block _ (blk_lt BP.out)).trans BP.out)
  replace CP := Aside0.mk (And.intro (Kd.C_below CP.out.1 N) CP.out.2)
  replace RP := Aside0.mk (Kd.R_below RP.out N)
  replace LP := Aside0.mk (Nat.le_trans LP.out N.size)
  replace LB := Aside0.mk (Nat.le_trans LB.out N.size)
  replace BQ := Aside0.mk ((N.block _ (blk_lt BQ.out)).trans BQ.out)
  replace CQ := Aside0.mk (And.intro (Kd.C_below CQ.out.1 N) CQ.out.2)
  replace CR := Aside0.mk (And.intro (Kd.C_below CR.out.1 N) CR.out.2)
  replace RR := Aside0.mk (Kd.R_below RR.out N)
  replace LQ := Aside0.mk (Nat.le_trans LQ.out N.size)
  replace CS := Aside0.mk (And.intro (Kd.C_below CS.out.1 N) CS.out.2)
  replace CA := Aside0.mk (And.intro (Kd.C_below CA.out.1 N) CA.out.2)
  replace RA := Aside0.mk (Kd.R_below RA.out N)
  replace LZ := Aside0.mk (Nat.le_trans LZ.out N.size)
  replace CB := Aside0.mk (And.intro (Kd.C_below CB.out.1 N) CB.out.2)
  clear N
  have cc := cruciblelaw0_Num.calls z2 z2 W11 rfl
  go_wp2_with fail
  refine cc.mono ?_
  clear cc
  rintro e W12 ⟨rfl, hD⟩
  have N := hD.below
  clear hD
  replace HU := Aside0.mk (HU.out.below N)
  replace CM := Aside0.mk (below_then CM.out CM.out.size N)
  replace BP := Aside0.mk ((N.block _ (blk_lt BP.out)).trans BP.out)
  replace CP := Aside0.mk (And.intro (Kd.C_below CP.out.1 N) CP.out.2)
  replace RP := Aside0.mk (Kd.R_below RP.out N)
  replace LP := Aside0.mk (Nat.le_trans LP.out N.size)
  replace LB := Aside0.mk (Nat.le_trans LB.out N.size)
  replace BQ := Aside0.mk ((N.block _ (blk_lt BQ.out)).trans BQ.out)
  replace CQ := Aside0.mk (And.intro (Kd.C_below CQ.out.1 N) CQ.out.2)
  replace CR := Aside0.mk (And.intro (Kd.C_below CR.out.1 N) CR.out.2)
  replace RR := Aside0.mk (Kd.R_below RR.out N)
  replace LQ := Aside0.mk (Nat.le_trans LQ.out N.size)
  replace CS := Aside0.mk (And.intro (Kd.C_below CS.out.1 N) CS.out.2)
  replace CA := Aside0.mk (And.intro (Kd.C_below CA.out.1 N) CA.out.2)
  replace RA := Aside0.mk (Kd.R_below RA.out N)
  replace LZ := Aside0.mk (Nat.le_trans LZ.out N.size)
  replace CB := Aside0.mk (And.intro (Kd.C_below CB.out.1 N) CB.out.2)
  clear N
  go_upto_region 10 with fail
  obtain ⟨g0, g1, g2⟩ := cmA_cells BP.out
  have BC : Below wc.heap.size wc W12 := CM.out
  have s1 := cruciblelaw0_SpoilTexts.calls k (fun g => wc.heap.size ≤ g ∧ g < w2.heap.size) (.slice A2 p2.length k2) p2 sa wc W12 BC RP.out HSA.out
  go_wp2_with fail
  refine s1.mono ?_
  rintro e w13 ⟨rfl, _, B13, K13⟩
  clear s1 g0 g1 g2 BC
  have r1 := Kd.R_step RR.out (w1 := w13) (fun q hq hlt => K13.2 q hlt (fun hp => by have := LQ0.out; omega))
  have r2 := Kd.R_step RA.out (w1 := w13) (fun q hq hlt => K13.2 q hlt (fun hp => by have := LZ0.out; omega))
  have R2_ := Aside0.mk r2
  have s2 := cruciblelaw0_SpoilTexts.calls k (fun g => W3.heap.size ≤ g ∧ g < W4.heap.size) (.slice A4 q1.length k4) q1 sb wc w13 B13 r1 HSB.out
  clear r1 r2 K13
  go_wp2_with fail
  refine s2.mono ?_
  rintro e w14 ⟨rfl, _, B14, K14⟩
  clear s2 B13
  have r3 := Kd.R_step R2_.out (w1 := w14) (fun q hq hlt => K14.2 q hlt (fun hp => by have := LZ0.out; omega))
  have s3 := cruciblelaw0_SpoilInts.calls k (fun g => W5.heap.size ≤ g ∧ g < W6.heap.size) (.slice A6 z1.length k6) z1 sc wc w14 B14 r3 HSC.out
  clear r3 K14 R2_
  go_wp2_with fail
  refine s3.mono ?_
  rintro e w15 ⟨rfl, _, B15, _⟩
  clear s3 B14
  replace HU := Aside0.mk (HUc.out.below B15)
  replace CM := Aside0.mk B15
  clear HUc B15
  have cc := cruciblelaw0_SameActions.calls k A c l0 A0 c0 l0 true w15 (cm_S HU.out.rows.x).1 (cm_S HU.out.rows.x).2 (Kd.C_below R0.out.1 HU.out.rows.low) R0.out.2 U10.out
  go_wp2_with fail
  refine cc.mono ?_
  clear cc
  rintro e w16 ⟨rfl, N⟩
  replace HU := Aside0.mk (HU.out.below N)
  replace CM := Aside0.mk (below_then CM.out CM.out.size N)
  clear N
  obtain ⟨g0, g1, g2, g3, g4, g5, g6⟩ := cmE_cells HU.out.a
  have xe := (HU.out.rows.low.block _ (blk_lt XE.out)).trans XE.out
  obtain ⟨e0, e1, e2, e3, e4, e5, e6⟩ := cmE_cells xe
  clear xe
  have cc := cruciblelaw0_SameEdge.calls k B0 d0 l1_0 B1 d1 l1_1 B2 d2 l1_2 B3 d3 l1_3 a1_4 a1_5 a1_6 A1_0 c1_0 l1_0 A1_1 c1_1 l1_1 A1_2 c1_2 l1_2 A1_3 c1_3 l1_3 a1_4 a1_5 a1_6 true w16 (cm_R HU.out.rows.y0).1 (cm_R HU.out.rows.y0).2 (cm_R HU.out.rows.y1).1 (cm_R HU.out.rows.y1).2 (cm_R HU.out.rows.y2).1 (cm_R HU.out.rows.y2).2 (cm_R HU.out.rows.y3).1 (cm_R HU.out.rows.y3).2 (Kd.C_below R1.out.1 HU.out.rows.low) R1.out.2 (Kd.C_below R2.out.1 HU.out.rows.low) R2.out.2 (Kd.C_below R3.out.1 HU.out.rows.low) R3.out.2 (Kd.C_below R4.out.1 HU.out.rows.low) R4.out.2 U11.out
  go_wp2_with fail
  refine cc.mono ?_
  clear cc g0 g1 g2 g3 g4 g5 g6 e0 e1 e2 e3 e4 e5 e6
  rintro e w17 ⟨rfl, N⟩
  replace HU := Aside0.mk (HU.out.below N)
  replace CM := Aside0.mk (below_then CM.out CM.out.size N)
  clear N
  obtain ⟨j0, j1⟩ := cmD_cells HU.out.b
  have xd := (HU.out.rows.low.block _ (blk_lt XD.out)).trans XD.out
  obtain ⟨f0, f1⟩ := cmD_cells xd
  clear xd
  have cc := cruciblelaw0_SameDisk.calls k a2_0 B4 d4 l2_1 a2_0 A2_1 c2_1 l2_1 true w17 (cm_R HU.out.rows.z).1 (cm_R HU.out.rows.z).2 (Kd.C_below R5.out.1 HU.out.rows.low) R5.out.2 U12.out
  go_wp2_with fail
  refine cc.mono ?_
  clear cc j0 j1 f0 f1
  rintro e w18 ⟨rfl, N⟩
  replace HU := Aside0.mk (HU.out.below N)
  replace CM := Aside0.mk (below_then CM.out CM.out.size N)
  clear N
  have cc := cruciblelaw18_awake.calls true w18 rfl
  go_wp2_with fail
  refine cc.mono ?_
  clear cc
  rintro e w19 ⟨rfl, N⟩
  replace HU := Aside0.mk (HU.out.below N)
  replace CM := Aside0.mk (below_then CM.out CM.out.size N)
  clear N
  go_wp2
  go_ret
  exact ⟨rfl, below_then E0.out E0.out.size HU.out.rows.low⟩

end Go.Proofs.YtilnamobmjngbaaDoor.P
