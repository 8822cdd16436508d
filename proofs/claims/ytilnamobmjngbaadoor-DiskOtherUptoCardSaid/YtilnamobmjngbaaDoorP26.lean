-- Made by a program of this work's own (wip/myprint.py) over the kit's print; leaves by hand.
import Derived.Test.YtilnamobmjngbaaDoorP0
import Derived.Test.YtilnamobmjngbaaDoorP1
import Derived.Test.YtilnamobmjngbaaDoorP2
import Derived.Test.YtilnamobmjngbaaDoorP12
import Derived.Test.YtilnamobmjngbaaDoorP15
import Derived.Test.YtilnamobmjngbaaDoorP17
import Derived.Test.YtilnamobmjngbaaDoorP20
import Derived.Test.YtilnamobmjngbaaDoorP22
import Derived.Test.YtilnamobmjngbaaDoorPlain
namespace Go.Proofs.YtilnamobmjngbaaDoor.P
open Go.RowKit Go.Proofs.YtilnamobmjngbaaDoorW.PrintWords Go.Proofs.YtilnamobmjngbaaDoorW.PrintLast Go.Proofs.YtilnamobmjngbaaDoorW.PrintMore
attribute [local go_sem] max2_int min2_int max_two min_two max_three min_three max_four min_four   -- for this text's walks alone
set_option linter.unusedVariables false
set_option linter.unusedSimpArgs false

-- HANDBIG DiskOther.lean
-- IMPORT Derived.Test.YtilnamobmjngbaaDoorPlain
attribute [local go_sem high] eqA72
/-! ### cruciblelaw12_DiskOther, by hand -/
open Classical in
noncomputable def do_put (k : Nat) (t : Int) (s : ByteArray) (x : Int) (o : ByteArray) (y : ByteArray × Int × Int × Bool) (a : Int × List (S72) × Int) : Option Unit :=
  if a.2.2 = 0 then (disk_Find.f k a.1 a.2.1 o).bind fun y2 => (disk_Find.f k a.1 a.2.1 s).bind fun z =>
    if (o.toList ≠ s.toList → y2 = y) ∧ z = (s, x, a.1, true) ∧ a.1 = wrap64 (t + 1) ∧ disk_May.f k a.1 a.2.1 = some true then some () else none
  else some ()
open Classical in
noncomputable def do_rem (k : Nat) (t : Int) (s o : ByteArray) (y : ByteArray × Int × Int × Bool) (c : Int × List (S72) × Int) : Option Bool :=
  if c.2.2 = 0 then (disk_Find.f k c.1 c.2.1 o).bind fun y3 =>
    if ((o.toList = s.toList → y3.2.2.2 = false) ∧ (o.toList ≠ s.toList → y3 = y)) ∧ c.1 = t ∧ disk_May.f k c.1 c.2.1 = some true then some true else none
  else if cruciblelaw0_SameDisk.f k c.1 c.2.1 0 [] = some true then some true else none
noncomputable def cruciblelaw12_DiskOther.f (k : Nat) (t : Int) (l : List (S72)) (s : ByteArray) (x : Int) (o : ByteArray) : Option Bool :=
  (disk_Put.f k t l s (Go.bits .and .i64 x 65535)).bind fun a => (disk_Remove.f k t l s).bind fun c => (disk_Find.f k t l o).bind fun y =>
  (do_put k t s (Go.bits .and .i64 x 65535) o y a).bind fun _ => do_rem k t s o y c
theorem do_put_mono {k : Nat} {t : Int} {s : ByteArray} {x : Int} {o : ByteArray} {y : ByteArray × Int × Int × Bool} {a : Int × List (S72) × Int} {r : Unit} (h : do_put k t s x o y a = some r) : do_put (k + 1) t s x o y a = some r := by
  unfold do_put at h ⊢
  by_cases h0 : a.2.2 = 0
  · rw [if_pos h0] at h ⊢
    obtain ⟨y2, q1, h⟩ := Option.bind_eq_some_iff.1 h
    obtain ⟨z, q2, h⟩ := Option.bind_eq_some_iff.1 h
    split at h
    case isFalse => cases h
    rename_i hq
    rw [disk_Find.mono _ _ _ k _ q1, Option.bind_some, disk_Find.mono _ _ _ k _ q2, Option.bind_some, if_pos ⟨hq.1, hq.2.1, hq.2.2.1, disk_May.mono _ _ k _ hq.2.2.2⟩]
  · rw [if_neg h0]
theorem do_rem_mono {k : Nat} {t : Int} {s o : ByteArray} {y : ByteArray × Int × Int × Bool} {c : Int × List (S72) × Int} {r : Bool} (h : do_rem k t s o y c = some r) : do_rem (k + 1) t s o y c = some r := by
  unfold do_rem at h ⊢
  by_cases h0 : c.2.2 = 0
  · rw [if_pos h0] at h ⊢
    obtain ⟨y3, q1, h⟩ := Option.bind_eq_some_iff.1 h
    split at h
    case isFalse => cases h
    rename_i hq
    rw [disk_Find.mono _ _ _ k _ q1, Option.bind_some, if_pos ⟨hq.1, hq.2.1, disk_May.mono _ _ k _ hq.2.2⟩]
    exact h
  · rw [if_neg h0] at h ⊢
    split at h
    case isFalse => cases h
    rename_i hq
    rw [if_pos (cruciblelaw0_SameDisk.mono _ _ _ _ k _ hq)]
    exact h
theorem cruciblelaw12_DiskOther.mono : ∀ a0 a1 a2 a3 a4 k, LeO (cruciblelaw12_DiskOther.f k a0 a1 a2 a3 a4) (cruciblelaw12_DiskOther.f (k + 1) a0 a1 a2 a3 a4) := by
  intro t l s x o k r h
  unfold cruciblelaw12_DiskOther.f at h ⊢
  obtain ⟨a, ha, h⟩ := Option.bind_eq_some_iff.1 h
  obtain ⟨c, hc, h⟩ := Option.bind_eq_some_iff.1 h
  obtain ⟨y, hy, h⟩ := Option.bind_eq_some_iff.1 h
  obtain ⟨u, hu, h⟩ := Option.bind_eq_some_iff.1 h
  rw [disk_Put.mono _ _ _ _ k _ ha, Option.bind_some, disk_Remove.mono _ _ _ k _ hc, Option.bind_some, disk_Find.mono _ _ _ k _ hy, Option.bind_some, do_put_mono hu, Option.bind_some]
  exact do_rem_mono h
abbrev doF (a : ByteArray) (c t : Int) : Obj := .cells #[.string a, .int .i64 c, .int .i64 t] 72
set_option maxHeartbeats 8000000 in
set_option maxRecDepth 100000 in
theorem cruciblelaw12_DiskOther.calls (k : Nat) (a0_0 : Int) (A0_1 : Option Addr) (c0_1 : Nat) (l0_1 : List (S72)) (a1 : ByteArray) (a2 : Int) (a3 : ByteArray) (r : Bool) (w : World) (hr0_1 : Kd.C k72 w A0_1 l0_1.length l0_1) (hc0_1 : l0_1.length ≤ c0_1) (h : cruciblelaw12_DiskOther.f k a0_0 l0_1 a1 a2 a3 = some r) :
    Calls Tryd.prog 12 #[.agg #[.int .i64 a0_0, .slice A0_1 l0_1.length c0_1], .string a1, .int .i64 a2, .string a3] w fun e w' => e = .returned (.bool r) ∧ Below w.heap.size w w' := by
  have hu := Tryd.underlying72
  have hu2 := Tryd.underlying28
  unfold cruciblelaw12_DiskOther.f at h
  obtain ⟨xx, hxx⟩ : ∃ xx, xx = Go.bits .and .i64 a2 65535 := ⟨_, rfl⟩
  have hxx2 := hxx.symm
  rw [hxx2] at h
  obtain ⟨⟨ta, la, ea⟩, ha, h⟩ := Option.bind_eq_some_iff.1 h
  obtain ⟨⟨tc, lc, ec⟩, hc, h⟩ := Option.bind_eq_some_iff.1 h
  obtain ⟨⟨yn, yc, yt, yb⟩, hy, h⟩ := Option.bind_eq_some_iff.1 h
  obtain ⟨_, hp, h⟩ := Option.bind_eq_some_iff.1 h
  unfold do_put at hp
  unfold do_rem at h
  simp only [] at hp h
  have HA := Aside0.mk ha; have HC := Aside0.mk hc; have HY := Aside0.mk hy; have HP := Aside0.mk hp; have HR := Aside0.mk h
  have D0 : Aside0 (DkAt (w.alloc (drD a0_0 (.slice A0_1 l0_1.length c0_1))) w.heap.size a0_0 A0_1 c0_1 l0_1) := ⟨⟨heap_alloc_new w _, Kd.C_below hr0_1 (below_alloc (Below.refl _ _) _), hc0_1⟩⟩
  have E0 : Aside0 (Below w.heap.size w (w.alloc (drD a0_0 (.slice A0_1 l0_1.length c0_1)))) := ⟨below_alloc (Below.refl _ _) _⟩
  clear ha hc hy hp h hr0_1 hc0_1 hxx
  go_enter Tryd.func12, Tryd.ntmps12
  go_upto_region 1 with fail
  obtain ⟨W0, HW0⟩ : ∃ W, Aside0 (W = w.alloc (drD a0_0 (.slice A0_1 l0_1.length c0_1))) := ⟨_, ⟨rfl⟩⟩
  rw [← HW0.out] at D0 E0 ⊢
  clear HW0
  have ca := cruciblelaw12_awake.calls true W0 rfl
  go_wp2_with fail
  refine ca.mono ?_
  clear ca
  rintro e W1 ⟨rfl, N1⟩
  replace D0 := Aside0.mk (D0.out.below N1)
  have E1 := Aside0.mk (below_then E0.out E0.out.size N1)
  clear N1 E0
  go_upto_region 3 with fail
  obtain ⟨x00, x01⟩ := dr_cells D0.out.box
  have c := disk_Put.calls k a0_0 A0_1 c0_1 l0_1 a1 xx _ _ _ W1 D0.out.row D0.out.cap HA.out
  go_wp2_with fail
  refine c.mono ?_
  clear c x00 x01
  rintro e w2 ⟨v, rfl, hR, hB⟩
  obtain ⟨A2, k2, rfl⟩ := Kd.R_slice hR
  obtain ⟨W2, HW⟩ : ∃ W, Aside0 (W = w2.alloc (drD ta (.slice A2 la.length k2))) := ⟨_, ⟨rfl⟩⟩
  have N : Below W1.heap.size W1 W2 := by rw [HW.out]; exact hB.alloc hB.size _
  replace D0 := Aside0.mk (D0.out.below N)
  have E2 := Aside0.mk (below_then E1.out E1.out.size N)
  clear N E1
  have DA : Aside0 (DkAt W2 w2.heap.size ta A2 k2 la) := ⟨by rw [HW.out]; exact dk_new ta hR⟩
  clear hR hB
  go_upto_region 4 with fail
  rw [← HW.out]
  clear HW
  obtain ⟨x00, x01⟩ := dr_cells D0.out.box
  have c := disk_Remove.calls k a0_0 A0_1 c0_1 l0_1 a1 _ _ _ W2 D0.out.row D0.out.cap HC.out
  go_wp2_with fail
  refine c.mono ?_
  clear c x00 x01
  rintro e w3 ⟨v, rfl, hR, hB⟩
  obtain ⟨A3, k3, rfl⟩ := Kd.R_slice hR
  obtain ⟨W3, HW⟩ : ∃ W, Aside0 (W = w3.alloc (drD tc (.slice A3 lc.length k3))) := ⟨_, ⟨rfl⟩⟩
  have N : Below W2.heap.size W2 W3 := by rw [HW.out]; exact hB.alloc hB.size _
  replace D0 := Aside0.mk (D0.out.below N)
  replace DA := Aside0.mk (DA.out.below N)
  have E3 := Aside0.mk (below_then E2.out E2.out.size N)
  clear N E2
  have DC : Aside0 (DkAt W3 w3.heap.size tc A3 k3 lc) := ⟨by rw [HW.out]; exact dk_new tc hR⟩
  clear hR hB
  go_upto_region 5 with fail
  rw [← HW.out]
  clear HW
  obtain ⟨x00, x01⟩ := dr_cells D0.out.box
  have c := disk_Find.calls k a0_0 A0_1 c0_1 l0_1 a3 _ _ _ _ W3 D0.out.row D0.out.cap HY.out
  go_wp2_with fail
  refine c.mono ?_
  clear c x00 x01
  rintro e w4 ⟨rfl, hB⟩
  obtain ⟨W4, HW⟩ : ∃ W, Aside0 (W = w4.alloc (doF yn yc yt)) := ⟨_, ⟨rfl⟩⟩
  have N : Below W3.heap.size W3 W4 := by rw [HW.out]; exact hB.alloc hB.size _
  replace D0 := Aside0.mk (D0.out.below N)
  replace DA := Aside0.mk (DA.out.below N)
  replace DC := Aside0.mk (DC.out.below N)
  have E4 := Aside0.mk (below_then E3.out E3.out.size N)
  clear N E3
  have FY : Aside0 (W4.heap[w4.heap.size]? = some (doF yn yc yt)) := ⟨by rw [HW.out]; exact heap_alloc_new w4 _⟩
  clear hB
  go_upto_region 6 with fail
  rw [← HW.out]
  clear HW
  by_cases hs : a3.toList = a1.toList
  · have hs1 : (a3.toList == a1.toList) = true := by simpa using hs
    by_cases hea : ea = 0
    · subst hea
      have hp := HP.out
      rw [if_pos rfl] at hp
      obtain ⟨⟨un, uc, ut, ub⟩, hy2, hp⟩ := Option.bind_eq_some_iff.1 hp
      obtain ⟨⟨zn, zc, zt, zb⟩, hz, hp⟩ := Option.bind_eq_some_iff.1 hp
      split at hp
      case isFalse => cases hp
      rename_i hq
      obtain ⟨q1, q2, q3, q4⟩ := hq
      try simp only [] at q1 q2 q3 q4 hy2 hz
      obtain ⟨rfl, rfl, rfl, rfl⟩ : zn = a1 ∧ zc = xx ∧ zt = ta ∧ zb = true := by injection q2 with e1 e2; injection e2 with e2 e3; injection e3 with e3 e4; exact ⟨e1, e2, e3, e4⟩
      have HY2 := Aside0.mk hy2; have HZ := Aside0.mk hz; have HM2 := Aside0.mk q4; have Q3 := Aside0.mk q3
      clear q1 q2 q3 q4 hy2 hz HP hp
      have c := cruciblelaw0_Num.calls 0 0 W4 rfl
      go_wp2_with fail
      refine c.mono ?_
      clear c
      rintro e W5 ⟨rfl, hB⟩
      have N := hB.below
      clear hB
      replace D0 := Aside0.mk (D0.out.below N)
      replace DA := Aside0.mk (DA.out.below N)
      replace DC := Aside0.mk (DC.out.below N)
      replace FY := Aside0.mk ((N.block _ (blk_lt FY.out)).trans FY.out)
      have E5 := Aside0.mk (below_then E4.out E4.out.size N)
      clear N E4
      go_upto_region 7 with fail
      obtain ⟨x00, x01⟩ := dr_cells DA.out.box
      have c := disk_Find.calls k _ A2 k2 la a3 _ _ _ _ W5 DA.out.row DA.out.cap HY2.out
      go_wp2_with fail
      refine c.mono ?_
      clear c x00 x01
      rintro e w6 ⟨rfl, hB⟩
      obtain ⟨W6, HW⟩ : ∃ W, Aside0 (W = w6.alloc (doF un uc ut)) := ⟨_, ⟨rfl⟩⟩
      have N : Below W5.heap.size W5 W6 := by rw [HW.out]; exact hB.alloc hB.size _
      replace D0 := Aside0.mk (D0.out.below N)
      replace DA := Aside0.mk (DA.out.below N)
      replace DC := Aside0.mk (DC.out.below N)
      replace FY := Aside0.mk ((N.block _ (blk_lt FY.out)).trans FY.out)
      have E6 := Aside0.mk (below_then E5.out E5.out.size N)
      clear N E5
      have FU : Aside0 (W6.heap[w6.heap.size]? = some (doF un uc ut)) := ⟨by rw [HW.out]; exact heap_alloc_new w6 _⟩
      clear hB
      go_upto_region 8 with fail
      rw [← HW.out]
      clear HW
      obtain ⟨x00, x01⟩ := dr_cells DA.out.box
      have c := disk_Find.calls k _ A2 k2 la _ _ _ _ _ W6 DA.out.row DA.out.cap HZ.out
      go_wp2_with fail
      refine c.mono ?_
      clear c x00 x01
      rintro e w7 ⟨rfl, hB⟩
      obtain ⟨W7, HW⟩ : ∃ W, Aside0 (W = w7.alloc (doF zn zc zt)) := ⟨_, ⟨rfl⟩⟩
      have N : Below W6.heap.size W6 W7 := by rw [HW.out]; exact hB.alloc hB.size _
      replace D0 := Aside0.mk (D0.out.below N)
      replace DA := Aside0.mk (DA.out.below N)
      replace DC := Aside0.mk (DC.out.below N)
      replace FY := Aside0.mk ((N.block _ (blk_lt FY.out)).trans FY.out)
      replace FU := Aside0.mk ((N.block _ (blk_lt FU.out)).trans FU.out)
      have E7 := Aside0.mk (below_then E6.out E6.out.size N)
      clear N E6
      have FZ : Aside0 (W7.heap[w7.heap.size]? = some (doF zn zc zt)) := ⟨by rw [HW.out]; exact heap_alloc_new w7 _⟩
      clear hB
      go_upto_region 9 with fail
      rw [← HW.out]
      clear HW
      have x00 := (blk_cell FU.out 0).trans rfl
      have x01 := (blk_cell FU.out 1).trans rfl
      have x02 := (blk_cell FU.out 2).trans rfl
      have x10 := (blk_cell FY.out 0).trans rfl
      have x11 := (blk_cell FY.out 1).trans rfl
      have x12 := (blk_cell FY.out 2).trans rfl
      have x20 := (blk_cell FZ.out 0).trans rfl
      have x21 := (blk_cell FZ.out 1).trans rfl
      have x22 := (blk_cell FZ.out 2).trans rfl
      obtain ⟨x30, x31⟩ := dr_cells D0.out.box
      obtain ⟨x40, x41⟩ := dr_cells DA.out.box
      have hw1 := (i64_w (a0_0 + 1)).trans Q3.out.symm
      have hw2 := Q3.out.symm
      have c := disk_May.calls k _ A2 k2 la true W7 DA.out.row DA.out.cap HM2.out
      go_wp2_with fail
      refine c.mono ?_
      clear c x00 x01 x02 x10 x11 x12 x20 x21 x22 x30 x31 x40 x41 hw1 hw2
      rintro e W8 ⟨rfl, N⟩
      replace D0 := Aside0.mk (D0.out.below N)
      replace DA := Aside0.mk (DA.out.below N)
      replace DC := Aside0.mk (DC.out.below N)
      replace FY := Aside0.mk ((N.block _ (blk_lt FY.out)).trans FY.out)
      replace FU := Aside0.mk ((N.block _ (blk_lt FU.out)).trans FU.out)
      replace FZ := Aside0.mk ((N.block _ (blk_lt FZ.out)).trans FZ.out)
      have E8 := Aside0.mk (below_then E7.out E7.out.size N)
      clear N E7
      go_upto_region 11 with fail
      by_cases hec : ec = 0
      · subst hec
        have hr := HR.out
        rw [if_pos rfl] at hr
        obtain ⟨⟨vn, vc, vt, vb⟩, hy3, hr⟩ := Option.bind_eq_some_iff.1 hr
        split at hr
        case isFalse => cases hr
        rename_i hq
        obtain rfl : true = r := Option.some.inj hr
        obtain ⟨⟨q1, q2⟩, q3, q4⟩ := hq
        try simp only [] at q1 q2 q3 q4 hy3
        subst q3
        have HY3 := Aside0.mk hy3
        have HM3 := Aside0.mk q4
        have hvb := q1 hs
        subst hvb
        clear q1 q2 q4 hy3 HR hr
        have c := cruciblelaw0_Num.calls 0 0 W8 rfl
        go_wp2_with fail
        refine c.mono ?_
        clear c
        rintro e W9 ⟨rfl, hB⟩
        have N := hB.below
        clear hB
        replace D0 := Aside0.mk (D0.out.below N)
        replace DA := Aside0.mk (DA.out.below N)
        replace DC := Aside0.mk (DC.out.below N)
        replace FY := Aside0.mk ((N.block _ (blk_lt FY.out)).trans FY.out)
        replace FU := Aside0.mk ((N.block _ (blk_lt FU.out)).trans FU.out)
        replace FZ := Aside0.mk ((N.block _ (blk_lt FZ.out)).trans FZ.out)
        have E9 := Aside0.mk (below_then E8.out E8.out.size N)
        clear N E8
        go_upto_region 13 with fail
        obtain ⟨x00, x01⟩ := dr_cells DC.out.box
        have c := disk_Find.calls k tc A3 k3 lc a3 _ _ _ _ W9 DC.out.row DC.out.cap HY3.out
        go_wp2_with fail
        refine c.mono ?_
        clear c x00 x01
        rintro e w10 ⟨rfl, hB⟩
        obtain ⟨W10, HW⟩ : ∃ W, Aside0 (W = w10.alloc (doF vn vc vt)) := ⟨_, ⟨rfl⟩⟩
        have N : Below W9.heap.size W9 W10 := by rw [HW.out]; exact hB.alloc hB.size _
        replace D0 := Aside0.mk (D0.out.below N)
        replace DA := Aside0.mk (DA.out.below N)
        replace DC := Aside0.mk (DC.out.below N)
        replace FY := Aside0.mk ((N.block _ (blk_lt FY.out)).trans FY.out)
        replace FU := Aside0.mk ((N.block _ (blk_lt FU.out)).trans FU.out)
        replace FZ := Aside0.mk ((N.block _ (blk_lt FZ.out)).trans FZ.out)
        have E10 := Aside0.mk (below_then E9.out E9.out.size N)
        clear N E9
        have FV : Aside0 (W10.heap[w10.heap.size]? = some (doF vn vc vt)) := ⟨by rw [HW.out]; exact heap_alloc_new w10 _⟩
        clear hB
        go_upto_region 14 with fail
        rw [← HW.out]
        clear HW
        have x00 := (blk_cell FV.out 0).trans rfl
        have x01 := (blk_cell FV.out 1).trans rfl
        have x02 := (blk_cell FV.out 2).trans rfl
        have x10 := (blk_cell FY.out 0).trans rfl
        have x11 := (blk_cell FY.out 1).trans rfl
        have x12 := (blk_cell FY.out 2).trans rfl
        obtain ⟨x20, x21⟩ := dr_cells D0.out.box
        obtain ⟨x30, x31⟩ := dr_cells DC.out.box
        have c := disk_May.calls k tc A3 k3 lc true W10 DC.out.row DC.out.cap HM3.out
        go_wp2_with fail
        refine c.mono ?_
        clear c x00 x01 x02 x10 x11 x12 x20 x21 x30 x31
        rintro e W11 ⟨rfl, N⟩
        replace D0 := Aside0.mk (D0.out.below N)
        replace DA := Aside0.mk (DA.out.below N)
        replace DC := Aside0.mk (DC.out.below N)
        replace FY := Aside0.mk ((N.block _ (blk_lt FY.out)).trans FY.out)
        replace FU := Aside0.mk ((N.block _ (blk_lt FU.out)).trans FU.out)
        replace FZ := Aside0.mk ((N.block _ (blk_lt FZ.out)).trans FZ.out)
        replace FV := Aside0.mk ((N.block _ (blk_lt FV.out)).trans FV.out)
        have E11 := Aside0.mk (below_then E10.out E10.out.size N)
        clear N E10
        go_wp2
        go_ret
        exact ⟨rfl, E11.out⟩
      · have hr := HR.out
        rw [if_neg hec] at hr
        split at hr
        case isFalse => cases hr
        rename_i hq
        obtain rfl : true = r := Option.some.inj hr
        have HS := Aside0.mk hq
        have he2 : (ec == 0) = false := by simpa using hec
        clear hr hq HR hec
        have c := cruciblelaw0_Num.calls ec ec W8 rfl
        go_wp2_with fail
        refine c.mono ?_
        clear c
        rintro e W9 ⟨rfl, hB⟩
        have N := hB.below
        clear hB
        replace D0 := Aside0.mk (D0.out.below N)
        replace DA := Aside0.mk (DA.out.below N)
        replace DC := Aside0.mk (DC.out.below N)
        replace FY := Aside0.mk ((N.block _ (blk_lt FY.out)).trans FY.out)
        replace FU := Aside0.mk ((N.block _ (blk_lt FU.out)).trans FU.out)
        replace FZ := Aside0.mk ((N.block _ (blk_lt FZ.out)).trans FZ.out)
        have E9 := Aside0.mk (below_then E8.out E8.out.size N)
        clear N E8
        go_upto_region 12 with fail
        obtain ⟨x00, x01⟩ := dr_cells DC.out.box
        have c := cruciblelaw0_SameDisk.calls k tc A3 k3 lc 0 none 0 [] true W9 DC.out.row DC.out.cap (dk_nilC _) (Nat.le_refl _) HS.out
        go_wp2_with fail
        refine c.mono ?_
        clear c x00 x01
        rintro e W10 ⟨rfl, N⟩
        replace D0 := Aside0.mk (D0.out.below N)
        replace DA := Aside0.mk (DA.out.below N)
        replace DC := Aside0.mk (DC.out.below N)
        replace FY := Aside0.mk ((N.block _ (blk_lt FY.out)).trans FY.out)
        replace FU := Aside0.mk ((N.block _ (blk_lt FU.out)).trans FU.out)
        replace FZ := Aside0.mk ((N.block _ (blk_lt FZ.out)).trans FZ.out)
        have E10 := Aside0.mk (below_then E9.out E9.out.size N)
        clear N E9
        go_wp2
        go_ret
        exact ⟨rfl, E10.out⟩
    · have he1 : (ea == 0) = false := by simpa using hea
      clear HP
      have c := cruciblelaw0_Num.calls ea ea W4 rfl
      go_wp2_with fail
      refine c.mono ?_
      clear c
      rintro e W5 ⟨rfl, hB⟩
      have N := hB.below
      clear hB
      replace D0 := Aside0.mk (D0.out.below N)
      replace DA := Aside0.mk (DA.out.below N)
      replace DC := Aside0.mk (DC.out.below N)
      replace FY := Aside0.mk ((N.block _ (blk_lt FY.out)).trans FY.out)
      have E5 := Aside0.mk (below_then E4.out E4.out.size N)
      clear N E4
      go_upto_region 11 with fail
      clear he1 hea
      by_cases hec : ec = 0
      · subst hec
        have hr := HR.out
        rw [if_pos rfl] at hr
        obtain ⟨⟨vn, vc, vt, vb⟩, hy3, hr⟩ := Option.bind_eq_some_iff.1 hr
        split at hr
        case isFalse => cases hr
        rename_i hq
        obtain rfl : true = r := Option.some.inj hr
        obtain ⟨⟨q1, q2⟩, q3, q4⟩ := hq
        try simp only [] at q1 q2 q3 q4 hy3
        subst q3
        have HY3 := Aside0.mk hy3
        have HM3 := Aside0.mk q4
        have hvb := q1 hs
        subst hvb
        clear q1 q2 q4 hy3 HR hr
        have c := cruciblelaw0_Num.calls 0 0 W5 rfl
        go_wp2_with fail
        refine c.mono ?_
        clear c
        rintro e W6 ⟨rfl, hB⟩
        have N := hB.below
        clear hB
        replace D0 := Aside0.mk (D0.out.below N)
        replace DA := Aside0.mk (DA.out.below N)
        replace DC := Aside0.mk (DC.out.below N)
        replace FY := Aside0.mk ((N.block _ (blk_lt FY.out)).trans FY.out)
        have E6 := Aside0.mk (below_then E5.out E5.out.size N)
        clear N E5
        go_upto_region 13 with fail
        obtain ⟨x00, x01⟩ := dr_cells DC.out.box
        have c := disk_Find.calls k tc A3 k3 lc a3 _ _ _ _ W6 DC.out.row DC.out.cap HY3.out
        go_wp2_with fail
        refine c.mono ?_
        clear c x00 x01
        rintro e w7 ⟨rfl, hB⟩
        obtain ⟨W7, HW⟩ : ∃ W, Aside0 (W = w7.alloc (doF vn vc vt)) := ⟨_, ⟨rfl⟩⟩
        have N : Below W6.heap.size W6 W7 := by rw [HW.out]; exact hB.alloc hB.size _
        replace D0 := Aside0.mk (D0.out.below N)
        replace DA := Aside0.mk (DA.out.below N)
        replace DC := Aside0.mk (DC.out.below N)
        replace FY := Aside0.mk ((N.block _ (blk_lt FY.out)).trans FY.out)
        have E7 := Aside0.mk (below_then E6.out E6.out.size N)
        clear N E6
        have FV : Aside0 (W7.heap[w7.heap.size]? = some (doF vn vc vt)) := ⟨by rw [HW.out]; exact heap_alloc_new w7 _⟩
        clear hB
        go_upto_region 14 with fail
        rw [← HW.out]
        clear HW
        have x00 := (blk_cell FV.out 0).trans rfl
        have x01 := (blk_cell FV.out 1).trans rfl
        have x02 := (blk_cell FV.out 2).trans rfl
        have x10 := (blk_cell FY.out 0).trans rfl
        have x11 := (blk_cell FY.out 1).trans rfl
        have x12 := (blk_cell FY.out 2).trans rfl
        obtain ⟨x20, x21⟩ := dr_cells D0.out.box
        obtain ⟨x30, x31⟩ := dr_cells DC.out.box
        have c := disk_May.calls k tc A3 k3 lc true W7 DC.out.row DC.out.cap HM3.out
        go_wp2_with fail
        refine c.mono ?_
        clear c x00 x01 x02 x10 x11 x12 x20 x21 x30 x31
        rintro e W8 ⟨rfl, N⟩
        replace D0 := Aside0.mk (D0.out.below N)
        replace DA := Aside0.mk (DA.out.below N)
        replace DC := Aside0.mk (DC.out.below N)
        replace FY := Aside0.mk ((N.block _ (blk_lt FY.out)).trans FY.out)
        replace FV := Aside0.mk ((N.block _ (blk_lt FV.out)).trans FV.out)
        have E8 := Aside0.mk (below_then E7.out E7.out.size N)
        clear N E7
        go_wp2
        go_ret
        exact ⟨rfl, E8.out⟩
      · have hr := HR.out
        rw [if_neg hec] at hr
        split at hr
        case isFalse => cases hr
        rename_i hq
        obtain rfl : true = r := Option.some.inj hr
        have HS := Aside0.mk hq
        have he2 : (ec == 0) = false := by simpa using hec
        clear hr hq HR hec
        have c := cruciblelaw0_Num.calls ec ec W5 rfl
        go_wp2_with fail
        refine c.mono ?_
        clear c
        rintro e W6 ⟨rfl, hB⟩
        have N := hB.below
        clear hB
        replace D0 := Aside0.mk (D0.out.below N)
        replace DA := Aside0.mk (DA.out.below N)
        replace DC := Aside0.mk (DC.out.below N)
        replace FY := Aside0.mk ((N.block _ (blk_lt FY.out)).trans FY.out)
        have E6 := Aside0.mk (below_then E5.out E5.out.size N)
        clear N E5
        go_upto_region 12 with fail
        obtain ⟨x00, x01⟩ := dr_cells DC.out.box
        have c := cruciblelaw0_SameDisk.calls k tc A3 k3 lc 0 none 0 [] true W6 DC.out.row DC.out.cap (dk_nilC _) (Nat.le_refl _) HS.out
        go_wp2_with fail
        refine c.mono ?_
        clear c x00 x01
        rintro e W7 ⟨rfl, N⟩
        replace D0 := Aside0.mk (D0.out.below N)
        replace DA := Aside0.mk (DA.out.below N)
        replace DC := Aside0.mk (DC.out.below N)
        replace FY := Aside0.mk ((N.block _ (blk_lt FY.out)).trans FY.out)
        have E7 := Aside0.mk (below_then E6.out E6.out.size N)
        clear N E6
        go_wp2
        go_ret
        exact ⟨rfl, E7.out⟩
  · have hs1 : (a3.toList == a1.toList) = false := by simpa using hs
    by_cases hea : ea = 0
    · subst hea
      have hp := HP.out
      rw [if_pos rfl] at hp
      obtain ⟨⟨un, uc, ut, ub⟩, hy2, hp⟩ := Option.bind_eq_some_iff.1 hp
      obtain ⟨⟨zn, zc, zt, zb⟩, hz, hp⟩ := Option.bind_eq_some_iff.1 hp
      split at hp
      case isFalse => cases hp
      rename_i hq
      obtain ⟨q1, q2, q3, q4⟩ := hq
      try simp only [] at q1 q2 q3 q4 hy2 hz
      obtain ⟨rfl, rfl, rfl, rfl⟩ : zn = a1 ∧ zc = xx ∧ zt = ta ∧ zb = true := by injection q2 with e1 e2; injection e2 with e2 e3; injection e3 with e3 e4; exact ⟨e1, e2, e3, e4⟩
      have HY2 := Aside0.mk hy2; have HZ := Aside0.mk hz; have HM2 := Aside0.mk q4; have Q3 := Aside0.mk q3
      have hv := q1 hs
      obtain ⟨rfl, rfl, rfl, rfl⟩ : un = yn ∧ uc = yc ∧ ut = yt ∧ ub = yb := by injection hv with e1 e2; injection e2 with e2 e3; injection e3 with e3 e4; exact ⟨e1, e2, e3, e4⟩
      clear q1 q2 q3 q4 hy2 hz HP hv hp
      have c := cruciblelaw0_Num.calls 0 0 W4 rfl
      go_wp2_with fail
      refine c.mono ?_
      clear c
      rintro e W5 ⟨rfl, hB⟩
      have N := hB.below
      clear hB
      replace D0 := Aside0.mk (D0.out.below N)
      replace DA := Aside0.mk (DA.out.below N)
      replace DC := Aside0.mk (DC.out.below N)
      replace FY := Aside0.mk ((N.block _ (blk_lt FY.out)).trans FY.out)
      have E5 := Aside0.mk (below_then E4.out E4.out.size N)
      clear N E4
      go_upto_region 7 with fail
      obtain ⟨x00, x01⟩ := dr_cells DA.out.box
      have c := disk_Find.calls k _ A2 k2 la a3 _ _ _ _ W5 DA.out.row DA.out.cap HY2.out
      go_wp2_with fail
      refine c.mono ?_
      clear c x00 x01
      rintro e w6 ⟨rfl, hB⟩
      obtain ⟨W6, HW⟩ : ∃ W, Aside0 (W = w6.alloc (doF un uc ut)) := ⟨_, ⟨rfl⟩⟩
      have N : Below W5.heap.size W5 W6 := by rw [HW.out]; exact hB.alloc hB.size _
      replace D0 := Aside0.mk (D0.out.below N)
      replace DA := Aside0.mk (DA.out.below N)
      replace DC := Aside0.mk (DC.out.below N)
      replace FY := Aside0.mk ((N.block _ (blk_lt FY.out)).trans FY.out)
      have E6 := Aside0.mk (below_then E5.out E5.out.size N)
      clear N E5
      have FU : Aside0 (W6.heap[w6.heap.size]? = some (doF un uc ut)) := ⟨by rw [HW.out]; exact heap_alloc_new w6 _⟩
      clear hB
      go_upto_region 8 with fail
      rw [← HW.out]
      clear HW
      obtain ⟨x00, x01⟩ := dr_cells DA.out.box
      have c := disk_Find.calls k _ A2 k2 la _ _ _ _ _ W6 DA.out.row DA.out.cap HZ.out
      go_wp2_with fail
      refine c.mono ?_
      clear c x00 x01
      rintro e w7 ⟨rfl, hB⟩
      obtain ⟨W7, HW⟩ : ∃ W, Aside0 (W = w7.alloc (doF zn zc zt)) := ⟨_, ⟨rfl⟩⟩
      have N : Below W6.heap.size W6 W7 := by rw [HW.out]; exact hB.alloc hB.size _
      replace D0 := Aside0.mk (D0.out.below N)
      replace DA := Aside0.mk (DA.out.below N)
      replace DC := Aside0.mk (DC.out.below N)
      replace FY := Aside0.mk ((N.block _ (blk_lt FY.out)).trans FY.out)
      replace FU := Aside0.mk ((N.block _ (blk_lt FU.out)).trans FU.out)
      have E7 := Aside0.mk (below_then E6.out E6.out.size N)
      clear N E6
      have FZ : Aside0 (W7.heap[w7.heap.size]? = some (doF zn zc zt)) := ⟨by rw [HW.out]; exact heap_alloc_new w7 _⟩
      clear hB
      go_upto_region 9 with fail
      rw [← HW.out]
      clear HW
      have x00 := (blk_cell FU.out 0).trans rfl
      have x01 := (blk_cell FU.out 1).trans rfl
      have x02 := (blk_cell FU.out 2).trans rfl
      have x10 := (blk_cell FY.out 0).trans rfl
      have x11 := (blk_cell FY.out 1).trans rfl
      have x12 := (blk_cell FY.out 2).trans rfl
      have x20 := (blk_cell FZ.out 0).trans rfl
      have x21 := (blk_cell FZ.out 1).trans rfl
      have x22 := (blk_cell FZ.out 2).trans rfl
      obtain ⟨x30, x31⟩ := dr_cells D0.out.box
      obtain ⟨x40, x41⟩ := dr_cells DA.out.box
      have hw1 := (i64_w (a0_0 + 1)).trans Q3.out.symm
      have hw2 := Q3.out.symm
      have c := disk_May.calls k _ A2 k2 la true W7 DA.out.row DA.out.cap HM2.out
      go_wp2_with fail
      refine c.mono ?_
      clear c x00 x01 x02 x10 x11 x12 x20 x21 x22 x30 x31 x40 x41 hw1 hw2
      rintro e W8 ⟨rfl, N⟩
      replace D0 := Aside0.mk (D0.out.below N)
      replace DA := Aside0.mk (DA.out.below N)
      replace DC := Aside0.mk (DC.out.below N)
      replace FY := Aside0.mk ((N.block _ (blk_lt FY.out)).trans FY.out)
      replace FU := Aside0.mk ((N.block _ (blk_lt FU.out)).trans FU.out)
      replace FZ := Aside0.mk ((N.block _ (blk_lt FZ.out)).trans FZ.out)
      have E8 := Aside0.mk (below_then E7.out E7.out.size N)
      clear N E7
      go_upto_region 11 with fail
      by_cases hec : ec = 0
      · subst hec
        have hr := HR.out
        rw [if_pos rfl] at hr
        obtain ⟨⟨vn, vc, vt, vb⟩, hy3, hr⟩ := Option.bind_eq_some_iff.1 hr
        split at hr
        case isFalse => cases hr
        rename_i hq
        obtain rfl : true = r := Option.some.inj hr
        obtain ⟨⟨q1, q2⟩, q3, q4⟩ := hq
        try simp only [] at q1 q2 q3 q4 hy3
        subst q3
        have HY3 := Aside0.mk hy3
        have HM3 := Aside0.mk q4
        have hv := q2 hs
        obtain ⟨rfl, rfl, rfl, rfl⟩ : vn = un ∧ vc = uc ∧ vt = ut ∧ vb = ub := by injection hv with e1 e2; injection e2 with e2 e3; injection e3 with e3 e4; exact ⟨e1, e2, e3, e4⟩
        clear q1 q2 q4 hy3 HR hv hr
        have c := cruciblelaw0_Num.calls 0 0 W8 rfl
        go_wp2_with fail
        refine c.mono ?_
        clear c
        rintro e W9 ⟨rfl, hB⟩
        have N := hB.below
        clear hB
        replace D0 := Aside0.mk (D0.out.below N)
        replace DA := Aside0.mk (DA.out.below N)
        replace DC := Aside0.mk (DC.out.below N)
        replace FY := Aside0.mk ((N.block _ (blk_lt FY.out)).trans FY.out)
        replace FU := Aside0.mk ((N.block _ (blk_lt FU.out)).trans FU.out)
        replace FZ := Aside0.mk ((N.block _ (blk_lt FZ.out)).trans FZ.out)
        have E9 := Aside0.mk (below_then E8.out E8.out.size N)
        clear N E8
        go_upto_region 13 with fail
        obtain ⟨x00, x01⟩ := dr_cells DC.out.box
        have c := disk_Find.calls k tc A3 k3 lc a3 _ _ _ _ W9 DC.out.row DC.out.cap HY3.out
        go_wp2_with fail
        refine c.mono ?_
        clear c x00 x01
        rintro e w10 ⟨rfl, hB⟩
        obtain ⟨W10, HW⟩ : ∃ W, Aside0 (W = w10.alloc (doF vn vc vt)) := ⟨_, ⟨rfl⟩⟩
        have N : Below W9.heap.size W9 W10 := by rw [HW.out]; exact hB.alloc hB.size _
        replace D0 := Aside0.mk (D0.out.below N)
        replace DA := Aside0.mk (DA.out.below N)
        replace DC := Aside0.mk (DC.out.below N)
        replace FY := Aside0.mk ((N.block _ (blk_lt FY.out)).trans FY.out)
        replace FU := Aside0.mk ((N.block _ (blk_lt FU.out)).trans FU.out)
        replace FZ := Aside0.mk ((N.block _ (blk_lt FZ.out)).trans FZ.out)
        have E10 := Aside0.mk (below_then E9.out E9.out.size N)
        clear N E9
        have FV : Aside0 (W10.heap[w10.heap.size]? = some (doF vn vc vt)) := ⟨by rw [HW.out]; exact heap_alloc_new w10 _⟩
        clear hB
        go_upto_region 14 with fail
        rw [← HW.out]
        clear HW
        have x00 := (blk_cell FV.out 0).trans rfl
        have x01 := (blk_cell FV.out 1).trans rfl
        have x02 := (blk_cell FV.out 2).trans rfl
        have x10 := (blk_cell FY.out 0).trans rfl
        have x11 := (blk_cell FY.out 1).trans rfl
        have x12 := (blk_cell FY.out 2).trans rfl
        obtain ⟨x20, x21⟩ := dr_cells D0.out.box
        obtain ⟨x30, x31⟩ := dr_cells DC.out.box
        have c := disk_May.calls k tc A3 k3 lc true W10 DC.out.row DC.out.cap HM3.out
        go_wp2_with fail
        refine c.mono ?_
        clear c x00 x01 x02 x10 x11 x12 x20 x21 x30 x31
        rintro e W11 ⟨rfl, N⟩
        replace D0 := Aside0.mk (D0.out.below N)
        replace DA := Aside0.mk (DA.out.below N)
        replace DC := Aside0.mk (DC.out.below N)
        replace FY := Aside0.mk ((N.block _ (blk_lt FY.out)).trans FY.out)
        replace FU := Aside0.mk ((N.block _ (blk_lt FU.out)).trans FU.out)
        replace FZ := Aside0.mk ((N.block _ (blk_lt FZ.out)).trans FZ.out)
        replace FV := Aside0.mk ((N.block _ (blk_lt FV.out)).trans FV.out)
        have E11 := Aside0.mk (below_then E10.out E10.out.size N)
        clear N E10
        go_wp2
        go_ret
        exact ⟨rfl, E11.out⟩
      · have hr := HR.out
        rw [if_neg hec] at hr
        split at hr
        case isFalse => cases hr
        rename_i hq
        obtain rfl : true = r := Option.some.inj hr
        have HS := Aside0.mk hq
        have he2 : (ec == 0) = false := by simpa using hec
        clear hr hq HR hec
        have c := cruciblelaw0_Num.calls ec ec W8 rfl
        go_wp2_with fail
        refine c.mono ?_
        clear c
        rintro e W9 ⟨rfl, hB⟩
        have N := hB.below
        clear hB
        replace D0 := Aside0.mk (D0.out.below N)
        replace DA := Aside0.mk (DA.out.below N)
        replace DC := Aside0.mk (DC.out.below N)
        replace FY := Aside0.mk ((N.block _ (blk_lt FY.out)).trans FY.out)
        replace FU := Aside0.mk ((N.block _ (blk_lt FU.out)).trans FU.out)
        replace FZ := Aside0.mk ((N.block _ (blk_lt FZ.out)).trans FZ.out)
        have E9 := Aside0.mk (below_then E8.out E8.out.size N)
        clear N E8
        go_upto_region 12 with fail
        obtain ⟨x00, x01⟩ := dr_cells DC.out.box
        have c := cruciblelaw0_SameDisk.calls k tc A3 k3 lc 0 none 0 [] true W9 DC.out.row DC.out.cap (dk_nilC _) (Nat.le_refl _) HS.out
        go_wp2_with fail
        refine c.mono ?_
        clear c x00 x01
        rintro e W10 ⟨rfl, N⟩
        replace D0 := Aside0.mk (D0.out.below N)
        replace DA := Aside0.mk (DA.out.below N)
        replace DC := Aside0.mk (DC.out.below N)
        replace FY := Aside0.mk ((N.block _ (blk_lt FY.out)).trans FY.out)
        replace FU := Aside0.mk ((N.block _ (blk_lt FU.out)).trans FU.out)
        replace FZ := Aside0.mk ((N.block _ (blk_lt FZ.out)).trans FZ.out)
        have E10 := Aside0.mk (below_then E9.out E9.out.size N)
        clear N E9
        go_wp2
        go_ret
        exact ⟨rfl, E10.out⟩
    · have he1 : (ea == 0) = false := by simpa using hea
      clear HP
      have c := cruciblelaw0_Num.calls ea ea W4 rfl
      go_wp2_with fail
      refine c.mono ?_
      clear c
      rintro e W5 ⟨rfl, hB⟩
      have N := hB.below
      clear hB
      replace D0 := Aside0.mk (D0.out.below N)
      replace DA := Aside0.mk (DA.out.below N)
      replace DC := Aside0.mk (DC.out.below N)
      replace FY := Aside0.mk ((N.block _ (blk_lt FY.out)).trans FY.out)
      have E5 := Aside0.mk (below_then E4.out E4.out.size N)
      clear N E4
      go_upto_region 11 with fail
      clear he1 hea
      by_cases hec : ec = 0
      · subst hec
        have hr := HR.out
        rw [if_pos rfl] at hr
        obtain ⟨⟨vn, vc, vt, vb⟩, hy3, hr⟩ := Option.bind_eq_some_iff.1 hr
        split at hr
        case isFalse => cases hr
        rename_i hq
        obtain rfl : true = r := Option.some.inj hr
        obtain ⟨⟨q1, q2⟩, q3, q4⟩ := hq
        try simp only [] at q1 q2 q3 q4 hy3
        subst q3
        have HY3 := Aside0.mk hy3
        have HM3 := Aside0.mk q4
        have hv := q2 hs
        obtain ⟨rfl, rfl, rfl, rfl⟩ : vn = yn ∧ vc = yc ∧ vt = yt ∧ vb = yb := by injection hv with e1 e2; injection e2 with e2 e3; injection e3 with e3 e4; exact ⟨e1, e2, e3, e4⟩
        clear q1 q2 q4 hy3 HR hv hr
        have c := cruciblelaw0_Num.calls 0 0 W5 rfl
        go_wp2_with fail
        refine c.mono ?_
        clear c
        rintro e W6 ⟨rfl, hB⟩
        have N := hB.below
        clear hB
        replace D0 := Aside0.mk (D0.out.below N)
        replace DA := Aside0.mk (DA.out.below N)
        replace DC := Aside0.mk (DC.out.below N)
        replace FY := Aside0.mk ((N.block _ (blk_lt FY.out)).trans FY.out)
        have E6 := Aside0.mk (below_then E5.out E5.out.size N)
        clear N E5
        go_upto_region 13 with fail
        obtain ⟨x00, x01⟩ := dr_cells DC.out.box
        have c := disk_Find.calls k tc A3 k3 lc a3 _ _ _ _ W6 DC.out.row DC.out.cap HY3.out
        go_wp2_with fail
        refine c.mono ?_
        clear c x00 x01
        rintro e w7 ⟨rfl, hB⟩
        obtain ⟨W7, HW⟩ : ∃ W, Aside0 (W = w7.alloc (doF vn vc vt)) := ⟨_, ⟨rfl⟩⟩
        have N : Below W6.heap.size W6 W7 := by rw [HW.out]; exact hB.alloc hB.size _
        replace D0 := Aside0.mk (D0.out.below N)
        replace DA := Aside0.mk (DA.out.below N)
        replace DC := Aside0.mk (DC.out.below N)
        replace FY := Aside0.mk ((N.block _ (blk_lt FY.out)).trans FY.out)
        have E7 := Aside0.mk (below_then E6.out E6.out.size N)
        clear N E6
        have FV : Aside0 (W7.heap[w7.heap.size]? = some (doF vn vc vt)) := ⟨by rw [HW.out]; exact heap_alloc_new w7 _⟩
        clear hB
        go_upto_region 14 with fail
        rw [← HW.out]
        clear HW
        have x00 := (blk_cell FV.out 0).trans rfl
        have x01 := (blk_cell FV.out 1).trans rfl
        have x02 := (blk_cell FV.out 2).trans rfl
        have x10 := (blk_cell FY.out 0).trans rfl
        have x11 := (blk_cell FY.out 1).trans rfl
        have x12 := (blk_cell FY.out 2).trans rfl
        obtain ⟨x20, x21⟩ := dr_cells D0.out.box
        obtain ⟨x30, x31⟩ := dr_cells DC.out.box
        have c := disk_May.calls k tc A3 k3 lc true W7 DC.out.row DC.out.cap HM3.out
        go_wp2_with fail
        refine c.mono ?_
        clear c x00 x01 x02 x10 x11 x12 x20 x21 x30 x31
        rintro e W8 ⟨rfl, N⟩
        replace D0 := Aside0.mk (D0.out.below N)
        replace DA := Aside0.mk (DA.out.below N)
        replace DC := Aside0.mk (DC.out.below N)
        replace FY := Aside0.mk ((N.block _ (blk_lt FY.out)).trans FY.out)
        replace FV := Aside0.mk ((N.block _ (blk_lt FV.out)).trans FV.out)
        have E8 := Aside0.mk (below_then E7.out E7.out.size N)
        clear N E7
        go_wp2
        go_ret
        exact ⟨rfl, E8.out⟩
      · have hr := HR.out
        rw [if_neg hec] at hr
        split at hr
        case isFalse => cases hr
        rename_i hq
        obtain rfl : true = r := Option.some.inj hr
        have HS := Aside0.mk hq
        have he2 : (ec == 0) = false := by simpa using hec
        clear hr hq HR hec
        have c := cruciblelaw0_Num.calls ec ec W5 rfl
        go_wp2_with fail
        refine c.mono ?_
        clear c
        rintro e W6 ⟨rfl, hB⟩
        have N := hB.below
        clear hB
        replace D0 := Aside0.mk (D0.out.below N)
        replace DA := Aside0.mk (DA.out.below N)
        replace DC := Aside0.mk (DC.out.below N)
        replace FY := Aside0.mk ((N.block _ (blk_lt FY.out)).trans FY.out)
        have E6 := Aside0.mk (below_then E5.out E5.out.size N)
        clear N E5
        go_upto_region 12 with fail
        obtain ⟨x00, x01⟩ := dr_cells DC.out.box
        have c := cruciblelaw0_SameDisk.calls k tc A3 k3 lc 0 none 0 [] true W6 DC.out.row DC.out.cap (dk_nilC _) (Nat.le_refl _) HS.out
        go_wp2_with fail
        refine c.mono ?_
        clear c x00 x01
        rintro e W7 ⟨rfl, N⟩
        replace D0 := Aside0.mk (D0.out.below N)
        replace DA := Aside0.mk (DA.out.below N)
        replace DC := Aside0.mk (DC.out.below N)
        replace FY := Aside0.mk ((N.block _ (blk_lt FY.out)).trans FY.out)
        have E7 := Aside0.mk (below_then E6.out E6.out.size N)
        clear N E6
        go_wp2
        go_ret
        exact ⟨rfl, E7.out⟩

end Go.Proofs.YtilnamobmjngbaaDoor.P
