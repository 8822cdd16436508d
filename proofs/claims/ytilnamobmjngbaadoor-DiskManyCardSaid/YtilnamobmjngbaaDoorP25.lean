-- Made by a program of this work's own (wip/myprint.py) over the kit's print; leaves by hand.
import Derived.Test.YtilnamobmjngbaaDoorP0
import Derived.Test.YtilnamobmjngbaaDoorP1
import Derived.Test.YtilnamobmjngbaaDoorP2
import Derived.Test.YtilnamobmjngbaaDoorP15
import Derived.Test.YtilnamobmjngbaaDoorP17
import Derived.Test.YtilnamobmjngbaaDoorP20
import Derived.Test.YtilnamobmjngbaaDoorP22
import Derived.Test.YtilnamobmjngbaaDoorPlain
namespace Go.Proofs.YtilnamobmjngbaaDoor.P
open Go.RowKit Go.Proofs.YtilnamobmjngbaaDoorW.PrintWords Go.Proofs.YtilnamobmjngbaaDoorW.PrintLast Go.Proofs.YtilnamobmjngbaaDoorW.PrintMore
attribute [local go_sem] max2_int min2_int max_two min_two max_three min_three max_four min_four   -- for this text's walks alone
set_option linter.unusedVariables false
set_option linter.unusedSimpArgs false

-- HANDBIG DiskMany.lean
-- IMPORT Derived.Test.YtilnamobmjngbaaDoorPlain
attribute [local go_sem high] eqA72
/-! ### cruciblelaw12_DiskMany, by hand -/
theorem dmn_byte (W : World) (v : Int) : (convert 70 9 (.slice (some ⟨W.heap.size, 0, none⟩) 1 1)).run Tryd.prog (W.alloc (.cells #[.int .u8 v] 5)) = .ok (.string (strOfNums [v])) (W.alloc (.cells #[.int .u8 v] 5)) :=
  run_convert_bytes_arg _ _ 5 Tryd.underlying70 Tryd.underlying5 _ 0 1 1 [v] rfl (fun i hi => by
    have h0 : i = 0 := by omega
    subst h0
    rw [blk_cell (heap_alloc_new W _)]
    rfl) _ Tryd.underlying9
theorem dmn_byte2 (W : World) (o : Obj) (v : Int) : (convert 70 9 (.slice (some ⟨W.heap.size + 1, 0, none⟩) 1 1)).run Tryd.prog ((W.alloc o).alloc (.cells #[.int .u8 v] 5)) = .ok (.string (strOfNums [v])) ((W.alloc o).alloc (.cells #[.int .u8 v] 5)) := by
  have := dmn_byte (W.alloc o) v
  rwa [World.size_alloc] at this
attribute [local go_sem] dmn_byte dmn_byte2
def dmn_nm (i : Int) : ByteArray := ((⟨#[102]⟩ : ByteArray) ++ strOfNums [wrap64 (97 + Go.bits .and .i64 i 7) % 256]) ++ strOfNums [97 + i / 8]
def dmn_go (k : Nat) : Nat → Int → List (S72) → Option (Int × List (S72))
  | 0, t, l => some (t, l)
  | n + 1, t, l => (disk_Put.f k t l (dmn_nm ((64 - (n + 1) : Nat) : Int)) ((64 - (n + 1) : Nat) : Int)).bind fun a => if a.2.2 = 0 then dmn_go k n a.1 a.2.1 else none
theorem dmn_go_mono (k : Nat) : ∀ n t l r, dmn_go k n t l = some r → dmn_go (k + 1) n t l = some r
  | 0, t, l, r, h => h
  | n + 1, t, l, r, h => by
    unfold dmn_go at h ⊢
    obtain ⟨a, ha, h⟩ := Option.bind_eq_some_iff.1 h
    rw [disk_Put.mono _ _ _ _ k _ ha, Option.bind_some]
    split at h
    · rename_i e
      rw [if_pos e]
      exact dmn_go_mono k n _ _ _ h
    · cases h
open Classical in
noncomputable def cruciblelaw12_DiskMany.f (k : Nat) (at_ content : Int) : Option Bool :=
  (dmn_go k 64 0 []).bind fun d => (disk_Put.f k d.1 d.2 ⟨#[103]⟩ 1).bind fun e => (disk_Put.f k d.1 d.2 (dmn_nm (Go.bits .and .i64 at_ 63)) (Go.bits .and .i64 content 255)).bind fun a =>
  (disk_Find.f k a.1 a.2.1 (dmn_nm (Go.bits .and .i64 at_ 63))).bind fun y => (disk_Remove.f k d.1 d.2 (dmn_nm (Go.bits .and .i64 at_ 63))).bind fun b => (disk_Put.f k b.1 b.2.1 ⟨#[103]⟩ 1).bind fun h =>
  if e.2.2 = 1201 ∧ a.2.2 = 0 ∧ y = (dmn_nm (Go.bits .and .i64 at_ 63), Go.bits .and .i64 content 255, 65, true) ∧ a.2.1.length = 64 ∧ b.2.2 = 0 ∧ b.2.1.length = 63 ∧ b.1 = 64 ∧ h.2.2 = 0 then some true else none
theorem cruciblelaw12_DiskMany.mono : ∀ a0 a1 k, LeO (cruciblelaw12_DiskMany.f k a0 a1) (cruciblelaw12_DiskMany.f (k + 1) a0 a1) := by
  intro at_ content k r h
  unfold cruciblelaw12_DiskMany.f at h ⊢
  obtain ⟨d, hd, h⟩ := Option.bind_eq_some_iff.1 h
  obtain ⟨e, he, h⟩ := Option.bind_eq_some_iff.1 h
  obtain ⟨a, ha, h⟩ := Option.bind_eq_some_iff.1 h
  obtain ⟨y, hy, h⟩ := Option.bind_eq_some_iff.1 h
  obtain ⟨b, hb, h⟩ := Option.bind_eq_some_iff.1 h
  obtain ⟨g, hg, h⟩ := Option.bind_eq_some_iff.1 h
  rw [dmn_go_mono k _ _ _ _ hd, Option.bind_some, disk_Put.mono _ _ _ _ k _ he, Option.bind_some, disk_Put.mono _ _ _ _ k _ ha, Option.bind_some, disk_Find.mono _ _ _ k _ hy, Option.bind_some, disk_Remove.mono _ _ _ k _ hb, Option.bind_some, disk_Put.mono _ _ _ _ k _ hg, Option.bind_some]
  exact h
abbrev dmF2 (a : ByteArray) (c t : Int) : Obj := .cells #[.string a, .int .i64 c, .int .i64 t] 72
set_option maxHeartbeats 8000000 in
set_option maxRecDepth 100000 in
theorem cruciblelaw12_DiskMany.calls (k : Nat) (a0 a1 : Int) (r : Bool) (w : World) (h : cruciblelaw12_DiskMany.f k a0 a1 = some r) :
    Calls Tryd.prog 11 #[.int .i64 a0, .int .i64 a1] w fun e w' => e = .returned (.bool r) ∧ Below w.heap.size w w' := by
  have hu := Tryd.underlying72
  have hu2 := Tryd.underlying28
  have hu3 := Tryd.underlying70
  have hu4 := Tryd.underlying5
  have hu5 := Tryd.underlying9
  unfold cruciblelaw12_DiskMany.f at h
  obtain ⟨⟨td, ld⟩, hd, hh⟩ := Option.bind_eq_some_iff.1 h
  have HD := Aside0.mk hd
  have HH := Aside0.mk hh
  clear hd hh h
  go_enter Tryd.func11, Tryd.ntmps11
  have ca := cruciblelaw12_awake.calls true w rfl
  go_wp2_with fail
  refine ca.mono ?_
  clear ca
  rintro e w1 ⟨rfl, N1⟩
  obtain ⟨W1, HW⟩ : ∃ W, Aside0 (W = w1.alloc (drD 0 (.slice none 0 0))) := ⟨_, ⟨rfl⟩⟩
  have BK : Aside0 (W1.heap[w1.heap.size]? = some (drD 0 (.slice none 0 0))) := ⟨by rw [HW.out]; exact heap_alloc_new w1 _⟩
  have E1 : Aside0 (Below w.heap.size w W1) := ⟨by rw [HW.out]; exact N1.alloc N1.size _⟩
  have HB1 : Aside0 (w.heap.size ≤ w1.heap.size) := ⟨N1.size⟩
  clear N1
  go_upto_region 4 with fail
  rw [← HW.out]
  clear HW
  generalize w1.heap.size = bx at BK HB1 ⊢
  clear w1
  go_wp2
  go_loopg [6] 64 (fun gg s6 wr => ∃ (i : Nat) (t : Int) (A : Option Addr) (c : Nat) (l : List (S72)), i ≤ 64 ∧ 64 - i ≤ gg ∧ s6 = .int .i64 i ∧ Aside0 (dmn_go k (64 - i) t l = some (td, ld)) ∧ Aside0 (wr.heap[bx]? = some (drD t (.slice A l.length c))) ∧ Aside0 (Kd.R k72 72 wr w.heap.size (fun g => g ≠ bx) (.slice A l.length c) l) ∧ Aside0 (Below w.heap.size w wr))
  case atStart => exact ⟨0, 0, none, 0, [], Nat.zero_le _, by omega, rfl, HD, BK, ⟨Kd.R_nil _ _ _ _ _⟩, E1⟩
  case round =>
    clear HD BK E1
    obtain ⟨i, t, A, c, l, hi, hgg, rfl, HG, BK, HR, HE⟩ := hrel
    by_cases hlt : i < 64
    · have hltz : (i : Int) < 64 := by omega
      obtain ⟨n', hn'⟩ : ∃ n', 64 - i = n' + 1 := ⟨64 - i - 1, by omega⟩
      have hs := HG.out
      rw [hn', dmn_go, ← hn', show 64 - (64 - i) = i by omega] at hs
      obtain ⟨⟨ta, la, ea⟩, ha, hs⟩ := Option.bind_eq_some_iff.1 hs
      split at hs
      case isFalse => cases hs
      rename_i he
      simp only [] at he hs
      subst he
      have HA := Aside0.mk ha; have HS := Aside0.mk hs
      have HN := Aside0.mk hn'; have HLT := Aside0.mk hlt
      clear hs ha HG hn' hlt hi
      obtain ⟨x0, x1⟩ := dr_cells BK.out
      go_upto_region 7 with fail
      obtain ⟨Wb, HW⟩ : ∃ W, Aside0 (W = (wr.alloc (.cells #[.int .u8 (wrap64 (97 + Go.bits .and .i64 (i : Int) 7) % 256)] 5)).alloc (.cells #[.int .u8 (97 + (i : Int) / 8)] 5)) := ⟨_, ⟨rfl⟩⟩
      have N0 : Below wr.heap.size wr Wb := by rw [HW.out]; exact below_alloc (below_alloc (Below.refl _ _) _) _
      have cp := disk_Put.calls k t A c l (dmn_nm (i : Int)) (i : Int) ta la 0 Wb (Kd.C_below (Kd.R_reads' HR.out).2.2 N0) (Kd.R_reads' HR.out).2.1 HA.out
      have NB := Aside0.mk N0
      clear N0
      go_wp2_with fail
      rw [← HW.out]
      clear HW
      refine cp.mono ?_
      clear cp x0 x1
      rintro e w5 ⟨v, rfl, hR, hB⟩
      obtain ⟨A2, k2, rfl⟩ := Kd.R_slice hR
      obtain ⟨W5, HW⟩ : ∃ W, Aside0 (W = w5.alloc (drD ta (.slice A2 la.length k2))) := ⟨_, ⟨rfl⟩⟩
      have N : Below wr.heap.size wr W5 := by rw [HW.out]; exact (below_then NB.out NB.out.size hB).alloc (Nat.le_trans NB.out.size hB.size) _
      have hbx : bx < wr.heap.size := blk_lt BK.out
      have hw5 : Wb.heap.size ≤ w5.heap.size := hB.size
      have hwb : wr.heap.size ≤ Wb.heap.size := NB.out.size
      have hwr : w.heap.size ≤ wr.heap.size := HE.out.size
      have BK5 : Aside0 (W5.heap[bx]? = some (drD t (.slice A l.length c))) := ⟨(N.block _ (blk_lt BK.out)).trans BK.out⟩
      have DA5 : Aside0 (W5.heap[w5.heap.size]? = some (drD ta (.slice A2 la.length k2))) := ⟨by rw [HW.out]; exact heap_alloc_new w5 _⟩
      have HR5 : Aside0 (Kd.R k72 72 W5 w.heap.size (fun g => g ≠ bx) (.slice A2 la.length k2) la) := ⟨by rw [HW.out]; exact Kd.R_lower (Kd.R_alloc (Kd.R_mono (Kd.R_bound hR) (fun g hg => by have := hg.2.1; omega)) _) (by omega)⟩
      have HE5 := Aside0.mk (below_then HE.out HE.out.size N)
      have hne : Aside0 (w5.heap.size ≠ bx) := ⟨by omega⟩
      clear hR hB N NB BK HR HE hbx hw5 hwb hwr
      go_upto_region 8 with fail
      rw [← HW.out]
      clear HW
      have cn := cruciblelaw0_Num.calls 0 0 W5 rfl
      go_wp2_with fail
      refine cn.mono ?_
      clear cn
      rintro e W6 ⟨rfl, hB⟩
      have N := hB.below
      clear hB
      have BK6 : Aside0 (W6.heap[bx]? = some (drD t (.slice A l.length c))) := ⟨(N.block _ (blk_lt BK5.out)).trans BK5.out⟩
      have DA6 : Aside0 (W6.heap[w5.heap.size]? = some (drD ta (.slice A2 la.length k2))) := ⟨(N.block _ (blk_lt DA5.out)).trans DA5.out⟩
      have HR6 := Aside0.mk (Kd.R_below HR5.out N)
      have HE6 := Aside0.mk (below_then HE5.out HE5.out.size N)
      clear N BK5 DA5 HR5 HE5
      have hbx : w.heap.size ≤ bx := HB1.out
      have HBX := Aside0.mk hbx
      clear hbx
      obtain ⟨x0, x1⟩ := dr_cells DA6.out
      obtain ⟨z0, z1⟩ := dr_cells BK6.out
      have y0 := blk_frozen BK6.out 0
      have y1 := blk_frozen BK6.out 1
      go_wp2
      go_roundg (64 - (i + 1))
      case measure => have := HLT.out; omega
      case rel =>
        exact ⟨i + 1, ta, A2, k2, la, HLT.out, Nat.le_refl _, rfl, ⟨by have := HN.out; rw [show 64 - (i + 1) = n' by omega]; exact HS.out⟩, ⟨dr_put BK6.out _ _⟩, ⟨Kd.R_far (p := ⟨bx, 1, none⟩) (Kd.R_far (p := ⟨bx, 0, none⟩) HR6.out (fun q hq => hq) _) (fun q hq => hq) _⟩, ⟨below_set (below_set HE6.out HBX.out) HBX.out⟩⟩
    · have hi64 : i = 64 := by omega
      subst hi64
      have hg := HG.out
      rw [Nat.sub_self, dmn_go] at hg
      obtain ⟨rfl, rfl⟩ : t = td ∧ l = ld := by injection hg with e; injection e with e1 e2; exact ⟨e1, e2⟩
      clear hg HG hlt hi hgg
      have DX : Aside0 (DkAt wr bx t A c l) := ⟨⟨BK.out, (Kd.R_reads' HR.out).2.2, (Kd.R_reads' HR.out).2.1⟩⟩
      clear BK HR
      obtain ⟨kk, hkk, hk64⟩ : ∃ kk : Nat, Go.bits .and .i64 a0 63 = (kk : Int) ∧ kk < 64 := ⟨(a0 % 64).toNat, by have := Spec.bits_low 6 (by omega) a0; rw [show Go.bits .and .i64 a0 63 = a0 % 64 from this]; omega, by omega⟩
      obtain ⟨cc, hcc⟩ : ∃ cc, Go.bits .and .i64 a1 255 = cc := ⟨_, rfl⟩
      obtain ⟨xn, hxn⟩ : ∃ xn, xn = dmn_nm (kk : Int) := ⟨_, rfl⟩
      have hh := HH.out
      rw [hkk, hcc, ← hxn] at hh
      have hxn2 : ((⟨#[102]⟩ : ByteArray) ++ strOfNums [wrap64 (97 + Go.bits .and .i64 (kk : Int) 7) % 256]) ++ strOfNums [97 + (kk : Int) / 8] = xn := hxn.symm
      clear hxn HH
      obtain ⟨⟨te, le, ee⟩, he, hh⟩ := Option.bind_eq_some_iff.1 hh
      obtain ⟨⟨ta, la, ea⟩, ha, hh⟩ := Option.bind_eq_some_iff.1 hh
      obtain ⟨⟨yn, yc, yt, yb⟩, hy, hh⟩ := Option.bind_eq_some_iff.1 hh
      obtain ⟨⟨tb, lb, eb⟩, hb, hh⟩ := Option.bind_eq_some_iff.1 hh
      obtain ⟨⟨tg, lg, eg⟩, hg, hh⟩ := Option.bind_eq_some_iff.1 hh
      split at hh
      case isFalse => cases hh
      rename_i hq
      obtain rfl : true = r := Option.some.inj hh
      try simp only [] at hq he ha hy hb hg
      obtain ⟨rfl, rfl, q3, q4, rfl, q6, rfl, rfl⟩ := hq
      obtain ⟨rfl, rfl, rfl, rfl⟩ : yn = xn ∧ yc = cc ∧ yt = 65 ∧ yb = true := by injection q3 with e1 e2; injection e2 with e2 e3; injection e3 with e3 e4; exact ⟨e1, e2, e3, e4⟩
      have HP1 := Aside0.mk he; have HP2 := Aside0.mk ha; have HF := Aside0.mk hy; have HRM := Aside0.mk hb; have HP3 := Aside0.mk hg
      have Q4 : Aside0 ((la.length : Int) = 64) := ⟨by omega⟩
      have Q6 : Aside0 ((lb.length : Int) = 63) := ⟨by omega⟩
      clear hh q3 q4 q6 he ha hy hb hg
      have E2 := HE
      clear HE
      have hkz : (kk : Int) < 64 := by omega
      generalize wr = W2 at DX E2 ⊢
      go_upto_region 13 with fail
      obtain ⟨W3, HW⟩ : ∃ W, Aside0 (W = (W2.alloc (.cells #[.int .u8 (wrap64 (97 + Go.bits .and .i64 (kk : Int) 7) % 256)] 5)).alloc (.cells #[.int .u8 (97 + (kk : Int) / 8)] 5)) := ⟨_, ⟨rfl⟩⟩
      have N : Below W2.heap.size W2 W3 := by rw [HW.out]; exact below_alloc (below_alloc (Below.refl _ _) _) _
      replace DX := Aside0.mk (DX.out.below N)
      have E3 := Aside0.mk (below_then E2.out E2.out.size N)
      clear N E2
      rw [← HW.out]
      clear HW hkk hk64 hkz hxn2
      obtain ⟨x00, x01⟩ := dr_cells DX.out.box
      have c := disk_Put.calls k t A c l ⟨#[103]⟩ 1 _ _ _ W3 DX.out.row DX.out.cap HP1.out
      go_wp2_with fail
      refine c.mono ?_
      clear c x00 x01
      rintro e w4 ⟨v, rfl, hR, hB⟩
      obtain ⟨A4, k4, rfl⟩ := Kd.R_slice hR
      obtain ⟨W4, HW⟩ : ∃ W, Aside0 (W = w4.alloc (drD te (.slice A4 le.length k4))) := ⟨_, ⟨rfl⟩⟩
      have N : Below W3.heap.size W3 W4 := by rw [HW.out]; exact hB.alloc hB.size _
      replace DX := Aside0.mk (DX.out.below N)
      have E4 := Aside0.mk (below_then E3.out E3.out.size N)
      clear N E3
      have DE : Aside0 (DkAt W4 w4.heap.size te A4 k4 le) := ⟨by rw [HW.out]; exact dk_new te hR⟩
      clear hR hB
      go_upto_region 14 with fail
      rw [← HW.out]
      clear HW
      obtain ⟨x00, x01⟩ := dr_cells DX.out.box
      have c := disk_Put.calls k t A c l yn yc _ _ _ W4 DX.out.row DX.out.cap HP2.out
      go_wp2_with fail
      refine c.mono ?_
      clear c x00 x01
      rintro e w5 ⟨v, rfl, hR, hB⟩
      obtain ⟨A5, k5, rfl⟩ := Kd.R_slice hR
      obtain ⟨W5, HW⟩ : ∃ W, Aside0 (W = w5.alloc (drD ta (.slice A5 la.length k5))) := ⟨_, ⟨rfl⟩⟩
      have N : Below W4.heap.size W4 W5 := by rw [HW.out]; exact hB.alloc hB.size _
      replace DX := Aside0.mk (DX.out.below N)
      replace DE := Aside0.mk (DE.out.below N)
      have E5 := Aside0.mk (below_then E4.out E4.out.size N)
      clear N E4
      have DA : Aside0 (DkAt W5 w5.heap.size ta A5 k5 la) := ⟨by rw [HW.out]; exact dk_new ta hR⟩
      clear hR hB
      go_upto_region 15 with fail
      rw [← HW.out]
      clear HW
      obtain ⟨x00, x01⟩ := dr_cells DA.out.box
      have c := disk_Find.calls k ta A5 k5 la yn _ _ _ _ W5 DA.out.row DA.out.cap HF.out
      go_wp2_with fail
      refine c.mono ?_
      clear c x00 x01
      rintro e w6 ⟨rfl, hB⟩
      obtain ⟨W6, HW⟩ : ∃ W, Aside0 (W = w6.alloc (dmF2 yn yc 65)) := ⟨_, ⟨rfl⟩⟩
      have N : Below W5.heap.size W5 W6 := by rw [HW.out]; exact hB.alloc hB.size _
      replace DX := Aside0.mk (DX.out.below N)
      replace DE := Aside0.mk (DE.out.below N)
      replace DA := Aside0.mk (DA.out.below N)
      have E6 := Aside0.mk (below_then E5.out E5.out.size N)
      clear N E5
      have FY : Aside0 (W6.heap[w6.heap.size]? = some (dmF2 yn yc 65)) := ⟨by rw [HW.out]; exact heap_alloc_new w6 _⟩
      clear hB
      go_upto_region 16 with fail
      rw [← HW.out]
      clear HW
      obtain ⟨x00, x01⟩ := dr_cells DX.out.box
      have c := disk_Remove.calls k t A c l yn _ _ _ W6 DX.out.row DX.out.cap HRM.out
      go_wp2_with fail
      refine c.mono ?_
      clear c x00 x01
      rintro e w7 ⟨v, rfl, hR, hB⟩
      obtain ⟨A7, k7, rfl⟩ := Kd.R_slice hR
      obtain ⟨W7, HW⟩ : ∃ W, Aside0 (W = w7.alloc (drD 64 (.slice A7 lb.length k7))) := ⟨_, ⟨rfl⟩⟩
      have N : Below W6.heap.size W6 W7 := by rw [HW.out]; exact hB.alloc hB.size _
      replace DX := Aside0.mk (DX.out.below N)
      replace DE := Aside0.mk (DE.out.below N)
      replace DA := Aside0.mk (DA.out.below N)
      replace FY := Aside0.mk ((N.block _ (blk_lt FY.out)).trans FY.out)
      have E7 := Aside0.mk (below_then E6.out E6.out.size N)
      clear N E6
      have DB : Aside0 (DkAt W7 w7.heap.size 64 A7 k7 lb) := ⟨by rw [HW.out]; exact dk_new 64 hR⟩
      clear hR hB
      go_upto_region 17 with fail
      rw [← HW.out]
      clear HW
      obtain ⟨x00, x01⟩ := dr_cells DB.out.box
      have c := disk_Put.calls k 64 A7 k7 lb ⟨#[103]⟩ 1 _ _ _ W7 DB.out.row DB.out.cap HP3.out
      go_wp2_with fail
      refine c.mono ?_
      clear c x00 x01
      rintro e w8 ⟨v, rfl, hR, hB⟩
      obtain ⟨A8, k8, rfl⟩ := Kd.R_slice hR
      obtain ⟨W8, HW⟩ : ∃ W, Aside0 (W = w8.alloc (drD tg (.slice A8 lg.length k8))) := ⟨_, ⟨rfl⟩⟩
      have N : Below W7.heap.size W7 W8 := by rw [HW.out]; exact hB.alloc hB.size _
      replace DX := Aside0.mk (DX.out.below N)
      replace DE := Aside0.mk (DE.out.below N)
      replace DA := Aside0.mk (DA.out.below N)
      replace FY := Aside0.mk ((N.block _ (blk_lt FY.out)).trans FY.out)
      replace DB := Aside0.mk (DB.out.below N)
      have E8 := Aside0.mk (below_then E7.out E7.out.size N)
      clear N E7
      have DG : Aside0 (DkAt W8 w8.heap.size tg A8 k8 lg) := ⟨by rw [HW.out]; exact dk_new tg hR⟩
      clear hR hB
      go_upto_region 18 with fail
      rw [← HW.out]
      clear HW
      have c := cruciblelaw0_Num.calls 1201 1201 W8 rfl
      go_wp2_with fail
      refine c.mono ?_
      clear c 
      rintro e W9 ⟨rfl, hB⟩
      have N := hB.below
      clear hB
      replace DX := Aside0.mk (DX.out.below N)
      replace DE := Aside0.mk (DE.out.below N)
      replace DA := Aside0.mk (DA.out.below N)
      replace FY := Aside0.mk ((N.block _ (blk_lt FY.out)).trans FY.out)
      replace DB := Aside0.mk (DB.out.below N)
      replace DG := Aside0.mk (DG.out.below N)
      have E9 := Aside0.mk (below_then E8.out E8.out.size N)
      clear N E8
      have c := cruciblelaw0_Num.calls 0 0 W9 rfl
      go_wp2_with fail
      refine c.mono ?_
      clear c 
      rintro e W10 ⟨rfl, hB⟩
      have N := hB.below
      clear hB
      replace DX := Aside0.mk (DX.out.below N)
      replace DE := Aside0.mk (DE.out.below N)
      replace DA := Aside0.mk (DA.out.below N)
      replace FY := Aside0.mk ((N.block _ (blk_lt FY.out)).trans FY.out)
      replace DB := Aside0.mk (DB.out.below N)
      replace DG := Aside0.mk (DG.out.below N)
      have E10 := Aside0.mk (below_then E9.out E9.out.size N)
      clear N E9
      have x00 := (blk_cell FY.out 0).trans rfl
      have x01 := (blk_cell FY.out 1).trans rfl
      have x02 := (blk_cell FY.out 2).trans rfl
      obtain ⟨x10, x11⟩ := dr_cells DA.out.box
      have q4 := Q4.out
      have c := cruciblelaw0_Num.calls 0 0 W10 rfl
      go_wp2_with fail
      refine c.mono ?_
      clear c x00 x01 x02 x10 x11 q4
      rintro e W11 ⟨rfl, hB⟩
      have N := hB.below
      clear hB
      replace DX := Aside0.mk (DX.out.below N)
      replace DE := Aside0.mk (DE.out.below N)
      replace DA := Aside0.mk (DA.out.below N)
      replace FY := Aside0.mk ((N.block _ (blk_lt FY.out)).trans FY.out)
      replace DB := Aside0.mk (DB.out.below N)
      replace DG := Aside0.mk (DG.out.below N)
      have E11 := Aside0.mk (below_then E10.out E10.out.size N)
      clear N E10
      obtain ⟨x00, x01⟩ := dr_cells DB.out.box
      have q6 := Q6.out
      have c := cruciblelaw0_Num.calls 0 0 W11 rfl
      go_wp2_with fail
      refine c.mono ?_
      clear c x00 x01 q6
      rintro e W12 ⟨rfl, hB⟩
      have N := hB.below
      clear hB
      replace DX := Aside0.mk (DX.out.below N)
      replace DE := Aside0.mk (DE.out.below N)
      replace DA := Aside0.mk (DA.out.below N)
      replace FY := Aside0.mk ((N.block _ (blk_lt FY.out)).trans FY.out)
      replace DB := Aside0.mk (DB.out.below N)
      replace DG := Aside0.mk (DG.out.below N)
      have E12 := Aside0.mk (below_then E11.out E11.out.size N)
      clear N E11
      go_wp2
      go_ret
      exact ⟨rfl, E12.out⟩

end Go.Proofs.YtilnamobmjngbaaDoor.P
