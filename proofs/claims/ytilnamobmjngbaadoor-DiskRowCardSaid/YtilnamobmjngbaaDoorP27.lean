-- Made by a program of this work's own (wip/myprint.py) over the kit's print; leaves by hand.
import Derived.Test.YtilnamobmjngbaaDoorP0
import Derived.Test.YtilnamobmjngbaaDoorWTab
import Derived.Test.YtilnamobmjngbaaDoorP2
import Derived.Test.YtilnamobmjngbaaDoorP12
import Derived.Test.YtilnamobmjngbaaDoorP15
import Derived.Test.YtilnamobmjngbaaDoorP17
import Derived.Test.YtilnamobmjngbaaDoorP22
import Derived.Test.YtilnamobmjngbaaDoorPlain
namespace Go.Proofs.YtilnamobmjngbaaDoor.P
open Go.RowKit Go.Proofs.YtilnamobmjngbaaDoorW.PrintWords Go.Proofs.YtilnamobmjngbaaDoorW.PrintLast Go.Proofs.YtilnamobmjngbaaDoorW.PrintMore
attribute [local go_sem] max2_int min2_int max_two min_two max_three min_three max_four min_four   -- for this text's walks alone
set_option linter.unusedVariables false
set_option linter.unusedSimpArgs false

-- HANDBIG DiskRow.lean
-- IMPORT Derived.Test.YtilnamobmjngbaaDoorPlain
/-! ### cruciblelaw12_DiskRow, by hand -/
theorem drw_u8 (j : Nat) (h : j < 16) : IntKind.u8.wrap (wrap64 (97 + (j : Int))) = 97 + (j : Int) := by
  have h1 : wrap64 (97 + (j : Int)) = 97 + (j : Int) := by unfold wrap64; omega
  rw [h1]
  simp [IntKind.wrap, IntKind.signed, IntKind.bits]
  omega
theorem drw_byte (W : World) (v : Int) : (convert 70 9 (.slice (some ⟨W.heap.size, 0, none⟩) 1 1)).run Tryd.prog (W.alloc (.cells #[.int .u8 v] 5)) = .ok (.string (strOfNums [v])) (W.alloc (.cells #[.int .u8 v] 5)) :=
  run_convert_bytes_arg _ _ 5 Tryd.underlying70 Tryd.underlying5 _ 0 1 1 [v] rfl (fun i hi => by
    have h0 : i = 0 := by omega
    subst h0
    rw [blk_cell (heap_alloc_new W _)]
    rfl) _ Tryd.underlying9
attribute [local go_sem] drw_byte
def drw_nm (i : Int) : ByteArray := (⟨#[102]⟩ : ByteArray) ++ strOfNums [97 + i]
def drw_k (rows : List Int) (i : Nat) : Nat := (Go.bits .and .i64 (rd rows (i : Int)) 15).toNat
def drw_go (k : Nat) (rows : List Int) : Nat → Nat → Int → List (S72) → List Int → List Int → Option (Int × List (S72) × List Int × List Int)
  | 0, _, t, l, la, wh => some (t, l, la, wh)
  | n + 1, i, t, l, la, wh => (disk_Put.f k t l (drw_nm (drw_k rows i : Int)) (i : Int)).bind fun a => if a.2.2 = 0 then drw_go k rows n (i + 1) a.1 a.2.1 (la.set (drw_k rows i) ((i : Int) + 1)) (wh.set (drw_k rows i) (i : Int)) else none
theorem drw_go_mono (k : Nat) (rows : List Int) : ∀ n i t l la wh r, drw_go k rows n i t l la wh = some r → drw_go (k + 1) rows n i t l la wh = some r
  | 0, i, t, l, la, wh, r, h => h
  | n + 1, i, t, l, la, wh, r, h => by
    unfold drw_go at h ⊢
    obtain ⟨a, ha, h⟩ := Option.bind_eq_some_iff.1 h
    rw [disk_Put.mono _ _ _ _ k _ ha, Option.bind_some]
    split at h
    · rename_i e
      rw [if_pos e]
      exact drw_go_mono k rows n _ _ _ _ _ _ h
    · cases h
def drw_want (la wh : List Int) : Nat → List (S72)
  | 0 => []
  | j + 1 => if 0 < la.getD j 0 then drw_want la wh j ++ [⟨drw_nm (j : Int), wh.getD j 0, la.getD j 0⟩] else drw_want la wh j
theorem drw_want_len (la wh : List Int) : ∀ j, (drw_want la wh j).length ≤ j
  | 0 => Nat.le_refl _
  | j + 1 => by
    have := drw_want_len la wh j
    rw [drw_want]
    split
    · rw [List.length_append, List.length_singleton]; omega
    · omega
def cruciblelaw12_DiskRow.f (k : Nat) (rows : List Int) : Option Bool :=
  (drw_go k rows (min rows.length 40) 0 0 [] (List.replicate 16 0) (List.replicate 16 0)).bind fun d =>
  if (cruciblelaw0_SameFiles.f k d.2.1 (drw_want d.2.2.1 d.2.2.2 16) = some true ∧ disk_May.f k d.1 d.2.1 = some true) ∧ d.1 = ((min rows.length 40 : Nat) : Int) then some true else none
theorem cruciblelaw12_DiskRow.mono : ∀ a0 k, LeO (cruciblelaw12_DiskRow.f k a0) (cruciblelaw12_DiskRow.f (k + 1) a0) := by
  intro rows k r h
  unfold cruciblelaw12_DiskRow.f at h ⊢
  obtain ⟨d, hd, h⟩ := Option.bind_eq_some_iff.1 h
  split at h
  case isFalse => cases h
  rename_i hq
  rw [drw_go_mono k _ _ _ _ _ _ _ _ hd, Option.bind_some, if_pos ⟨⟨cruciblelaw0_SameFiles.mono _ _ k _ hq.1.1, disk_May.mono _ _ k _ hq.1.2⟩, hq.2⟩]
  exact h
def drw_T21 : Bool × List (List Nat × List Nat) := (true, [([], []), ([], []), ([1], [1]), ([2], [2]), ([3], [3]), ([4], [4]), ([5], [5]), ([], []), ([7], [7]), ([8], [8]), ([], []), ([10], [10]), ([11], [11]), ([6, 9, 12], [6, 9, 12]), ([13], [13]), ([0, 14], [0, 14]), ([15, 15, 0, 1, 2, 3, 4, 5, 6, 7, 8, 9, 10, 11, 12, 13, 14, 15], [0, 15])])
def drw_B21 : List Nat := [0, 0, 2, 6, 14, 30, 62, 0, 128, 384, 0, 1024, 3072, 8190, 16382, 32767, 65535]
theorem drw_tab21 : rtab .any (opsOf Tryd.f13 21) = drw_T21 := by kernel_rfl
theorem drw_bits21 : waitsOk drw_T21.2 drw_B21 = true := by kernel_rfl
abbrev drA (xs : List Int) : Obj := .cells (xs.map (Value.int .i64)).toArray 87
theorem drA_cell {W : World} {b : Nat} {xs : List Int} (h : W.heap[b]? = some (drA xs)) (j : Nat) (hj : j < xs.length) : W.cell? ⟨b, j, none⟩ = some (.int .i64 (xs.getD j 0)) := by
  rw [blk_cell h j]
  simp [List.getElem?_eq_getElem hj, List.getD_eq_getElem?_getD]
theorem drA_put {W : World} {b : Nat} {xs : List Int} (h : W.heap[b]? = some (drA xs)) (j : Nat) (v : Int) : (W.setCell ⟨b, j, none⟩ (.int .i64 v)).heap[b]? = some (drA (xs.set j v)) :=
  blk_put h j _ (by simp [List.map_set])
set_option maxHeartbeats 8000000 in
set_option maxRecDepth 100000 in
theorem cruciblelaw12_DiskRow.calls (k : Nat) (A0 : Option Addr) (c0 : Nat) (l0 : List Int) (r : Bool) (w : World) (hr0 : Kd.C (Kd.int .i64) w A0 l0.length l0) (hc0 : l0.length ≤ c0) (h : cruciblelaw12_DiskRow.f k l0 = some r) :
    Calls Tryd.prog 13 #[.slice A0 l0.length c0] w fun e w' => e = .returned (.bool r) ∧ Below w.heap.size w w' := by
  have hu := Tryd.underlying72
  have hu2 := Tryd.underlying28
  have hu3 := Tryd.underlying70
  have hu4 := Tryd.underlying5
  have hu5 := Tryd.underlying9
  have hu6 := Tryd.underlying87
  have hu7 := Tryd.underlying40
  unfold cruciblelaw12_DiskRow.f at h
  obtain ⟨⟨td, ld, la9, wh9⟩, hd, hh⟩ := Option.bind_eq_some_iff.1 h
  have HD := Aside0.mk hd
  have HH := Aside0.mk hh
  have HRO := Aside0.mk hr0
  have HM : Aside0 (min l0.length 40 ≤ l0.length ∧ min l0.length 40 ≤ 40) := ⟨⟨Nat.min_le_left _ _, Nat.min_le_right _ _⟩⟩
  clear hd hh h hr0
  go_enter Tryd.func13, Tryd.ntmps13
  have ca := cruciblelaw12_awake.calls true w rfl
  go_wp2_with fail
  refine ca.mono ?_
  clear ca
  rintro e w1 ⟨rfl, N1⟩
  go_upto_region 6 with fail
  obtain ⟨W1, HW⟩ : ∃ W, Aside0 (W = ((w1.alloc (.cells #[.int .i64 0, .slice none 0 0] 28)).alloc (.cells #[.int .i64 0, .int .i64 0, .int .i64 0, .int .i64 0, .int .i64 0, .int .i64 0, .int .i64 0, .int .i64 0, .int .i64 0, .int .i64 0, .int .i64 0, .int .i64 0, .int .i64 0, .int .i64 0, .int .i64 0, .int .i64 0] 87)).alloc (.cells #[.int .i64 0, .int .i64 0, .int .i64 0, .int .i64 0, .int .i64 0, .int .i64 0, .int .i64 0, .int .i64 0, .int .i64 0, .int .i64 0, .int .i64 0, .int .i64 0, .int .i64 0, .int .i64 0, .int .i64 0, .int .i64 0] 87)) := ⟨_, ⟨rfl⟩⟩
  have BK : Aside0 (W1.heap[w1.heap.size]? = some (drD 0 (.slice none 0 0))) := ⟨by
    rw [HW.out]
    exact blk_alloc (blk_alloc (heap_alloc_new w1 _) _) _⟩
  have LA : Aside0 (W1.heap[w1.heap.size + 1]? = some (drA (List.replicate 16 0))) := ⟨by
    rw [HW.out]
    have h_ := heap_alloc_new (w1.alloc (.cells #[.int .i64 0, .slice none 0 0] 28)) (drA (List.replicate 16 0))
    rw [World.size_alloc] at h_
    exact blk_alloc h_ _⟩
  have WH : Aside0 (W1.heap[w1.heap.size + 1 + 1]? = some (drA (List.replicate 16 0))) := ⟨by
    rw [HW.out]
    have h_ := heap_alloc_new ((w1.alloc (.cells #[.int .i64 0, .slice none 0 0] 28)).alloc (drA (List.replicate 16 0))) (drA (List.replicate 16 0))
    rw [World.size_alloc, World.size_alloc] at h_
    exact h_⟩
  have E1 : Aside0 (Below w.heap.size w W1) := ⟨by
    rw [HW.out]
    exact ((N1.alloc N1.size _).alloc (by rw [World.size_alloc]; exact Nat.le_succ_of_le N1.size) _).alloc (by rw [World.size_alloc, World.size_alloc]; exact Nat.le_succ_of_le (Nat.le_succ_of_le N1.size)) _⟩
  have HB1 : Aside0 (w.heap.size ≤ w1.heap.size) := ⟨N1.size⟩
  clear N1
  rw [← HW.out]
  clear HW
  generalize w1.heap.size = bx at BK LA WH HB1 ⊢
  clear w1
  go_wp2
  go_loopg [6] (min l0.length 40) (fun gg s6 wr => ∃ (i : Nat) (t : Int) (A : Option Addr) (c : Nat) (l : List (S72)) (la wh : List Int), i ≤ min l0.length 40 ∧ min l0.length 40 - i ≤ gg ∧ s6 = .int .i64 i ∧ Aside0 (drw_go k l0 (min l0.length 40 - i) i t l la wh = some (td, ld, la9, wh9)) ∧ Aside0 (la.length = 16 ∧ wh.length = 16) ∧ Aside0 (wr.heap[bx]? = some (drD t (.slice A l.length c))) ∧ Aside0 (wr.heap[bx + 1]? = some (drA la)) ∧ Aside0 (wr.heap[bx + 1 + 1]? = some (drA wh)) ∧ Aside0 (Kd.R k72 72 wr w.heap.size (fun g => g ≠ bx ∧ g ≠ bx + 1 ∧ g ≠ bx + 1 + 1) (.slice A l.length c) l) ∧ Aside0 (Below w.heap.size w wr))
  case atStart => exact ⟨0, 0, none, 0, [], List.replicate 16 0, List.replicate 16 0, Nat.zero_le _, Nat.le_refl _, rfl, HD, ⟨⟨rfl, rfl⟩⟩, BK, LA, WH, ⟨Kd.R_nil _ _ _ _ _⟩, E1⟩
  case round =>
    clear HD BK LA WH E1
    obtain ⟨i, t, A, c, l, la, wh, hi, hgg, rfl, HG, HL, BK, LA, WH, HR, HE⟩ := hrel
    by_cases hlt : i < min l0.length 40
    · have hm := HM.out
      have h1 : (i : Int) < (l0.length : Int) := by omega
      have h2 : (i : Int) < 40 := by omega
      obtain ⟨n', hn'⟩ : ∃ n', min l0.length 40 - i = n' + 1 := ⟨min l0.length 40 - i - 1, by omega⟩
      have hs := HG.out
      rw [hn', drw_go] at hs
      obtain ⟨⟨ta, lb, ea⟩, ha, hs⟩ := Option.bind_eq_some_iff.1 hs
      split at hs
      case isFalse => cases hs
      rename_i he
      simp only [] at he hs
      subst he
      have hkz : Go.bits .and .i64 (rd l0 (i : Int)) 15 = ((drw_k l0 i : Nat) : Int) ∧ drw_k l0 i < 16 := by
        have hb := Spec.bits_low 4 (by omega) (rd l0 (i : Int))
        unfold drw_k
        rw [show Go.bits .and .i64 (rd l0 (i : Int)) 15 = rd l0 (i : Int) % 16 from hb]
        omega
      obtain ⟨hkk, hk16⟩ := hkz
      generalize drw_k l0 i = kk at hkk hk16 ha hs
      have HA := Aside0.mk ha; have HS := Aside0.mk hs
      have HN := Aside0.mk hn'; have HLT := Aside0.mk hlt
      clear hs ha HG hn' hlt hi hm
      obtain ⟨ad, hA, hcell⟩ := (Kd.reads_of_C (enc := Value.int .i64) (d := (0 : Int)) (h1 := fun _ => rfl) HRO.out).2.2 (by omega)
      have hx : w.cell? (ad.add i) = some (.int .i64 (rd l0 (i : Int))) := hcell i (by omega)
      clear hcell
      cases hA
      replace hx := (HE.out.cell (World.block_lt_of_cell? w _ hx)).trans hx
      have hkz : (kk : Int) < 16 := by omega
      have hi0 : (0 : Int) ≤ (i : Int) := by omega
      obtain ⟨x0, x1⟩ := dr_cells BK.out
      go_upto_region 10 with fail
      clear hx
      obtain ⟨Wb, HW⟩ : ∃ W, Aside0 (W = wr.alloc (.cells #[.int .u8 (97 + (kk : Int))] 5)) := ⟨_, ⟨rfl⟩⟩
      have N0 : Below wr.heap.size wr Wb := by rw [HW.out]; exact below_alloc (Below.refl _ _) _
      have cp := disk_Put.calls k t A c l (drw_nm (kk : Int)) (i : Int) ta lb 0 Wb (Kd.C_below (Kd.R_reads' HR.out).2.2 N0) (Kd.R_reads' HR.out).2.1 HA.out
      have NB := Aside0.mk N0
      clear N0
      go_wp2_with fail
      rw [← HW.out]
      clear HW
      refine cp.mono ?_
      clear cp x0 x1 hkk
      rintro e w5 ⟨v, rfl, hR, hB⟩
      obtain ⟨A2, k2, rfl⟩ := Kd.R_slice hR
      obtain ⟨W5, HW⟩ : ∃ W, Aside0 (W = w5.alloc (drD ta (.slice A2 lb.length k2))) := ⟨_, ⟨rfl⟩⟩
      have N : Below wr.heap.size wr W5 := by rw [HW.out]; exact (below_then NB.out NB.out.size hB).alloc (Nat.le_trans NB.out.size hB.size) _
      have hbx : bx + 1 + 1 < wr.heap.size := blk_lt WH.out
      have hw5 : Wb.heap.size ≤ w5.heap.size := hB.size
      have hwb : wr.heap.size ≤ Wb.heap.size := NB.out.size
      have hwr : w.heap.size ≤ wr.heap.size := HE.out.size
      have BK5 : Aside0 (W5.heap[bx]? = some (drD t (.slice A l.length c))) := ⟨(N.block _ (blk_lt BK.out)).trans BK.out⟩
      have LA5 : Aside0 (W5.heap[bx + 1]? = some (drA la)) := ⟨(N.block _ (blk_lt LA.out)).trans LA.out⟩
      have WH5 : Aside0 (W5.heap[bx + 1 + 1]? = some (drA wh)) := ⟨(N.block _ (blk_lt WH.out)).trans WH.out⟩
      have DA5 : Aside0 (W5.heap[w5.heap.size]? = some (drD ta (.slice A2 lb.length k2))) := ⟨by rw [HW.out]; exact heap_alloc_new w5 _⟩
      have HR5 : Aside0 (Kd.R k72 72 W5 w.heap.size (fun g => g ≠ bx ∧ g ≠ bx + 1 ∧ g ≠ bx + 1 + 1) (.slice A2 lb.length k2) lb) := ⟨by rw [HW.out]; exact Kd.R_lower (Kd.R_alloc (Kd.R_mono (Kd.R_bound hR) (fun g hg => by have := hg.2.1; omega)) _) (by omega)⟩
      have HE5 := Aside0.mk (below_then HE.out HE.out.size N)
      have HNE : Aside0 (w5.heap.size ≠ bx ∧ w5.heap.size ≠ bx + 1 ∧ w5.heap.size ≠ bx + 1 + 1) := ⟨by omega⟩
      clear hR hB N NB BK LA WH HR HE hbx hw5 hwb hwr
      go_upto_region 11 with fail
      rw [← HW.out]
      clear HW
      have cn := cruciblelaw0_Num.calls 0 0 W5 rfl
      go_wp2_with fail
      refine cn.mono ?_
      clear cn
      rintro e W6 ⟨rfl, hB⟩
      have N := hB.below
      clear hB
      have BK6 : Aside0 (W6.heap[bx]? = some (drD t (.slice A l.length c))) := ⟨(N.block _ (blk_lt BK5.out)).trans BK5.out⟩
      have LA6 : Aside0 (W6.heap[bx + 1]? = some (drA la)) := ⟨(N.block _ (blk_lt LA5.out)).trans LA5.out⟩
      have WH6 : Aside0 (W6.heap[bx + 1 + 1]? = some (drA wh)) := ⟨(N.block _ (blk_lt WH5.out)).trans WH5.out⟩
      have DA6 : Aside0 (W6.heap[w5.heap.size]? = some (drD ta (.slice A2 lb.length k2))) := ⟨(N.block _ (blk_lt DA5.out)).trans DA5.out⟩
      have HR6 := Aside0.mk (Kd.R_below HR5.out N)
      have HE6 := Aside0.mk (below_then HE5.out HE5.out.size N)
      clear N BK5 LA5 WH5 DA5 HR5 HE5
      obtain ⟨x0, x1⟩ := dr_cells DA6.out
      obtain ⟨z0, z1⟩ := dr_cells BK6.out
      have y0 := blk_frozen BK6.out 0
      have y1 := blk_frozen BK6.out 1
      obtain ⟨hl1, hl2⟩ := HL.out
      have u0 := drA_cell LA6.out kk (by omega)
      have v0 := drA_cell WH6.out kk (by omega)
      have u1 := blk_frozen LA6.out kk
      have v1 := blk_frozen WH6.out kk
      clear hl1 hl2
      obtain ⟨n1, n2, n3⟩ := HNE.out
      have n4 : bx + 1 ≠ bx := by omega
      have n5 : bx + 1 + 1 ≠ bx := by omega
      have n6 : bx + 1 + 1 ≠ bx + 1 := by omega
      go_wp2
      go_roundg (min l0.length 40 - (i + 1))
      case measure => have := HLT.out; omega
      case rel =>
        have hb : w.heap.size ≤ bx := HB1.out
        exact ⟨i + 1, ta, A2, k2, lb, la.set kk ((i : Int) + 1), wh.set kk (i : Int), HLT.out, Nat.le_refl _, rfl, ⟨by have := HN.out; rw [show min l0.length 40 - (i + 1) = n' by omega]; exact HS.out⟩, ⟨by rw [List.length_set, List.length_set]; exact HL.out⟩,
          ⟨dr_put (blk_far (blk_far BK6.out (Ne.symm n4) _) (Ne.symm n5) _) _ _⟩, ⟨blk_far (blk_far (blk_far (drA_put LA6.out kk _) (Ne.symm n6) _) n4 _) n4 _⟩, ⟨blk_far (blk_far (drA_put (blk_far WH6.out n6 _) kk _) n5 _) n5 _⟩,
          ⟨Kd.R_far (p := ⟨bx, 1, none⟩) (Kd.R_far (p := ⟨bx, 0, none⟩) (Kd.R_far (p := ⟨bx + 1 + 1, kk, none⟩) (Kd.R_far (p := ⟨bx + 1, kk, none⟩) HR6.out (fun q hq => hq.2.1) _) (fun q hq => hq.2.2) _) (fun q hq => hq.1) _) (fun q hq => hq.1) _⟩,
          ⟨below_set (below_set (below_set (below_set HE6.out (by omega)) (by omega)) hb) hb⟩⟩
    · have hm := HM.out
      have hi2 : i = min l0.length 40 := by omega
      have hg := HG.out
      rw [← hi2, Nat.sub_self, drw_go] at hg
      obtain ⟨rfl, rfl, rfl, rfl⟩ : t = td ∧ l = ld ∧ la = la9 ∧ wh = wh9 := by injection hg with e; injection e with e1 e2; injection e2 with e2 e3; injection e3 with e3 e4; exact ⟨e1, e2, e3, e4⟩
      have HI := Aside0.mk hi2
      have hh := HH.out
      split at hh
      case isFalse => cases hh
      rename_i hq
      obtain rfl : true = r := Option.some.inj hh
      try simp only [] at hq
      have HQ := Aside0.mk hq
      clear hg HG hlt hi hgg hh hq HH
      have h1 : ((i : Int) < (l0.length : Int)) ↔ ¬ (i = l0.length) := by omega
      by_cases hlen : i = l0.length
      · have h2 : ¬ ((i : Int) < (l0.length : Int)) := by omega
        have HLEN := Aside0.mk (show i = l0.length ∧ ¬ (40 : Int) < (l0.length : Int) by omega)
        clear h1 hlen hm hi2
        have HC : Aside0 (Kd.C k72 wr A l.length l ∧ l.length ≤ c) := ⟨⟨(Kd.R_reads' HR.out).2.2, (Kd.R_reads' HR.out).2.1⟩⟩
        clear HR
        generalize wr = W2 at BK LA WH HC HE ⊢
        go_wp2
        go_loopg [10, 11] 16 (fun gg s10 s11 wz => ∃ (j : Nat) (Aw : Option Addr) (cw : Nat), j ≤ 16 ∧ 16 - j ≤ gg ∧ s11 = .int .i64 j ∧ s10 = .slice Aw (drw_want la wh j).length cw ∧ Aside0 (Kd.R k72 72 wz W2.heap.size (fun _ => True) (.slice Aw (drw_want la wh j).length cw) (drw_want la wh j)) ∧ Aside0 (Below W2.heap.size W2 wz))
        case atStart => exact ⟨0, none, 0, Nat.zero_le _, Nat.le_refl _, rfl, rfl, ⟨Kd.R_nil _ _ _ _ _⟩, ⟨Below.refl _ _⟩⟩
        case round =>
          obtain ⟨j, Aw, cw, hj, hgg2, rfl, rfl, HW, HB⟩ := hrel
          by_cases hjt : j < 16
          · have hjz : (j : Int) < 16 := by omega
            obtain ⟨hl1, hl2⟩ := HL.out
            have cu := drA_cell LA.out j (by omega)
            have cv := drA_cell WH.out j (by omega)
            have u0 := (HB.out.cell (World.block_lt_of_cell? W2 _ cu)).trans cu
            clear hl1 hl2
            by_cases hpos : 0 < la.getD j 0
            · have HPOS := Aside0.mk hpos
              have hp2 : 0 < la[j]?.getD 0 := by rw [← List.getD_eq_getElem?_getD]; exact hpos
              have CU := Aside0.mk cu
              have CV := Aside0.mk cv
              have HU8 : Aside0 (IntKind.u8.wrap (wrap64 (97 + (j : Int))) = 97 + (j : Int)) := ⟨drw_u8 j hjt⟩
              clear cu cv
              go_upto_region 21 with fail
              have cu := CU.out
              have cv := CV.out
              refine start_ (n := 17) (S := fun w' => w'.cell? ⟨bx + 1, j, none⟩ = some (.int .i64 (la.getD j 0)) ∧ w'.cell? ⟨bx + 1 + 1, j, none⟩ = some (.int .i64 (wh.getD j 0))) (ds := []) #[false, false, false, false, false, false, false, false, false, false, false, false, false, false, false, false, false] (by kernel_rfl) rfl rfl ⟨(HB.out.cell (World.block_lt_of_cell? W2 _ cu)).trans cu, (HB.out.cell (World.block_lt_of_cell? W2 _ cv)).trans cv⟩ (fun hHeld => ?_); refine with_tabW drw_tab21 drw_bits21 (fun HT_ HW_ => ?_)
              have n0_ := Aside0.mk (Kd.R_drew HW.out)
              have n1_ := Aside0.mk (below_drew1 HB.out)
              clear HW HB u0
              have HW := n0_
              have HB := n1_
              clear n0_ n1_
              generalize World.drew _ = wz at HW HB hHeld ⊢
              refine pure_ (i := 0) (N := some 60) (v := ?_) (a' := ?_) #[true, false, false, false, false, false, false, false, false, false, false, false, false, false, false, false, false] rfl rfl (any_of HT_.out (by kernel_rfl)) (fun _ _ _ h => h) (Or.inl ⟨by rfl, ?_⟩) ?_ ?_
              rotate_left
              · intro w'
                go_simp
                with_reducible rfl
              rotate_left
              · simp only [Act.put, List.setIfInBounds_toArray, List.set_cons_zero, List.set_cons_succ, i64_w, i32_w]
                rfl
              refine pure_ (i := 1) (N := some 61) (v := ?_) (a' := ?_) #[true, true, false, false, false, false, false, false, false, false, false, false, false, false, false, false, false] rfl rfl (any_of HT_.out (by kernel_rfl)) (fun _ _ _ h => h) (Or.inl ⟨by rfl, ?_⟩) ?_ ?_
              rotate_left
              · intro w'
                go_simp
                with_reducible rfl
              rotate_left
              · simp only [Act.put, List.setIfInBounds_toArray, List.set_cons_zero, List.set_cons_succ, i64_w, i32_w]
                rfl
              refine pure_ (i := 2) (N := some 62) (v := ?_) (a' := ?_) #[true, true, true, false, false, false, false, false, false, false, false, false, false, false, false, false, false] rfl rfl (any_of HT_.out (by kernel_rfl)) (fun _ _ _ h => h) (Or.inl ⟨by rfl, ?_⟩) ?_ ?_
              rotate_left
              · intro w'
                go_simp
                with_reducible rfl
              rotate_left
              · simp only [Act.put, List.setIfInBounds_toArray, List.set_cons_zero, List.set_cons_succ, i64_w, i32_w]
                rfl
              refine pure_ (i := 3) (N := some 63) (v := ?_) (a' := ?_) #[true, true, true, true, false, false, false, false, false, false, false, false, false, false, false, false, false] rfl rfl (any_of HT_.out (by kernel_rfl)) (fun _ _ _ h => h) (Or.inl ⟨by rfl, ?_⟩) ?_ ?_
              rotate_left
              · intro w'
                go_simp
                with_reducible rfl
              rotate_left
              · simp only [Act.put, List.setIfInBounds_toArray, List.set_cons_zero, List.set_cons_succ, i64_w, i32_w]
                rfl
              refine pure_ (i := 7) (N := some 67) (v := ?_) (a' := ?_) #[true, true, true, true, false, false, false, true, false, false, false, false, false, false, false, false, false] rfl rfl (any_of HT_.out (by kernel_rfl)) (fun _ _ _ h => h) (Or.inl ⟨by rfl, ?_⟩) ?_ ?_
              rotate_left
              · intro w'
                go_simp
                with_reducible rfl
              rotate_left
              · simp only [Act.put, List.setIfInBounds_toArray, List.set_cons_zero, List.set_cons_succ, i64_w, i32_w]
                rfl
              refine pure_ (i := 8) (N := some 68) (v := ?_) (a' := ?_) #[true, true, true, true, false, false, false, true, true, false, false, false, false, false, false, false, false] rfl rfl (any_of HT_.out (by kernel_rfl)) (fun _ _ _ h => h) (Or.inl ⟨by rfl, ?_⟩) ?_ ?_
              rotate_left
              · intro w'
                go_simp
                with_reducible rfl
              rotate_left
              · simp only [Act.put, List.setIfInBounds_toArray, List.set_cons_zero, List.set_cons_succ, i64_w, i32_w]
                rfl
              refine pure_ (i := 10) (N := some 70) (v := ?_) (a' := ?_) #[true, true, true, true, false, false, false, true, true, false, true, false, false, false, false, false, false] rfl rfl (any_of HT_.out (by kernel_rfl)) (fun _ _ _ h => h) (Or.inl ⟨by rfl, ?_⟩) ?_ ?_
              rotate_left
              · intro w'
                go_simp
                with_reducible rfl
              rotate_left
              · simp only [Act.put, List.setIfInBounds_toArray, List.set_cons_zero, List.set_cons_succ, i64_w, i32_w]
                rfl
              refine pure_ (i := 11) (N := some 71) (v := ?_) (a' := ?_) #[true, true, true, true, false, false, false, true, true, false, true, true, false, false, false, false, false] rfl rfl (any_of HT_.out (by kernel_rfl)) (fun _ _ _ h => h) (Or.inl ⟨by rfl, ?_⟩) ?_ ?_
              rotate_left
              · intro w'
                go_simp
                with_reducible rfl
              rotate_left
              · simp only [Act.put, List.setIfInBounds_toArray, List.set_cons_zero, List.set_cons_succ, i64_w, i32_w]
                rfl
              refine take_ (i := 9) (N := some 69) (v := ?_) (a' := ?_) #[true, true, true, true, false, false, false, true, true, true, true, true, false, false, false, false, false] rfl rfl (take_ofW HT_.out HW_.out (by kernel_rfl)) (fun _ _ _ h => h) (Or.inl ⟨by rfl, ?_⟩) hHeld ?_ ?_
              rotate_left
              · rintro w' ⟨s0, s1⟩
                go_simp
                with_reducible rfl
              rotate_left
              · simp only [Act.put, List.setIfInBounds_toArray, List.set_cons_zero, List.set_cons_succ, i64_w, i32_w]
                rfl
              refine take_ (i := 12) (N := some 72) (v := ?_) (a' := ?_) #[true, true, true, true, false, false, false, true, true, true, true, true, true, false, false, false, false] rfl rfl (take_ofW HT_.out HW_.out (by kernel_rfl)) (fun _ _ _ h => h) (Or.inl ⟨by rfl, ?_⟩) hHeld ?_ ?_
              rotate_left
              · rintro w' ⟨s0, s1⟩
                go_simp
                with_reducible rfl
              rotate_left
              · simp only [Act.put, List.setIfInBounds_toArray, List.set_cons_zero, List.set_cons_succ, i64_w, i32_w]
                rfl
              simp only [HU8.out]
              refine one_ (i := 4) (N := some 64) #[true, true, true, true, true, false, false, true, true, true, true, true, true, false, false, false, false] rfl rfl (one_of HT_.out (by kernel_rfl)) (by decide) (fun K hK => ?_)
              refine value_ (w1 := ?_) (v := ?_) (by rfl) rfl ?_ ?_
              rotate_left 2
              · go_simp
                constructor
                · rfl
                · rfl
              have n0_ := Aside0.mk (Kd.R_alloc HW.out (.cells #[.int .u8 (97 + (j : Int))] 5))
              have n1_ := Aside0.mk (below_alloc HB.out (.cells #[.int .u8 (97 + (j : Int))] 5))
              have hby := drw_byte wz (97 + (j : Int))
              generalize wz.heap.size = gz at hby ⊢
              generalize wz.alloc (.cells #[.int .u8 (97 + (j : Int))] 5) = wy at n0_ n1_ hby ⊢
              have HW := n0_
              have HB := n1_
              clear n0_ n1_
              refine hK.out _ _ ⟨(HB.out.cell (World.block_lt_of_cell? W2 _ cu)).trans cu, (HB.out.cell (World.block_lt_of_cell? W2 _ cv)).trans cv⟩ (fun hHeld => ?_)
              clear hK K
              refine norm_ (a' := ?_) ?_ ?_
              rotate_left
              · show Act.put _ (some 64) _ = _
                simp only [Act.put, List.setIfInBounds_toArray, List.set_cons_zero, List.set_cons_succ, i64_w, i32_w]
                rfl
              refine one_ (i := 5) (N := some 65) #[true, true, true, true, true, true, false, true, true, true, true, true, true, false, false, false, false] rfl rfl (one_of HT_.out (by kernel_rfl)) (by decide) (fun K hK => ?_)
              refine value_ (w1 := ?_) (v := ?_) (by rfl) rfl ?_ ?_
              rotate_left 2
              · go_simp
                constructor
                · rfl
                · rfl
              clear hby
              refine hK.out _ _ ⟨(HB.out.cell (World.block_lt_of_cell? W2 _ cu)).trans cu, (HB.out.cell (World.block_lt_of_cell? W2 _ cv)).trans cv⟩ (fun hHeld => ?_)
              clear hK K
              refine norm_ (a' := ?_) ?_ ?_
              rotate_left
              · show Act.put _ (some 65) _ = _
                simp only [Act.put, List.setIfInBounds_toArray, List.set_cons_zero, List.set_cons_succ, i64_w, i32_w]
                rfl
              have hsz : (strOfNums [97 + (j : Int)]).size = 1 := strOfNums_size _
              refine pure_ (i := 6) (N := some 66) (v := ?_) (a' := ?_) #[true, true, true, true, true, true, true, true, true, true, true, true, true, false, false, false, false] rfl rfl (any_of HT_.out (by kernel_rfl)) (fun _ _ _ h => h) (Or.inl ⟨by rfl, ?_⟩) ?_ ?_
              rotate_left
              · intro w'
                go_simp
                with_reducible rfl
              rotate_left
              · simp only [Act.put, List.setIfInBounds_toArray, List.set_cons_zero, List.set_cons_succ, i64_w, i32_w]
                rfl
              refine pure_ (i := 13) (N := some 73) (v := ?_) (a' := ?_) #[true, true, true, true, true, true, true, true, true, true, true, true, true, true, false, false, false] rfl rfl (any_of HT_.out (by kernel_rfl)) (fun _ _ _ h => h) (Or.inl ⟨by rfl, ?_⟩) ?_ ?_
              rotate_left
              · intro w'
                go_simp
                with_reducible rfl
              rotate_left
              · simp only [Act.put, List.setIfInBounds_toArray, List.set_cons_zero, List.set_cons_succ, i64_w, i32_w]
                rfl
              refine one_ (i := 14) (N := some 74) #[true, true, true, true, true, true, true, true, true, true, true, true, true, true, true, false, false] rfl rfl (one_of HT_.out (by kernel_rfl)) (by decide) (fun K hK => ?_)
              refine value_ (w1 := ?_) (v := ?_) (by rfl) rfl ?_ ?_
              rotate_left 2
              · go_simp
                constructor
                · rfl
                · rfl
              have n0_ := Aside0.mk (Kd.R_alloc HW.out (.cells #[.string ((⟨#[102]⟩ : ByteArray) ++ strOfNums [97 + (j : Int)]), .int .i64 (wh.getD j 0), .int .i64 (la.getD j 0)] 72))
              have n1_ := Aside0.mk (below_alloc HB.out (.cells #[.string ((⟨#[102]⟩ : ByteArray) ++ strOfNums [97 + (j : Int)]), .int .i64 (wh.getD j 0), .int .i64 (la.getD j 0)] 72))
              refine hK.out _ _ ⟨(n1_.out.cell (World.block_lt_of_cell? W2 _ cu)).trans cu, (n1_.out.cell (World.block_lt_of_cell? W2 _ cv)).trans cv⟩ (fun hHeld => ?_)
              clear hK K
              refine norm_ (a' := ?_) ?_ ?_
              rotate_left
              · show Act.put _ (some 74) _ = _
                simp only [Act.put, List.setIfInBounds_toArray, List.set_cons_zero, List.set_cons_succ, i64_w, i32_w]
                rfl
              refine one_ (i := 15) (N := some 75) #[true, true, true, true, true, true, true, true, true, true, true, true, true, true, true, true, false] rfl rfl (one_of HT_.out (by kernel_rfl)) (by decide) (fun K hK => ?_)
              refine Kd.R_append_step k72 (w0 := W2) W2.heap.size (by rfl) (.tmp 60) (.tmp 74) 26 72 (.agg #[(.string ⟨#[]⟩), (.int .i64 0), (.int .i64 0)]) 32 rfl Tryd.underlying26 info72 rfl (by decide) (by omega) (.slice Aw (drw_want la wh j).length cw) (drw_want la wh j) (⟨(⟨#[102]⟩ : ByteArray) ++ strOfNums [97 + (j : Int)], wh.getD j 0, la.getD j 0⟩ : S72) [.string ((⟨#[102]⟩ : ByteArray) ++ strOfNums [97 + (j : Int)]), .int .i64 (wh.getD j 0), .int .i64 (la.getD j 0)] (fun _ => True) (fun _ => False) rfl rfl ?aP (fun _ hk => hk.elim) ?aF ?aO ?aB ?aS ?aL ?_
              (case aP => exact k72_mkM _ _ _ (⟨(⟨#[102]⟩ : ByteArray) ++ strOfNums [97 + (j : Int)], wh.getD j 0, la.getD j 0⟩ : S72))
              (case aB => exact HB.out)
              (case aF => exact fun _ _ => trivial)
              (case aO => exact HW.out)
              (case aS => exact HB.out.size)
              (case aL => have := drw_want_len la wh j; omega)
              intro v9 w9 ho hb hg hat
              rw [show drw_want la wh j ++ [(⟨(⟨#[102]⟩ : ByteArray) ++ strOfNums [97 + (j : Int)], wh.getD j 0, la.getD j 0⟩ : S72)] = drw_want la wh (j + 1) from by rw [drw_want, if_pos HPOS.out]; rfl] at ho
              clear hg hat n0_ n1_ HW HB
              obtain ⟨A9, k9, e9⟩ := Kd.R_slice ho
              subst e9
              have HW := Aside0.mk ho
              have HB := Aside0.mk hb
              clear ho hb
              refine hK.out _ _ ⟨(HB.out.cell (World.block_lt_of_cell? W2 _ cu)).trans cu, (HB.out.cell (World.block_lt_of_cell? W2 _ cv)).trans cv⟩ (fun hHeld => ?_)
              clear hK K
              refine norm_ (a' := ?_) ?_ ?_
              rotate_left
              · show Act.put _ (some 75) _ = _
                simp only [Act.put, List.setIfInBounds_toArray, List.set_cons_zero, List.set_cons_succ, i64_w, i32_w]
                rfl
              refine pure_ (i := 16) (N := some 10) (v := ?_) (a' := ?_) #[true, true, true, true, true, true, true, true, true, true, true, true, true, true, true, true, true] rfl rfl (any_of HT_.out (by kernel_rfl)) (fun _ _ _ h => h) (Or.inl ⟨by rfl, ?_⟩) ?_ ?_
              rotate_left
              · intro w'
                go_simp
                with_reducible rfl
              rotate_left
              · simp only [Act.put, List.setIfInBounds_toArray, List.set_cons_zero, List.set_cons_succ, i64_w, i32_w]
                rfl
              refine done_ (done_of HT_.out (by kernel_rfl)) ?_
              clear cu cv hHeld hsz
              go_wp2
              go_roundg (16 - (j + 1))
              case measure => omega
              case rel => exact ⟨j + 1, A9, k9, hjt, Nat.le_refl _, rfl, rfl, HW, HB⟩
            · have HNP := Aside0.mk hpos
              clear cu cv
              go_wp2
              go_roundg (16 - (j + 1))
              case measure => omega
              case rel => exact ⟨j + 1, Aw, cw, hjt, Nat.le_refl _, rfl, by rw [drw_want, if_neg (Int.not_lt.2 HNP.out)], ⟨by rw [drw_want, if_neg (Int.not_lt.2 HNP.out)]; exact HW.out⟩, HB⟩
          · have hj16 : j = 16 := by omega
            subst hj16
            clear hjt hj hgg2
            obtain ⟨⟨q1, q2⟩, q3⟩ := HQ.out
            rw [← HI.out] at q3
            have Q1 := Aside0.mk q1; have Q2 := Aside0.mk q2; have Q3 := Aside0.mk q3
            clear q1 q2 q3
            have BKz : Aside0 (wr.heap[bx]? = some (drD t (.slice A l.length c))) := ⟨(HB.out.block _ (blk_lt BK.out)).trans BK.out⟩
            have HCz := Aside0.mk (Kd.C_below HC.out.1 HB.out)
            have E9 := Aside0.mk (below_then HE.out HE.out.size HB.out)
            obtain ⟨x0, x1⟩ := dr_cells BKz.out
            have cs := cruciblelaw0_SameFiles.calls k A c l Aw cw (drw_want la wh 16) true wr HCz.out HC.out.2 (Kd.R_reads' HW.out).2.2 (Kd.R_reads' HW.out).2.1 Q1.out
            go_wp2_with fail
            refine cs.mono ?_
            clear cs x0 x1
            rintro e w9 ⟨rfl, hd9⟩
            have N : Below wr.heap.size wr w9 := hd9.below
            have BKy : Aside0 (w9.heap[bx]? = some (drD t (.slice A l.length c))) := ⟨(N.block _ (blk_lt BKz.out)).trans BKz.out⟩
            have HCy := Aside0.mk (Kd.C_below HCz.out N)
            have E8 := Aside0.mk (below_then E9.out E9.out.size N)
            clear N hd9 BKz HCz E9 HB HW
            obtain ⟨x0, x1⟩ := dr_cells BKy.out
            have cm := disk_May.calls k t A c l true w9 HCy.out HC.out.2 Q2.out
            have q3 : t = (l0.length : Int) := by rw [← HLEN.out.1]; exact Q3.out
            have hmn := HLEN.out.2
            subst q3
            go_wp2_with fail
            refine cm.mono ?_
            clear cm x0 x1
            rintro e w8 ⟨rfl, N⟩
            go_wp2
            go_ret
            exact ⟨rfl, below_then E8.out E8.out.size N⟩
      · have h2 : (i : Int) < (l0.length : Int) := by omega
        have h3 : ¬ ((i : Int) < 40) := by omega
        have HLEN := Aside0.mk (show i = 40 ∧ (40 : Int) < (l0.length : Int) by omega)
        clear h1 hlen hm hi2
        have HC : Aside0 (Kd.C k72 wr A l.length l ∧ l.length ≤ c) := ⟨⟨(Kd.R_reads' HR.out).2.2, (Kd.R_reads' HR.out).2.1⟩⟩
        clear HR
        generalize wr = W2 at BK LA WH HC HE ⊢
        go_wp2
        go_loopg [10, 11] 16 (fun gg s10 s11 wz => ∃ (j : Nat) (Aw : Option Addr) (cw : Nat), j ≤ 16 ∧ 16 - j ≤ gg ∧ s11 = .int .i64 j ∧ s10 = .slice Aw (drw_want la wh j).length cw ∧ Aside0 (Kd.R k72 72 wz W2.heap.size (fun _ => True) (.slice Aw (drw_want la wh j).length cw) (drw_want la wh j)) ∧ Aside0 (Below W2.heap.size W2 wz))
        case atStart => exact ⟨0, none, 0, Nat.zero_le _, Nat.le_refl _, rfl, rfl, ⟨Kd.R_nil _ _ _ _ _⟩, ⟨Below.refl _ _⟩⟩
        case round =>
          obtain ⟨j, Aw, cw, hj, hgg2, rfl, rfl, HW, HB⟩ := hrel
          by_cases hjt : j < 16
          · have hjz : (j : Int) < 16 := by omega
            obtain ⟨hl1, hl2⟩ := HL.out
            have cu := drA_cell LA.out j (by omega)
            have cv := drA_cell WH.out j (by omega)
            have u0 := (HB.out.cell (World.block_lt_of_cell? W2 _ cu)).trans cu
            clear hl1 hl2
            by_cases hpos : 0 < la.getD j 0
            · have HPOS := Aside0.mk hpos
              have hp2 : 0 < la[j]?.getD 0 := by rw [← List.getD_eq_getElem?_getD]; exact hpos
              have CU := Aside0.mk cu
              have CV := Aside0.mk cv
              have HU8 : Aside0 (IntKind.u8.wrap (wrap64 (97 + (j : Int))) = 97 + (j : Int)) := ⟨drw_u8 j hjt⟩
              clear cu cv
              go_upto_region 21 with fail
              have cu := CU.out
              have cv := CV.out
              refine start_ (n := 17) (S := fun w' => w'.cell? ⟨bx + 1, j, none⟩ = some (.int .i64 (la.getD j 0)) ∧ w'.cell? ⟨bx + 1 + 1, j, none⟩ = some (.int .i64 (wh.getD j 0))) (ds := []) #[false, false, false, false, false, false, false, false, false, false, false, false, false, false, false, false, false] (by kernel_rfl) rfl rfl ⟨(HB.out.cell (World.block_lt_of_cell? W2 _ cu)).trans cu, (HB.out.cell (World.block_lt_of_cell? W2 _ cv)).trans cv⟩ (fun hHeld => ?_); refine with_tabW drw_tab21 drw_bits21 (fun HT_ HW_ => ?_)
              have n0_ := Aside0.mk (Kd.R_drew HW.out)
              have n1_ := Aside0.mk (below_drew1 HB.out)
              clear HW HB u0
              have HW := n0_
              have HB := n1_
              clear n0_ n1_
              generalize World.drew _ = wz at HW HB hHeld ⊢
              refine pure_ (i := 0) (N := some 60) (v := ?_) (a' := ?_) #[true, false, false, false, false, false, false, false, false, false, false, false, false, false, false, false, false] rfl rfl (any_of HT_.out (by kernel_rfl)) (fun _ _ _ h => h) (Or.inl ⟨by rfl, ?_⟩) ?_ ?_
              rotate_left
              · intro w'
                go_simp
                with_reducible rfl
              rotate_left
              · simp only [Act.put, List.setIfInBounds_toArray, List.set_cons_zero, List.set_cons_succ, i64_w, i32_w]
                rfl
              refine pure_ (i := 1) (N := some 61) (v := ?_) (a' := ?_) #[true, true, false, false, false, false, false, false, false, false, false, false, false, false, false, false, false] rfl rfl (any_of HT_.out (by kernel_rfl)) (fun _ _ _ h => h) (Or.inl ⟨by rfl, ?_⟩) ?_ ?_
              rotate_left
              · intro w'
                go_simp
                with_reducible rfl
              rotate_left
              · simp only [Act.put, List.setIfInBounds_toArray, List.set_cons_zero, List.set_cons_succ, i64_w, i32_w]
                rfl
              refine pure_ (i := 2) (N := some 62) (v := ?_) (a' := ?_) #[true, true, true, false, false, false, false, false, false, false, false, false, false, false, false, false, false] rfl rfl (any_of HT_.out (by kernel_rfl)) (fun _ _ _ h => h) (Or.inl ⟨by rfl, ?_⟩) ?_ ?_
              rotate_left
              · intro w'
                go_simp
                with_reducible rfl
              rotate_left
              · simp only [Act.put, List.setIfInBounds_toArray, List.set_cons_zero, List.set_cons_succ, i64_w, i32_w]
                rfl
              refine pure_ (i := 3) (N := some 63) (v := ?_) (a' := ?_) #[true, true, true, true, false, false, false, false, false, false, false, false, false, false, false, false, false] rfl rfl (any_of HT_.out (by kernel_rfl)) (fun _ _ _ h => h) (Or.inl ⟨by rfl, ?_⟩) ?_ ?_
              rotate_left
              · intro w'
                go_simp
                with_reducible rfl
              rotate_left
              · simp only [Act.put, List.setIfInBounds_toArray, List.set_cons_zero, List.set_cons_succ, i64_w, i32_w]
                rfl
              refine pure_ (i := 7) (N := some 67) (v := ?_) (a' := ?_) #[true, true, true, true, false, false, false, true, false, false, false, false, false, false, false, false, false] rfl rfl (any_of HT_.out (by kernel_rfl)) (fun _ _ _ h => h) (Or.inl ⟨by rfl, ?_⟩) ?_ ?_
              rotate_left
              · intro w'
                go_simp
                with_reducible rfl
              rotate_left
              · simp only [Act.put, List.setIfInBounds_toArray, List.set_cons_zero, List.set_cons_succ, i64_w, i32_w]
                rfl
              refine pure_ (i := 8) (N := some 68) (v := ?_) (a' := ?_) #[true, true, true, true, false, false, false, true, true, false, false, false, false, false, false, false, false] rfl rfl (any_of HT_.out (by kernel_rfl)) (fun _ _ _ h => h) (Or.inl ⟨by rfl, ?_⟩) ?_ ?_
              rotate_left
              · intro w'
                go_simp
                with_reducible rfl
              rotate_left
              · simp only [Act.put, List.setIfInBounds_toArray, List.set_cons_zero, List.set_cons_succ, i64_w, i32_w]
                rfl
              refine pure_ (i := 10) (N := some 70) (v := ?_) (a' := ?_) #[true, true, true, true, false, false, false, true, true, false, true, false, false, false, false, false, false] rfl rfl (any_of HT_.out (by kernel_rfl)) (fun _ _ _ h => h) (Or.inl ⟨by rfl, ?_⟩) ?_ ?_
              rotate_left
              · intro w'
                go_simp
                with_reducible rfl
              rotate_left
              · simp only [Act.put, List.setIfInBounds_toArray, List.set_cons_zero, List.set_cons_succ, i64_w, i32_w]
                rfl
              refine pure_ (i := 11) (N := some 71) (v := ?_) (a' := ?_) #[true, true, true, true, false, false, false, true, true, false, true, true, false, false, false, false, false] rfl rfl (any_of HT_.out (by kernel_rfl)) (fun _ _ _ h => h) (Or.inl ⟨by rfl, ?_⟩) ?_ ?_
              rotate_left
              · intro w'
                go_simp
                with_reducible rfl
              rotate_left
              · simp only [Act.put, List.setIfInBounds_toArray, List.set_cons_zero, List.set_cons_succ, i64_w, i32_w]
                rfl
              refine take_ (i := 9) (N := some 69) (v := ?_) (a' := ?_) #[true, true, true, true, false, false, false, true, true, true, true, true, false, false, false, false, false] rfl rfl (take_ofW HT_.out HW_.out (by kernel_rfl)) (fun _ _ _ h => h) (Or.inl ⟨by rfl, ?_⟩) hHeld ?_ ?_
              rotate_left
              · rintro w' ⟨s0, s1⟩
                go_simp
                with_reducible rfl
              rotate_left
              · simp only [Act.put, List.setIfInBounds_toArray, List.set_cons_zero, List.set_cons_succ, i64_w, i32_w]
                rfl
              refine take_ (i := 12) (N := some 72) (v := ?_) (a' := ?_) #[true, true, true, true, false, false, false, true, true, true, true, true, true, false, false, false, false] rfl rfl (take_ofW HT_.out HW_.out (by kernel_rfl)) (fun _ _ _ h => h) (Or.inl ⟨by rfl, ?_⟩) hHeld ?_ ?_
              rotate_left
              · rintro w' ⟨s0, s1⟩
                go_simp
                with_reducible rfl
              rotate_left
              · simp only [Act.put, List.setIfInBounds_toArray, List.set_cons_zero, List.set_cons_succ, i64_w, i32_w]
                rfl
              simp only [HU8.out]
              refine one_ (i := 4) (N := some 64) #[true, true, true, true, true, false, false, true, true, true, true, true, true, false, false, false, false] rfl rfl (one_of HT_.out (by kernel_rfl)) (by decide) (fun K hK => ?_)
              refine value_ (w1 := ?_) (v := ?_) (by rfl) rfl ?_ ?_
              rotate_left 2
              · go_simp
                constructor
                · rfl
                · rfl
              have n0_ := Aside0.mk (Kd.R_alloc HW.out (.cells #[.int .u8 (97 + (j : Int))] 5))
              have n1_ := Aside0.mk (below_alloc HB.out (.cells #[.int .u8 (97 + (j : Int))] 5))
              have hby := drw_byte wz (97 + (j : Int))
              generalize wz.heap.size = gz at hby ⊢
              generalize wz.alloc (.cells #[.int .u8 (97 + (j : Int))] 5) = wy at n0_ n1_ hby ⊢
              have HW := n0_
              have HB := n1_
              clear n0_ n1_
              refine hK.out _ _ ⟨(HB.out.cell (World.block_lt_of_cell? W2 _ cu)).trans cu, (HB.out.cell (World.block_lt_of_cell? W2 _ cv)).trans cv⟩ (fun hHeld => ?_)
              clear hK K
              refine norm_ (a' := ?_) ?_ ?_
              rotate_left
              · show Act.put _ (some 64) _ = _
                simp only [Act.put, List.setIfInBounds_toArray, List.set_cons_zero, List.set_cons_succ, i64_w, i32_w]
                rfl
              refine one_ (i := 5) (N := some 65) #[true, true, true, true, true, true, false, true, true, true, true, true, true, false, false, false, false] rfl rfl (one_of HT_.out (by kernel_rfl)) (by decide) (fun K hK => ?_)
              refine value_ (w1 := ?_) (v := ?_) (by rfl) rfl ?_ ?_
              rotate_left 2
              · go_simp
                constructor
                · rfl
                · rfl
              clear hby
              refine hK.out _ _ ⟨(HB.out.cell (World.block_lt_of_cell? W2 _ cu)).trans cu, (HB.out.cell (World.block_lt_of_cell? W2 _ cv)).trans cv⟩ (fun hHeld => ?_)
              clear hK K
              refine norm_ (a' := ?_) ?_ ?_
              rotate_left
              · show Act.put _ (some 65) _ = _
                simp only [Act.put, List.setIfInBounds_toArray, List.set_cons_zero, List.set_cons_succ, i64_w, i32_w]
                rfl
              have hsz : (strOfNums [97 + (j : Int)]).size = 1 := strOfNums_size _
              refine pure_ (i := 6) (N := some 66) (v := ?_) (a' := ?_) #[true, true, true, true, true, true, true, true, true, true, true, true, true, false, false, false, false] rfl rfl (any_of HT_.out (by kernel_rfl)) (fun _ _ _ h => h) (Or.inl ⟨by rfl, ?_⟩) ?_ ?_
              rotate_left
              · intro w'
                go_simp
                with_reducible rfl
              rotate_left
              · simp only [Act.put, List.setIfInBounds_toArray, List.set_cons_zero, List.set_cons_succ, i64_w, i32_w]
                rfl
              refine pure_ (i := 13) (N := some 73) (v := ?_) (a' := ?_) #[true, true, true, true, true, true, true, true, true, true, true, true, true, true, false, false, false] rfl rfl (any_of HT_.out (by kernel_rfl)) (fun _ _ _ h => h) (Or.inl ⟨by rfl, ?_⟩) ?_ ?_
              rotate_left
              · intro w'
                go_simp
                with_reducible rfl
              rotate_left
              · simp only [Act.put, List.setIfInBounds_toArray, List.set_cons_zero, List.set_cons_succ, i64_w, i32_w]
                rfl
              refine one_ (i := 14) (N := some 74) #[true, true, true, true, true, true, true, true, true, true, true, true, true, true, true, false, false] rfl rfl (one_of HT_.out (by kernel_rfl)) (by decide) (fun K hK => ?_)
              refine value_ (w1 := ?_) (v := ?_) (by rfl) rfl ?_ ?_
              rotate_left 2
              · go_simp
                constructor
                · rfl
                · rfl
              have n0_ := Aside0.mk (Kd.R_alloc HW.out (.cells #[.string ((⟨#[102]⟩ : ByteArray) ++ strOfNums [97 + (j : Int)]), .int .i64 (wh.getD j 0), .int .i64 (la.getD j 0)] 72))
              have n1_ := Aside0.mk (below_alloc HB.out (.cells #[.string ((⟨#[102]⟩ : ByteArray) ++ strOfNums [97 + (j : Int)]), .int .i64 (wh.getD j 0), .int .i64 (la.getD j 0)] 72))
              refine hK.out _ _ ⟨(n1_.out.cell (World.block_lt_of_cell? W2 _ cu)).trans cu, (n1_.out.cell (World.block_lt_of_cell? W2 _ cv)).trans cv⟩ (fun hHeld => ?_)
              clear hK K
              refine norm_ (a' := ?_) ?_ ?_
              rotate_left
              · show Act.put _ (some 74) _ = _
                simp only [Act.put, List.setIfInBounds_toArray, List.set_cons_zero, List.set_cons_succ, i64_w, i32_w]
                rfl
              refine one_ (i := 15) (N := some 75) #[true, true, true, true, true, true, true, true, true, true, true, true, true, true, true, true, false] rfl rfl (one_of HT_.out (by kernel_rfl)) (by decide) (fun K hK => ?_)
              refine Kd.R_append_step k72 (w0 := W2) W2.heap.size (by rfl) (.tmp 60) (.tmp 74) 26 72 (.agg #[(.string ⟨#[]⟩), (.int .i64 0), (.int .i64 0)]) 32 rfl Tryd.underlying26 info72 rfl (by decide) (by omega) (.slice Aw (drw_want la wh j).length cw) (drw_want la wh j) (⟨(⟨#[102]⟩ : ByteArray) ++ strOfNums [97 + (j : Int)], wh.getD j 0, la.getD j 0⟩ : S72) [.string ((⟨#[102]⟩ : ByteArray) ++ strOfNums [97 + (j : Int)]), .int .i64 (wh.getD j 0), .int .i64 (la.getD j 0)] (fun _ => True) (fun _ => False) rfl rfl ?aP (fun _ hk => hk.elim) ?aF ?aO ?aB ?aS ?aL ?_
              (case aP => exact k72_mkM _ _ _ (⟨(⟨#[102]⟩ : ByteArray) ++ strOfNums [97 + (j : Int)], wh.getD j 0, la.getD j 0⟩ : S72))
              (case aB => exact HB.out)
              (case aF => exact fun _ _ => trivial)
              (case aO => exact HW.out)
              (case aS => exact HB.out.size)
              (case aL => have := drw_want_len la wh j; omega)
              intro v9 w9 ho hb hg hat
              rw [show drw_want la wh j ++ [(⟨(⟨#[102]⟩ : ByteArray) ++ strOfNums [97 + (j : Int)], wh.getD j 0, la.getD j 0⟩ : S72)] = drw_want la wh (j + 1) from by rw [drw_want, if_pos HPOS.out]; rfl] at ho
              clear hg hat n0_ n1_ HW HB
              obtain ⟨A9, k9, e9⟩ := Kd.R_slice ho
              subst e9
              have HW := Aside0.mk ho
              have HB := Aside0.mk hb
              clear ho hb
              refine hK.out _ _ ⟨(HB.out.cell (World.block_lt_of_cell? W2 _ cu)).trans cu, (HB.out.cell (World.block_lt_of_cell? W2 _ cv)).trans cv⟩ (fun hHeld => ?_)
              clear hK K
              refine norm_ (a' := ?_) ?_ ?_
              rotate_left
              · show Act.put _ (some 75) _ = _
                simp only [Act.put, List.setIfInBounds_toArray, List.set_cons_zero, List.set_cons_succ, i64_w, i32_w]
                rfl
              refine pure_ (i := 16) (N := some 10) (v := ?_) (a' := ?_) #[true, true, true, true, true, true, true, true, true, true, true, true, true, true, true, true, true] rfl rfl (any_of HT_.out (by kernel_rfl)) (fun _ _ _ h => h) (Or.inl ⟨by rfl, ?_⟩) ?_ ?_
              rotate_left
              · intro w'
                go_simp
                with_reducible rfl
              rotate_left
              · simp only [Act.put, List.setIfInBounds_toArray, List.set_cons_zero, List.set_cons_succ, i64_w, i32_w]
                rfl
              refine done_ (done_of HT_.out (by kernel_rfl)) ?_
              clear cu cv hHeld hsz
              go_wp2
              go_roundg (16 - (j + 1))
              case measure => omega
              case rel => exact ⟨j + 1, A9, k9, hjt, Nat.le_refl _, rfl, rfl, HW, HB⟩
            · have HNP := Aside0.mk hpos
              clear cu cv
              go_wp2
              go_roundg (16 - (j + 1))
              case measure => omega
              case rel => exact ⟨j + 1, Aw, cw, hjt, Nat.le_refl _, rfl, by rw [drw_want, if_neg (Int.not_lt.2 HNP.out)], ⟨by rw [drw_want, if_neg (Int.not_lt.2 HNP.out)]; exact HW.out⟩, HB⟩
          · have hj16 : j = 16 := by omega
            subst hj16
            clear hjt hj hgg2
            obtain ⟨⟨q1, q2⟩, q3⟩ := HQ.out
            rw [← HI.out] at q3
            have Q1 := Aside0.mk q1; have Q2 := Aside0.mk q2; have Q3 := Aside0.mk q3
            clear q1 q2 q3
            have BKz : Aside0 (wr.heap[bx]? = some (drD t (.slice A l.length c))) := ⟨(HB.out.block _ (blk_lt BK.out)).trans BK.out⟩
            have HCz := Aside0.mk (Kd.C_below HC.out.1 HB.out)
            have E9 := Aside0.mk (below_then HE.out HE.out.size HB.out)
            obtain ⟨x0, x1⟩ := dr_cells BKz.out
            have cs := cruciblelaw0_SameFiles.calls k A c l Aw cw (drw_want la wh 16) true wr HCz.out HC.out.2 (Kd.R_reads' HW.out).2.2 (Kd.R_reads' HW.out).2.1 Q1.out
            go_wp2_with fail
            refine cs.mono ?_
            clear cs x0 x1
            rintro e w9 ⟨rfl, hd9⟩
            have N : Below wr.heap.size wr w9 := hd9.below
            have BKy : Aside0 (w9.heap[bx]? = some (drD t (.slice A l.length c))) := ⟨(N.block _ (blk_lt BKz.out)).trans BKz.out⟩
            have HCy := Aside0.mk (Kd.C_below HCz.out N)
            have E8 := Aside0.mk (below_then E9.out E9.out.size N)
            clear N hd9 BKz HCz E9 HB HW
            obtain ⟨x0, x1⟩ := dr_cells BKy.out
            have cm := disk_May.calls k t A c l true w9 HCy.out HC.out.2 Q2.out
            have q3 : t = 40 := by rw [Q3.out, HLEN.out.1]; rfl
            have hmn := HLEN.out.2
            subst q3
            go_wp2_with fail
            refine cm.mono ?_
            clear cm x0 x1
            rintro e w8 ⟨rfl, N⟩
            go_wp2
            go_ret
            exact ⟨rfl, below_then E8.out E8.out.size N⟩

end Go.Proofs.YtilnamobmjngbaaDoor.P
