-- Made by a program of this work's own (wip/myprint.py) over the kit's print; leaves by hand.
import Derived.Test.YtdaddlplpkmkmaaDoorP0
import Derived.Test.YtdaddlplpkmkmaaDoorP5
import Derived.Test.YtdaddlplpkmkmaaDoorP11
import Derived.Shelf.Strconv.AtoiAll
import Derived.Shelf.Strings.Prefix
import Derived.Test.YtdaddlplpkmkmaaDoorMg1
import Derived.Test.YtdaddlplpkmkmaaDoorShelf
import Derived.Test.YtdaddlplpkmkmaaDoorTb
namespace Go.Proofs.YtdaddlplpkmkmaaDoor.P
open Go.RowKit Go.Proofs.YtdaddlplpkmkmaaDoorW.PrintWords Go.Proofs.YtdaddlplpkmkmaaDoorW.PrintLast Go.Proofs.YtdaddlplpkmkmaaDoorW.PrintMore
attribute [local go_sem] max2_int min2_int max_two min_two max_three min_three max_four min_four   -- for this text's walks alone
set_option linter.unusedVariables false
set_option linter.unusedSimpArgs false

-- HAND LoglineGet.lean
-- IMPORT Derived.Test.YtdaddlplpkmkmaaDoorLine
-- IMPORT Derived.Test.YtdaddlplpkmkmaaDoorTb
-- IMPORT Derived.Test.YtdaddlplpkmkmaaDoorShelf
-- IMPORT Derived.Shelf.Strings.Prefix
-- IMPORT Derived.Shelf.Strconv.AtoiAll
/-! ### logline_Get, by hand -/
def logline_back (a0 o : ByteArray) (t : Int) (g : ByteArray) (p : ByteArray × Int) : ByteArray × Int × ByteArray × Int :=
  if p.2 = 0 then (if p.1.toList = a0.toList then (o, t, g, 0) else ((⟨#[]⟩ : ByteArray), 0, (⟨#[]⟩ : ByteArray), 1300)) else ((⟨#[]⟩ : ByteArray), 0, (⟨#[]⟩ : ByteArray), 1300)
def logline_Get.f (k : Nat) (a0 : ByteArray) : Option (ByteArray × Int × ByteArray × Int) :=
  if a0.size < 4294967281 then (logline_Put.f k (Spec.str (Spec.pO a0.data.toList)) (Spec.pT a0.data.toList) (Spec.str (Spec.pG a0.data.toList))).bind fun p => some (logline_back a0 (Spec.str (Spec.pO a0.data.toList)) (Spec.pT a0.data.toList) (Spec.str (Spec.pG a0.data.toList)) p) else none
theorem logline_Get.mono : ∀ a0 k, LeO (logline_Get.f k a0) (logline_Get.f (k + 1) a0) := by
  intro a0 k
  unfold logline_Get.f
  exact LeO.ite (LeO.bind (logline_Put.mono _ _ _ _) (fun _ => LeO.refl _)) (LeO.none _)
theorem bytes_world_below (w : World) (t : Nat) (s : ByteArray) : Below w.heap.size w (Lib.bytesWorld w t s) := Lib.bytesWorld_below _ _ _
theorem atoi_calls (s : ByteArray) (hs : s.size ≤ 281474976710656) (w : World) (hT : Tb w) :
    Calls Tryd.prog 30 #[.string s] w fun e w' => ∃ v, e = .returned (.tuple #[.int .i64 (Spec.atoiV s.data.toList), v]) ∧ Below w.heap.size w w' := by
  obtain ⟨tp, p, hsyn⟩ := hT.syn
  obtain ⟨tp', p', hrng⟩ := hT.rng
  unfold Spec.atoiV
  cases h : Lib.atoiAll s.data.toList
  · rename_i v
    refine (Tryd.strconv_Atoi_ok s (by omega) v h w).mono fun e w' ⟨he, hw⟩ => ⟨_, he, ?_⟩
    rcases hw with rfl | ⟨t, rfl⟩
    · exact Below.refl _ _
    · exact bytes_world_below _ _ _
  · exact (Any.strconv_Atoi_syntax Tryd.laysC172 s hs h _ w hsyn (.inr ⟨_, _, rfl⟩)).mono fun e w' ⟨N, he, _, _, hb⟩ => ⟨_, he, hb⟩
  · exact (Tryd.strconv_Atoi_range s hs h _ w hrng (.inr ⟨_, _, rfl⟩)).mono fun e w' ⟨N, he, _, _, hb⟩ => ⟨_, he, hb⟩
theorem cut_tab (s : ByteArray) (hs : s.size < 4294967281) : strings_Cut.f s ⟨#[9]⟩ = some (Spec.str (Spec.cutAt 9 s.data.toList).1, Spec.str (Spec.cutAt 9 s.data.toList).2, (Lib.cut s.data.toList [9]).2.2) := by
  unfold strings_Cut.f
  simp only []
  rw [if_pos hs]
theorem rec_put {W : World} {b : Nat} {t : TypeId} {c0 c1 c2 : Value} (h : W.heap[b]? = some (.cells #[c0, c1, c2] t (0, 0))) (u0 u1 u2 : Value) : (((W.setCell ⟨b, 0, none⟩ u0).setCell ⟨b, 1, none⟩ u1).setCell ⟨b, 2, none⟩ u2).heap[b]? = some (.cells #[u0, u1, u2] t (0, 0)) := blk_put (blk_put (blk_put h 0 u0 rfl) 1 u1 rfl) 2 u2 rfl
theorem below_rec {w W : World} {b : Nat} (h : Below w.heap.size w W) (hb : w.heap.size ≤ b) (u0 u1 u2 : Value) : Below w.heap.size w (((W.setCell ⟨b, 0, none⟩ u0).setCell ⟨b, 1, none⟩ u1).setCell ⟨b, 2, none⟩ u2) := below_set (below_set (below_set h hb) hb) hb
set_option maxHeartbeats 4000000 in
set_option maxRecDepth 100000 in
theorem logline_Get.calls (k : Nat) (a0 : ByteArray) (r1 : ByteArray) (r2 : Int) (r3 : ByteArray) (r4 : Int) (w : World) (h : logline_Get.f k a0 = some (r1, r2, r3, r4)) (hT : Tb w) :
    Calls Tryd.prog 14 #[.string a0] w fun e w' => e = .returned (.tuple #[.agg #[.string r1, .int .i64 r2, .string r3], .int .i64 r4]) ∧ Below w.heap.size w w' := by
  unfold logline_Get.f at h
  split at h
  case isFalse => cases h
  rename_i hs
  obtain ⟨⟨p1, p2⟩, hP, hr⟩ := Option.bind_eq_some_iff.1 h
  have hr := Option.some.inj hr
  have hl := Spec.cutAt_len 9 a0.data.toList
  rw [Spec.size_data] at hl
  obtain ⟨o, ho⟩ : ∃ o, Spec.str (Spec.cutAt 9 a0.data.toList).1 = o := ⟨_, rfl⟩
  obtain ⟨q, hq⟩ : ∃ q, Spec.str (Spec.cutAt 9 a0.data.toList).2 = q := ⟨_, rfl⟩
  have hqs : q.size ≤ a0.size := by rw [← hq, Spec.str_size]; omega
  have hqd : q.data.toList = (Spec.cutAt 9 a0.data.toList).2 := by rw [← hq, Spec.str_data]
  have hl2 := Spec.cutAt_len 9 q.data.toList
  rw [Spec.size_data] at hl2
  obtain ⟨d, hd⟩ : ∃ d, Spec.str (Spec.cutAt 9 q.data.toList).1 = d := ⟨_, rfl⟩
  obtain ⟨g0, hg0⟩ : ∃ g0, Spec.str (Spec.cutAt 9 q.data.toList).2 = g0 := ⟨_, rfl⟩
  have hds : d.size ≤ a0.size := by rw [← hd, Spec.str_size]; omega
  have hgs : g0.size ≤ a0.size := by rw [← hg0, Spec.str_size]; omega
  have hdd : d.data.toList = (Spec.cutAt 9 q.data.toList).1 := by rw [← hd, Spec.str_data]
  have hgd : g0.data.toList = (Spec.cutAt 9 q.data.toList).2 := by rw [← hg0, Spec.str_data]
  obtain ⟨b1, hb1⟩ : ∃ b1, (Lib.cut a0.data.toList [9]).2.2 = b1 := ⟨_, rfl⟩
  obtain ⟨b2, hb2⟩ : ∃ b2, (Lib.cut q.data.toList [9]).2.2 = b2 := ⟨_, rfl⟩
  have hC1 := cut_tab a0 hs
  have hC2 := cut_tab q (by omega)
  rw [ho, hq, hb1] at hC1
  rw [hd, hg0, hb2] at hC2
  obtain ⟨t, ht⟩ : ∃ t, Spec.atoiV d.data.toList = t := ⟨_, rfl⟩
  obtain ⟨g, hg⟩ : ∃ g, Spec.str (Lib.trimSuffix g0.data.toList [10]) = g := ⟨_, rfl⟩
  have e1 : Spec.str (Spec.pO a0.data.toList) = o := ho
  have e2 : Spec.pT a0.data.toList = t := by rw [← ht, hdd, hqd]; rfl
  have e3 : Spec.str (Spec.pG a0.data.toList) = g := by rw [← hg, hgd, hqd]; rfl
  rw [e1, e2, e3] at hP hr
  have cA : ∀ W, Tb W → Calls Tryd.prog 30 #[.string d] W fun e w' => ∃ v, e = .returned (.tuple #[.int .i64 t, v]) ∧ Below W.heap.size W w' := fun W hW => by
    have := atoi_calls d (by omega) W hW
    rwa [ht] at this
  have cS : ∀ W, Calls Tryd.prog 31 #[.string g0, .string ⟨#[10]⟩] W fun e w' => e = .returned (.string g) ∧ w' = W := fun W => by
    have := Tryd.strings_TrimSuffix g0 ⟨#[10]⟩ W (by omega)
    rw [← hg]; exact this
  have fin : ∀ (b1 b2 : Bool), (p2 != 0) = b1 → (p1.toList != a0.toList) = b2 → (r1, r2, r3, r4) = (if (b1 || b2) = true then ((⟨#[]⟩ : ByteArray), 0, (⟨#[]⟩ : ByteArray), 1300) else (o, t, g, 0)) := by
    rintro b1 b2 rfl rfl
    rw [← hr, logline_back]
    by_cases e2 : p2 = 0 <;> by_cases e1 : p1.toList = a0.toList <;> simp [e1, e2]
  obtain ⟨c1, hc1⟩ : ∃ b1, (p2 != 0) = b1 := ⟨_, rfl⟩
  obtain ⟨c2, hc2⟩ : ∃ b2, (p1.toList != a0.toList) = b2 := ⟨_, rfl⟩
  have hf := fin c1 c2 hc1 hc2
  have hc3 : (p1.toList == a0.toList) = !c2 := by rw [← hc2]; simp [bne]
  have hc4 : (p2 == 0) = !c1 := by rw [← hc1]; simp [bne]
  have HC1 := Aside0.mk hC1
  have HC2 := Aside0.mk hC2
  have HP := Aside0.mk hP
  have HA := Aside0.mk cA
  have HS := Aside0.mk cS
  have HT := Aside0.mk hT
  clear fin hr h hs hl ho hq hqs hqd hl2 hd hg0 hds hgs hdd hgd hb1 hb2 hC1 hC2 ht hg e1 e2 e3 hP cA cS hT
  obtain ⟨w1, hw1⟩ : ∃ w1, w.alloc (.cells #[.string (⟨#[]⟩ : ByteArray), .int .i64 0, .string (⟨#[]⟩ : ByteArray)] 23) = w1 := ⟨_, rfl⟩
  have B1 : Below w.heap.size w w1 := by rw [← hw1]; exact below_alloc (Below.refl _ _) _
  have X1 : w1.heap[w.heap.size]? = some (.cells #[.string (⟨#[]⟩ : ByteArray), .int .i64 0, .string (⟨#[]⟩ : ByteArray)] 23 (0, 0)) := by rw [← hw1]; exact heap_alloc_new w _
  have HW1 := Aside0.mk hw1
  have HB1 := Aside0.mk B1
  have HX1 := Aside0.mk X1
  clear B1 X1 hw1
  go_enter Tryd.func14, Tryd.ntmps14
  go_wp2_with fail
  rw [HW1.out]
  refine (strings_Cut.calls _ _ _ _ _ _ HC1.out (HT.out.below HB1.out)).mono ?_
  rintro e w2 ⟨rfl, hB⟩
  have HB2 := Aside0.mk (below_then HB1.out HB1.out.size hB)
  have HX2 := Aside0.mk ((hB.block _ (blk_lt HX1.out)).trans HX1.out)
  clear hB HB1 HX1
  go_wp2_with fail
  refine (strings_Cut.calls _ _ _ _ _ _ HC2.out (HT.out.below HB2.out)).mono ?_
  rintro e w3 ⟨rfl, hB⟩
  have HB3 := Aside0.mk (below_then HB2.out HB2.out.size hB)
  have HX3 := Aside0.mk ((hB.block _ (blk_lt HX2.out)).trans HX2.out)
  clear hB HB2 HX2
  go_wp2_with fail
  refine (HA.out _ (HT.out.below HB3.out)).mono ?_
  rintro e w4 ⟨v, rfl, hB⟩
  have HB4 := Aside0.mk (below_then HB3.out HB3.out.size hB)
  have HX4 := Aside0.mk ((hB.block _ (blk_lt HX3.out)).trans HX3.out)
  clear hB HB3 HX3
  go_wp2_with fail
  refine (HS.out _).mono ?_
  rintro e w5 ⟨rfl, hw5⟩
  subst hw5
  go_wp2_with ((with_reducible refine gate_dst (N := 11) rfl ?_); refine box_event ?hg (N := 11) ?hd (cs := #[.string (⟨#[]⟩ : ByteArray), .int .i64 0, .string (⟨#[]⟩ : ByteArray)]) (t := 23) ?hr ?_; (case hd => rfl); (case hg => rfl); (case hr => first | (go_simp; done) | (go_simp; rfl)); intro gf hgf wf hbox hBf; have k0 := blk_cell hbox 0; have k1 := blk_cell hbox 1; have k2 := blk_cell hbox 2; have z0 := blk_frozen hbox 0; have z1 := blk_frozen hbox 1; have z2 := blk_frozen hbox 2; have HBY := Aside0.mk hbox; have HB5 := Aside0.mk (below_then HB4.out HB4.out.size hBf); have HGF := Aside0.mk (show w5.heap.size ≤ gf by rw [hgf]; exact Nat.le_refl _); have HX5 := Aside0.mk ((hBf.block _ (blk_lt HX4.out)).trans HX4.out); clear hbox hgf hBf)
  have HG2 := Aside0.mk (Nat.le_trans HB4.out.size HGF.out)
  have hne : gf ≠ w.heap.size := by have := blk_lt HX4.out; have := HGF.out; omega
  have s2 := blk_set (blk_set (blk_set HBY.out 0 (.string o)) 1 (.int .i64 t)) 2 (.string g)
  have X6 := blk_far (p := ⟨gf, 2, none⟩) (blk_far (p := ⟨gf, 1, none⟩) (blk_far (p := ⟨gf, 0, none⟩) HX5.out (by simpa using Ne.symm hne) (.string o)) (by simpa using Ne.symm hne) (.int .i64 t)) (by simpa using Ne.symm hne) (.string g)
  have B6 := below_set (j := 2) (v := .string g) (below_set (j := 1) (v := .int .i64 t) (below_set (j := 0) (v := .string o) HB5.out HG2.out) HG2.out) HG2.out
  clear k0 k1 k2 z0 z1 z2
  refine (logline_Put.calls k o t g p1 p2 _ HP.out (HT.out.below B6)).mono ?_
  rintro e w6 ⟨rfl, hB⟩
  have HB6 := Aside0.mk (below_then B6 B6.size hB)
  have Y6 := (hB.block _ (blk_lt s2)).trans s2
  have X7 := (hB.block _ (blk_lt X6)).trans X6
  simp only [List.setIfInBounds_toArray, List.set_cons_zero, List.set_cons_succ] at Y6
  have k0 := blk_cell Y6 0
  have k1 := blk_cell Y6 1
  have k2 := blk_cell Y6 2
  have x0 := blk_cell X7 0
  have x1 := blk_cell X7 1
  have x2 := blk_cell X7 2
  have z0 := blk_frozen X7 0
  have z1 := blk_frozen X7 1
  have z2 := blk_frozen X7 2
  have HY := Aside0.mk Y6
  have HX := Aside0.mk X7
  clear hB Y6 X7 s2 X6 B6
  cases c1 <;> cases c2
  all_goals
    simp only [Bool.not_true, Bool.not_false] at hc3 hc4
    simp only [Bool.or_self, Bool.or_true, Bool.true_or, Bool.or_false, Bool.false_or, Bool.false_eq_true, if_true, if_false, Prod.mk.injEq] at hf
    obtain ⟨rfl, rfl, rfl, rfl⟩ := hf
    go_wp2
  all_goals refine bodyPost_ret (results_ct rfl _ _ w.heap.size 23 _ (0, 0) _ rfl (rec_put HX.out _ _ _) Tryd.underlying23 rfl (by kernel_rfl)) rfl ?_
  all_goals exact ⟨rfl, below_rec HB6.out (Nat.le_refl _) _ _ _⟩

end Go.Proofs.YtdaddlplpkmkmaaDoor.P
