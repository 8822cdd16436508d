-- Made by a program of this work's own (wip/myprint.py) over the kit's print; leaves by hand.
import Derived.Test.YtdaddlplpkmkmaaGreatDoorP0
import Derived.Test.YtdaddlplpkmkmaaGreatDoorWRepsOne
import Derived.Test.YtdaddlplpkmkmaaGreatDoorP6
import Derived.Test.YtdaddlplpkmkmaaGreatDoorP12
import Derived.Test.YtdaddlplpkmkmaaGreatDoorP14
import Derived.Shelf.Strconv.AtoiAll
import Derived.Shelf.Strings.Cut
import Derived.Shelf.Strings.Prefix
import Derived.Test.YtdaddlplpkmkmaaGreatDoorMg1
import Derived.Test.YtdaddlplpkmkmaaGreatDoorShelf
import Derived.Test.YtdaddlplpkmkmaaGreatDoorTb
namespace Go.Proofs.YtdaddlplpkmkmaaGreatDoor.P
open Go.RowKit Go.Proofs.YtdaddlplpkmkmaaGreatDoorW.PrintWords Go.Proofs.YtdaddlplpkmkmaaGreatDoorW.PrintLast Go.Proofs.YtdaddlplpkmkmaaGreatDoorW.PrintMore
attribute [local go_sem] max2_int min2_int max_two min_two max_three min_three max_four min_four   -- for this text's walks alone
set_option linter.unusedVariables false
set_option linter.unusedSimpArgs false

/-! ### crucibleref12_LogText: function 8 -/
def crucibleref12_LogText.l0 : Nat → List (S31) → ByteArray → Int → Option (ByteArray × Int)
  | 0, _, _, _ => none
  | k + 1, x0, x4, x5 => if x5 < (x0.length : Int) then (if 0 ≤ x5 then ((crucibleref12_PutLine.f k ((rd_T31 x0 x5).f0) ((rd_T31 x0 x5).f1) ((rd_T31 x0 x5).f2)).bind fun bt175 => (if x4.size + bt175.1.size ≤ 9223372036854775807 then (crucibleref12_LogText.l0 k x0 (x4 ++ bt175.1) (wrap64 (x5 + 1))) else (none))) else (none)) else (some (x4, 0))
def crucibleref12_LogText.f (k : Nat) (l0 : List (S31)) : Option (ByteArray × Int) := (crucibleref12_LogMay.f k l0).bind fun t173 => (if t173 = true then (crucibleref12_LogText.l0 k l0 (⟨#[]⟩ : ByteArray) 0) else (some ((⟨#[]⟩ : ByteArray), 1400)))
set_option maxRecDepth 100000 in
theorem crucibleref12_LogText.mono_l : ∀ k, (∀ y0 y1 y2, LeO (crucibleref12_LogText.l0 k y0 y1 y2) (crucibleref12_LogText.l0 (k + 1) y0 y1 y2))
  | 0 => fun _ _ _ r h => by simp [crucibleref12_LogText.l0] at h
  | k + 1 => by
    have ih0 := crucibleref12_LogText.mono_l k
    · intro y0 y1 y2
      unfold crucibleref12_LogText.l0
      repeat' first
      | (with_reducible exact ih0 _ _ _)
      | (with_reducible exact crucibleref12_LogMay.mono _ _)
      | (with_reducible exact crucibleref12_PutLine.mono _ _ _ _)
      | (with_reducible exact LeO.refl _)
      | (with_reducible exact LeO.none _)
      | (with_reducible refine LeO.ite ?_ ?_)
      | (with_reducible refine LeO.bind ?_ (fun _ => ?_))
      | exact ih0 _ _ _
      | exact crucibleref12_LogMay.mono _ _
      | exact crucibleref12_PutLine.mono _ _ _ _
      | exact LeO.none _
      | refine LeO.ite ?_ ?_
      | refine LeO.bind ?_ (fun _ => ?_)
theorem crucibleref12_LogText.mono : ∀ a0 k, LeO (crucibleref12_LogText.f k a0) (crucibleref12_LogText.f (k + 1) a0) := by
  intro a0 k
  have ih0 := crucibleref12_LogText.mono_l k
  unfold crucibleref12_LogText.f
  repeat' first
      | (with_reducible exact ih0 _ _ _)
      | (with_reducible exact crucibleref12_LogMay.mono _ _)
      | (with_reducible exact crucibleref12_PutLine.mono _ _ _ _)
      | (with_reducible exact LeO.refl _)
      | (with_reducible exact LeO.none _)
      | (with_reducible refine LeO.ite ?_ ?_)
      | (with_reducible refine LeO.bind ?_ (fun _ => ?_))
      | exact ih0 _ _ _
      | exact crucibleref12_LogMay.mono _ _
      | exact crucibleref12_PutLine.mono _ _ _ _
      | exact LeO.none _
      | refine LeO.ite ?_ ?_
      | refine LeO.bind ?_ (fun _ => ?_)
set_option maxHeartbeats 8000000 in
set_option maxRecDepth 100000 in
theorem crucibleref12_LogText.calls (k : Nat) (A0 : Option Addr) (c0 : Nat) (l0 : List (S31)) (r1 : ByteArray) (r2 : Int) (w : World) (hr0 : Kd.C k31 w A0 l0.length l0) (hc0 : l0.length ≤ c0) (h : crucibleref12_LogText.f k l0 = some (r1, r2)) :
    Calls Tryz.prog 8 #[.slice A0 l0.length c0] w fun e w' => e = .returned (.tuple #[.string r1, .int .i64 r2]) ∧ Below w.heap.size w w' := by
  have hu31 := Tryz.underlying31
  have HR0 := Aside0.mk hr0
  have HC0 := Aside0.mk hc0
  clear hr0 hc0
  have HB := Aside0.mk (Below.refl w.heap.size w)
  have H : ((crucibleref12_LogMay.f k l0).bind fun t173 => (if t173 = true then (crucibleref12_LogText.l0 k l0 (⟨#[]⟩ : ByteArray) 0) else (some ((⟨#[]⟩ : ByteArray), 1400)))) = some (r1, r2) := h
  clear h
  replace H := Option.bind_eq_some_iff.mp H
  obtain ⟨t173, A20, H⟩ := H
  replace H : (if t173 = true then (crucibleref12_LogText.l0 k l0 (⟨#[]⟩ : ByteArray) 0) else (some ((⟨#[]⟩ : ByteArray), 1400))) = some (r1, r2) := H
  have A2 := Aside0.mk A20
  clear A20
  by_cases c3 : t173 = true
  · subst c3
    have H1 : (crucibleref12_LogText.l0 k l0 (⟨#[]⟩ : ByteArray) 0) = some (r1, r2) := by rw [if_pos rfl] at H; exact H
    clear H
    have H := H1
    clear H1
    have H' := Aside0.mk H
    clear H
    go_enter Tryz.func8, Tryz.ntmps8
    go_wp2_with (first | ((with_reducible refine gate_callee (f := 18) rfl ?_); refine goesL_ (some 9) rfl rfl Tryz.func18 (by kernel_rfl) rfl #[.slice A0 l0.length c0] rfl (by (try simp only [List.map_toArray, List.map_cons, List.map_nil]); first | done | rfl | (simp only [List.length_drop, List.length_take]; rfl)) ?_; (with_reducible refine (crucibleref12_LogMay.calls k _ _ l0 true _ ?side1 ?side2 A2.out).mono ?_); (case side1 => repeat (first | exact HR0.out | (with_reducible refine Kd.C_alloc ?_ _) | (with_reducible refine Kd.C_drewN ?_ _) | (with_reducible refine Kd.C_drew ?_))); (case side2 => exact HC0.out); rintro e w4 ⟨rfl, hb⟩; refine ⟨_, rfl, ?_⟩; have n0_ := Aside0.mk (below_step (by repeat (first | (with_reducible first | exact HB.out | apply below_alloc | apply pw_below_drewN | apply below_drew1) | exact HB.out)) hb); clear HB; have HB := n0_; clear n0_; (try clear hb); (try clear hb2); (try clear hk); (try clear hi)))
    go_loopg [4, 5] k (fun kq v4 v5 w' => ∃ (x4_1 : ByteArray) (x5_1 : Int), v4 = .string x4_1 ∧ v5 = .int .i64 x5_1 ∧ Aside0 (crucibleref12_LogText.l0 kq l0 x4_1 x5_1 = some (r1, r2)) ∧ Aside0 (kq ≤ k) ∧ Aside0 (Below w.heap.size w w'))
    case atStart => exact ⟨((⟨#[]⟩ : ByteArray)), (0), (by first | rfl | (simp; done) | (simp [*]; done)), (by first | rfl | (simp; done) | (simp [*]; done)), H', ⟨Nat.le_refl _⟩, ⟨by repeat (first | (with_reducible first | exact HB.out | apply below_alloc | apply pw_below_drewN | apply below_drew1) | exact HB.out)⟩⟩
    case round =>
      clear H'
      try clear c1
      try clear p2
      try clear c3
      obtain ⟨x4_1, x5_1, rfl, rfl, HA, HK1, HB⟩ := hrel
      cases gk with
      | zero => exact absurd HA.out (by simp [crucibleref12_LogText.l0])
      | succ k1 =>
        have H := HA.out
        clear HA
        simp only [crucibleref12_LogText.l0] at H
        by_cases c5 : x5_1 < (l0.length : Int)
        · rw [if_pos c5] at H
          have c5b0 : decide (x5_1 < (l0.length : Int)) = true := decide_eq_true c5
          clear c5
          by_cases c6 : 0 ≤ x5_1
          · rw [if_pos c6] at H
            have c6b0 : decide (0 ≤ x5_1) = true := decide_eq_true c6
            clear c6
            replace H := Option.bind_eq_some_iff.mp H
            obtain ⟨⟨t175, t176⟩, A70, H⟩ := H
            replace H : (if x4_1.size + t175.size ≤ 9223372036854775807 then (crucibleref12_LogText.l0 k1 l0 (x4_1 ++ t175) (wrap64 (x5_1 + 1))) else (none)) = some (r1, r2) := H
            have A7 := Aside0.mk A70
            clear A70
            by_cases c8 : x4_1.size + t175.size ≤ 9223372036854775807
            · rw [if_pos c8] at H
              have c8b0 := eq_true c8
              have c8b1 : decide (x4_1.size + t175.size ≤ 9223372036854775807) = true := decide_eq_true c8
              try have c8b2 : (9223372036854775807 < x4_1.size + t175.size) = False := eq_false (Nat.not_lt.2 c8)
              have H' := Aside0.mk H
              clear H
              have p174 : 0 ≤ (x5_1 : Int) := of_decide_eq_true (by first | (with_reducible assumption) | assumption)
              have q174 : x5_1 < (l0.length : Int) := of_decide_eq_true (by first | (with_reducible assumption) | assumption)
              obtain ⟨ad174, e174, hx174_0, hx174_1, hx174_2⟩ := at_T31 HR0.out x5_1 p174 q174
              cases e174
              replace hx174_0 := (HB.out.cell (World.block_lt_of_cell? w _ hx174_0)).trans hx174_0
              replace hx174_1 := (HB.out.cell (World.block_lt_of_cell? w _ hx174_1)).trans hx174_1
              replace hx174_2 := (HB.out.cell (World.block_lt_of_cell? w _ hx174_2)).trans hx174_2
              replace p174 := eq_true p174
              replace q174 := eq_true q174
              go_wp2_with (first | ((with_reducible refine gate_callee (f := 26) rfl ?_); refine goesL_ (some 22) rfl rfl Tryz.func26 (by kernel_rfl) rfl #[.agg #[.string ((rd_T31 l0 x5_1).f0), .int .i64 ((rd_T31 l0 x5_1).f1), .string ((rd_T31 l0 x5_1).f2)]] rfl (by (try simp only [List.map_toArray, List.map_cons, List.map_nil]); first | done | rfl | (simp only [List.length_drop, List.length_take]; rfl)) ?_; (with_reducible refine (crucibleref12_PutLine.calls k1 ((rd_T31 l0 x5_1).f0) ((rd_T31 l0 x5_1).f1) ((rd_T31 l0 x5_1).f2) t175 t176 _ A7.out).mono ?_); rintro e w9 ⟨rfl, hb⟩; refine ⟨_, rfl, ?_⟩; have n0_ := Aside0.mk (below_step (by repeat (first | (with_reducible first | exact HB.out | apply below_alloc | apply pw_below_drewN | apply below_drew1) | exact HB.out)) hb); clear HB; have HB := n0_; clear n0_; (try clear hb); (try clear hb2); (try clear hk); (try clear hi)))
              go_roundg k1
              case measure => have := HK1.out; omega
              case rel => exact ⟨(x4_1 ++ t175), (wrap64 (x5_1 + 1)), (by first | rfl | (simp; done) | (simp [*]; done)), (by first | rfl | (simp; done) | (simp [*]; done)), H', ⟨by have := HK1.out; omega⟩, ⟨by repeat (first | (with_reducible first | exact HB.out | apply below_alloc | apply pw_below_drewN | apply below_drew1) | exact HB.out)⟩⟩
            · rw [if_neg c8] at H
              exact absurd H (by simp)
          · rw [if_neg c6] at H
            exact absurd H (by simp)
        · rw [if_neg c5] at H
          have c5b0 : decide (x5_1 < (l0.length : Int)) = false := decide_eq_false c5
          clear c5
          simp only [Option.some.injEq, Prod.mk.injEq] at H
          obtain ⟨rfl, rfl⟩ := H
          go_wp2
          go_ret2
          exact ⟨by first | rfl | (simp [errW_none, errW_some] <;> rfl) | (simp [*, errW_none, errW_some] <;> rfl), by repeat (first | (with_reducible first | exact HB.out | apply below_alloc | apply pw_below_drewN | apply below_drew1) | exact HB.out)⟩
  · replace c3 := Bool.eq_false_iff.mpr c3
    subst c3
    have H1 : (some ((⟨#[]⟩ : ByteArray), 1400)) = some (r1, r2) := by rw [if_neg (show ¬ (false = true) by decide)] at H; exact H
    clear H
    have H := H1
    clear H1
    simp only [Option.some.injEq, Prod.mk.injEq] at H
    obtain ⟨rfl, rfl⟩ := H
    go_enter Tryz.func8, Tryz.ntmps8
    go_wp2_with (first | ((with_reducible refine gate_callee (f := 18) rfl ?_); refine goesL_ (some 9) rfl rfl Tryz.func18 (by kernel_rfl) rfl #[.slice A0 l0.length c0] rfl (by (try simp only [List.map_toArray, List.map_cons, List.map_nil]); first | done | rfl | (simp only [List.length_drop, List.length_take]; rfl)) ?_; (with_reducible refine (crucibleref12_LogMay.calls k _ _ l0 false _ ?side1 ?side2 A2.out).mono ?_); (case side1 => repeat (first | exact HR0.out | (with_reducible refine Kd.C_alloc ?_ _) | (with_reducible refine Kd.C_drewN ?_ _) | (with_reducible refine Kd.C_drew ?_))); (case side2 => exact HC0.out); rintro e w10 ⟨rfl, hb⟩; refine ⟨_, rfl, ?_⟩; have n0_ := Aside0.mk (below_step (by repeat (first | (with_reducible first | exact HB.out | apply below_alloc | apply pw_below_drewN | apply below_drew1) | exact HB.out)) hb); clear HB; have HB := n0_; clear n0_; (try clear hb); (try clear hb2); (try clear hk); (try clear hi)))
    go_ret2
    exact ⟨by first | rfl | (simp [errW_none, errW_some] <;> rfl) | (simp [*, errW_none, errW_some] <;> rfl), by repeat (first | (with_reducible first | exact HB.out | apply below_alloc | apply pw_below_drewN | apply below_drew1) | exact HB.out)⟩

-- HAND Cut.lean
-- IMPORT Derived.Test.YtdaddlplpkmkmaaGreatDoorLine
-- IMPORT Derived.Test.YtdaddlplpkmkmaaGreatDoorTb
-- IMPORT Derived.Test.YtdaddlplpkmkmaaGreatDoorShelf
-- IMPORT Derived.Shelf.Strings.Cut
/-! ### strings_Cut, by hand: at a sign of one byte -/
def strings_Cut.f (a0 a1 : ByteArray) : Option (ByteArray × ByteArray × Bool) :=
  match a1.data.toList with
  | [c] => if a0.size < 4294967281 then some (Spec.str (Spec.cutAt c a0.data.toList).1, Spec.str (Spec.cutAt c a0.data.toList).2, (Lib.cut a0.data.toList [c]).2.2) else none
  | _ => none
theorem strings_Cut.calls (a0 a1 : ByteArray) (r1 r2 : ByteArray) (r3 : Bool) (w : World) (h : strings_Cut.f a0 a1 = some (r1, r2, r3)) (hT : Tb w) :
    Calls Tryz.prog 39 #[.string a0, .string a1] w fun e w' => e = .returned (.tuple #[.string r1, .string r2, .bool r3]) ∧ Below w.heap.size w w' := by
  unfold strings_Cut.f at h
  split at h
  case h_2 => cases h
  rename_i c hc
  split at h
  case isFalse => cases h
  rename_i hs
  have h := Option.some.inj h
  obtain ⟨rfl, rfl, rfl⟩ : r1 = Spec.str (Spec.cutAt c a0.data.toList).1 ∧ r2 = Spec.str (Spec.cutAt c a0.data.toList).2 ∧ r3 = (Lib.cut a0.data.toList [c]).2.2 := by
    simp only [Prod.mk.injEq] at h
    exact ⟨h.1.symm, h.2.1.symm, h.2.2.symm⟩
  obtain ⟨m, hm⟩ := hT.most
  obtain ⟨e1, e2⟩ := Spec.cut_cutAt c a0.data.toList
  refine (Tryz.strings_Cut a0 a1 m w hs hm).mono fun e w' ⟨he, n, hw⟩ => ⟨?_, by rw [hw]; exact pw_below_drewN (Below.refl _ _) n⟩
  rw [he, hc, e1, e2]
  rfl

-- HAND LoglineGet.lean
-- IMPORT Derived.Test.YtdaddlplpkmkmaaGreatDoorLine
-- IMPORT Derived.Test.YtdaddlplpkmkmaaGreatDoorTb
-- IMPORT Derived.Test.YtdaddlplpkmkmaaGreatDoorShelf
-- IMPORT Derived.Shelf.Strings.Prefix
-- IMPORT Derived.Shelf.Strconv.AtoiAll
/-! ### logline_Get, by hand -/
def logline_back (a0 o : ByteArray) (t : Int) (g : ByteArray) (p : ByteArray × Int) : ByteArray × Int × ByteArray × Int :=
  if p.2 = 0 then (if p.1.toList = a0.toList then (o, t, g, 0) else ((⟨#[]⟩ : ByteArray), 0, (⟨#[]⟩ : ByteArray), 1300)) else ((⟨#[]⟩ : ByteArray), 0, (⟨#[]⟩ : ByteArray), 1300)
def logline_Get.f (k : Nat) (a0 : ByteArray) : Option (ByteArray × Int × ByteArray × Int) :=
  if a0.size < 4294967281 then (logline_Put.f k (Spec.str (Spec.pO a0.data.toList)) (Spec.pT a0.data.toList) (Spec.str (Spec.pG a0.data.toList))).bind fun p => some (logline_back a0 (Spec.str (Spec.pO a0.data.toList)) (Spec.pT a0.data.toList) (Spec.str (Spec.pG a0.data.toList)) p) else none
theorem logline_Get.mono : ∀ a0 k, LeO (logline_Get.f k a0) (logline_Get.f (k + 1) a0) := by
  intro a0 k
  unfold logline_Get.f
  exact LeO.ite (LeO.bind (logline_Put.mono _ _ _ _) (fun _ => LeO.refl _)) (LeO.none _)
theorem bytes_world_below (w : World) (t : Nat) (s : ByteArray) : Below w.heap.size w (Lib.bytesWorld w t s) := Lib.bytesWorld_below _ _ _
theorem atoi_calls (s : ByteArray) (hs : s.size ≤ 281474976710656) (w : World) (hT : Tb w) :
    Calls Tryz.prog 40 #[.string s] w fun e w' => ∃ v, e = .returned (.tuple #[.int .i64 (Spec.atoiV s.data.toList), v]) ∧ Below w.heap.size w w' := by
  obtain ⟨tp, p, hsyn⟩ := hT.syn
  obtain ⟨tp', p', hrng⟩ := hT.rng
  unfold Spec.atoiV
  cases h : Lib.atoiAll s.data.toList
  · rename_i v
    refine (Tryz.strconv_Atoi_ok s (by omega) v h w).mono fun e w' ⟨he, hw⟩ => ⟨_, he, ?_⟩
    rcases hw with rfl | ⟨t, rfl⟩
    · exact Below.refl _ _
    · exact bytes_world_below _ _ _
  · exact (Any.strconv_Atoi_syntax Tryz.laysC172 s hs h _ w hsyn (.inr ⟨_, _, rfl⟩)).mono fun e w' ⟨N, he, _, _, hb⟩ => ⟨_, he, hb⟩
  · exact (Tryz.strconv_Atoi_range s hs h _ w hrng (.inr ⟨_, _, rfl⟩)).mono fun e w' ⟨N, he, _, _, hb⟩ => ⟨_, he, hb⟩
theorem cut_tab (s : ByteArray) (hs : s.size < 4294967281) : strings_Cut.f s ⟨#[9]⟩ = some (Spec.str (Spec.cutAt 9 s.data.toList).1, Spec.str (Spec.cutAt 9 s.data.toList).2, (Lib.cut s.data.toList [9]).2.2) := by
  unfold strings_Cut.f
  simp only []
  rw [if_pos hs]
theorem rec_put {W : World} {b : Nat} {t : TypeId} {c0 c1 c2 : Value} (h : W.heap[b]? = some (.cells #[c0, c1, c2] t (0, 0))) (u0 u1 u2 : Value) : (((W.setCell ⟨b, 0, none⟩ u0).setCell ⟨b, 1, none⟩ u1).setCell ⟨b, 2, none⟩ u2).heap[b]? = some (.cells #[u0, u1, u2] t (0, 0)) := blk_put (blk_put (blk_put h 0 u0 rfl) 1 u1 rfl) 2 u2 rfl
theorem below_rec {w W : World} {b : Nat} (h : Below w.heap.size w W) (hb : w.heap.size ≤ b) (u0 u1 u2 : Value) : Below w.heap.size w (((W.setCell ⟨b, 0, none⟩ u0).setCell ⟨b, 1, none⟩ u1).setCell ⟨b, 2, none⟩ u2) := below_set (below_set (below_set h hb) hb) hb
set_option maxHeartbeats 4000000 in
set_option maxRecDepth 100000 in
theorem logline_Get.calls (k : Nat) (a0 : ByteArray) (r1 : ByteArray) (r2 : Int) (r3 : ByteArray) (r4 : Int) (w : World) (h : logline_Get.f k a0 = some (r1, r2, r3, r4)) (hT : Tb w) :
    Calls Tryz.prog 28 #[.string a0] w fun e w' => e = .returned (.tuple #[.agg #[.string r1, .int .i64 r2, .string r3], .int .i64 r4]) ∧ Below w.heap.size w w' := by
  unfold logline_Get.f at h
  split at h
  case isFalse => cases h
  rename_i hs
  obtain ⟨⟨p1, p2⟩, hP, hr⟩ := Option.bind_eq_some_iff.1 h
  have hr := Option.some.inj hr
  have hl := Spec.cutAt_len 9 a0.data.toList
  rw [Spec.size_data] at hl
  obtain ⟨o, ho⟩ : ∃ o, Spec.str (Spec.cutAt 9 a0.data.toList).1 = o := ⟨_, rfl⟩
  obtain ⟨q, hq⟩ : ∃ q, Spec.str (Spec.cutAt 9 a0.data.toList).2 = q := ⟨_, rfl⟩
  have hqs : q.size ≤ a0.size := by rw [← hq, Spec.str_size]; omega
  have hqd : q.data.toList = (Spec.cutAt 9 a0.data.toList).2 := by rw [← hq, Spec.str_data]
  have hl2 := Spec.cutAt_len 9 q.data.toList
  rw [Spec.size_data] at hl2
  obtain ⟨d, hd⟩ : ∃ d, Spec.str (Spec.cutAt 9 q.data.toList).1 = d := ⟨_, rfl⟩
  obtain ⟨g0, hg0⟩ : ∃ g0, Spec.str (Spec.cutAt 9 q.data.toList).2 = g0 := ⟨_, rfl⟩
  have hds : d.size ≤ a0.size := by rw [← hd, Spec.str_size]; omega
  have hgs : g0.size ≤ a0.size := by rw [← hg0, Spec.str_size]; omega
  have hdd : d.data.toList = (Spec.cutAt 9 q.data.toList).1 := by rw [← hd, Spec.str_data]
  have hgd : g0.data.toList = (Spec.cutAt 9 q.data.toList).2 := by rw [← hg0, Spec.str_data]
  obtain ⟨b1, hb1⟩ : ∃ b1, (Lib.cut a0.data.toList [9]).2.2 = b1 := ⟨_, rfl⟩
  obtain ⟨b2, hb2⟩ : ∃ b2, (Lib.cut q.data.toList [9]).2.2 = b2 := ⟨_, rfl⟩
  have hC1 := cut_tab a0 hs
  have hC2 := cut_tab q (by omega)
  rw [ho, hq, hb1] at hC1
  rw [hd, hg0, hb2] at hC2
  obtain ⟨t, ht⟩ : ∃ t, Spec.atoiV d.data.toList = t := ⟨_, rfl⟩
  obtain ⟨g, hg⟩ : ∃ g, Spec.str (Lib.trimSuffix g0.data.toList [10]) = g := ⟨_, rfl⟩
  have e1 : Spec.str (Spec.pO a0.data.toList) = o := ho
  have e2 : Spec.pT a0.data.toList = t := by rw [← ht, hdd, hqd]; rfl
  have e3 : Spec.str (Spec.pG a0.data.toList) = g := by rw [← hg, hgd, hqd]; rfl
  rw [e1, e2, e3] at hP hr
  have cA : ∀ W, Tb W → Calls Tryz.prog 40 #[.string d] W fun e w' => ∃ v, e = .returned (.tuple #[.int .i64 t, v]) ∧ Below W.heap.size W w' := fun W hW => by
    have := atoi_calls d (by omega) W hW
    rwa [ht] at this
  have cS : ∀ W, Calls Tryz.prog 41 #[.string g0, .string ⟨#[10]⟩] W fun e w' => e = .returned (.string g) ∧ w' = W := fun W => by
    have := Tryz.strings_TrimSuffix g0 ⟨#[10]⟩ W (by omega)
    rw [← hg]; exact this
  have fin : ∀ (b1 b2 : Bool), (p2 != 0) = b1 → (p1.toList != a0.toList) = b2 → (r1, r2, r3, r4) = (if (b1 || b2) = true then ((⟨#[]⟩ : ByteArray), 0, (⟨#[]⟩ : ByteArray), 1300) else (o, t, g, 0)) := by
    rintro b1 b2 rfl rfl
    rw [← hr, logline_back]
    by_cases e2 : p2 = 0 <;> by_cases e1 : p1.toList = a0.toList <;> simp [e1, e2]
  obtain ⟨c1, hc1⟩ : ∃ b1, (p2 != 0) = b1 := ⟨_, rfl⟩
  obtain ⟨c2, hc2⟩ : ∃ b2, (p1.toList != a0.toList) = b2 := ⟨_, rfl⟩
  have hf := fin c1 c2 hc1 hc2
  have hc3 : (p1.toList == a0.toList) = !c2 := by rw [← hc2]; simp [bne]
  have hc4 : (p2 == 0) = !c1 := by rw [← hc1]; simp [bne]
  have HC1 := Aside0.mk hC1
  have HC2 := Aside0.mk hC2
  have HP := Aside0.mk hP
  have HA := Aside0.mk cA
  have HS := Aside0.mk cS
  have HT := Aside0.mk hT
  clear fin hr h hs hl ho hq hqs hqd hl2 hd hg0 hds hgs hdd hgd hb1 hb2 hC1 hC2 ht hg e1 e2 e3 hP cA cS hT
  obtain ⟨w1, hw1⟩ : ∃ w1, w.alloc (.cells #[.string (⟨#[]⟩ : ByteArray), .int .i64 0, .string (⟨#[]⟩ : ByteArray)] 31) = w1 := ⟨_, rfl⟩
  have B1 : Below w.heap.size w w1 := by rw [← hw1]; exact below_alloc (Below.refl _ _) _
  have X1 : w1.heap[w.heap.size]? = some (.cells #[.string (⟨#[]⟩ : ByteArray), .int .i64 0, .string (⟨#[]⟩ : ByteArray)] 31 (0, 0)) := by rw [← hw1]; exact heap_alloc_new w _
  have HW1 := Aside0.mk hw1
  have HB1 := Aside0.mk B1
  have HX1 := Aside0.mk X1
  clear B1 X1 hw1
  go_enter Tryz.func28, Tryz.ntmps28
  go_wp2_with fail
  rw [HW1.out]
  refine (strings_Cut.calls _ _ _ _ _ _ HC1.out (HT.out.below HB1.out)).mono ?_
  rintro e w2 ⟨rfl, hB⟩
  have HB2 := Aside0.mk (below_then HB1.out HB1.out.size hB)
  have HX2 := Aside0.mk ((hB.block _ (blk_lt HX1.out)).trans HX1.out)
  clear hB HB1 HX1
  go_wp2_with fail
  refine (strings_Cut.calls _ _ _ _ _ _ HC2.out (HT.out.below HB2.out)).mono ?_
  rintro e w3 ⟨rfl, hB⟩
  have HB3 := Aside0.mk (below_then HB2.out HB2.out.size hB)
  have HX3 := Aside0.mk ((hB.block _ (blk_lt HX2.out)).trans HX2.out)
  clear hB HB2 HX2
  go_wp2_with fail
  refine (HA.out _ (HT.out.below HB3.out)).mono ?_
  rintro e w4 ⟨v, rfl, hB⟩
  have HB4 := Aside0.mk (below_then HB3.out HB3.out.size hB)
  have HX4 := Aside0.mk ((hB.block _ (blk_lt HX3.out)).trans HX3.out)
  clear hB HB3 HX3
  go_wp2_with fail
  refine (HS.out _).mono ?_
  rintro e w5 ⟨rfl, hw5⟩
  subst hw5
  go_wp2_with ((with_reducible refine gate_dst (N := 11) rfl ?_); refine box_event ?hg (N := 11) ?hd (cs := #[.string (⟨#[]⟩ : ByteArray), .int .i64 0, .string (⟨#[]⟩ : ByteArray)]) (t := 31) ?hr ?_; (case hd => rfl); (case hg => rfl); (case hr => first | (go_simp; done) | (go_simp; rfl)); intro gf hgf wf hbox hBf; have k0 := blk_cell hbox 0; have k1 := blk_cell hbox 1; have k2 := blk_cell hbox 2; have z0 := blk_frozen hbox 0; have z1 := blk_frozen hbox 1; have z2 := blk_frozen hbox 2; have HBY := Aside0.mk hbox; have HB5 := Aside0.mk (below_then HB4.out HB4.out.size hBf); have HGF := Aside0.mk (show w5.heap.size ≤ gf by rw [hgf]; exact Nat.le_refl _); have HX5 := Aside0.mk ((hBf.block _ (blk_lt HX4.out)).trans HX4.out); clear hbox hgf hBf)
  have HG2 := Aside0.mk (Nat.le_trans HB4.out.size HGF.out)
  have hne : gf ≠ w.heap.size := by have := blk_lt HX4.out; have := HGF.out; omega
  have s2 := blk_set (blk_set (blk_set HBY.out 0 (.string o)) 1 (.int .i64 t)) 2 (.string g)
  have X6 := blk_far (p := ⟨gf, 2, none⟩) (blk_far (p := ⟨gf, 1, none⟩) (blk_far (p := ⟨gf, 0, none⟩) HX5.out (by simpa using Ne.symm hne) (.string o)) (by simpa using Ne.symm hne) (.int .i64 t)) (by simpa using Ne.symm hne) (.string g)
  have B6 := below_set (j := 2) (v := .string g) (below_set (j := 1) (v := .int .i64 t) (below_set (j := 0) (v := .string o) HB5.out HG2.out) HG2.out) HG2.out
  clear k0 k1 k2 z0 z1 z2
  refine (logline_Put.calls k o t g p1 p2 _ HP.out (HT.out.below B6)).mono ?_
  rintro e w6 ⟨rfl, hB⟩
  have HB6 := Aside0.mk (below_then B6 B6.size hB)
  have Y6 := (hB.block _ (blk_lt s2)).trans s2
  have X7 := (hB.block _ (blk_lt X6)).trans X6
  simp only [List.setIfInBounds_toArray, List.set_cons_zero, List.set_cons_succ] at Y6
  have k0 := blk_cell Y6 0
  have k1 := blk_cell Y6 1
  have k2 := blk_cell Y6 2
  have x0 := blk_cell X7 0
  have x1 := blk_cell X7 1
  have x2 := blk_cell X7 2
  have z0 := blk_frozen X7 0
  have z1 := blk_frozen X7 1
  have z2 := blk_frozen X7 2
  have HY := Aside0.mk Y6
  have HX := Aside0.mk X7
  clear hB Y6 X7 s2 X6 B6
  cases c1 <;> cases c2
  all_goals
    simp only [Bool.not_true, Bool.not_false] at hc3 hc4
    simp only [Bool.or_self, Bool.or_true, Bool.true_or, Bool.or_false, Bool.false_or, Bool.false_eq_true, if_true, if_false, Prod.mk.injEq] at hf
    obtain ⟨rfl, rfl, rfl, rfl⟩ := hf
    go_wp2
  all_goals refine bodyPost_ret (results_ct rfl _ _ w.heap.size 31 _ (0, 0) _ rfl (rec_put HX.out _ _ _) Tryz.underlying31 rfl (by kernel_rfl)) rfl ?_
  all_goals exact ⟨rfl, below_rec HB6.out (Nat.le_refl _) _ _ _⟩

end Go.Proofs.YtdaddlplpkmkmaaGreatDoor.P
