-- Made by a program of this work's own (wip/myprint.py) over the kit's print; leaves by hand.
import Derived.Test.YtdaddlplpkmkmaaGreatDoorP0
import Derived.Test.YtdaddlplpkmkmaaGreatDoorWRepsOne
import Derived.Test.YtdaddlplpkmkmaaGreatDoorP1
import Derived.Test.YtdaddlplpkmkmaaGreatDoorP5
import Derived.Test.YtdaddlplpkmkmaaGreatDoorP7
import Derived.Test.YtdaddlplpkmkmaaGreatDoorP12
import Derived.Test.YtdaddlplpkmkmaaGreatDoorP15
import Derived.Test.YtdaddlplpkmkmaaGreatDoorP16
import Derived.Test.YtdaddlplpkmkmaaGreatDoorP18
import Derived.Test.YtdaddlplpkmkmaaGreatDoorP19
import Derived.Test.YtdaddlplpkmkmaaGreatDoorP20
import Derived.Test.YtdaddlplpkmkmaaGreatDoorP21
import Derived.Test.YtdaddlplpkmkmaaGreatDoorP23
import Derived.Test.YtdaddlplpkmkmaaGreatDoorP24
import Derived.Test.YtdaddlplpkmkmaaGreatDoorP25
import Derived.Test.YtdaddlplpkmkmaaGreatDoorP26
import Derived.Deep.RegionHeld3
import Derived.Test.YtdaddlplpkmkmaaGreatDoorMg1
import Derived.Test.YtdaddlplpkmkmaaGreatDoorTb
namespace Go.Proofs.YtdaddlplpkmkmaaGreatDoor.P
open Go.RowKit Go.Proofs.YtdaddlplpkmkmaaGreatDoorW.PrintWords Go.Proofs.YtdaddlplpkmkmaaGreatDoorW.PrintLast Go.Proofs.YtdaddlplpkmkmaaGreatDoorW.PrintMore
attribute [local go_sem] max2_int min2_int max_two min_two max_three min_three max_four min_four   -- for this text's walks alone
set_option linter.unusedVariables false
set_option linter.unusedSimpArgs false

-- HANDBIG Logs.lean
-- IMPORT Derived.Test.YtdaddlplpkmkmaaGreatDoorPlain
-- IMPORT Derived.Test.YtdaddlplpkmkmaaGreatDoorTb
-- IMPORT Derived.Deep.RegionHeld3
attribute [local go_sem high] eqA31
/-! ### cruciblelaw14_Logs, by hand: the row lent is known beyond its length -/
abbrev lgM : S31 := ⟨⟨#[]⟩, 77777, ⟨#[]⟩⟩
def lgL (l0 : List (S31)) : List (S31) := l0 ++ [lgM, lgM]
theorem lgL_len (l0 : List (S31)) : (lgL l0).length = l0.length + 2 := by simp [lgL]
theorem lgL_take (l0 : List (S31)) : (lgL l0).take l0.length = l0 := by simp [lgL]
theorem lg_cut (A : Option Addr) (n c : Nat) (j : Int) (h0 : 0 ≤ j) (hc : j ≤ c) : ∀ W : World, (Instr.slice 22 (.slice A n c) none (some (.int .i64 j)) none).run Tryz.prog W = .ok (.slice A j.toNat c) W := by
  intro W
  obtain ⟨i, hi, _, _, _⟩ := info_parts info31
  have hel : Tryz.prog.elem 22 = 31 := by simp [Program.elem, Tryz.underlying22]
  have hu : Tryz.prog.underlying 22 = some (.slice (Tryz.prog.elem 22)) := by rw [hel]; exact Tryz.underlying22
  have ha : (A.map fun x => x.add 0) = A := by cases A <;> simp [Addr.add]
  rw [run_slice_h W 22 A n c hu .i64 j h0 hc, hel]
  simp [sizeOf, typeInfo, hi, sliced, Result.andThen, ha]
set_option maxHeartbeats 8000000 in
set_option maxRecDepth 100000 in
theorem lg_lend (A0 : Option Addr) (c0 : Nat) (l0 : List (S31)) (w : World) (hr0 : Kd.C k31 w A0 l0.length l0) (hc0 : l0.length ≤ c0) (hl : l0.length ≤ 1000000) :
    Calls Tryz.prog 6 #[.slice A0 l0.length c0] w fun e w' => ∃ (A : Option Addr) (c : Nat), e = .returned (.slice A l0.length c) ∧ Kd.R k31 31 w' w.heap.size (fun _ => True) (.slice A (lgL l0).length c) (lgL l0) ∧ Below w.heap.size w w' := by
  have hu := Tryz.underlying31
  have HR0 := Aside0.mk hr0
  have HC0 := Aside0.mk hc0
  clear hr0 hc0
  have HB := Aside0.mk (Below.refl w.heap.size w)
  obtain ⟨t107, ht⟩ : ∃ t, t = l0 := ⟨_, rfl⟩
  have A2 : Aside0 (cruciblelaw0_CopyRecords.f l0 = some t107) := ⟨by rw [ht]; unfold cruciblelaw0_CopyRecords.f; simp only [Option.bind_some, List.length_nil, List.nil_append]; rw [if_pos (by omega)]⟩
  obtain ⟨y110, hy110⟩ : ∃ y_ : List (S31), y_ = (([(⟨(⟨#[]⟩ : ByteArray), 77777, (⟨#[]⟩ : ByteArray)⟩ : S31), (⟨(⟨#[]⟩ : ByteArray), 77777, (⟨#[]⟩ : ByteArray)⟩ : S31)] : List (S31))) := ⟨_, rfl⟩
  obtain ⟨y113, hy113⟩ : ∃ y_ : List (S31), y_ = (t107 ++ y110) := ⟨_, rfl⟩
  have NY : Aside0 (y113 = lgL l0) := ⟨by rw [hy113, ht, hy110]; rfl⟩
  have c5 : (l0.length : Int) ≤ (y113.length : Int) := by rw [NY.out, lgL_len]; omega
  have LMc3 := Aside0.mk (show t107.length + y110.length < 3518437208883 by rw [ht, hy110]; show l0.length + 2 < _; omega)
  have Ny110 := Aside0.mk hy110
  have Ny113 := Aside0.mk hy113
  clear ht hy110 hy113 hl
  have c4b0 := eq_true (show 0 ≤ (l0.length : Int) by omega)
  have c4b1 : decide (0 ≤ (l0.length : Int)) = true := decide_eq_true (by omega)
  have c5b0 := eq_true c5
  have c5b1 : decide ((l0.length : Int) ≤ (y113.length : Int)) = true := decide_eq_true c5
  clear c5
  go_enter Tryz.func6, Tryz.ntmps6
  go_wp2_with (first | ((with_reducible refine gate_callee (f := 22) rfl ?_); refine goesL_ (some 5) rfl rfl Tryz.func22 (by kernel_rfl) rfl #[.slice A0 l0.length c0] rfl (by (try simp only [List.map_toArray, List.map_cons, List.map_nil]); first | done | rfl | (simp only [List.length_drop, List.length_take]; rfl)) ?_; (with_reducible refine (cruciblelaw0_CopyRecords.calls _ _ l0 t107 _ ?side1 ?side2 A2.out).mono ?_); (case side1 => repeat (first | exact HR0.out | (with_reducible refine Kd.C_alloc ?_ _) | (with_reducible refine Kd.C_drewN ?_ _) | (with_reducible refine Kd.C_drew ?_))); (case side2 => exact HC0.out); rintro e w6 ⟨v108, rfl, ho0, hb⟩; refine ⟨_, rfl, ?_⟩; have n0_ := Aside0.mk (Kd.R_lower ho0 (below_size (by repeat (first | (with_reducible first | exact HB.out | apply below_alloc | apply pw_below_drewN | apply below_drew1) | exact HB.out)))); have n1_ := Aside0.mk (below_step (by repeat (first | (with_reducible first | exact HB.out | apply below_alloc | apply pw_below_drewN | apply below_drew1) | exact HB.out)) hb); clear HB; have HO109 := n0_; have HB := n1_; clear n0_ n1_; (try clear hb); (try clear ho0)) | ((with_reducible refine gate_dst (N := 8) rfl ?_); refine Kd.R_lit k31 _ 31 ?hg (N := 8) ?hd (xs := ([(⟨(⟨#[]⟩ : ByteArray), 77777, (⟨#[]⟩ : ByteArray)⟩ : S31), (⟨(⟨#[]⟩ : ByteArray), 77777, (⟨#[]⟩ : ByteArray)⟩ : S31)] : List (S31))) (inner := [.string (⟨#[]⟩ : ByteArray), .int .i64 77777, .string (⟨#[]⟩ : ByteArray), .string (⟨#[]⟩ : ByteArray), .int .i64 77777, .string (⟨#[]⟩ : ByteArray)]) (ok := fun _ => True) (okp := fun _ => True) ?hr ?hp (fun _ hk => hk) trivial (Below.refl _ _) (Nat.le_refl _) (by simp) ?_; (case hd => rfl); (case hg => rfl); (case hr => first | (go_simp; done) | (go_simp; rfl)); (case hp => exact (Reps.c3 (show Kd.M k31 _ _ _ (⟨(⟨#[]⟩ : ByteArray), 77777, (⟨#[]⟩ : ByteArray)⟩ : S31) [.string (⟨#[]⟩ : ByteArray), .int .i64 77777, .string (⟨#[]⟩ : ByteArray)] from (k31_mkM _ _ _ (⟨(⟨#[]⟩ : ByteArray), 77777, (⟨#[]⟩ : ByteArray)⟩ : S31) )) (Reps.c3 (show Kd.M k31 _ _ _ (⟨(⟨#[]⟩ : ByteArray), 77777, (⟨#[]⟩ : ByteArray)⟩ : S31) [.string (⟨#[]⟩ : ByteArray), .int .i64 77777, .string (⟨#[]⟩ : ByteArray)] from (k31_mkM _ _ _ (⟨(⟨#[]⟩ : ByteArray), 77777, (⟨#[]⟩ : ByteArray)⟩ : S31) )) (Reps.none _ _)))); intro v111 w7 ho8 hb hg_ hnew_; clear hg_ hnew_; (first | rw [← Ny110.out] at ho8 | (simp only [Int.reduceToNat] at ho8; rw [← Ny110.out] at ho8)); have n0_ := Aside0.mk (Kd.R_elder' (by (with_reducible repeat (first | apply Kd.R_alloc | apply Kd.R_drewN | apply Kd.R_drew)); exact HO109.out) (Kd.R_base ho8) hb); have n1_ := Aside0.mk (Kd.R_lower (Kd.R_new' ho8 (Kd.R_lt (by (with_reducible repeat (first | apply Kd.R_alloc | apply Kd.R_drewN | apply Kd.R_drew)); exact HO109.out))) (below_size (by repeat (first | (with_reducible first | exact HB.out | apply below_alloc | apply pw_below_drewN | apply below_drew1) | exact HB.out)))); have n2_ := Aside0.mk (below_step (by repeat (first | (with_reducible first | exact HB.out | apply below_alloc | apply pw_below_drewN | apply below_drew1) | exact HB.out)) hb); clear HO109; clear HB; have HO109 := n0_; have HO112 := n1_; have HB := n2_; clear n0_ n1_ n2_; clear hb ho8; obtain ⟨Ao10, co10, eo10⟩ := Kd.R_slice HO112.out; subst eo10) | ((with_reducible refine gate_builtin (b := .append) (xs := #[.tmp 5, .tmp 8]) rfl ?_); at_builtin; refine Kd.R_append_rows k31 (w0 := w) w.heap.size rfl (.tmp 5) (.tmp 8) 22 31 (.agg #[(.string ⟨#[]⟩), (.int .i64 0), (.string ⟨#[]⟩)]) 40 rfl Tryz.underlying22 info31 rfl (by decide) (by omega) v108 t107 y110 _ _ _ (fun k_ => some k_ ≠ (.slice Ao10 y110.length co10 : Value).ownBlock) (fun _ => False) rfl rfl ?aO ?aR (fun _ _ h => h) (fun _ h => h.elim) ?aF ?aB ?aS ?aL ?_; (case aR => repeat (first | exact (Kd.R_reads' HO112.out).2.2 | (with_reducible refine Kd.C_alloc ?_ _) | (with_reducible refine Kd.C_drewN ?_ _) | (with_reducible refine Kd.C_drew ?_))); (case aB => exact (by repeat (first | (with_reducible first | exact HB.out | apply below_alloc | apply pw_below_drewN | apply below_drew1) | exact HB.out))); (case aF => exact (fun k_ hk => Kd.fresh' (Kd.R_lt (by (with_reducible repeat (first | apply Kd.R_alloc | apply Kd.R_drewN | apply Kd.R_drew)); exact HO112.out)) k_ hk)); (case aO => exact (by (with_reducible repeat (first | apply Kd.R_alloc | apply Kd.R_drewN | apply Kd.R_drew)); exact Kd.R_mono HO109.out (fun _ hk => hk.2))); (case aS => exact (below_size (by repeat (first | (with_reducible first | exact HB.out | apply below_alloc | apply pw_below_drewN | apply below_drew1) | exact HB.out)))); (case aL => have := LMc3.out; omega); intro v114 w9 ho hb hg hat; rw [← Ny113.out] at ho; have n1_ := Aside0.mk (hb); have n2_ := Aside0.mk (ho); clear HO112; clear HB; clear HO109; have HB := n1_; have HO115 := n2_; clear n1_ n2_; clear ho hb hg hat; obtain ⟨Ao11, co11, eo11⟩ := Kd.R_slice HO115.out; subst eo11; have hcut12 := lg_cut Ao11 y113.length co11 (l0.length : Int) (by omega) (by have := (Kd.R_reads' HO115.out).2.1; have := of_eq_true c5b0; omega); rw [Int.toNat_natCast] at hcut12))
  go_ret
  refine ⟨_, _, rfl, ?_, by repeat (first | (with_reducible first | exact HB.out | apply below_alloc | apply pw_below_drewN | apply below_drew1) | exact HB.out)⟩
  rw [← NY.out]
  (with_reducible repeat (first | apply Kd.R_alloc | apply Kd.R_drewN | apply Kd.R_drew))
  exact Kd.R_mono HO115.out (fun _ hk => trivial)
set_option maxHeartbeats 8000000 in
set_option maxRecDepth 100000 in
theorem lg_kept (k : Nat) (A0 : Option Addr) (c0 : Nat) (l0 : List (S31)) (A1 : Option Addr) (c1 : Nat) (w : World) (hr0 : Kd.C k31 w A0 (lgL l0).length (lgL l0)) (hc0 : (lgL l0).length ≤ c0) (hr1 : Kd.C k31 w A1 l0.length l0) (hc1 : l0.length ≤ c1) (hl : l0.length ≤ 1000000) (h : cruciblelaw0_SameRecords.f k l0 l0 = some true) :
    Calls Tryz.prog 20 #[.slice A0 l0.length c0, .slice A1 l0.length c1] w fun e w' => e = .returned (.bool true) ∧ Drawn0 w w' := by
  have hu := Tryz.underlying31
  have HR1 := Aside0.mk hr1
  have HC1 := Aside0.mk hc1
  have HRL := Aside0.mk hr0
  have A6 := Aside0.mk h
  have hS : Kd.C k31 w A0 l0.length l0 := by
    have := Kd.C_take (m := l0.length) hr0 (by rw [lgL_len]; omega)
    rwa [lgL_take] at this
  have HR0 := Aside0.mk hS
  have HC0 := Aside0.mk (show l0.length ≤ c0 by rw [lgL_len] at hc0; omega)
  obtain ⟨ji3, hji3⟩ : ∃ j_ : Int, (wrap64 ((l0.length : Int) + 2)) = j_ := ⟨_, rfl⟩
  have hji3w : (IntKind.i64.wrap ((l0.length : Int) + 2)) = ji3 := (i64_w _).trans hji3
  have hj3 : ji3 = ((l0.length + 2 : Nat) : Int) := by rw [← hji3, Spec.wrap_id (by omega) (by omega)]; omega
  obtain ⟨ji11, hji11⟩ : ∃ j_ : Int, (wrap64 ((l0.length : Int) + 1)) = j_ := ⟨_, rfl⟩
  have hji11w : (IntKind.i64.wrap ((l0.length : Int) + 1)) = ji11 := (i64_w _).trans hji11
  have hj11 : ji11 = ((l0.length + 1 : Nat) : Int) := by rw [← hji11, Spec.wrap_id (by omega) (by omega)]; omega
  obtain ⟨y233, hy⟩ : ∃ y_, y_ = lgL l0 := ⟨_, rfl⟩
  have hyl : y233.length = l0.length + 2 := by rw [hy, lgL_len]
  have hcut14 := lg_cut A0 l0.length c0 ji3 (by omega) (by rw [lgL_len] at hc0; omega)
  have hy14 : y233.length = ji3.toNat := by omega
  rw [← hy14] at hcut14
  rw [← hy] at hr0 hc0
  have e0 : rd_T31 y233 (l0.length : Int) = lgM := by rw [hy]; simp [rd_T31, lgL]
  have e1 : rd_T31 y233 ji11 = lgM := by rw [hy, hj11]; simp [rd_T31, lgL, List.getD_eq_getElem?_getD, List.getElem?_append_right]
  obtain ⟨ad238, e238, hx238_0, hx238_1, hx238_2⟩ := at_T31 hr0 (l0.length : Int) (by omega) (by omega)
  obtain ⟨ad239, e239, hx239_0, hx239_1, hx239_2⟩ := at_T31 hr0 ji11 (by omega) (by omega)
  have c4b0 := eq_true (show 0 ≤ ji3 by omega)
  have c4b1 : decide (0 ≤ ji3) = true := decide_eq_true (by omega)
  have c5b0 := eq_true (show ji3 ≤ (c0 : Int) by omega)
  have p238 := eq_true (show 0 ≤ (l0.length : Int) by omega)
  have q238 := eq_true (show (l0.length : Int) < (y233.length : Int) by omega)
  have q238b := eq_true (show l0.length < y233.length by omega)
  have p239 := eq_true (show 0 ≤ ji11 by omega)
  have q239 := eq_true (show ji11 < (y233.length : Int) by omega)
  cases e238
  obtain rfl : ad238 = ad239 := (by injection e239)
  rw [e0] at hx238_0 hx238_1 hx238_2
  rw [e1] at hx239_0 hx239_1 hx239_2
  simp only [] at hx238_0 hx238_1 hx238_2 hx239_0 hx239_1 hx239_2
  (try simp only [Go.IntWalk.toNatUp] at hx238_0)
  (try simp only [Go.IntWalk.toNatUp] at hx238_1)
  (try simp only [Go.IntWalk.toNatUp] at hx238_2)
  clear hr0 hc0 hr1 hc1 hl h hS hj3 hj11 hy hyl hy14 e0 e1 e239
  go_enter Tryz.func20, Tryz.ntmps20
  go_wp2_with (first | ((with_reducible refine gate_callee (f := 15) rfl ?_); refine goesL_ (some 13) rfl rfl Tryz.func15 (by kernel_rfl) rfl #[.slice _ l0.length c0, .slice A1 l0.length c1] rfl (by (try simp only [List.map_toArray, List.map_cons, List.map_nil]); first | done | rfl | (simp only [List.length_drop, List.length_take]; rfl)) ?_; (with_reducible refine (cruciblelaw0_SameRecords.calls k _ _ l0 _ _ l0 true _ ?side1 ?side2 ?side3 ?side4 A6.out).mono ?_); (case side1 => repeat (first | exact HR0.out | (with_reducible refine Kd.C_alloc ?_ _) | (with_reducible refine Kd.C_drewN ?_ _) | (with_reducible refine Kd.C_drew ?_))); (case side2 => exact HC0.out); (case side3 => repeat (first | exact HR1.out | (with_reducible refine Kd.C_alloc ?_ _) | (with_reducible refine Kd.C_drewN ?_ _) | (with_reducible refine Kd.C_drew ?_))); (case side4 => exact HC1.out); rintro e w' ⟨rfl, ⟨nd, rfl⟩⟩; refine ⟨_, rfl, ?_⟩))
  go_ret
  exact ⟨by first | rfl | (simp; done) | (simp [*]; done), by repeat (first | exact Drawn0.refl _ | apply Drawn0.step)⟩
theorem lg_ext {x y : S31} (h0 : x.f0 = y.f0) (h1 : x.f1 = y.f1) (h2 : x.f2 = y.f2) : x = y := by
  obtain ⟨a, b, c⟩ := x
  obtain ⟨a', b', c'⟩ := y
  cases h0; cases h1; cases h2; rfl
local instance lgDec : DecidableEq S31 := fun x y =>
  if h : x.f0 = y.f0 ∧ x.f1 = y.f1 ∧ x.f2 = y.f2 then isTrue (lg_ext h.1 h.2.1 h.2.2) else isFalse (fun e => h (by subst e; exact ⟨rfl, rfl, rfl⟩))
def cruciblelaw14_Logs.f (k : Nat) (l0 : List (S31)) (s o : ByteArray) : Option Bool :=
  (log_Text.f k l0).bind fun a => (log_Load.f k s).bind fun c => (log_Last.f k l0 o).bind fun d => (log_Compact.f k l0).bind fun p => (log_May.f k l0).bind fun m => (cruciblelaw0_SpoilRecords.f k c).bind fun sc => (cruciblelaw0_SpoilRecords.f k p.1).bind fun sp =>
  if (crucibleref12_LogText.f k l0 = some a ∧ crucibleref12_LoadLog.f k s = some c ∧ crucibleref12_LastRecord.f k l0 o = some d ∧ crucibleref12_CompactLog.f k l0 = some p ∧ crucibleref12_LogMay.f k l0 = some m) ∧
    (cruciblelaw0_SameRecords.f k c c = some true ∧ cruciblelaw0_SameRecords.f k p.1 p.1 = some true ∧ cruciblelaw0_SameRecords.f k l0 l0 = some true ∧ l0.length ≤ 1000000) then some true else none
theorem cruciblelaw14_Logs.mono : ∀ a0 a1 a2 k, LeO (cruciblelaw14_Logs.f k a0 a1 a2) (cruciblelaw14_Logs.f (k + 1) a0 a1 a2) := by
  intro l0 s o k r h
  unfold cruciblelaw14_Logs.f at h ⊢
  obtain ⟨a, ha, h⟩ := Option.bind_eq_some_iff.1 h
  obtain ⟨c, hc, h⟩ := Option.bind_eq_some_iff.1 h
  obtain ⟨d, hd, h⟩ := Option.bind_eq_some_iff.1 h
  obtain ⟨p, hp, h⟩ := Option.bind_eq_some_iff.1 h
  obtain ⟨m, hm, h⟩ := Option.bind_eq_some_iff.1 h
  obtain ⟨sc, hsc, h⟩ := Option.bind_eq_some_iff.1 h
  obtain ⟨sp, hsp, h⟩ := Option.bind_eq_some_iff.1 h
  split at h
  case isFalse => cases h
  rename_i hq
  obtain ⟨⟨q1, q2, q3, q4, q5⟩, q6, q7, q8, q9⟩ := hq
  refine Option.bind_eq_some_iff.2 ⟨a, log_Text.mono _ k a ha, Option.bind_eq_some_iff.2 ⟨c, log_Load.mono _ k c hc, Option.bind_eq_some_iff.2 ⟨d, log_Last.mono _ _ k d hd, Option.bind_eq_some_iff.2 ⟨p, log_Compact.mono _ k p hp, Option.bind_eq_some_iff.2 ⟨m, log_May.mono _ k m hm, Option.bind_eq_some_iff.2 ⟨sc, cruciblelaw0_SpoilRecords.mono _ k sc hsc, Option.bind_eq_some_iff.2 ⟨sp, cruciblelaw0_SpoilRecords.mono _ k sp hsp, ?_⟩⟩⟩⟩⟩⟩⟩
  rw [if_pos ⟨⟨crucibleref12_LogText.mono _ k a q1, crucibleref12_LoadLog.mono _ k c q2, crucibleref12_LastRecord.mono _ _ k d q3, crucibleref12_CompactLog.mono _ k p q4, crucibleref12_LogMay.mono _ k m q5⟩, cruciblelaw0_SameRecords.mono _ _ k true q6, cruciblelaw0_SameRecords.mono _ _ k true q7, cruciblelaw0_SameRecords.mono _ _ k true q8, q9⟩]
  exact h
theorem lg_then {w W w' : World} (h : Below w.heap.size w W) (hB : Below W.heap.size W w') : Below w.heap.size w w' := below_then h h.size hB
abbrev lgO (a : ByteArray) (t : Int) (g : ByteArray) : Obj := .cells #[.string a, .int .i64 t, .string g] 31
theorem lg_cells {W : World} {b : Nat} {a : ByteArray} {t : Int} {g : ByteArray} (h : W.heap[b]? = some (lgO a t g)) : W.cell? ⟨b, 0, none⟩ = some (.string a) ∧ W.cell? ⟨b, 1, none⟩ = some (.int .i64 t) ∧ W.cell? ⟨b, 2, none⟩ = some (.string g) :=
  ⟨by rw [blk_cell h]; rfl, by rw [blk_cell h]; rfl, by rw [blk_cell h]; rfl⟩
theorem lg_keep {W W' : World} {b : Nat} {o : Obj} (h : W.heap[b]? = some o) (hB : Below W.heap.size W W') : W'.heap[b]? = some o := (hB.block _ (blk_lt h)).trans h
set_option maxHeartbeats 8000000 in
set_option maxRecDepth 100000 in
theorem cruciblelaw14_Logs.calls (k : Nat) (A0 : Option Addr) (c0 : Nat) (l0 : List (S31)) (a1 a2 : ByteArray) (r : Bool) (w : World) (hr0 : Kd.C k31 w A0 l0.length l0) (hc0 : l0.length ≤ c0) (h : cruciblelaw14_Logs.f k l0 a1 a2 = some r) (hT : Tb w) :
    Calls Tryz.prog 3 #[.slice A0 l0.length c0, .string a1, .string a2] w fun e w' => e = .returned (.bool r) ∧ Below w.heap.size w w' := by
  unfold cruciblelaw14_Logs.f at h
  obtain ⟨⟨t1, e1⟩, ha, h⟩ := Option.bind_eq_some_iff.1 h
  obtain ⟨c, hc, h⟩ := Option.bind_eq_some_iff.1 h
  obtain ⟨⟨d1, d2, d3, d4⟩, hd, h⟩ := Option.bind_eq_some_iff.1 h
  obtain ⟨⟨p, e2⟩, hp, h⟩ := Option.bind_eq_some_iff.1 h
  obtain ⟨m, hm, h⟩ := Option.bind_eq_some_iff.1 h
  obtain ⟨sc, hsc, h⟩ := Option.bind_eq_some_iff.1 h
  obtain ⟨sp, hsp, h⟩ := Option.bind_eq_some_iff.1 h
  split at h
  case isFalse => cases h
  rename_i hq
  obtain rfl : true = r := Option.some.inj h
  obtain ⟨⟨q1, q2, q3, q4, q5⟩, q6, q7, q8, q9⟩ := hq
  simp only [] at ha hc hd hp hm hsc hsp q1 q2 q3 q4 q5 q6 q7 q8
  clear h
  have HA := Aside0.mk ha
  have HL := Aside0.mk hc
  have HD := Aside0.mk hd
  have HP := Aside0.mk hp
  have HM := Aside0.mk hm
  have HSC := Aside0.mk hsc
  have HSP := Aside0.mk hsp
  have Q1 := Aside0.mk q1
  have Q2 := Aside0.mk q2
  have Q3 := Aside0.mk q3
  have Q4 := Aside0.mk q4
  have Q5 := Aside0.mk q5
  have Q6 := Aside0.mk q6
  have Q7 := Aside0.mk q7
  have Q8 := Aside0.mk q8
  have Q9 := Aside0.mk q9
  have HC0 := Aside0.mk hc0
  have HR0 := Aside0.mk hr0
  have HT := Aside0.mk hT
  clear ha hc hd hp hm hsc hsp q1 q2 q3 q4 q5 q6 q7 q8 q9 hc0 hr0 hT
  go_enter Tryz.func3, Tryz.ntmps3
  go_wp2_with fail
  refine (lg_lend A0 c0 l0 w HR0.out HC0.out Q9.out).mono ?_
  rintro e w1 ⟨AL, cL, rfl, hRL, b1⟩
  have B1 := Aside0.mk b1
  have CL := Aside0.mk (Kd.R_reads' hRL).2.2
  have KL := Aside0.mk (Kd.R_reads' hRL).2.1
  have KS := Aside0.mk (show l0.length ≤ cL by have := KL.out; rw [lgL_len] at this; omega)
  have CS := Aside0.mk (show Kd.C k31 w1 AL l0.length l0 by
    have := Kd.C_take (m := l0.length) CL.out (by rw [lgL_len]; omega)
    rwa [lgL_take] at this)
  clear hRL b1
  go_wp2_with fail
  refine (log_Text.calls k AL cL l0 t1 e1 w1 CS.out KS.out HA.out (Tb.below HT.out B1.out)).mono ?_
  rintro e w2 ⟨rfl, b2⟩
  have B2 := Aside0.mk b2
  clear b2
  go_wp2_with fail
  refine (crucibleref12_LogText.calls k A0 c0 l0 t1 e1 w2 (Kd.C_below HR0.out (lg_then B1.out B2.out)) HC0.out Q1.out).mono ?_
  rintro e w3 ⟨rfl, b3⟩
  have B3 := Aside0.mk (lg_then B2.out b3)
  clear b3 B2
  go_wp2_with fail
  refine (log_Load.calls k a1 c w3 HL.out (Tb.below HT.out (lg_then B1.out B3.out))).mono ?_
  rintro e w4 ⟨vc, rfl, hRc, b4⟩
  have D4 := Aside0.mk b4
  have B4 := Aside0.mk (lg_then B3.out b4)
  obtain ⟨Ac, kc, rfl⟩ := Kd.R_slice hRc
  have RC := Aside0.mk hRc
  clear hRc b4
  go_wp2_with fail
  refine (log_Last.calls k AL cL l0 a2 d1 d2 d3 d4 w4 (Kd.C_below CS.out B4.out) KS.out HD.out).mono ?_
  rintro e w5 ⟨rfl, b5⟩
  have E5 := Aside0.mk b5
  have B5 := Aside0.mk (lg_then B4.out b5)
  clear b5
  have O0 := Aside0.mk (heap_alloc_new w5 (lgO d1 d2 d3))
  have al0 := Aside0.mk (below_alloc (Below.refl w5.heap.size w5) (lgO d1 d2 d3))
  have c11 := crucibleref12_LastRecord.calls k A0 c0 l0 a2 d1 d2 d3 d4 (w5.alloc (lgO d1 d2 d3)) (Kd.C_below HR0.out (lg_then B1.out (lg_then B5.out al0.out))) HC0.out Q3.out
  go_wp2_with fail
  refine c11.mono ?_
  rintro e w6 ⟨rfl, b6⟩
  clear c11
  have O6 := Aside0.mk (lg_keep O0.out b6)
  have E6 := Aside0.mk (lg_then E5.out (lg_then al0.out b6))
  have B6 := Aside0.mk (lg_then B5.out (lg_then al0.out b6))
  clear b6 O0 al0 E5
  have O1 := Aside0.mk (heap_alloc_new w6 (lgO d1 d2 d3))
  have al1 := Aside0.mk (below_alloc (Below.refl w6.heap.size w6) (lgO d1 d2 d3))
  have al1s := Aside0.mk (show w6.heap.size ≤ (w6.alloc (lgO d1 d2 d3)).heap.size from al1.out.size)
  have c12 := log_Compact.calls k AL cL l0 p e2 (w6.alloc (lgO d1 d2 d3)) (Kd.C_below CS.out (lg_then B6.out al1.out)) KS.out HP.out
  go_wp2_with fail
  refine c12.mono ?_
  rintro e w7 ⟨vp, rfl, hRp, b7⟩
  clear c12
  obtain ⟨Ap, kp, rfl⟩ := Kd.R_slice hRp
  have RP := Aside0.mk hRp
  have O7 := Aside0.mk (lg_keep O6.out (lg_then al1.out b7))
  have P7 := Aside0.mk (lg_keep O1.out b7)
  have G7 := Aside0.mk (lg_then al1.out b7)
  have B7 := Aside0.mk (lg_then B6.out (lg_then al1.out b7))
  clear b7 O1 al1 hRp O6
  go_wp2_with fail
  refine (crucibleref12_CompactLog.calls k A0 c0 l0 p e2 w7 (Kd.C_below HR0.out (lg_then B1.out B7.out)) HC0.out Q4.out).mono ?_
  rintro e w8 ⟨vq, rfl, hRq, b8⟩
  obtain ⟨Aq, kq, rfl⟩ := Kd.R_slice hRq
  have CQ := Aside0.mk (Kd.R_reads' hRq).2.2
  have KQ := Aside0.mk (Kd.R_reads' hRq).2.1
  have B8 := Aside0.mk (lg_then B7.out b8)
  have F8 := Aside0.mk b8
  have G8 := Aside0.mk (lg_then G7.out b8)
  have E8 := Aside0.mk (lg_then E6.out (lg_then G7.out b8))
  have R8p := Aside0.mk (Kd.R_below RP.out b8)
  have R8c := Aside0.mk (Kd.R_below RC.out E8.out)
  have CP := Aside0.mk (Kd.R_reads' R8p.out).2.2
  have KP := Aside0.mk (Kd.R_reads' R8p.out).2.1
  have CC := Aside0.mk (Kd.R_reads' R8c.out).2.2
  have KC := Aside0.mk (Kd.R_reads' R8c.out).2.1
  have O8 := Aside0.mk (lg_keep O7.out b8)
  have P8 := Aside0.mk (lg_keep P7.out b8)
  clear b8 hRq O7 P7 R8p R8c
  have toS : ∀ w', Below w8.heap.size w8 w' → (w'.cell? ⟨w5.heap.size, 0, none⟩ = some (.string d1) ∧ w'.cell? ⟨w5.heap.size, 1, none⟩ = some (.int .i64 d2) ∧ w'.cell? ⟨w5.heap.size, 2, none⟩ = some (.string d3) ∧ w'.cell? ⟨w6.heap.size, 0, none⟩ = some (.string d1) ∧ w'.cell? ⟨w6.heap.size, 1, none⟩ = some (.int .i64 d2) ∧ w'.cell? ⟨w6.heap.size, 2, none⟩ = some (.string d3)) := fun w' hB => by
    obtain ⟨s0, s1, s2⟩ := lg_cells (lg_keep O8.out hB)
    obtain ⟨s3, s4, s5⟩ := lg_cells (lg_keep P8.out hB)
    exact ⟨s0, s1, s2, s3, s4, s5⟩
  have cN : ∀ (n : Int) W, Below w8.heap.size w8 W → Calls Tryz.prog 14 #[.int .i64 n] W fun e w' => e = .returned (.int .i64 n) ∧ Below w8.heap.size w8 w' := fun n W hW => (cruciblelaw0_Num.calls n n W rfl).mono fun e w' ⟨he, hd⟩ => ⟨he, lg_then hW hd.below⟩
  have cLL : ∀ W, Below w8.heap.size w8 W → Calls Tryz.prog 16 #[.string a1] W fun e w' => ∃ (A9 : Option Addr) (k9 : Nat), e = .returned (.slice A9 c.length k9) ∧ (Kd.C k31 w' A9 c.length c ∧ c.length ≤ k9) ∧ Below w8.heap.size w8 w' := fun W hW =>
    (crucibleref12_LoadLog.calls k a1 c W Q2.out).mono fun e w' ⟨v, he, hR, hd⟩ => by
      obtain ⟨A9, k9, rfl⟩ := Kd.R_slice hR
      exact ⟨A9, k9, he, ⟨(Kd.R_reads' hR).2.2, (Kd.R_reads' hR).2.1⟩, lg_then hW hd⟩
  have cS1 : ∀ (A9 : Option Addr) (k9 : Nat) W, (Kd.C k31 W A9 c.length c ∧ c.length ≤ k9) → Below w8.heap.size w8 W → Calls Tryz.prog 15 #[.slice Ac c.length kc, .slice A9 c.length k9] W fun e w' => e = .returned (.bool true) ∧ Below w8.heap.size w8 w' := fun A9 k9 W h9 hW =>
    (cruciblelaw0_SameRecords.calls k Ac kc c A9 k9 c true W (Kd.C_below CC.out hW) KC.out h9.1 h9.2 Q6.out).mono fun e w' ⟨he, hd⟩ => ⟨he, lg_then hW hd.below⟩
  have cS2 : ∀ W, Below w8.heap.size w8 W → Calls Tryz.prog 15 #[.slice Ap p.length kp, .slice Aq p.length kq] W fun e w' => e = .returned (.bool true) ∧ Below w8.heap.size w8 w' := fun W hW =>
    (cruciblelaw0_SameRecords.calls k Ap kp p Aq kq p true W (Kd.C_below CP.out hW) KP.out (Kd.C_below CQ.out hW) KQ.out Q7.out).mono fun e w' ⟨he, hd⟩ => ⟨he, lg_then hW hd.below⟩
  have cM : ∀ W, Below w8.heap.size w8 W → Calls Tryz.prog 17 #[.slice AL l0.length cL] W fun e w' => e = .returned (.bool m) ∧ Below w8.heap.size w8 w' := fun W hW =>
    (log_May.calls k AL cL l0 m W (Kd.C_below CS.out (lg_then B8.out hW)) KS.out HM.out).mono fun e w' ⟨he, hd⟩ => ⟨he, lg_then hW hd⟩
  have cLM : ∀ W, Below w8.heap.size w8 W → Calls Tryz.prog 18 #[.slice A0 l0.length c0] W fun e w' => e = .returned (.bool m) ∧ Below w8.heap.size w8 w' := fun W hW =>
    (crucibleref12_LogMay.calls k A0 c0 l0 m W (Kd.C_below HR0.out (lg_then B1.out (lg_then B8.out hW))) HC0.out Q5.out).mono fun e w' ⟨he, hd⟩ => ⟨he, lg_then hW hd⟩
  have cSp : ∀ W, Below w8.heap.size w8 W → Calls Tryz.prog 19 #[.slice Ac c.length kc] W fun e w' => e = .returned (.tuple #[]) ∧ (Below w1.heap.size w1 w' ∧ Kd.R k31 31 w' w1.heap.size (fun _ => True) (.slice Ap p.length kp) p) := fun W hW => by
    have h1 := Kd.R_below RC.out (lg_then E8.out hW)
    have h2 := Kd.R_mono (Kd.R_bound RC.out) (ok' := fun g => g < w4.heap.size) (fun g hg => hg.2.2.1)
    have h3 := Kd.R_lower (Kd.R_below h2 (lg_then E8.out hW)) B3.out.size
    have h4 := Kd.R_below RP.out (lg_then F8.out hW)
    have z1 := E6.out.size
    have z2 := al1s.out
    have z3 := B6.out.size
    refine (cruciblelaw0_SpoilRecords.calls k (fun g => g < w4.heap.size) (.slice Ac c.length kc) c sc w1 W (lg_then B8.out hW) h3 HSC.out).mono ?_
    rintro e w' ⟨he, _, hd, hk⟩
    refine ⟨he, hd, Kd.R_lower (Kd.R_mono (Kd.R_step (Kd.R_bound h4) (fun g hg hlt => hk.2 g hlt (fun hc => ?_))) (fun _ _ => trivial)) ?_⟩
    · have := hg.2.1
      omega
    · omega
  have cSq : ∀ W, (Below w1.heap.size w1 W ∧ Kd.R k31 31 W w1.heap.size (fun _ => True) (.slice Ap p.length kp) p) → Calls Tryz.prog 19 #[.slice Ap p.length kp] W fun e w' => e = .returned (.tuple #[]) ∧ Below w1.heap.size w1 w' := fun W hW =>
    (cruciblelaw0_SpoilRecords.calls k (fun _ => True) (.slice Ap p.length kp) p sp w1 W hW.1 hW.2 HSP.out).mono fun e w' ⟨he, _, hd, _⟩ => ⟨he, hd⟩
  have cK : ∀ W, Below w1.heap.size w1 W → Calls Tryz.prog 20 #[.slice AL l0.length cL, .slice A0 l0.length c0] W fun e w' => e = .returned (.bool true) ∧ Below w1.heap.size w1 w' := fun W hW =>
    (lg_kept k AL cL l0 A0 c0 W (Kd.C_below CL.out hW) KL.out (Kd.C_below HR0.out (lg_then B1.out hW)) HC0.out Q9.out Q8.out).mono fun e w' ⟨he, hd⟩ => ⟨he, lg_then hW hd.below⟩
  have cAw : ∀ W, Below w1.heap.size w1 W → Calls Tryz.prog 21 #[] W fun e w' => e = .returned (.bool true) ∧ Below w1.heap.size w1 w' := fun W hW =>
    (cruciblelaw14_awake.calls true W rfl (Tb.below HT.out (lg_then B1.out hW))).mono fun e w' ⟨he, hd⟩ => ⟨he, lg_then hW hd⟩
  have fin : ∀ W, Below w1.heap.size w1 W → Below w.heap.size w W := fun W hW => lg_then B1.out hW
  have hb8 := Below.refl w8.heap.size w8
  obtain ⟨s0, s1, s2, s3, s4, s5⟩ := toS w8 hb8
  clear HA HL HD HP HM HSC HSP Q1 Q2 Q3 Q4 Q5 Q6 Q7 Q8 Q9 HC0 HR0 HT B1 CL KL KS CS B3 D4 B4 RC B5 E6 B6 RP G7 B7 CQ KQ B8 G8 E8 CP KP CC KC O8 P8 F8 al1s
  go_wp2_with (first
    | (go_at_call 14; (with_reducible refine (cN _ _ ?_).mono ?_); assumption; rintro e w' ⟨rfl, hb⟩; obtain ⟨s0, s1, s2, s3, s4, s5⟩ := toS _ hb)
    | (go_at_call 16; (with_reducible refine (cLL _ ?_).mono ?_); assumption; rintro e w' ⟨A9, k9, rfl, h9, hb⟩; obtain ⟨s0, s1, s2, s3, s4, s5⟩ := toS _ hb)
    | (go_at_call 15; (first | ((with_reducible refine (cS1 _ _ _ ?_ ?_).mono ?_); assumption; assumption; rintro e w' ⟨rfl, hb⟩; obtain ⟨s0, s1, s2, s3, s4, s5⟩ := toS _ hb) | ((with_reducible refine (cS2 _ ?_).mono ?_); assumption; rintro e w' ⟨rfl, hb⟩; obtain ⟨s0, s1, s2, s3, s4, s5⟩ := toS _ hb)))
    | (go_at_call 17; (with_reducible refine (cM _ ?_).mono ?_); assumption; rintro e w' ⟨rfl, hb⟩; obtain ⟨s0, s1, s2, s3, s4, s5⟩ := toS _ hb)
    | (go_at_call 18; (with_reducible refine (cLM _ ?_).mono ?_); assumption; rintro e w' ⟨rfl, hb⟩; obtain ⟨s0, s1, s2, s3, s4, s5⟩ := toS _ hb)
    | (go_at_call 19; (first | ((with_reducible refine (cSp _ ?_).mono ?_); assumption; rintro e w' ⟨rfl, hc⟩) | ((with_reducible refine (cSq _ ?_).mono ?_); assumption; rintro e w' ⟨rfl, hd⟩)))
    | (go_at_call 20; (with_reducible refine (cK _ ?_).mono ?_); assumption; rintro e w' ⟨rfl, hd⟩)
    | (go_at_call 21; (with_reducible refine (cAw _ ?_).mono ?_); assumption; rintro e w' ⟨rfl, hd⟩))
  go_ret
  exact ⟨rfl, fin _ (by assumption)⟩

end Go.Proofs.YtdaddlplpkmkmaaGreatDoor.P
