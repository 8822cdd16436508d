-- Made by a program of this work's own (wip/myprint.py) over the kit's print; leaves by hand.
import Derived.Test.YtilnamobmjngbaaDoorP0
import Derived.Test.YtilnamobmjngbaaDoorP16
import Derived.Test.YtilnamobmjngbaaDoorP17
import Derived.Test.YtilnamobmjngbaaDoorMg1
namespace Go.Proofs.YtilnamobmjngbaaDoor.P
open Go.RowKit Go.Proofs.YtilnamobmjngbaaDoorW.PrintWords Go.Proofs.YtilnamobmjngbaaDoorW.PrintLast Go.Proofs.YtilnamobmjngbaaDoorW.PrintMore
attribute [local go_sem] max2_int min2_int max_two min_two max_three min_three max_four min_four   -- for this text's walks alone
set_option linter.unusedVariables false
set_option linter.unusedSimpArgs false

-- HAND DiskFind.lean
-- IMPORT Derived.Test.YtilnamobmjngbaaDoorPlain
/-! ### disk_Find, by hand (over DiskPlace) -/
def disk_Find.f (k : Nat) (a0_0 : Int) (l0_1 : List (S72)) (a1 : ByteArray) : Option (ByteArray × Int × Int × Bool) :=
  if l0_1.length ≤ 1000000 then (if bsIs l0_1 a1 = true then ((disk_May.f k a0_0 l0_1).bind fun b => if b = true then some ((rd_T72 l0_1 (bsAt l0_1 a1 : Int)).f0, (rd_T72 l0_1 (bsAt l0_1 a1 : Int)).f1, (rd_T72 l0_1 (bsAt l0_1 a1 : Int)).f2, true) else some (⟨#[]⟩, 0, 0, false)) else some (⟨#[]⟩, 0, 0, false)) else none
theorem disk_Find.mono : ∀ a0 l0 a1 k, LeO (disk_Find.f k a0 l0 a1) (disk_Find.f (k + 1) a0 l0 a1) := fun a0 l0 a1 k => LeO.ite (LeO.ite (LeO.bind (disk_May.mono _ _ _) (fun _ => LeO.refl _)) (LeO.refl _)) (LeO.refl _)
abbrev dfD (t : Int) (v : Value) : Obj := .cells #[.int .i64 t, v] 28
abbrev dfF (a : ByteArray) (c t : Int) : Obj := .cells #[.string a, .int .i64 c, .int .i64 t] 72
theorem df_put {W : World} {g : Nat} {a : ByteArray} {c t : Int} (h : W.heap[g]? = some (dfF a c t)) (a' : ByteArray) (c' t' : Int) : (((W.setCell ⟨g, 0, none⟩ (.string a')).setCell ⟨g, 1, none⟩ (.int .i64 c')).setCell ⟨g, 2, none⟩ (.int .i64 t')).heap[g]? = some (dfF a' c' t') :=
  blk_put (cs := #[.string a', .int .i64 c', .int .i64 t]) (blk_put (cs := #[.string a', .int .i64 c, .int .i64 t]) (blk_put (cs := #[.string a, .int .i64 c, .int .i64 t]) h 0 _ rfl) 1 _ rfl) 2 _ rfl
set_option maxHeartbeats 8000000 in
set_option maxRecDepth 100000 in
theorem disk_Find.calls (k : Nat) (a0_0 : Int) (A0_1 : Option Addr) (c0_1 : Nat) (l0_1 : List (S72)) (a1 : ByteArray) (r1 : ByteArray) (r2 : Int) (r3 : Int) (r4 : Bool) (w : World) (hr0_1 : Kd.C k72 w A0_1 l0_1.length l0_1) (hc0_1 : l0_1.length ≤ c0_1) (h : disk_Find.f k a0_0 l0_1 a1 = some (r1, r2, r3, r4)) :
    Calls Tryd.prog 41 #[.agg #[.int .i64 a0_0, .slice A0_1 l0_1.length c0_1], .string a1] w fun e w' => e = .returned (.tuple #[.agg #[.string r1, .int .i64 r2, .int .i64 r3], .bool r4]) ∧ Below w.heap.size w w' := by
  have hu := Tryd.underlying72
  unfold disk_Find.f at h
  split at h
  case isFalse => cases h
  rename_i hl
  have b1 : Below w.heap.size w ((w.alloc (dfD a0_0 (.slice A0_1 l0_1.length c0_1))).alloc (dfF ⟨#[]⟩ 0 0)) := below_alloc (below_alloc (Below.refl _ _) _) _
  have F0 := heap_alloc_new w (dfD a0_0 (.slice A0_1 l0_1.length c0_1))
  have F1 := heap_alloc_new (w.alloc (dfD a0_0 (.slice A0_1 l0_1.length c0_1))) (dfF ⟨#[]⟩ 0 0)
  have F0 := (Below.heap_alloc (w.alloc (dfD a0_0 (.slice A0_1 l0_1.length c0_1))) (dfF ⟨#[]⟩ 0 0) w.heap.size (blk_lt F0)).trans F0
  simp only [World.size_alloc] at F1
  have c62 := dk_place w.heap.size a0_0 A0_1 c0_1 l0_1 a1 _ F0 (Kd.C_below hr0_1 b1) hl
  have F0 := Aside0.mk F0
  have F1 := Aside0.mk F1
  have B1 := Aside0.mk b1
  have HR := Aside0.mk hr0_1
  have HC := Aside0.mk hc0_1
  have hat := (bsL_le l0_1 a1 l0_1.length 0 l0_1.length (Nat.zero_le _) (Nat.le_refl _))
  have HI : bsIs l0_1 a1 = true → bsAt l0_1 a1 < l0_1.length := fun e => by
    unfold bsIs at e
    rw [Bool.and_eq_true] at e
    exact of_decide_eq_true e.1
  clear b1 hr0_1 hc0_1 hat
  go_enter Tryd.func41, Tryd.ntmps41
  go_wp2_with fail
  refine c62.mono ?_
  rintro e w2 ⟨rfl, B2⟩
  clear c62
  have X0 := (B2.block _ (blk_lt F0.out)).trans F0.out
  have X1 := (B2.block _ (blk_lt F1.out)).trans F1.out
  have E2 := Aside0.mk (below_then B1.out B1.out.size B2)
  have hne : w.heap.size + 1 ≠ w.heap.size := by omega
  clear B2 F0 F1
  have s0 : w2.cell? ⟨w.heap.size, 0, none⟩ = some (.int .i64 a0_0) := by rw [blk_cell X0]; rfl
  have s1 : w2.cell? ⟨w.heap.size, 1, none⟩ = some (.slice A0_1 l0_1.length c0_1) := by rw [blk_cell X0]; rfl
  have t0 : w2.cell? ⟨w.heap.size + 1, 0, none⟩ = some (.string ⟨#[]⟩) := by rw [blk_cell X1]; rfl
  have t1 : w2.cell? ⟨w.heap.size + 1, 1, none⟩ = some (.int .i64 0) := by rw [blk_cell X1]; rfl
  have t2 : w2.cell? ⟨w.heap.size + 1, 2, none⟩ = some (.int .i64 0) := by rw [blk_cell X1]; rfl
  cases hb : bsIs l0_1 a1 with
  | false =>
    rw [hb, if_neg (by simp)] at h
    have h5 := Option.some.inj h
    obtain ⟨rfl, rfl, rfl, rfl⟩ : (⟨#[]⟩ : ByteArray) = r1 ∧ (0 : Int) = r2 ∧ (0 : Int) = r3 ∧ false = r4 := by cases h5; exact ⟨rfl, rfl, rfl, rfl⟩
    have z0 := blk_frozen X1 0
    have z1 := blk_frozen X1 1
    have z2 := blk_frozen X1 2
    have X1 := Aside0.mk X1
    go_wp2
    refine bodyPost_ret (results_ct rfl _ _ (w.heap.size + 1) 72 _ (0, 0) _ rfl (df_put X1.out _ _ _) Tryd.underlying72 rfl (by kernel_rfl)) rfl ?_
    exact ⟨rfl, below_set (below_set (below_set E2.out (Nat.le_succ _)) (Nat.le_succ _)) (Nat.le_succ _)⟩
  | true =>
    rw [hb, if_pos rfl] at h
    obtain ⟨b, hm, h⟩ := Option.bind_eq_some_iff.1 h
    have hi := HI hb
    have hiz : (bsAt l0_1 a1 : Int) < (l0_1.length : Int) := by omega
    have cM := disk_May.calls k a0_0 A0_1 c0_1 l0_1 b w2 (Kd.C_below HR.out E2.out) HC.out hm
    obtain ⟨ad, hA, x0, x1, x2⟩ := at_T72 HR.out (bsAt l0_1 a1 : Int) (by omega) hiz
    subst hA
    clear HI hm
    go_wp2_with fail
    refine cM.mono ?_
    rintro e w3 ⟨rfl, B3⟩
    clear cM s0 s1 t0 t1 t2
    have Y0 := (B3.block _ (blk_lt X0)).trans X0
    have Y1 := (B3.block _ (blk_lt X1)).trans X1
    have E3 := Aside0.mk (below_then E2.out E2.out.size B3)
    replace x0 := (E3.out.cell (World.block_lt_of_cell? w _ x0)).trans x0
    replace x1 := (E3.out.cell (World.block_lt_of_cell? w _ x1)).trans x1
    replace x2 := (E3.out.cell (World.block_lt_of_cell? w _ x2)).trans x2
    simp only [Int.toNat_natCast] at x0 x1 x2
    have s0 : w3.cell? ⟨w.heap.size, 0, none⟩ = some (.int .i64 a0_0) := by rw [blk_cell Y0]; rfl
    have s1 : w3.cell? ⟨w.heap.size, 1, none⟩ = some (.slice (some ad) l0_1.length c0_1) := by rw [blk_cell Y0]; rfl
    have t0 : w3.cell? ⟨w.heap.size + 1, 0, none⟩ = some (.string ⟨#[]⟩) := by rw [blk_cell Y1]; rfl
    have t1 : w3.cell? ⟨w.heap.size + 1, 1, none⟩ = some (.int .i64 0) := by rw [blk_cell Y1]; rfl
    have t2 : w3.cell? ⟨w.heap.size + 1, 2, none⟩ = some (.int .i64 0) := by rw [blk_cell Y1]; rfl
    have z0 := blk_frozen Y1 0
    have z1 := blk_frozen Y1 1
    have z2 := blk_frozen Y1 2
    have V1 := Aside0.mk Y1
    clear X0 X1 Y0 Y1 B3
    cases b with
    | true =>
      rw [if_pos rfl] at h
      generalize rd_T72 l0_1 (bsAt l0_1 a1 : Int) = x at h x0 x1 x2
      have h5 := Option.some.inj h
      obtain ⟨rfl, rfl, rfl, rfl⟩ : x.f0 = r1 ∧ x.f1 = r2 ∧ x.f2 = r3 ∧ true = r4 := by cases h5; exact ⟨rfl, rfl, rfl, rfl⟩
      clear h h5
      go_wp2
      refine bodyPost_ret (results_ct rfl _ _ (w.heap.size + 1) 72 _ (0, 0) _ rfl (df_put V1.out _ _ _) Tryd.underlying72 rfl (by kernel_rfl)) rfl ?_
      exact ⟨rfl, below_set (below_set (below_set E3.out (Nat.le_succ _)) (Nat.le_succ _)) (Nat.le_succ _)⟩
    | false =>
      rw [if_neg (by simp)] at h
      have h5 := Option.some.inj h
      obtain ⟨rfl, rfl, rfl, rfl⟩ : (⟨#[]⟩ : ByteArray) = r1 ∧ (0 : Int) = r2 ∧ (0 : Int) = r3 ∧ false = r4 := by cases h5; exact ⟨rfl, rfl, rfl, rfl⟩
      clear h h5
      go_wp2
      refine bodyPost_ret (results_ct rfl _ _ (w.heap.size + 1) 72 _ (0, 0) _ rfl (df_put V1.out _ _ _) Tryd.underlying72 rfl (by kernel_rfl)) rfl ?_
      exact ⟨rfl, below_set (below_set (below_set E3.out (Nat.le_succ _)) (Nat.le_succ _)) (Nat.le_succ _)⟩

/-! ### command_mix: function 53 -/
def command_mix.f (a0 : Int) (a1 : Int) : Option (Int) := some (Int.tmod (wrap64 ((wrap64 (31 * a0)) + a1)) 2147483647)
set_option maxHeartbeats 8000000 in
set_option maxRecDepth 100000 in
theorem command_mix.calls (a0 : Int) (a1 : Int) (r : Int) (w : World) (h : command_mix.f a0 a1 = some r) :
  Calls Tryd.prog 53 #[.int .i64 a0, .int .i64 a1] w fun e w' => e = .returned (.int .i64 r) ∧ Drawn0 w w' := by
 have H : (some (Int.tmod (wrap64 ((wrap64 (31 * a0)) + a1)) 2147483647)) = some r := h
 clear h
 obtain rfl := Option.some.inj H
 go_enter Tryd.func53, Tryd.ntmps53
 go_wp2
 go_ret
 exact ⟨by first | rfl | (simp; done) | (simp [*]; done), by repeat (first | exact Drawn0.refl _ | apply Drawn0.step)⟩

end Go.Proofs.YtilnamobmjngbaaDoor.P
