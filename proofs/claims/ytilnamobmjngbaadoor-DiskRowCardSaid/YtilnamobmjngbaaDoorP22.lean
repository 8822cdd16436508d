-- Made by a program of this work's own (wip/myprint.py) over the kit's print; leaves by hand.
import Derived.Test.YtilnamobmjngbaaDoorP0
import Derived.Test.YtilnamobmjngbaaDoorWRepsOne
import Derived.Test.YtilnamobmjngbaaDoorP2
import Derived.Test.YtilnamobmjngbaaDoorP12
import Derived.Test.YtilnamobmjngbaaDoorP15
import Derived.Test.YtilnamobmjngbaaDoorP16
import Derived.Test.YtilnamobmjngbaaDoorP17
import Derived.Test.YtilnamobmjngbaaDoorP20
import Derived.Test.YtilnamobmjngbaaDoorPlain
namespace Go.Proofs.YtilnamobmjngbaaDoor.P
open Go.RowKit Go.Proofs.YtilnamobmjngbaaDoorW.PrintWords Go.Proofs.YtilnamobmjngbaaDoorW.PrintLast Go.Proofs.YtilnamobmjngbaaDoorW.PrintMore
attribute [local go_sem] max2_int min2_int max_two min_two max_three min_three max_four min_four   -- for this text's walks alone
set_option linter.unusedVariables false
set_option linter.unusedSimpArgs false

-- HAND Awake12.lean
-- IMPORT Derived.Test.YtilnamobmjngbaaDoorPlain
/-! ### cruciblelaw12_awake, by hand (over the words of DiskInsert, DiskRemove) -/
def cruciblelaw12_awake.f : Option Bool := some true
def aw_a2 : S72 := ⟨⟨#[97]⟩, 9, 2⟩
def aw_b1 : S72 := ⟨⟨#[98]⟩, 7, 1⟩
theorem aw1 : disk_Put.f 40 0 [] ⟨#[98]⟩ 7 = some (1, [aw_b1], 0) := by kernel_rfl
theorem aw2 : disk_Put.f 40 1 [aw_b1] ⟨#[97]⟩ 9 = some (2, [aw_a2, aw_b1], 0) := by kernel_rfl
theorem aw3 : disk_Remove.f 40 2 [aw_a2, aw_b1] ⟨#[98]⟩ = some (2, [aw_a2], 0) := by kernel_rfl
theorem aw4 : disk_Find.f 40 2 [aw_a2, aw_b1] ⟨#[98]⟩ = some (⟨#[98]⟩, 7, 1, true) := by kernel_rfl
theorem aw5 : disk_Find.f 40 2 [aw_a2] ⟨#[98]⟩ = some (⟨#[]⟩, 0, 0, false) := by kernel_rfl
theorem aw6 : disk_Remove.f 40 2 [aw_a2] ⟨#[98]⟩ = some (0, [], 1202) := by kernel_rfl
theorem aw7 : disk_Put.f 40 2 [aw_a2] ⟨#[47, 98]⟩ 9 = some (0, [], 1200) := by kernel_rfl
theorem aw8 : cruciblelaw0_SameDisk.f 40 2 [aw_a2, aw_b1] 2 [aw_a2, aw_b1] = some true := by kernel_rfl
theorem aw9 : cruciblelaw0_SameDisk.f 40 2 [aw_a2] 2 [aw_a2] = some true := by kernel_rfl
theorem aw10 : disk_May.f 40 2 [aw_a2, aw_b1] = some true := by kernel_rfl
/-- a box that holds a disk of these files -/
structure DkAt (W : World) (b : Nat) (t : Int) (A : Option Addr) (c : Nat) (l : List (S72)) : Prop where
  box : W.heap[b]? = some (drD t (.slice A l.length c))
  row : Kd.C k72 W A l.length l
  cap : l.length ≤ c
theorem DkAt.below {W W' : World} {b : Nat} {t : Int} {A : Option Addr} {c : Nat} {l : List (S72)} (h : DkAt W b t A c l) (hB : Below W.heap.size W W') : DkAt W' b t A c l :=
  ⟨(hB.block _ (blk_lt h.box)).trans h.box, Kd.C_below h.row hB, h.cap⟩
theorem dk_new {W : World} {base : Nat} {ok : Nat → Prop} {A : Option Addr} {c : Nat} {l : List (S72)} (t : Int) (h : Kd.R k72 72 W base ok (.slice A l.length c) l) : DkAt (W.alloc (drD t (.slice A l.length c))) W.heap.size t A c l :=
  ⟨heap_alloc_new W _, Kd.C_below (Kd.R_reads' h).2.2 (below_alloc (Below.refl _ _) _), (Kd.R_reads' h).2.1⟩
theorem dk_lit (W : World) (l : List (S72)) (hl : l.length ≤ 1000) : Kd.C k72 (W.alloc (.cells (rowF l).toArray 72)) (some ⟨W.heap.size, 0, none⟩) l.length l :=
  (Kd.R_reads' (rF_shut (base := 0) (ok := fun _ => True) (xs := l) (c := l.length) (heap_alloc_new W _) (by simp [rowF_len]) (by rw [List.take_of_length_le (by simp [rowF_len])]) (Nat.zero_le _) (Nat.le_refl _) (by unfold maxLen; omega) trivial)).2.2
theorem dk_nilC (W : World) : Kd.C k72 W none 0 [] := (Kd.R_reads' (Kd.R_nil k72 72 W 0 (fun _ => True))).2.2
set_option maxHeartbeats 8000000 in
set_option maxRecDepth 100000 in
theorem cruciblelaw12_awake.calls (r : Bool) (w : World) (h : cruciblelaw12_awake.f = some r) :
    Calls Tryd.prog 45 #[] w fun e w' => e = .returned (.bool r) ∧ Below w.heap.size w w' := by
  obtain rfl : true = r := Option.some.inj h
  clear h
  have hu := Tryd.underlying72
  have hu2 := Tryd.underlying28
  obtain ⟨l1, hl1⟩ : ∃ l, l = [aw_b1] := ⟨_, rfl⟩
  obtain ⟨l2, hl2⟩ : ∃ l, l = [aw_a2, aw_b1] := ⟨_, rfl⟩
  obtain ⟨l3, hl3⟩ : ∃ l, l = [aw_a2] := ⟨_, rfl⟩
  obtain ⟨l0, hl0⟩ : ∃ l : List (S72), l = [] := ⟨_, rfl⟩
  have g1 := aw1; have g2 := aw2; have g3 := aw3; have g4 := aw4; have g5 := aw5; have g6 := aw6; have g7 := aw7; have g8 := aw8; have g9 := aw9; have g10 := aw10
  rw [← hl2] at g2 g3 g4 g8 g10
  rw [← hl1] at g1 g2
  rw [← hl3] at g3 g5 g6 g7 g9
  rw [← hl0] at g6 g7
  have c1 := disk_Put.calls 40 0 none 0 [] ⟨#[98]⟩ 7 _ _ _ w (dk_nilC w) (Nat.le_refl _) g1
  have G2 := Aside0.mk g2; have G3 := Aside0.mk g3; have G4 := Aside0.mk g4; have G5 := Aside0.mk g5; have G6 := Aside0.mk g6; have G7 := Aside0.mk g7; have G8 := Aside0.mk g8; have G9 := Aside0.mk g9; have G10 := Aside0.mk g10
  have HL2 := Aside0.mk hl2; have HL3 := Aside0.mk hl3
  clear g1 g2 g3 g4 g5 g6 g7 g8 g9 g10 hl0 hl1 hl2 hl3
  go_enter Tryd.func45, Tryd.ntmps45
  go_wp2_with fail
  refine c1.mono ?_
  clear c1
  rintro e w1 ⟨v1, rfl, hR1, B1⟩
  obtain ⟨A1, k1, rfl⟩ := Kd.R_slice hR1
  obtain ⟨W1, hW1⟩ : ∃ W, W = w1.alloc (drD 1 (.slice A1 l1.length k1)) := ⟨_, rfl⟩
  have D1 : Aside0 (DkAt W1 w1.heap.size 1 A1 k1 l1) := ⟨by rw [hW1]; exact dk_new 1 hR1⟩
  have N1 : Below w.heap.size w W1 := by rw [hW1]; exact B1.alloc B1.size _
  have HW1 := Aside0.mk hW1
  clear hR1 B1 hW1
  have E1 := Aside0.mk (N1)
  clear N1
  go_upto_region 2 with fail
  rw [← HW1.out]
  obtain ⟨x0, x1⟩ := dr_cells D1.out.box
  have c2 := disk_Put.calls 40 1 A1 k1 l1 ⟨#[97]⟩ 9 _ _ _ W1 D1.out.row D1.out.cap G2.out
  go_wp2_with fail
  refine c2.mono ?_
  clear c2 x0 x1 D1
  rintro e w2 ⟨v2, rfl, hR2, B2⟩
  obtain ⟨A2, k2, rfl⟩ := Kd.R_slice hR2
  obtain ⟨W2, hW2⟩ : ∃ W, W = w2.alloc (drD 2 (.slice A2 l2.length k2)) := ⟨_, rfl⟩
  have D2 : Aside0 (DkAt W2 w2.heap.size 2 A2 k2 l2) := ⟨by rw [hW2]; exact dk_new 2 hR2⟩
  have N2 : Below W1.heap.size W1 W2 := by rw [hW2]; exact B2.alloc B2.size _
  have HW2 := Aside0.mk hW2
  clear hR2 B2 hW2
  have E2 := Aside0.mk (below_then E1.out E1.out.size N2)
  clear N2
  go_upto_region 3 with fail
  rw [← HW2.out]
  obtain ⟨x0, x1⟩ := dr_cells D2.out.box
  have c3 := disk_Remove.calls 40 2 A2 k2 l2 ⟨#[98]⟩ _ _ _ W2 D2.out.row D2.out.cap G3.out
  go_wp2_with fail
  refine c3.mono ?_
  clear c3 x0 x1
  rintro e w3 ⟨v3, rfl, hR3, B3⟩
  obtain ⟨A3, k3, rfl⟩ := Kd.R_slice hR3
  obtain ⟨W3, hW3⟩ : ∃ W, W = w3.alloc (drD 2 (.slice A3 l3.length k3)) := ⟨_, rfl⟩
  have D3 : Aside0 (DkAt W3 w3.heap.size 2 A3 k3 l3) := ⟨by rw [hW3]; exact dk_new 2 hR3⟩
  have N3 : Below W2.heap.size W2 W3 := by rw [hW3]; exact B3.alloc B3.size _
  have HW3 := Aside0.mk hW3
  clear hR3 B3 hW3
  have E3 := Aside0.mk (below_then E2.out E2.out.size N3)
  replace D2 := Aside0.mk (D2.out.below N3)
  clear N3
  go_upto_region 4 with fail
  rw [← HW3.out]
  obtain ⟨x0, x1⟩ := dr_cells D2.out.box
  have c4 := disk_Find.calls 40 2 A2 k2 l2 ⟨#[98]⟩ _ _ _ _ W3 D2.out.row D2.out.cap G4.out
  go_wp2_with fail
  refine c4.mono ?_
  clear c4 x0 x1
  rintro e w4 ⟨rfl, B4⟩
  obtain ⟨W4, hW4⟩ : ∃ W, W = w4.alloc (.cells #[.string ⟨#[98]⟩, .int .i64 7, .int .i64 1] 72) := ⟨_, rfl⟩
  have F4 : Aside0 (W4.heap[w4.heap.size]? = some (.cells #[.string ⟨#[98]⟩, .int .i64 7, .int .i64 1] 72 (0, 0))) := ⟨by rw [hW4]; exact heap_alloc_new w4 _⟩
  have N4 : Below W3.heap.size W3 W4 := by rw [hW4]; exact B4.alloc B4.size _
  have HW4 := Aside0.mk hW4
  clear B4 hW4
  have E4 := Aside0.mk (below_then E3.out E3.out.size N4)
  replace D2 := Aside0.mk (D2.out.below N4)
  replace D3 := Aside0.mk (D3.out.below N4)
  clear N4
  go_upto_region 5 with fail
  rw [← HW4.out]
  obtain ⟨x0, x1⟩ := dr_cells D3.out.box
  have c5 := disk_Find.calls 40 2 A3 k3 l3 ⟨#[98]⟩ _ _ _ _ W4 D3.out.row D3.out.cap G5.out
  go_wp2_with fail
  refine c5.mono ?_
  clear c5 x0 x1
  rintro e w5 ⟨rfl, B5⟩
  obtain ⟨W5, hW5⟩ : ∃ W, W = w5.alloc (.cells #[.string ⟨#[]⟩, .int .i64 0, .int .i64 0] 72) := ⟨_, rfl⟩
  have N5 : Below W4.heap.size W4 W5 := by rw [hW5]; exact B5.alloc B5.size _
  replace F4 := Aside0.mk ((N5.block _ (blk_lt F4.out)).trans F4.out)
  have HW5 := Aside0.mk hW5
  clear B5 hW5
  have E5 := Aside0.mk (below_then E4.out E4.out.size N5)
  replace D2 := Aside0.mk (D2.out.below N5)
  replace D3 := Aside0.mk (D3.out.below N5)
  clear N5
  go_upto_region 6 with fail
  rw [← HW5.out]
  obtain ⟨x0, x1⟩ := dr_cells D3.out.box
  have c6 := disk_Remove.calls 40 2 A3 k3 l3 ⟨#[98]⟩ _ _ _ W5 D3.out.row D3.out.cap G6.out
  go_wp2_with fail
  refine c6.mono ?_
  clear c6 x0 x1
  rintro e w6 ⟨v6, rfl, hR6, B6⟩
  obtain ⟨A6, k6, rfl⟩ := Kd.R_slice hR6
  obtain ⟨W6, hW6⟩ : ∃ W, W = w6.alloc (drD 0 (.slice A6 l0.length k6)) := ⟨_, rfl⟩
  have D6 : Aside0 (DkAt W6 w6.heap.size 0 A6 k6 l0) := ⟨by rw [hW6]; exact dk_new 0 hR6⟩
  have N6 : Below W5.heap.size W5 W6 := by rw [hW6]; exact B6.alloc B6.size _
  have HW6 := Aside0.mk hW6
  clear hR6 B6 hW6
  replace F4 := Aside0.mk ((N6.block _ (blk_lt F4.out)).trans F4.out)
  have E6 := Aside0.mk (below_then E5.out E5.out.size N6)
  replace D2 := Aside0.mk (D2.out.below N6)
  replace D3 := Aside0.mk (D3.out.below N6)
  clear N6
  go_upto_region 7 with fail
  rw [← HW6.out]
  obtain ⟨x0, x1⟩ := dr_cells D3.out.box
  have c7 := disk_Put.calls 40 2 A3 k3 l3 ⟨#[47, 98]⟩ 9 _ _ _ W6 D3.out.row D3.out.cap G7.out
  go_wp2_with fail
  refine c7.mono ?_
  clear c7 x0 x1
  rintro e w7 ⟨v7, rfl, hR7, B7⟩
  obtain ⟨A7, k7, rfl⟩ := Kd.R_slice hR7
  obtain ⟨W7, hW7⟩ : ∃ W, W = w7.alloc (drD 0 (.slice A7 l0.length k7)) := ⟨_, rfl⟩
  have D7 : Aside0 (DkAt W7 w7.heap.size 0 A7 k7 l0) := ⟨by rw [hW7]; exact dk_new 0 hR7⟩
  have N7 : Below W6.heap.size W6 W7 := by rw [hW7]; exact B7.alloc B7.size _
  have HW7 := Aside0.mk hW7
  clear hR7 B7 hW7
  replace F4 := Aside0.mk ((N7.block _ (blk_lt F4.out)).trans F4.out)
  have E7 := Aside0.mk (below_then E6.out E6.out.size N7)
  replace D2 := Aside0.mk (D2.out.below N7)
  replace D3 := Aside0.mk (D3.out.below N7)
  clear N7
  go_upto_region 8 with fail
  rw [← HW7.out]
  obtain ⟨x0, x1⟩ := dr_cells D2.out.box
  have g8 : cruciblelaw0_SameDisk.f 40 2 l2 2 [aw_a2, aw_b1] = some true := by rw [HL2.out]; exact aw8
  have g9 : cruciblelaw0_SameDisk.f 40 2 l3 2 [aw_a2] = some true := by rw [HL3.out]; exact aw9
  have BA := below_alloc (Below.refl W7.heap.size W7) (.cells #[.string ⟨#[97]⟩, .int .i64 9, .int .i64 2, .string ⟨#[98]⟩, .int .i64 7, .int .i64 1] 72)
  have c8 := cruciblelaw0_SameDisk.calls 40 2 A2 k2 l2 2 (some ⟨W7.heap.size, 0, none⟩) 2 [aw_a2, aw_b1] true (W7.alloc (.cells #[.string ⟨#[97]⟩, .int .i64 9, .int .i64 2, .string ⟨#[98]⟩, .int .i64 7, .int .i64 1] 72)) (Kd.C_below D2.out.row BA) D2.out.cap (dk_lit W7 [aw_a2, aw_b1] (by simp)) (Nat.le_refl _) g8
  have G9 := Aside0.mk g9
  have BA' := Aside0.mk BA
  clear g8 g9 BA
  go_wp2_with fail
  refine c8.mono ?_
  clear c8 x0 x1
  rintro e w8 ⟨rfl, B8⟩
  have N8 := below_then BA'.out BA'.out.size B8
  replace D2 := Aside0.mk (D2.out.below N8)
  replace D3 := Aside0.mk (D3.out.below N8)
  replace F4 := Aside0.mk ((N8.block _ (blk_lt F4.out)).trans F4.out)
  have E8 := Aside0.mk (below_then E7.out E7.out.size N8)
  clear N8 B8 BA'
  obtain ⟨x0, x1⟩ := dr_cells D3.out.box
  go_wp2_with (go_at_call 25; refine (cruciblelaw0_Num.calls _ _ _ rfl).mono ?_; rintro e w9 ⟨rfl, hd⟩; obtain ⟨nd, hd⟩ := hd.out; subst hd)
  have c9 := fun nd : Nat => cruciblelaw0_SameDisk.calls 40 2 A3 k3 l3 2 (some ⟨w8.heap.size, 0, none⟩) 1 [aw_a2] true ((w8.drewN nd).alloc (.cells #[.string ⟨#[97]⟩, .int .i64 9, .int .i64 2] 72)) (Kd.C_below D3.out.row (below_alloc (pw_below_drewN (Below.refl _ _) _) _)) D3.out.cap (dk_lit (w8.drewN nd) [aw_a2] (by simp)) (Nat.le_refl _) G9.out
  refine (c9 _).mono ?_
  clear c9 x0 x1
  rintro e w9 ⟨rfl, B9⟩
  have N9 : Below w8.heap.size w8 w9 := below_then (below_alloc (pw_below_drewN (Below.refl w8.heap.size w8) _) _) (below_alloc (pw_below_drewN (Below.refl w8.heap.size w8) _) _).size B9
  replace D2 := Aside0.mk (D2.out.below N9)
  replace F4 := Aside0.mk ((N9.block _ (blk_lt F4.out)).trans F4.out)
  have E9 := Aside0.mk (below_then E8.out E8.out.size N9)
  clear N9 B9
  have f1 : w9.cell? ⟨w4.heap.size, 1, none⟩ = some (.int .i64 7) := by rw [blk_cell F4.out]; rfl
  obtain ⟨x0, x1⟩ := dr_cells D2.out.box
  go_wp2_with (go_at_call 25; refine (cruciblelaw0_Num.calls _ _ _ rfl).mono ?_; rintro e w10 ⟨rfl, hd⟩; obtain ⟨nd, hd⟩ := hd.out; subst hd)
  have c10 := fun nd : Nat => disk_May.calls 40 2 A2 k2 l2 true (w9.drewN nd) (Kd.C_below D2.out.row (pw_below_drewN (Below.refl _ _) _)) D2.out.cap G10.out
  refine (c10 _).mono ?_
  clear c10 x0 x1
  rintro e w10 ⟨rfl, B10⟩
  have E10 := Aside0.mk (below_then (pw_below_drewN E9.out _) (pw_below_drewN E9.out _).size B10)
  clear B10
  go_wp2
  go_ret
  exact ⟨rfl, E10.out⟩

end Go.Proofs.YtilnamobmjngbaaDoor.P
