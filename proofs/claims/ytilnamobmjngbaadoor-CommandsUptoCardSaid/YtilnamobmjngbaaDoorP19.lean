-- Made by a program of this work's own (wip/myprint.py) over the kit's print; leaves by hand.
import Derived.Test.YtilnamobmjngbaaDoorP0
import Derived.Test.YtilnamobmjngbaaDoorP7
import Derived.Test.YtilnamobmjngbaaDoorP13
import Derived.Test.YtilnamobmjngbaaDoorP16
import Derived.Test.YtilnamobmjngbaaDoorP18
import Derived.Lib.AppendZerosOnto
import Derived.Lib.SliceRun
import Derived.Lib.Walk
import Derived.Test.YtilnamobmjngbaaDoorMg1
namespace Go.Proofs.YtilnamobmjngbaaDoor.P
open Go.RowKit Go.Proofs.YtilnamobmjngbaaDoorW.PrintWords Go.Proofs.YtilnamobmjngbaaDoorW.PrintLast Go.Proofs.YtilnamobmjngbaaDoorW.PrintMore
attribute [local go_sem] max2_int min2_int max_two min_two max_three min_three max_four min_four   -- for this text's walks alone
set_option linter.unusedVariables false
set_option linter.unusedSimpArgs false

-- HANDBIG CommandRun.lean
-- IMPORT Derived.Test.YtilnamobmjngbaaDoorPlain
-- IMPORT Derived.Lib.AppendZerosOnto
-- IMPORT Derived.Lib.SliceRun
-- IMPORT Derived.Lib.Walk
/-! ### command_Run, by hand -/
theorem grow_zero.calls (w : World) : Calls Tryd.prog 73 #[.slice none 0 0, .int .i64 0] w fun e w' => e = .returned (.slice none 0 0) ∧ w' = w := by
  go_enter Tryd.func73, Tryd.ntmps73
  go_wp2
  go_ret
  exact ⟨rfl, rfl⟩
set_option maxHeartbeats 4000000 in
theorem grow_some.calls (n : Nat) (w : World) (h0 : 0 < n) (hn : n ≤ 3000) : Calls Tryd.prog 73 #[.slice none 0 0, .int .i64 n] w fun e w' => e = .returned (.slice (some ⟨w.heap.size, 0, none⟩) 0 (grownCap w n 0 9)) ∧ w' = w.drew.alloc (.cells (Builtin.zeroCells (Value.string ⟨#[]⟩).cells n ++ Builtin.zeroCells (Value.string ⟨#[]⟩).cells (grownCap w n 0 9 - n)) 9) := by
  obtain ⟨i0, hi, hzz⟩ := Option.map_eq_some_iff.1 info9
  simp only [Prod.mk.injEq] at hzz
  obtain ⟨hz0, hz1, hz2⟩ := hzz
  have hrz : ∀ ty, (Builtin.append_ #[23, 3] ty #[.slice none 0 0, .int .i64 (n : Int)]).run Tryd.prog w = _ := fun ty =>
    Lib.run_append_nil_zeros w 23 3 ty 9 i0 (.string ⟨#[]⟩) .i64 .i64 Tryd.underlying23 Tryd.underlying3 hi hz0 n h0 (by omega) (by omega) (by rw [hz2]; omega)
  have hGn : n ≤ grownCap w n 0 9 := grownCap_ge w _ _ _
  have hG63 : grownCap w n 0 9 ≤ 9223372036854775807 := by
    have := grownCap_le_maxLen w n 0 9 (by unfold maxLen; omega)
    unfold maxLen at this
    omega
  generalize grownCap w n 0 9 = G at hrz hGn hG63 ⊢
  have h1 : ¬ ((n : Int) < 0) := by omega
  have h2 : (n : Int) > 0 := by omega
  clear hi hz0 hz1 hz2
  go_enter Tryd.func73, Tryd.ntmps73
  go_wp2_with (at_builtin; refine Lib.wpList_append_run _ rfl _ _ _ _ rfl _ _ rfl rfl _ _ (hrz _) ?_)
  go_ret
  exact ⟨rfl, rfl⟩
theorem grow_any.calls (n : Nat) (w : World) (hn : n ≤ 3000) : Calls Tryd.prog 73 #[.slice none 0 0, .int .i64 n] w fun e w' => ∃ v, e = .returned v ∧ Kd.R Kd.string 9 w' w.heap.size (fun _ => True) v [] ∧ Below w.heap.size w w' := by
  rcases Nat.eq_zero_or_pos n with rfl | h0
  · exact (grow_zero.calls w).mono fun e w' ⟨he, hw⟩ => ⟨_, he, Kd.R_nil _ _ _ _ _, by rw [hw]; exact Below.refl _ _⟩
  · refine (grow_some.calls n w h0 hn).mono fun e w' ⟨he, hw⟩ => ⟨_, he, ?_, by rw [hw]; exact below_alloc (below_drew (Below.refl _ _)) _⟩
    have hGn : n ≤ grownCap w n 0 9 := grownCap_ge w _ _ _
    have hG := grownCap_le_maxLen w n 0 9 (by unfold maxLen; omega)
    generalize grownCap w n 0 9 = G at hGn hG he hw ⊢
    have hb := heap_alloc_new w.drew (.cells (Builtin.zeroCells (Value.string ⟨#[]⟩).cells n ++ Builtin.zeroCells (Value.string ⟨#[]⟩).cells (G - n)) 9)
    rw [← hw] at hb
    refine Kd.R_of_own ⟨by simp [encs], .inr ⟨w.heap.size, G, _, rfl, Nat.le_refl _, hb, Nat.zero_le _, hG, ?_, by simp [encs]⟩⟩ (fun _ _ => trivial)
    simp [size_zeroCells, Value.cells]
    omega
def cat3 (L : Nat → List ByteArray) : Nat → List ByteArray
  | 0 => []
  | j + 1 => cat3 L j ++ L j
theorem cat3_len (L : Nat → List ByteArray) (hl : ∀ j, j < 3 → (L j).length ≤ 1000) : ∀ j, j ≤ 3 → (cat3 L j).length ≤ 1000 * j
  | 0, _ => by simp [cat3]
  | j + 1, h => by
    have := cat3_len L hl j (by omega)
    have := hl j (by omega)
    rw [cat3, List.length_append]
    omega
set_option maxHeartbeats 4000000 in
theorem concat3.calls (g : Nat) (A : Nat → Option Addr) (c : Nat → Nat) (L : Nat → List ByteArray) (w : World) (hb : w.heap[g]? = some (.cells #[.slice (A 0) (L 0).length (c 0), .slice (A 1) (L 1).length (c 1), .slice (A 2) (L 2).length (c 2)] 23 (0, 0))) (hr : ∀ j, j < 3 → Kd.C Kd.string w (A j) (L j).length (L j)) (hl : ∀ j, j < 3 → (L j).length ≤ 1000) :
    Calls Tryd.prog 54 #[.slice (some ⟨g, 0, none⟩) 3 3] w fun e w' => ∃ v, e = .returned v ∧ Kd.R Kd.string 9 w' w.heap.size (fun _ => True) v (cat3 L 3) ∧ Below w.heap.size w w' := by
  have HC : Aside0 (∀ j, j < 3 → w.cell? ⟨g, j, none⟩ = some (.slice (A j) (L j).length (c j))) := ⟨fun j hj => by
    rw [blk_cell hb j]
    match j, hj with
    | 0, _ => rfl | 1, _ => rfl | 2, _ => rfl | j + 3, h => exact absurd h (by omega)⟩
  have HR := Aside0.mk hr
  have HL := Aside0.mk hl
  have HT := Aside0.mk (cat3_len L hl)
  clear hb hr hl
  go_enter Tryd.func54, Tryd.ntmps54
  go_wp2
  go_loop [3, 11] (fun s3 s11 => ∃ d : Nat, d ≤ 3 ∧ s11 = .int .i64 (d : Int) ∧ s3 = .int .i64 ((cat3 L d).length : Int)) (fun _ i => 3 - (intOf i).toNat)
  case atStart => exact ⟨0, Nat.zero_le _, rfl, rfl⟩
  case round =>
    obtain ⟨d, hd, rfl, rfl⟩ := hrel
    by_cases hlt : d < 3
    · have hcell := HC.out d hlt
      have h1 := HL.out d hlt
      have h2 := HT.out d hd
      have h3 : (cat3 L (d + 1)).length = (cat3 L d).length + (L d).length := by rw [cat3, List.length_append]
      have hz : (d : Int) < 3 := by omega
      have H3 := Aside0.mk h3
      clear h3
      generalize (L d).length = n at hcell h1 H3
      generalize (cat3 L d).length = m at h2 H3 ⊢
      have hn : ¬ ((m : Int) + (n : Int) < 0) := by omega
      go_wp2
      go_round
      case rel => exact ⟨d + 1, by omega, by go_num, by rw [H3.out]; go_num⟩
      case measure => simp [intOf]; omega
    · obtain rfl : d = 3 := by omega
      have h2 := HT.out 3 (Nat.le_refl _)
      have cG := grow_any.calls (cat3 L 3).length w h2
      clear hd hlt
      go_wp2_with fail
      refine cG.mono ?_
      rintro e w1 ⟨v, rfl, hR, B1⟩
      clear cG h2
      have HV := Aside0.mk hR
      have HB := Aside0.mk B1
      clear hR B1
      go_wp2
      go_loopg [6, 27] 3 (fun gg s6 s27 wr => ∃ d : Nat, d ≤ 3 ∧ 3 - d ≤ gg ∧ s27 = .int .i64 (d : Int) ∧ Aside0 (Kd.R Kd.string 9 wr w.heap.size (fun _ => True) s6 (cat3 L d)) ∧ Aside0 (Below w.heap.size w wr))
      case atStart => exact ⟨0, Nat.zero_le _, Nat.le_refl _, rfl, HV, HB⟩
      case round =>
        clear HV HB
        obtain ⟨d, hd, hgg, rfl, HV, HB⟩ := hrel
        by_cases hlt : d < 3
        · have hcell := (HB.out.cell (World.block_lt_of_cell? w _ (HC.out d hlt))).trans (HC.out d hlt)
          have hz : (d : Int) < 3 := by omega
          have RD := Aside0.mk (Kd.C_below (HR.out d hlt) HB.out)
          have h1 := HL.out d hlt
          have h2 := HT.out d hd
          have hsum := Aside0.mk (show ((cat3 L d).length + (L d).length) * 16 ≤ 140737488355328 by omega)
          have hcat := Aside0.mk (show cat3 L d ++ L d = cat3 L (d + 1) from rfl)
          generalize hn : (L d).length = n at hcell RD hsum
          have HN := Aside0.mk hn
          clear h1 h2 hn
          go_wp2_with (at_builtin; refine Kd.R_append_row Value.string ByteArray.empty (w0 := w) w.heap.size rfl (.tmp 31) (.tmp 32) 23 9 (.string ⟨#[]⟩) 16 rfl Tryd.underlying23 info9 rfl (by omega) _ (cat3 L d) (L d) (A d) n (c d) (fun _ => True) rfl rfl (fun _ _ => trivial) HV.out RD.out HB.out HB.out.size hsum.out ?_; intro v1 w2 ho hb hg hat; clear hg hat)
          go_roundg (3 - (d + 1))
          case measure => omega
          case rel => exact ⟨d + 1, by omega, Nat.le_refl _, by go_num, ⟨ho⟩, ⟨hb⟩⟩
        · obtain rfl : d = 3 := by omega
          clear hd hlt
          go_wp2
          go_ret
          exact ⟨_, rfl, HV.out, HB.out⟩
theorem run_fld (a b c : Value) (w : World) : (Instr.field 33 (.agg #[a, b, c]) 2).run Tryd.prog w = .ok c w := by kernel_rfl
attribute [local go_sem] run_fld
def crn_mix (h x : Int) : Int := Int.tmod (wrap64 ((wrap64 (31 * h)) + x)) 2147483647
def crn_bytes (h : Int) : List Int → Int
  | [] => h
  | b :: bs => crn_bytes (crn_mix h b) bs
def crn_files (k : Nat) (t : Int) (l : List (S72)) (h : Int) : List ByteArray → Option (Option Int)
  | [] => some (some h)
  | s :: ss => (disk_Find.f k t l s).bind fun x => if x.2.2.2 = true then crn_files k t l (crn_mix h x.2.1) ss else some none
theorem crn_files_mono (k : Nat) (t : Int) (l : List (S72)) : ∀ ss h, LeO (crn_files k t l h ss) (crn_files (k + 1) t l h ss)
  | [], h => LeO.refl _
  | s :: ss, h => LeO.bind (disk_Find.mono _ _ _ _) (fun _ => LeO.ite (crn_files_mono k t l ss _) (LeO.refl _))
def crn_outs (h : Int) (n : Nat) : List Int := (List.range n).map fun (i : Nat) => crn_mix h (i : Int)
theorem crn_outs_succ (h : Int) (n : Nat) : crn_outs h (n + 1) = crn_outs h n ++ [crn_mix h (n : Int)] := by
  unfold crn_outs
  rw [List.range_succ, List.map_append, List.map_cons, List.map_nil]
theorem crn_outs_len (h : Int) (n : Nat) : (crn_outs h n).length = n := by simp [crn_outs]
def crn_end (k : Nat) (l0 : List (S33)) (cmd : ByteArray) (n : Nat) : Option Int → Option (List Int × Int)
  | none => some ([], 1801)
  | some h => (command_Action.f k l0 cmd).bind fun a => if a.2.2 = true then some ([], 1801) else some (crn_outs h n, 0)
theorem crn_end_mono (k : Nat) (l0 : List (S33)) (cmd : ByteArray) (n : Nat) : ∀ o, LeO (crn_end k l0 cmd n o) (crn_end (k + 1) l0 cmd n o)
  | none => LeO.refl _
  | some h => LeO.bind (command_Action.mono _ _ _) (fun _ => LeO.refl _)
def command_Run.f (k : Nat) (l0 : List (S33)) (l1_0 l1_1 l1_2 l1_3 : List ByteArray) (cmd : ByteArray) (dep : Bool) (pool : ByteArray) (t : Int) (l : List (S72)) : Option (List Int × Int) :=
  (command_Reads.f k l0 l1_0 l1_1 l1_2 l1_3 cmd dep pool).bind fun rd => if rd.2 = 0 then ((disk_May.f k t l).bind fun m => if m = true then
    (if (l1_0.length ≤ 1000 ∧ l1_1.length ≤ 1000) ∧ (l1_2.length ≤ 1000 ∧ rd.1.length ≤ 1000) ∧ cmd.size ≤ 1000000 then
      (crn_files k t l (crn_bytes 0 (bytesOf cmd)) (l1_1 ++ l1_2 ++ rd.1)).bind fun o => crn_end k l0 cmd l1_0.length o
     else none) else some ([], 1800)) else some ([], 1800)
theorem command_Run.mono : ∀ l0 l1_0 l1_1 l1_2 l1_3 cmd dep pool t l k, LeO (command_Run.f k l0 l1_0 l1_1 l1_2 l1_3 cmd dep pool t l) (command_Run.f (k + 1) l0 l1_0 l1_1 l1_2 l1_3 cmd dep pool t l) := fun l0 l1_0 l1_1 l1_2 l1_3 cmd dep pool t l k =>
  LeO.bind (command_Reads.mono _ _ _ _ _ _ _ _ _) (fun _ => LeO.ite (LeO.bind (disk_May.mono _ _ _) (fun _ => LeO.ite (LeO.ite (LeO.bind (crn_files_mono _ _ _ _ _) (fun _ => crn_end_mono _ _ _ _ _)) (LeO.none _)) (LeO.refl _))) (LeO.refl _))
theorem crn_drop (xs : List Int) (i : Nat) (h : i < xs.length) : xs.drop i = rd xs (i : Int) :: xs.drop (i + 1) := by
  rw [List.drop_eq_getElem_cons h]
  congr 1
  simp [rd, List.getD_eq_getElem?_getD, List.getElem?_eq_getElem h]
theorem crn_dropS (xs : List ByteArray) (i : Nat) (h : i < xs.length) : xs.drop i = rdOf ByteArray.empty xs (i : Int) :: xs.drop (i + 1) := by
  rw [List.drop_eq_getElem_cons h]
  congr 1
  simp [rdOf, h]
def crn_L (a b c : List ByteArray) : Nat → List ByteArray
  | 0 => a
  | 1 => b
  | _ => c
theorem crn_cat (a b c : List ByteArray) : cat3 (crn_L a b c) 3 = a ++ b ++ c := by simp [cat3, crn_L]
set_option maxHeartbeats 16000000 in
set_option maxRecDepth 100000 in
theorem command_Run.calls (k : Nat) (A0 : Option Addr) (c0 : Nat) (l0 : List (S33)) (A1_0 : Option Addr) (c1_0 : Nat) (l1_0 : List ByteArray) (A1_1 : Option Addr) (c1_1 : Nat) (l1_1 : List ByteArray) (A1_2 : Option Addr) (c1_2 : Nat) (l1_2 : List ByteArray) (A1_3 : Option Addr) (c1_3 : Nat) (l1_3 : List ByteArray) (a1_4 : ByteArray) (a1_5 : Bool) (a1_6 : ByteArray) (a2_0 : Int) (A2_1 : Option Addr) (c2_1 : Nat) (l2_1 : List (S72)) (r1 : List Int) (r2 : Int) (w : World) (hr0 : Kd.C k33 w A0 l0.length l0) (hc0 : l0.length ≤ c0) (hr1_0 : Kd.C Kd.string w A1_0 l1_0.length l1_0) (hc1_0 : l1_0.length ≤ c1_0) (hr1_1 : Kd.C Kd.string w A1_1 l1_1.length l1_1) (hc1_1 : l1_1.length ≤ c1_1) (hr1_2 : Kd.C Kd.string w A1_2 l1_2.length l1_2) (hc1_2 : l1_2.length ≤ c1_2) (hr1_3 : Kd.C Kd.string w A1_3 l1_3.length l1_3) (hc1_3 : l1_3.length ≤ c1_3) (hr2_1 : Kd.C k72 w A2_1 l2_1.length l2_1) (hc2_1 : l2_1.length ≤ c2_1) (h : command_Run.f k l0 l1_0 l1_1 l1_2 l1_3 a1_4 a1_5 a1_6 a2_0 l2_1 = some (r1, r2)) :
    Calls Tryd.prog 22 #[.slice A0 l0.length c0, .agg #[.slice A1_0 l1_0.length c1_0, .slice A1_1 l1_1.length c1_1, .slice A1_2 l1_2.length c1_2, .slice A1_3 l1_3.length c1_3, .string a1_4, .bool a1_5, .string a1_6], .agg #[.int .i64 a2_0, .slice A2_1 l2_1.length c2_1]] w fun e w' => ∃ v0_ : Value, e = .returned (.tuple #[v0_, .int .i64 r2]) ∧ Kd.R (Kd.int .i64) 3 w' w.heap.size (fun _ => True) v0_ r1 ∧ Below w.heap.size w w' := by
  have hu := Tryd.underlying33
  have hu2 := Tryd.underlying72
  have hu3 := Tryd.underlying28
  have hu4 := Tryd.underlying25
  have kb := fun W => print_bytes (P := Tryd.prog) 9 70 5 Tryd.underlying9 Tryd.underlying70 Tryd.underlying5 a1_4 W
  obtain ⟨⟨rd1, rd2⟩, hRd, h⟩ := Option.bind_eq_some_iff.1 h
  have b1 : Below w.heap.size w ((w.alloc (rdE A1_0 A1_1 A1_2 A1_3 l1_0.length l1_1.length l1_2.length l1_3.length c1_0 c1_1 c1_2 c1_3 a1_4 a1_5 a1_6)).alloc (dfD a2_0 (.slice A2_1 l2_1.length c2_1))) := below_alloc (below_alloc (Below.refl _ _) _) _
  have F0 := heap_alloc_new w (rdE A1_0 A1_1 A1_2 A1_3 l1_0.length l1_1.length l1_2.length l1_3.length c1_0 c1_1 c1_2 c1_3 a1_4 a1_5 a1_6)
  have F1 := heap_alloc_new (w.alloc (rdE A1_0 A1_1 A1_2 A1_3 l1_0.length l1_1.length l1_2.length l1_3.length c1_0 c1_1 c1_2 c1_3 a1_4 a1_5 a1_6)) (dfD a2_0 (.slice A2_1 l2_1.length c2_1))
  have F0 := (Below.heap_alloc (w.alloc (rdE A1_0 A1_1 A1_2 A1_3 l1_0.length l1_1.length l1_2.length l1_3.length c1_0 c1_1 c1_2 c1_3 a1_4 a1_5 a1_6)) (dfD a2_0 (.slice A2_1 l2_1.length c2_1)) w.heap.size (blk_lt F0)).trans F0
  simp only [World.size_alloc] at F1
  have cR := command_Reads.calls k A0 c0 l0 A1_0 c1_0 l1_0 A1_1 c1_1 l1_1 A1_2 c1_2 l1_2 A1_3 c1_3 l1_3 a1_4 a1_5 a1_6 rd1 rd2 _ (Kd.C_below hr0 b1) hc0 (Kd.C_below hr1_0 b1) hc1_0 (Kd.C_below hr1_1 b1) hc1_1 (Kd.C_below hr1_2 b1) hc1_2 (Kd.C_below hr1_3 b1) hc1_3 hRd
  have X0 := Aside0.mk F0
  have X1 := Aside0.mk F1
  have E1 := Aside0.mk b1
  have R0 := Aside0.mk hr0
  have R11 := Aside0.mk hr1_1
  have R12 := Aside0.mk hr1_2
  have R2 := Aside0.mk hr2_1
  have K0 := Aside0.mk hc0
  have K2 := Aside0.mk hc2_1
  have HH := Aside0.mk h
  clear F0 F1 b1 hr0 hr1_0 hr1_1 hr1_2 hr1_3 hr2_1 hc0 hc1_0 hc1_1 hc1_2 hc1_3 hc2_1 h hRd
  go_enter Tryd.func22, Tryd.ntmps22
  go_wp2_with fail
  generalize hw2 : (w.alloc (rdE A1_0 A1_1 A1_2 A1_3 l1_0.length l1_1.length l1_2.length l1_3.length c1_0 c1_1 c1_2 c1_3 a1_4 a1_5 a1_6)).alloc (dfD a2_0 (.slice A2_1 l2_1.length c2_1)) = w2 at cR X0 X1 E1 ⊢
  clear hw2
  refine cR.mono ?_
  rintro e w3 ⟨v, rfl, hRR, B3⟩
  clear cR
  obtain ⟨Av, cv, rfl⟩ := Kd.R_slice hRR
  have VR := Aside0.mk hRR
  replace X0 := Aside0.mk ((B3.block _ (blk_lt X0.out)).trans X0.out)
  replace X1 := Aside0.mk ((B3.block _ (blk_lt X1.out)).trans X1.out)
  have hsz := E1.out.size
  replace E1 := Aside0.mk (below_then E1.out E1.out.size B3)
  clear B3 hRR
  have d0 : w3.cell? ⟨w.heap.size + 1, 0, none⟩ = some (.int .i64 a2_0) := by rw [blk_cell X1.out]; rfl
  have d1 : w3.cell? ⟨w.heap.size + 1, 1, none⟩ = some (.slice A2_1 l2_1.length c2_1) := by rw [blk_cell X1.out]; rfl
  by_cases hz : rd2 = 0
  case neg =>
    have h := HH.out
    rw [if_neg hz] at h
    have h5 := Option.some.inj h
    obtain ⟨rfl, rfl⟩ : [] = r1 ∧ (1800 : Int) = r2 := by cases h5; exact ⟨rfl, rfl⟩
    have hz2 : (rd2 == 0) = false := by simpa using hz
    clear h h5 HH
    go_wp2
    go_ret2
    exact ⟨_, rfl, Kd.R_nil _ _ _ _ _, E1.out⟩
  case pos =>
  subst hz
  have h := HH.out
  rw [if_pos rfl] at h
  obtain ⟨m, hm, h⟩ := Option.bind_eq_some_iff.1 h
  have cM := disk_May.calls k a2_0 A2_1 c2_1 l2_1 m w3 (Kd.C_below R2.out E1.out) K2.out hm
  replace HH := Aside0.mk h
  clear h hm
  go_wp2_with fail
  refine cM.mono ?_
  rintro e w4 ⟨rfl, B4⟩
  clear cM d0 d1
  replace X0 := Aside0.mk ((B4.block _ (blk_lt X0.out)).trans X0.out)
  replace X1 := Aside0.mk ((B4.block _ (blk_lt X1.out)).trans X1.out)
  replace E1 := Aside0.mk (below_then E1.out E1.out.size B4)
  replace VR := Aside0.mk (Kd.R_below VR.out B4)
  clear B4
  cases m with
  | false =>
    have h := HH.out
    rw [if_neg (by simp)] at h
    have h5 := Option.some.inj h
    obtain ⟨rfl, rfl⟩ : [] = r1 ∧ (1800 : Int) = r2 := by cases h5; exact ⟨rfl, rfl⟩
    clear h h5 HH
    go_wp2
    go_ret2
    exact ⟨_, rfl, Kd.R_nil _ _ _ _ _, E1.out⟩
  | true =>
  have h := HH.out
  rw [if_pos rfl] at h
  split at h
  case isFalse => cases h
  rename_i hsizes
  obtain ⟨⟨z0, z1⟩, ⟨z2, z3⟩, z4⟩ := hsizes
  obtain ⟨o, ho, h⟩ := Option.bind_eq_some_iff.1 h
  replace HH := Aside0.mk h
  have HO := Aside0.mk ho
  have SZ := Aside0.mk (And.intro (And.intro z0 z1) (And.intro (And.intro z2 z3) z4))
  clear h ho z0 z1 z2 z3
  have f4 : w4.cell? ⟨w.heap.size, 4, none⟩ = some (.string a1_4) := by rw [blk_cell X0.out 4]; rfl
  go_wp2
  have RB := bytes_reads w4 5 a1_4 (by omega)
  have B5 : Below w4.heap.size w4 (Lib.bytesWorld w4 5 a1_4) := bytes_below (Below.refl _ _) (Nat.le_refl _) _ _
  generalize Lib.bytesWorld w4 5 a1_4 = w5 at RB B5 ⊢
  generalize grownCap w4 a1_4.size 0 5 = cap5
  generalize w4.heap.size = g5 at RB ⊢
  have HRB := Aside0.mk RB
  have KB := Aside0.mk (bytesOf_length a1_4)
  have E5 := Aside0.mk (below_then E1.out E1.out.size B5)
  have V5 := Aside0.mk (Kd.R_below VR.out B5)
  have Y0 := Aside0.mk ((B5.block _ (blk_lt X0.out)).trans X0.out)
  have Y1 := Aside0.mk ((B5.block _ (blk_lt X1.out)).trans X1.out)
  clear RB B5 X0 X1 E1 VR f4 kb
  go_loopg [10, 36] a1_4.size (fun gg s10 s36 wr => ∃ (i : Nat) (hh : Int), i ≤ a1_4.size ∧ a1_4.size - i ≤ gg ∧ s36 = .int .i64 (i : Int) ∧ s10 = .int .i64 hh ∧ Aside0 (crn_bytes hh ((bytesOf a1_4).drop i) = crn_bytes 0 (bytesOf a1_4)) ∧ Aside0 (Below w5.heap.size w5 wr))
  case atStart => exact ⟨0, 0, Nat.zero_le _, Nat.le_refl _, rfl, rfl, ⟨rfl⟩, ⟨Below.refl _ _⟩⟩
  case round =>
  obtain ⟨i, hh, hi, hgg, rfl, rfl, HC, HB⟩ := hrel
  by_cases hlt : i < a1_4.size
  case pos =>
    have hz : (i : Int) < (a1_4.size : Int) := by omega
    obtain ⟨ad, hA, hc⟩ := ReadsInt.at_ HRB.out (i : Int) (by omega) hz
    cases hA
    replace hc := (HB.out.cell (World.block_lt_of_cell? w5 _ hc)).trans hc
    simp only [Int.toNat_natCast, add_plain] at hc
    have hb : 0 ≤ rd (bytesOf a1_4) (i : Int) ∧ rd (bytesOf a1_4) (i : Int) ≤ 255 := by rw [rd_bytesOf]; exact bt_range _ _
    have hd := crn_drop (bytesOf a1_4) i (by rw [KB.out]; exact hlt)
    generalize rd (bytesOf a1_4) (i : Int) = b at hc hb hd
    obtain ⟨hb0, hb1⟩ := hb
    have HD := Aside0.mk hd
    have cm := fun W => command_mix.calls hh b (crn_mix hh b) W rfl
    clear hd
    go_wp2_with fail
    refine (cm _).mono ?_
    rintro e w' ⟨rfl, ⟨nd, rfl⟩⟩
    clear cm
    go_wp2
    go_roundg (a1_4.size - (i + 1))
    case measure => omega
    case rel => exact ⟨i + 1, crn_mix hh b, by omega, Nat.le_refl _, by go_num, rfl, ⟨by rw [← HC.out, HD.out]; rfl⟩, ⟨pw_below_drewN HB.out _⟩⟩
  case neg =>
  have hi2 : i = a1_4.size := by omega
  have hz : ¬ (i : Int) < (a1_4.size : Int) := by omega
  have hH := HC.out
  rw [List.drop_of_length_le (by rw [KB.out]; omega)] at hH
  have HHS := Aside0.mk (show hh = crn_bytes 0 (bytesOf a1_4) from hH)
  clear hH HC hi2
  have E6 := Aside0.mk (below_then E5.out E5.out.size HB.out)
  have V6 := Aside0.mk (Kd.R_below V5.out HB.out)
  have U0 := Aside0.mk ((HB.out.block _ (blk_lt Y0.out)).trans Y0.out)
  have U1 := Aside0.mk ((HB.out.block _ (blk_lt Y1.out)).trans Y1.out)
  clear E5 V5 Y0 Y1 HB HRB
  have f1 : wr.cell? ⟨w.heap.size, 1, none⟩ = some (.slice A1_1 l1_1.length c1_1) := by rw [blk_cell U0.out 1]; rfl
  have f2 : wr.cell? ⟨w.heap.size, 2, none⟩ = some (.slice A1_2 l1_2.length c1_2) := by rw [blk_cell U0.out 2]; rfl
  have hB6 : Below wr.heap.size wr (wr.alloc (.cells #[.slice A1_1 l1_1.length c1_1, .slice A1_2 l1_2.length c1_2, .slice Av rd1.length cv] 23)) := below_alloc (Below.refl _ _) _
  have cC := concat3.calls wr.heap.size (fun | 0 => A1_1 | 1 => A1_2 | _ => Av) (fun | 0 => c1_1 | 1 => c1_2 | _ => cv) (crn_L l1_1 l1_2 rd1) (wr.alloc (.cells #[.slice A1_1 l1_1.length c1_1, .slice A1_2 l1_2.length c1_2, .slice Av rd1.length cv] 23)) (heap_alloc_new wr _)
    (fun j hj => match j, hj with
      | 0, _ => Kd.C_below R11.out (below_then E6.out E6.out.size hB6)
      | 1, _ => Kd.C_below R12.out (below_then E6.out E6.out.size hB6)
      | 2, _ => Kd.C_below (Kd.R_reads' V6.out).2.2 hB6
      | j + 3, h => absurd h (by omega))
    (fun j hj => match j, hj with
      | 0, _ => SZ.out.1.2
      | 1, _ => SZ.out.2.1.1
      | 2, _ => SZ.out.2.1.2
      | j + 3, h => absurd h (by omega))
  rw [crn_cat] at cC
  have HB6 := Aside0.mk hB6
  have FL : Aside0 ((l1_1 ++ l1_2 ++ rd1).length ≤ 3000) := ⟨by have := SZ.out; simp only [List.length_append]; omega⟩
  clear hB6 R11 R12 hi hgg hlt
  generalize l1_1 ++ l1_2 ++ rd1 = fs at HO cC FL
  go_wp2_with fail
  refine cC.mono ?_
  rintro e w7 ⟨v7, rfl, hR7, B7⟩
  clear hz
  obtain ⟨A7, c7, rfl⟩ := Kd.R_slice hR7
  have FR := Aside0.mk (Kd.R_reads' hR7).2.2
  have B67 := below_then HB6.out HB6.out.size B7
  have E7 := Aside0.mk (below_then E6.out E6.out.size B67)
  have X0 := Aside0.mk ((B67.block _ (blk_lt U0.out)).trans U0.out)
  have X1 := Aside0.mk ((B67.block _ (blk_lt U1.out)).trans U1.out)
  clear cC hR7 B7 B67 E6 U0 U1 V6 HB6 f1 f2
  have hfl := FL.out
  rw [HHS.out]
  clear HHS
  generalize crn_bytes 0 (bytesOf a1_4) = h6 at HO ⊢
  clear hh
  go_wp2
  go_loopg [10, 53] fs.length (fun gg s10 s53 wr => ∃ (i : Nat) (hh : Int), i ≤ fs.length ∧ fs.length - i ≤ gg ∧ s53 = .int .i64 (i : Int) ∧ s10 = .int .i64 hh ∧ Aside0 (crn_files k a2_0 l2_1 hh (fs.drop i) = some o) ∧ Aside0 (Below w7.heap.size w7 wr))
  case atStart => exact ⟨0, h6, Nat.zero_le _, Nat.le_refl _, rfl, rfl, ⟨HO.out⟩, ⟨Below.refl _ _⟩⟩
  case round =>
  clear HO h6
  obtain ⟨i, hh, hi, hgg, rfl, rfl, HC, HB⟩ := hrel
  have E8 := Aside0.mk (below_then E7.out E7.out.size HB.out)
  have U0 := Aside0.mk ((HB.out.block _ (blk_lt X0.out)).trans X0.out)
  have U1 := Aside0.mk ((HB.out.block _ (blk_lt X1.out)).trans X1.out)
  by_cases hlt : i < fs.length
  case pos =>
    have hz : (i : Int) < (fs.length : Int) := by omega
    obtain ⟨ad, hA, hc⟩ := Kd.at_string FR.out (i : Int) (by omega) hz
    subst hA
    replace hc := (HB.out.cell (World.block_lt_of_cell? w7 _ hc)).trans hc
    simp only [Int.toNat_natCast] at hc
    have hs := HC.out
    rw [crn_dropS fs i hlt, crn_files] at hs
    obtain ⟨⟨x1, x2, x3, x4⟩, hx, hs⟩ := Option.bind_eq_some_iff.1 hs
    generalize rdOf ByteArray.empty fs (i : Int) = s at hc hx
    have d0 : wr.cell? ⟨w.heap.size + 1, 0, none⟩ = some (.int .i64 a2_0) := by rw [blk_cell U1.out]; rfl
    have d1 : wr.cell? ⟨w.heap.size + 1, 1, none⟩ = some (.slice A2_1 l2_1.length c2_1) := by rw [blk_cell U1.out]; rfl
    have cF := disk_Find.calls k a2_0 A2_1 c2_1 l2_1 s x1 x2 x3 x4 wr (Kd.C_below R2.out E8.out) K2.out hx
    have HS := Aside0.mk hs
    clear hs hx HC
    go_wp2_with fail
    refine cF.mono ?_
    rintro e w8 ⟨rfl, B8⟩
    have E9 := Aside0.mk (below_then E8.out E8.out.size B8)
    have HB8 := Aside0.mk (below_then HB.out HB.out.size B8)
    clear cF B8 d0 d1 E8
    cases x4 with
    | false =>
      have hs := HS.out
      rw [if_neg (by simp)] at hs
      obtain rfl := Option.some.inj hs
      have h5 := Option.some.inj HH.out
      obtain ⟨rfl, rfl⟩ : [] = r1 ∧ (1801 : Int) = r2 := by cases h5; exact ⟨rfl, rfl⟩
      clear hs h5 HH HS
      go_wp2
      go_ret2
      exact ⟨_, rfl, Kd.R_nil _ _ _ _ _, below_alloc E9.out _⟩
    | true =>
      have hs := HS.out
      rw [if_pos rfl] at hs
      replace HS := Aside0.mk hs
      have cm := fun W => command_mix.calls hh x2 (crn_mix hh x2) W rfl
      clear hs
      go_wp2_with fail
      refine (cm _).mono ?_
      rintro e w' ⟨rfl, ⟨nd, rfl⟩⟩
      clear cm
      go_wp2
      go_roundg (fs.length - (i + 1))
      case measure => omega
      case rel => exact ⟨i + 1, crn_mix hh x2, by omega, Nat.le_refl _, by go_num, rfl, ⟨HS.out⟩, ⟨pw_below_drewN (below_alloc HB8.out _) _⟩⟩
  case neg =>
  have hs := HC.out
  rw [List.drop_of_length_le (by omega)] at hs
  obtain rfl : some hh = o := Option.some.inj hs
  obtain ⟨⟨q0, q1, q2⟩, hA, h⟩ := Option.bind_eq_some_iff.1 (show ((command_Action.f k l0 a1_4).bind fun a => if a.2.2 = true then some ([], 1801) else some (crn_outs hh l1_0.length, 0)) = some (r1, r2) from HH.out)
  have cA := command_Action.calls k A0 c0 l0 a1_4 q0 q1 q2 wr (Kd.C_below R0.out E8.out) K0.out hA
  have f4 : wr.cell? ⟨w.heap.size, 4, none⟩ = some (.string a1_4) := by rw [blk_cell U0.out 4]; rfl
  replace HH := Aside0.mk h
  have hz : ¬ (i : Int) < (fs.length : Int) := by omega
  clear hs h hA HC hi hgg hlt
  go_wp2_with fail
  refine cA.mono ?_
  rintro e w9 ⟨v9, rfl, hR9, B9⟩
  clear hz
  have E9 := Aside0.mk (below_then E8.out E8.out.size B9)
  have X9 := Aside0.mk ((B9.block _ (blk_lt U0.out)).trans U0.out)
  clear cA hR9 B9 f4 U0 U1 E8 HB X0 X1 E7 FR hfl FL
  cases q2 with
  | true =>
    have h5 := Option.some.inj HH.out
    obtain ⟨rfl, rfl⟩ : [] = r1 ∧ (1801 : Int) = r2 := by cases h5; exact ⟨rfl, rfl⟩
    clear h5 HH
    go_wp2
    go_ret2
    exact ⟨_, rfl, Kd.R_nil _ _ _ _ _, E9.out⟩
  | false =>
  have h5 := Option.some.inj HH.out
  obtain ⟨rfl, rfl⟩ : crn_outs hh l1_0.length = r1 ∧ (0 : Int) = r2 := by cases h5; exact ⟨rfl, rfl⟩
  have f0 : w9.cell? ⟨w.heap.size, 0, none⟩ = some (.slice A1_0 l1_0.length c1_0) := by rw [blk_cell X9.out 0]; rfl
  have hn : l1_0.length ≤ 1000 := SZ.out.1.1
  clear h5 HH
  generalize hnn : l1_0.length = n at f0 hn X9 ⊢
  have HNN := Aside0.mk hnn
  clear hnn
  go_wp2
  go_loopg [17, 78] n (fun gg s17 s78 wr => ∃ i : Nat, i ≤ n ∧ n - i ≤ gg ∧ s78 = .int .i64 (i : Int) ∧ Aside0 (Kd.R (Kd.int .i64) 3 wr w.heap.size (fun _ => True) s17 (crn_outs hh i)) ∧ Aside0 (Below w.heap.size w wr))
  case atStart => exact ⟨0, Nat.zero_le _, Nat.le_refl _, rfl, ⟨Kd.R_nil _ _ _ _ _⟩, E9⟩
  case round =>
  obtain ⟨i, hi, hgg, rfl, HR, HB⟩ := hrel
  by_cases hlt : i < n
  case pos =>
    have hz : (i : Int) < (n : Int) := by omega
    have cm := fun W => command_mix.calls hh (i : Int) (crn_mix hh (i : Int)) W rfl
    have HL : Aside0 (((crn_outs hh i).length + 1) * 8 ≤ 140737488355328) := ⟨by rw [crn_outs_len]; omega⟩
    have HN := Aside0.mk (crn_outs_succ hh i)
    generalize crn_mix hh (i : Int) = y at cm HN
    go_wp2_with (first
      | (go_at_call 53; refine (cm _).mono ?_; rintro e w' ⟨rfl, ⟨nd, rfl⟩⟩)
      | (at_builtin; refine Kd.R_append (Kd.int .i64) (w0 := w) w.heap.size rfl (.tmp 81) (.tmp 85) 40 3 (.int .i64 0) 8 rfl Tryd.underlying40 info3 rfl (by decide) (by omega) _ (crn_outs hh i) y [.int .i64 y] (fun _ => True) (fun _ => False) rfl rfl ?aP (fun _ hk => hk.elim) ?aF ?aO ?aB ?aS ?aL ?_; (case aP => exact rfl); (case aB => exact (by repeat (first | (with_reducible first | exact HB.out | apply below_alloc | apply pw_below_drewN) | exact HB.out))); (case aF => exact fun _ _ => trivial); (case aO => exact (by (with_reducible repeat (first | apply Kd.R_alloc | apply Kd.R_drewN | apply Kd.R_drew)); exact HR.out)); (case aS => exact (below_size (by repeat (first | (with_reducible first | exact HB.out | apply below_alloc | apply pw_below_drewN) | exact HB.out)))); (case aL => have := HL.out; omega); intro v1 w1 ho hb hg hat; rw [← HN.out] at ho; clear hg hat))
    go_roundg (n - (i + 1))
    case measure => omega
    case rel => exact ⟨i + 1, by omega, Nat.le_refl _, by go_num, ⟨ho⟩, ⟨hb⟩⟩
  case neg =>
  obtain rfl : i = n := by omega
  go_wp2
  go_ret2
  exact ⟨_, rfl, by rw [HNN.out]; exact HR.out, HB.out⟩

end Go.Proofs.YtilnamobmjngbaaDoor.P
