-- Made by a program of this work's own (wip/myprint.py) over the kit's print; leaves by hand.
import Derived.Test.YtilnamobmjngbaaDoorP0
import Derived.Test.YtilnamobmjngbaaDoorP6
import Derived.Test.YtilnamobmjngbaaDoorP7
import Derived.Test.YtilnamobmjngbaaDoorP13
import Derived.Test.YtilnamobmjngbaaDoorP16
import Derived.Test.YtilnamobmjngbaaDoorP19
import Derived.Test.YtilnamobmjngbaaDoorP21
import Derived.Test.YtilnamobmjngbaaDoorP22
import Derived.Test.YtilnamobmjngbaaDoorP27
import Derived.Test.YtilnamobmjngbaaDoorP32
import Derived.BigRegion
import Derived.Deep.OwnRows
import Derived.Test.YtilnamobmjngbaaDoorMg1
namespace Go.Proofs.YtilnamobmjngbaaDoor.P
open Go.RowKit Go.Proofs.YtilnamobmjngbaaDoorW.PrintWords Go.Proofs.YtilnamobmjngbaaDoorW.PrintLast Go.Proofs.YtilnamobmjngbaaDoorW.PrintMore
attribute [local go_sem] max2_int min2_int max_two min_two max_three min_three max_four min_four   -- for this text's walks alone
set_option linter.unusedVariables false
set_option linter.unusedSimpArgs false

-- HANDBIG CommandForms.lean
-- IMPORT Derived.Test.YtilnamobmjngbaaDoorPlain
-- IMPORT Derived.BigRegion
-- IMPORT Derived.Deep.OwnRows
/-! ### cruciblelaw18_CommandForms, by hand (over Awake18) -/
def cruciblelaw18_CommandForms.f (_ _ : Int) : Option Bool := some true
abbrev S33_ := S33
theorem st_F' {W : World} {g : Nat} (n : Nat) (hn : n ≤ 4) (h9 : W.heap[g]? = some (.cells #[.string ⟨#[97, 46, 99]⟩, .int .i64 1, .int .i64 1, .string ⟨#[97, 46, 104]⟩, .int .i64 2, .int .i64 2, .string ⟨#[98, 46, 99]⟩, .int .i64 3, .int .i64 3, .string ⟨#[122, 46, 104]⟩, .int .i64 4, .int .i64 4] 72 (0, 0))) : Kd.C k72 W (some ⟨g, 0, none⟩) n (stF.take n) := by
  refine ⟨by simp [stF]; omega, by omega, fun _ => ⟨_, rfl, fun j p hj => ?_⟩⟩
  have hj4 : stF[j]? = some p := by
    rw [List.getElem?_take] at hj
    split at hj
    · exact hj
    · cases hj
  clear hj
  rcases j with _ | _ | _ | _ | j
  · obtain rfl : (⟨⟨#[97, 46, 99]⟩, 1, 1⟩ : S72) = p := by simpa [stF] using hj4
    refine ⟨[.string ⟨#[97, 46, 99]⟩, .int .i64 1, .int .i64 1], rfl, k72_mk _ _, fun i u hu => ?_⟩
    have hi : i < 3 := (List.getElem?_eq_some_iff.1 hu).1
    rw [add_plain, blk_cell h9]
    obtain rfl | rfl | rfl : i = 0 ∨ i = 1 ∨ i = 2 := by omega
    all_goals exact hu
  · obtain rfl : (⟨⟨#[97, 46, 104]⟩, 2, 2⟩ : S72) = p := by simpa [stF] using hj4
    refine ⟨[.string ⟨#[97, 46, 104]⟩, .int .i64 2, .int .i64 2], rfl, k72_mk _ _, fun i u hu => ?_⟩
    have hi : i < 3 := (List.getElem?_eq_some_iff.1 hu).1
    rw [add_plain, blk_cell h9]
    obtain rfl | rfl | rfl : i = 0 ∨ i = 1 ∨ i = 2 := by omega
    all_goals exact hu
  · obtain rfl : (⟨⟨#[98, 46, 99]⟩, 3, 3⟩ : S72) = p := by simpa [stF] using hj4
    refine ⟨[.string ⟨#[98, 46, 99]⟩, .int .i64 3, .int .i64 3], rfl, k72_mk _ _, fun i u hu => ?_⟩
    have hi : i < 3 := (List.getElem?_eq_some_iff.1 hu).1
    rw [add_plain, blk_cell h9]
    obtain rfl | rfl | rfl : i = 0 ∨ i = 1 ∨ i = 2 := by omega
    all_goals exact hu
  · obtain rfl : (⟨⟨#[122, 46, 104]⟩, 4, 4⟩ : S72) = p := by simpa [stF] using hj4
    refine ⟨[.string ⟨#[122, 46, 104]⟩, .int .i64 4, .int .i64 4], rfl, k72_mk _ _, fun i u hu => ?_⟩
    have hi : i < 3 := (List.getElem?_eq_some_iff.1 hu).1
    rw [add_plain, blk_cell h9]
    obtain rfl | rfl | rfl : i = 0 ∨ i = 1 ∨ i = 2 := by omega
    all_goals exact hu
  · simp [stF] at hj4
theorem st_A1 {W : World} {g gs : Nat} (a s : ByteArray) (b : Bool) (h9 : W.heap[g]? = some (acF a (.slice (some ⟨gs, 0, none⟩) 1 1) b)) (hs : W.heap[gs]? = some (.cells #[.string s] 9 (0, 0))) : Kd.C k33 W (some ⟨g, 0, none⟩) 1 [(⟨a, [s], b⟩ : S33)] := by
  refine ⟨rfl, by omega, fun _ => ⟨_, rfl, fun j p hj => ?_⟩⟩
  rcases j with _ | j
  · obtain rfl : (⟨a, [s], b⟩ : S33) = p := by simpa using hj
    refine ⟨[.string a, .slice (some ⟨gs, 0, none⟩) 1 1, .bool b], rfl, k33_mk _ (⟨a, [s], b⟩ : S33) (Nat.le_refl _) (st_str [s] hs (by simp)), fun i u hu => ?_⟩
    have hi : i < 3 := (List.getElem?_eq_some_iff.1 hu).1
    rw [add_plain, blk_cell h9]
    obtain rfl | rfl | rfl : i = 0 ∨ i = 1 ∨ i = 2 := by omega
    all_goals exact hu
  · simp at hj
/-! many actions -/
def cfC : Nat → Value
  | 0 => .string ⟨#[120]⟩
  | 1 => .slice none 0 0
  | _ => .bool false
def cfZ : Nat → Value
  | 0 => .string ⟨#[]⟩
  | 1 => .slice none 0 0
  | _ => .bool false
def cfF (q : Nat) (i : Nat) : Value := if i < 3 * q then cfC (i % 3) else cfZ (i % 3)
abbrev cfX : S33 := ⟨⟨#[120]⟩, [], false⟩
theorem cf_made (W : World) (n : Nat) : (W.alloc (.cells (madeCells #[.string ⟨#[]⟩, .slice none 0 0, .bool false] (n * 3)) 33)).rowIs W.heap.size 33 (n * 3) (cfF 0) :=
  ⟨_, heap_alloc_new _ _, size_madeCells _ _, fun i hi => by
    rw [cfF, if_neg (by omega)]
    simp only [madeCells, Array.getElem?_map]
    rw [Array.getElem?_range, if_pos hi]
    show some (#[Value.string ⟨#[]⟩, .slice none 0 0, .bool false][i % 3]!) = _
    have h3 : i % 3 < 3 := Nat.mod_lt _ (by decide)
    rcases (by omega : i % 3 = 0 ∨ i % 3 = 1 ∨ i % 3 = 2) with h | h | h <;> rw [h] <;> rfl⟩
theorem cf_many_C {W : World} {b n : Nat} (h : W.rowIs b 33 (n * 3) (cfF n)) (hn : n ≤ 1000) : Kd.C k33 W (some ⟨b, 0, none⟩) n (List.replicate n cfX) := by
  refine ⟨List.length_replicate, by omega, fun _ => ⟨_, rfl, fun j p hp => ?_⟩⟩
  rw [List.getElem?_replicate] at hp
  split at hp
  case isFalse => cases hp
  rename_i hj
  obtain rfl : cfX = p := Option.some.inj hp
  refine ⟨_, rfl, k33_mk W cfX (Nat.le_refl 0) (st_nil _), fun i u hu => ?_⟩
  rw [add_plain]
  have e : ∀ t, t < 3 → W.cell? ⟨b, j * 3 + t, none⟩ = some (cfC t) := fun t ht => by
    rw [h.cell (by omega), cfF, if_pos (by omega), show (j * 3 + t) % 3 = t by omega]
  match i, hu with
  | 0, hu => exact (e 0 (by decide)).trans hu
  | 1, hu => exact (e 1 (by decide)).trans hu
  | 2, hu => exact (e 2 (by decide)).trans hu
  | i + 3, hu => simp at hu
theorem cf_put {W : World} {b n q : Nat} (h : W.rowIs b 33 (n * 3) (cfF q)) (hq : q < n) : (W.setCell ⟨b, q * 3, none⟩ (.string ⟨#[120]⟩)).rowIs b 33 (n * 3) (cfF (q + 1)) := by
  refine (h.set (q * 3) _).congr fun i hi => ?_
  simp only [cfF]
  by_cases h0 : i = q * 3
  · rw [if_pos h0, if_pos (by omega), show i % 3 = 0 by omega]; rfl
  rw [if_neg h0]
  by_cases hl : i < 3 * q
  · rw [if_pos hl, if_pos (by omega)]
  · rw [if_neg hl]
    by_cases hl2 : i < 3 * (q + 1)
    · rw [if_pos hl2]
      rcases (by omega : i % 3 = 1 ∨ i % 3 = 2) with h | h <;> rw [h] <;> rfl
    · rw [if_neg hl2]
theorem cf_make (N : Nat) (hN : N ≤ 1000) (W : World) : (Instr.makeSlice 22 (.int .i64 (N : Int)) (.int .i64 (N : Int))).run Tryd.prog W = .ok (.slice (some ⟨W.heap.size, 0, none⟩) N N) (W.alloc (.cells (madeCells #[.string ⟨#[]⟩, .slice none 0 0, .bool false] (N * 3)) 33)) := by
  have fi : (Tryd.prog.info? 33).map (fun i => (i.zero, i.size, i.bytes)) = some (some (.agg #[.string ⟨#[]⟩, .slice none 0 0, .bool false]), 3, 48) := by kernel_rfl
  obtain ⟨i0, hi, hzz⟩ := Option.map_eq_some_iff.1 fi
  simp only [Prod.mk.injEq] at hzz
  obtain ⟨hz0, hz1, hz2⟩ := hzz
  have hr := run_make (P := Tryd.prog) W 22 33 i0 _ Tryd.underlying22 hi hz0 .i64 .i64 (N : Int) (N : Int) (by omega) (Int.le_refl _) (by rw [hz2]; omega) (by omega)
  simp only [Int.toNat_natCast, hz1] at hr
  exact hr
theorem cf_long {xa : List S33_} (h : 16 < xa.length) (l0 l1 l2 l3 : List ByteArray) (cmd pool : ByteArray) (t : Int) (fs : List (S72)) : command_Reads.f 40 xa l0 l1 l2 l3 cmd true pool = some ([], 1800) ∧ command_Run.f 40 xa l0 l1 l2 l3 cmd true pool t fs = some ([], 1800) := by
  have e : command_Reads.f 40 xa l0 l1 l2 l3 cmd true pool = some ([], 1800) := by
    unfold command_Reads.f command_May.f
    rw [if_neg (by omega)]
    rfl
  refine ⟨e, ?_⟩
  unfold command_Run.f
  rw [e]
  rfl
theorem cf_clock : ∀ z : Fin 128, disk_May.f 40 (-(1 + (z.val : Int))) stF = some false := by decide +kernel
/-- what stands ahead of the tail -/
structure CfAt (w W : World) (g8 g9 : Nat) (m : Int) (xa : List S33_) (A : Option Addr) (c : Nat) (want : Int) (B0 B1 B2 B3 : Option Addr) (d0 d1 d2 d3 : Nat) (l0 l1 l2 l3 : List ByteArray) (cmd : ByteArray) (A5 : Option Addr) (c5 : Nat) (fs : List (S72)) (clk : Int) : Prop where
  ra : Kd.C k33 W A xa.length xa
  ka : xa.length ≤ c
  xe : W.heap[g8]? = some (rdE B0 B1 B2 B3 l0.length l1.length l2.length l3.length d0 d1 d2 d3 cmd true stE1.f6)
  r0 : Kd.C Kd.string W B0 l0.length l0
  k0 : l0.length ≤ d0
  r1 : Kd.C Kd.string W B1 l1.length l1
  k1 : l1.length ≤ d1
  r2 : Kd.C Kd.string W B2 l2.length l2
  k2 : l2.length ≤ d2
  r3 : Kd.C Kd.string W B3 l3.length l3
  k3 : l3.length ≤ d3
  xd : W.heap[g9]? = some (dfD clk (.slice A5 fs.length c5))
  rf : Kd.C k72 W A5 fs.length fs
  kf : fs.length ≤ c5
  run : command_Run.f 40 xa l0 l1 l2 l3 cmd true stE1.f6 clk fs = some ([], want)
  reads : (m < 5 ∧ command_Reads.f 40 xa l0 l1 l2 l3 cmd true stE1.f6 = some ([], 1800)) ∨ (¬ m < 5 ∧ ∃ rr, command_Reads.f 40 xa l0 l1 l2 l3 cmd true stE1.f6 = some (rr, 0))
  below : Below w.heap.size w W
def CfEx (w W : World) (g8 g9 : Nat) (m : Int) (s7 s10 : Value) : Prop := ∃ xa A c want B0 B1 B2 B3 d0 d1 d2 d3 l0 l1 l2 l3 cmd A5 c5 fs clk, s7 = .slice A (List.length (α := S33_) xa) c ∧ s10 = .int .i64 want ∧ CfAt w W g8 g9 m xa A c want B0 B1 B2 B3 d0 d1 d2 d3 l0 l1 l2 l3 cmd A5 c5 fs clk
theorem cf_run0 : command_Run.f 40 [(⟨⟨#[]⟩, [⟨#[122, 46, 104]⟩], false⟩ : S33_)] stE1.f0 stE1.f1 stE1.f2 stE1.f3 stE1.f4 true stE1.f6 4 (stF.take 4) = some ([], 1800) := by kernel_rfl
theorem cf_run1 : command_Run.f 40 [(⟨⟨#[99, 99, 32, 97]⟩, [⟨#[47, 122]⟩], false⟩ : S33_)] stE1.f0 stE1.f1 stE1.f2 stE1.f3 stE1.f4 true stE1.f6 4 (stF.take 4) = some ([], 1800) := by kernel_rfl
theorem cf_run3 : command_Run.f 40 [(⟨⟨#[99, 99, 32, 97]⟩, [⟨#[122, 46, 104]⟩], false⟩ : S33_)] stE1.f0 stE1.f1 stE1.f2 stE1.f3 ⟨#[]⟩ true stE1.f6 4 (stF.take 4) = some ([], 1800) := by kernel_rfl
theorem cf_run4 : command_Run.f 40 [(⟨⟨#[99, 99, 32, 97]⟩, [⟨#[122, 46, 104]⟩], false⟩ : S33_)] stE1.f0 [⟨#[65]⟩] stE1.f2 stE1.f3 stE1.f4 true stE1.f6 4 (stF.take 4) = some ([], 1800) := by kernel_rfl
theorem cf_run6 : command_Run.f 40 [(⟨⟨#[99, 99, 32, 97]⟩, [⟨#[122, 46, 104]⟩], true⟩ : S33_)] stE1.f0 stE1.f1 stE1.f2 stE1.f3 stE1.f4 true stE1.f6 4 (stF.take 4) = some ([], 1801) := by kernel_rfl
theorem cf_run7 : command_Run.f 40 [(⟨⟨#[99, 99, 32, 97]⟩, [⟨#[110, 111, 110, 101]⟩], false⟩ : S33_)] stE1.f0 stE1.f1 stE1.f2 stE1.f3 stE1.f4 true stE1.f6 4 (stF.take 4) = some ([], 1801) := by kernel_rfl
theorem cf_run8 : command_Run.f 40 [(⟨⟨#[99, 99, 32, 97]⟩, [⟨#[122, 46, 104]⟩], false⟩ : S33_)] stE1.f0 [⟨#[97, 46, 99]⟩, ⟨#[110, 111, 110, 101]⟩] stE1.f2 stE1.f3 stE1.f4 true stE1.f6 4 (stF.take 4) = some ([], 1801) := by kernel_rfl
theorem cf_run9 : command_Run.f 40 [(⟨⟨#[99, 99, 32, 97]⟩, [⟨#[122, 46, 104]⟩], false⟩ : S33_)] stE1.f0 stE1.f1 [⟨#[110, 111, 110, 101]⟩] stE1.f3 stE1.f4 true stE1.f6 4 (stF.take 4) = some ([], 1801) := by kernel_rfl
theorem cf_run10 : command_Run.f 40 [(⟨⟨#[99, 99, 32, 97]⟩, [⟨#[122, 46, 104]⟩], false⟩ : S33_)] stE1.f0 stE1.f1 stE1.f2 stE1.f3 stE1.f4 true stE1.f6 4 (stF.take 3) = some ([], 1801) := by kernel_rfl
theorem cf_reads0 : command_Reads.f 40 [(⟨⟨#[]⟩, [⟨#[122, 46, 104]⟩], false⟩ : S33_)] stE1.f0 stE1.f1 stE1.f2 stE1.f3 stE1.f4 true stE1.f6 = some ([], 1800) := by kernel_rfl
theorem cf_reads1 : command_Reads.f 40 [(⟨⟨#[99, 99, 32, 97]⟩, [⟨#[47, 122]⟩], false⟩ : S33_)] stE1.f0 stE1.f1 stE1.f2 stE1.f3 stE1.f4 true stE1.f6 = some ([], 1800) := by kernel_rfl
theorem cf_reads3 : command_Reads.f 40 [(⟨⟨#[99, 99, 32, 97]⟩, [⟨#[122, 46, 104]⟩], false⟩ : S33_)] stE1.f0 stE1.f1 stE1.f2 stE1.f3 ⟨#[]⟩ true stE1.f6 = some ([], 1800) := by kernel_rfl
theorem cf_reads4 : command_Reads.f 40 [(⟨⟨#[99, 99, 32, 97]⟩, [⟨#[122, 46, 104]⟩], false⟩ : S33_)] stE1.f0 [⟨#[65]⟩] stE1.f2 stE1.f3 stE1.f4 true stE1.f6 = some ([], 1800) := by kernel_rfl
theorem cf_reads5 : command_Reads.f 40 [(⟨⟨#[99, 99, 32, 97]⟩, [⟨#[122, 46, 104]⟩], false⟩ : S33_)] stE1.f0 stE1.f1 stE1.f2 stE1.f3 stE1.f4 true stE1.f6 = some ([⟨#[122, 46, 104]⟩], 0) := by kernel_rfl
theorem cf_reads6 : command_Reads.f 40 [(⟨⟨#[99, 99, 32, 97]⟩, [⟨#[122, 46, 104]⟩], true⟩ : S33_)] stE1.f0 stE1.f1 stE1.f2 stE1.f3 stE1.f4 true stE1.f6 = some ([⟨#[122, 46, 104]⟩], 0) := by kernel_rfl
theorem cf_reads7 : command_Reads.f 40 [(⟨⟨#[99, 99, 32, 97]⟩, [⟨#[110, 111, 110, 101]⟩], false⟩ : S33_)] stE1.f0 stE1.f1 stE1.f2 stE1.f3 stE1.f4 true stE1.f6 = some ([⟨#[110, 111, 110, 101]⟩], 0) := by kernel_rfl
theorem cf_reads8 : command_Reads.f 40 [(⟨⟨#[99, 99, 32, 97]⟩, [⟨#[122, 46, 104]⟩], false⟩ : S33_)] stE1.f0 [⟨#[97, 46, 99]⟩, ⟨#[110, 111, 110, 101]⟩] stE1.f2 stE1.f3 stE1.f4 true stE1.f6 = some ([⟨#[122, 46, 104]⟩], 0) := by kernel_rfl
theorem cf_reads9 : command_Reads.f 40 [(⟨⟨#[99, 99, 32, 97]⟩, [⟨#[122, 46, 104]⟩], false⟩ : S33_)] stE1.f0 stE1.f1 [⟨#[110, 111, 110, 101]⟩] stE1.f3 stE1.f4 true stE1.f6 = some ([⟨#[122, 46, 104]⟩], 0) := by kernel_rfl
theorem cf_reads10 : command_Reads.f 40 [(⟨⟨#[99, 99, 32, 97]⟩, [⟨#[122, 46, 104]⟩], false⟩ : S33_)] stE1.f0 stE1.f1 stE1.f2 stE1.f3 stE1.f4 true stE1.f6 = some ([⟨#[122, 46, 104]⟩], 0) := by kernel_rfl
theorem cf_run5 (z : Int) (h0 : 0 ≤ z) (h1 : z < 128) : command_Run.f 40 [(⟨⟨#[99, 99, 32, 97]⟩, [⟨#[122, 46, 104]⟩], false⟩ : S33_)] stE1.f0 stE1.f1 stE1.f2 stE1.f3 stE1.f4 true stE1.f6 (-(1 + z)) (stF.take 4) = some ([], 1800) := by
  unfold command_Run.f
  rw [cf_reads5, show stF.take 4 = stF from rfl]
  have := cf_clock ⟨z.toNat, by omega⟩
  simp only [Int.toNat_of_nonneg h0] at this
  simp only [Option.bind_some, if_true]
  rw [this]
  rfl
set_option maxHeartbeats 16000000 in
set_option maxRecDepth 100000 in
theorem cruciblelaw18_CommandForms.calls (a0 : Int) (a1 : Int) (r : Bool) (w : World) (h : cruciblelaw18_CommandForms.f a0 a1 = some r) :
    Calls Tryd.prog 4 #[.int .i64 a0, .int .i64 a1] w fun e w' => e = .returned (.bool r) ∧ Below w.heap.size w w' := by
  obtain rfl : true = r := Option.some.inj h
  clear h
  have hu := Tryd.underlying62
  have hu2 := Tryd.underlying58
  have hu3 := Tryd.underlying25
  have hu4 := Tryd.underlying28
  have hu5 := Tryd.underlying33
  have h127 : Go.bits .and .i64 a1 127 = a1 % 128 := Spec.bits_low 7 (by omega) a1
  obtain ⟨z, hz⟩ : ∃ z : Int, a1 % 128 = z := ⟨_, rfl⟩
  have hz0 : 0 ≤ z := by omega
  have hz1 : z < 128 := by omega
  rw [hz] at h127
  have ca := cruciblelaw18_awake.calls true w rfl
  clear hz
  go_enter Tryd.func4, Tryd.ntmps4
  go_wp2_with fail
  refine ca.mono ?_
  clear ca
  rintro e w0 ⟨rfl, B0⟩
  have c1 := st18.calls w0
  have H0 := Aside0.mk B0
  clear B0
  go_wp2_with fail
  refine c1.mono ?_
  clear c1
  rintro e w1 ⟨rfl, hw1⟩
  have K3 := Aside0.mk (stW_3 w0)
  have K4 := Aside0.mk (stW_4 w0)
  have K5 := Aside0.mk (stW_5 w0)
  have K9 := Aside0.mk (stW_9 w0)
  have K13 := Aside0.mk (stW_13 w0)
  have K15 := Aside0.mk (stW_15 w0)
  have K16 := Aside0.mk (stW_16 w0)
  have E1 := Aside0.mk (st_below w0)
  rw [← hw1] at K3 K4 K5 K9 K13 K15 K16 E1
  replace E1 := Aside0.mk (below_then H0.out H0.out.size E1.out)
  have hA_ : w0.heap.size + 1 + 1 + 1 + 1 + 1 + 1 + 1 + 1 + 1 + 1 + 1 + 1 + 1 + 1 + 1 + 1 < w1.heap.size := blk_lt K16.out
  have HN : Aside0 (w0.heap.size + 1 + 1 + 1 < w0.heap.size + 1 + 1 + 1 + 1 + 1 + 1 + 1 + 1 + 1 + 1 + 1 + 1 + 1 + 1 + 1 + 1 ∧ w0.heap.size + 1 + 1 + 1 + 1 < w0.heap.size + 1 + 1 + 1 + 1 + 1 + 1 + 1 + 1 + 1 + 1 + 1 + 1 + 1 + 1 + 1 + 1 ∧ w0.heap.size + 1 + 1 + 1 + 1 + 1 < w0.heap.size + 1 + 1 + 1 + 1 + 1 + 1 + 1 + 1 + 1 + 1 + 1 + 1 + 1 + 1 + 1 + 1 ∧ w0.heap.size + 1 + 1 + 1 + 1 + 1 + 1 + 1 + 1 + 1 + 1 + 1 + 1 + 1 < w0.heap.size + 1 + 1 + 1 + 1 + 1 + 1 + 1 + 1 + 1 + 1 + 1 + 1 + 1 + 1 + 1 + 1 ∧ w0.heap.size + 1 + 1 + 1 + 1 + 1 + 1 + 1 + 1 + 1 + 1 + 1 + 1 + 1 + 1 + 1 < w0.heap.size + 1 + 1 + 1 + 1 + 1 + 1 + 1 + 1 + 1 + 1 + 1 + 1 + 1 + 1 + 1 + 1 ∧ w0.heap.size + 1 + 1 + 1 + 1 + 1 + 1 + 1 + 1 + 1 + 1 + 1 + 1 + 1 + 1 + 1 + 1 < w1.heap.size) := ⟨by omega⟩
  have HWA : Aside0 (w.heap.size ≤ w0.heap.size + 1 + 1 + 1 + 1 + 1 + 1 + 1 + 1 + 1 + 1 + 1 + 1 + 1 + 1 + 1 + 1) := ⟨by have := H0.out.size; omega⟩
  clear hw1 H0 hA_
  generalize w0.heap.size + 1 + 1 + 1 + 1 + 1 + 1 + 1 + 1 + 1 + 1 + 1 + 1 + 1 + 1 + 1 + 1 = gA at K16 HN HWA ⊢
  generalize w0.heap.size + 1 + 1 + 1 + 1 + 1 + 1 + 1 + 1 + 1 + 1 + 1 + 1 + 1 + 1 + 1 = gZ at K15 K16 HN
  generalize w0.heap.size + 1 + 1 + 1 + 1 + 1 + 1 + 1 + 1 + 1 + 1 + 1 + 1 + 1 = gF at K13 HN ⊢
  generalize w0.heap.size + 1 + 1 + 1 + 1 + 1 + 1 + 1 + 1 + 1 + 1 + 1 = gD
  generalize w0.heap.size + 1 + 1 + 1 + 1 + 1 + 1 + 1 + 1 + 1 + 1 = gP
  generalize w0.heap.size + 1 + 1 + 1 + 1 + 1 + 1 + 1 + 1 + 1 = gE at K9 ⊢
  generalize w0.heap.size + 1 + 1 + 1 + 1 + 1 + 1 + 1 + 1 = b8 at K9
  generalize w0.heap.size + 1 + 1 + 1 + 1 + 1 + 1 + 1 = b7 at K9
  generalize w0.heap.size + 1 + 1 + 1 + 1 + 1 + 1 = b6 at K9
  generalize w0.heap.size + 1 + 1 + 1 + 1 + 1 = b5 at K9 K5 HN
  generalize w0.heap.size + 1 + 1 + 1 + 1 = b4 at K9 K4 HN
  generalize w0.heap.size + 1 + 1 + 1 = b3 at K9 K3 HN
  generalize w0.heap.size + 1 + 1 = b2 at K9
  generalize w0.heap.size + 1 = b1 at K9
  go_upto_region 5 with fail
  obtain ⟨W2, HW⟩ : ∃ W, Aside0 (W = w1.alloc (stBox gE gP gD gA gF)) := ⟨_, ⟨rfl⟩⟩
  have N : Below w1.heap.size w1 W2 := by rw [HW.out]; exact below_alloc (Below.refl _ _) _
  have XB : Aside0 (W2.heap[w1.heap.size]? = some (stBox gE gP gD gA gF)) := ⟨by rw [HW.out]; exact heap_alloc_new w1 _⟩
  have E2 := Aside0.mk (below_then E1.out E1.out.size N)
  have HN2 : Aside0 (gA < W2.heap.size) := ⟨Nat.lt_of_lt_of_le HN.out.2.2.2.2.2 N.size⟩
  replace K3 := Aside0.mk ((N.block _ (blk_lt K3.out)).trans K3.out)
  replace K4 := Aside0.mk ((N.block _ (blk_lt K4.out)).trans K4.out)
  replace K5 := Aside0.mk ((N.block _ (blk_lt K5.out)).trans K5.out)
  replace K9 := Aside0.mk ((N.block _ (blk_lt K9.out)).trans K9.out)
  replace K13 := Aside0.mk ((N.block _ (blk_lt K13.out)).trans K13.out)
  replace K15 := Aside0.mk ((N.block _ (blk_lt K15.out)).trans K15.out)
  replace K16 := Aside0.mk ((N.block _ (blk_lt K16.out)).trans K16.out)
  clear N E1
  rw [← HW.out]
  clear HW
  generalize w1.heap.size = gB at XB HN ⊢
  clear w1
  have y0 : W2.cell? ⟨gB, 0, none⟩ = some (.slice (some ⟨gE, 0, none⟩) 3 3) := by rw [blk_cell XB.out]; rfl
  have y3 : W2.cell? ⟨gB, 3, none⟩ = some (.slice (some ⟨gA, 0, none⟩) 1 1) := by rw [blk_cell XB.out]; rfl
  have y4 : W2.cell? ⟨gB, 4, none⟩ = some (.int .i64 4) := by rw [blk_cell XB.out]; rfl
  have y5 : W2.cell? ⟨gB, 5, none⟩ = some (.slice (some ⟨gF, 0, none⟩) 4 4) := by rw [blk_cell XB.out]; rfl
  have z0 : W2.cell? ⟨gE, 7, none⟩ = some (.slice (some ⟨b3, 0, none⟩) 2 2) := by rw [blk_cell K9.out]; rfl
  have z1 : W2.cell? ⟨gE, 8, none⟩ = some (.slice (some ⟨b4, 0, none⟩) 1 1) := by rw [blk_cell K9.out]; rfl
  have z2 : W2.cell? ⟨gE, 9, none⟩ = some (.slice (some ⟨b5, 0, none⟩) 1 1) := by rw [blk_cell K9.out]; rfl
  have z3 : W2.cell? ⟨gE, 10, none⟩ = some (.slice none 0 0) := by rw [blk_cell K9.out]; rfl
  have z4 : W2.cell? ⟨gE, 11, none⟩ = some (.string ⟨#[99, 99, 32, 97]⟩) := by rw [blk_cell K9.out]; rfl
  have z5 : W2.cell? ⟨gE, 12, none⟩ = some (.bool true) := by rw [blk_cell K9.out]; rfl
  have z6 : W2.cell? ⟨gE, 13, none⟩ = some (.string ⟨#[116, 119, 111]⟩) := by rw [blk_cell K9.out]; rfl
  have hs : gB < W2.heap.size := blk_lt XB.out
  have hsE : gE < W2.heap.size := blk_lt K9.out
  go_cut [7, 8, 9] (fun s7 s8 s9 wx => ∃ g8 g9 : Nat, s7 = .slice (some ⟨gA, 0, none⟩) 1 1 ∧ s8 = .pointer (some ⟨g8, 0, none⟩) ∧ s9 = .pointer (some ⟨g9, 0, none⟩) ∧ Aside0 (wx.heap[g8]? = some (rdE (some ⟨b3, 0, none⟩) (some ⟨b4, 0, none⟩) (some ⟨b5, 0, none⟩) none 2 1 1 0 2 1 1 0 ⟨#[99, 99, 32, 97]⟩ true ⟨#[116, 119, 111]⟩)) ∧ Aside0 (wx.heap[g9]? = some (dfD 4 (.slice (some ⟨gF, 0, none⟩) 4 4))) ∧ Aside0 (Below W2.heap.size W2 wx) ∧ Aside0 (W2.heap.size ≤ g8 ∧ W2.heap.size ≤ g9 ∧ g8 ≠ g9))
  case first =>
    go_region
    all_goals (go_wp2_with fail; go_meet; first
      | exact ⟨W2.heap.size + 1, W2.heap.size, rfl, rfl, rfl, ⟨st_al _ (by simp only [World.size_alloc])⟩, ⟨blk_alloc (heap_alloc_new W2 _) _⟩, ⟨below_drew (below_alloc (below_alloc (Below.refl _ _) _) _)⟩, ⟨by omega⟩⟩
      | exact ⟨W2.heap.size, W2.heap.size + 1, rfl, rfl, rfl, ⟨blk_alloc (heap_alloc_new W2 _) _⟩, ⟨st_al _ (by simp only [World.size_alloc])⟩, ⟨below_drew (below_alloc (below_alloc (Below.refl _ _) _) _)⟩, ⟨by omega⟩⟩)
  case rest =>
  obtain ⟨g8, g9, rfl, rfl, rfl, XE, XD, N, HG⟩ := hcut
  replace K3 := Aside0.mk ((N.out.block _ (blk_lt K3.out)).trans K3.out)
  replace K4 := Aside0.mk ((N.out.block _ (blk_lt K4.out)).trans K4.out)
  replace K5 := Aside0.mk ((N.out.block _ (blk_lt K5.out)).trans K5.out)
  replace K13 := Aside0.mk ((N.out.block _ (blk_lt K13.out)).trans K13.out)
  replace K15 := Aside0.mk ((N.out.block _ (blk_lt K15.out)).trans K15.out)
  replace K16 := Aside0.mk ((N.out.block _ (blk_lt K16.out)).trans K16.out)
  have E3 := Aside0.mk (below_then E2.out E2.out.size N.out)
  have HNN : Aside0 (b3 < gA ∧ b4 < gA ∧ b5 < gA ∧ gF < gA ∧ gZ < gA ∧ gA < g8 ∧ gA < g9 ∧ g8 ≠ g9 ∧ w.heap.size ≤ gA) := ⟨by
    have h1 := HN.out
    have h2 := HN2.out
    have h3 := HG.out
    have h4 := HWA.out
    omega⟩
  clear y0 y3 y4 y5 z0 z1 z2 z3 z4 z5 z6 hs hsE XB K9 N E2 HG HN HN2
  go_upto_block 0 with fail
  have hw0 : 0 ≤ IntKind.u64.wrap a0 := by rw [Spec.u64_wrap]; omega
  obtain ⟨m, hm⟩ : ∃ m : Int, (IntKind.u64.wrap a0).tmod 11 = m := ⟨_, rfl⟩
  have hm0 : 0 ≤ m ∧ m < 11 := by
    rw [Int.tmod_eq_emod_of_nonneg hw0] at hm
    omega
  have HM := Aside0.mk hm
  rw [hm]
  clear hm hw0
  go_cut [7, 10] (fun s7 s10 wx => Aside0 (CfEx w wx g8 g9 m s7 s10))
  case first =>
    have hn := HNN.out
    obtain ⟨n3, n4, n5, nF, nZ, nA8, nA9, n89, nW⟩ := hn
    have XA : Aside0 (wc.heap[gA]? = some (acF ⟨#[99, 99, 32, 97]⟩ (.slice (some ⟨gZ, 0, none⟩) 1 1) false)) := K16
    have hAs : gA < wc.heap.size := blk_lt XA.out
    have h8s : g8 < wc.heap.size := blk_lt XE.out
    have h9s : g9 < wc.heap.size := blk_lt XD.out
    rcases (by omega : m = 0 ∨ m = 1 ∨ m = 2 ∨ m = 3 ∨ m = 4 ∨ m = 5 ∨ m = 6 ∨ m = 7 ∨ m = 8 ∨ m = 9 ∨ m = 10) with rfl | rfl | rfl | rfl | rfl | rfl | rfl | rfl | rfl | rfl | rfl
    · obtain ⟨x0, x1, x2⟩ := ac_cells XA.out
      have q0 := blk_frozen XA.out 0
      go_wp2
      go_meet
      exact ⟨⟨[(⟨⟨#[]⟩, [⟨#[122, 46, 104]⟩], false⟩ : S33_)], (some ⟨gA, 0, none⟩), 1, 1800, (some ⟨b3, 0, none⟩), (some ⟨b4, 0, none⟩), (some ⟨b5, 0, none⟩), none, 2, 1, 1, 0, stE1.f0, stE1.f1, stE1.f2, stE1.f3, stE1.f4, (some ⟨gF, 0, none⟩), 4, stF.take 4, 4, rfl, rfl, ⟨st_A1 ⟨#[]⟩ ⟨#[122, 46, 104]⟩ false (blk_put (cs := #[.string ⟨#[99, 99, 32, 97]⟩, .slice (some ⟨gZ, 0, none⟩) 1 1, .bool false]) XA.out 0 _ rfl) (blk_far K15.out (by show _ ≠ gA; omega) _), Nat.le_refl _, (blk_far XE.out (by show _ ≠ gA; omega) _), st_str [⟨#[97, 46, 111]⟩, ⟨#[97, 46, 100]⟩] (blk_far K3.out (by show _ ≠ gA; omega) _) (by decide), (by decide), st_str [⟨#[97, 46, 99]⟩] (blk_far K4.out (by show _ ≠ gA; omega) _) (by decide), (by decide), st_str [⟨#[97, 46, 104]⟩] (blk_far K5.out (by show _ ≠ gA; omega) _) (by decide), (by decide), st_nil _, (by decide), (blk_far XD.out (by show _ ≠ gA; omega) _), st_F' 4 (by omega) (blk_far K13.out (by show _ ≠ gA; omega) _), (by decide), cf_run0, .inl ⟨by decide, cf_reads0⟩, below_set E3.out (by omega)⟩⟩⟩
    · obtain ⟨x0, x1, x2⟩ := ac_cells XA.out
      have q1 := blk_frozen XA.out 1
      go_wp2
      go_meet
      exact ⟨⟨[(⟨⟨#[99, 99, 32, 97]⟩, [⟨#[47, 122]⟩], false⟩ : S33_)], (some ⟨gA, 0, none⟩), 1, 1800, (some ⟨b3, 0, none⟩), (some ⟨b4, 0, none⟩), (some ⟨b5, 0, none⟩), none, 2, 1, 1, 0, stE1.f0, stE1.f1, stE1.f2, stE1.f3, stE1.f4, (some ⟨gF, 0, none⟩), 4, stF.take 4, 4, rfl, rfl, ⟨st_A1 ⟨#[99, 99, 32, 97]⟩ ⟨#[47, 122]⟩ false (blk_alloc (blk_put (cs := #[.string ⟨#[99, 99, 32, 97]⟩, .slice (some ⟨gZ, 0, none⟩) 1 1, .bool false]) XA.out 1 _ rfl) _) (st_al _ (by simp)), Nat.le_refl _, (blk_alloc (blk_far XE.out (by show _ ≠ gA; omega) _) _), st_str [⟨#[97, 46, 111]⟩, ⟨#[97, 46, 100]⟩] (blk_alloc (blk_far K3.out (by show _ ≠ gA; omega) _) _) (by decide), (by decide), st_str [⟨#[97, 46, 99]⟩] (blk_alloc (blk_far K4.out (by show _ ≠ gA; omega) _) _) (by decide), (by decide), st_str [⟨#[97, 46, 104]⟩] (blk_alloc (blk_far K5.out (by show _ ≠ gA; omega) _) _) (by decide), (by decide), st_nil _, (by decide), (blk_alloc (blk_far XD.out (by show _ ≠ gA; omega) _) _), st_F' 4 (by omega) (blk_alloc (blk_far K13.out (by show _ ≠ gA; omega) _) _), (by decide), cf_run1, .inl ⟨by decide, cf_reads1⟩, (below_alloc (below_set E3.out (by omega)) _)⟩⟩⟩
    · obtain ⟨N, HNz, hN0, hN1⟩ : ∃ N : Nat, Aside0 ((16 : Int) + (1 + z) = (N : Int)) ∧ 17 ≤ N ∧ N ≤ 400 := ⟨(17 + z).toNat, ⟨by omega⟩, by omega, by omega⟩
      have hmk : ∀ W : World, (Instr.makeSlice 22 (.int .i64 (16 + (1 + z))) (.int .i64 (16 + (1 + z)))).run Tryd.prog W = .ok (.slice (some ⟨W.heap.size, 0, none⟩) N N) (W.alloc (.cells (madeCells #[.string ⟨#[]⟩, .slice none 0 0, .bool false] (N * 3)) 33)) := fun W => by
        rw [HNz.out]
        exact cf_make N (by omega) W
      have M0 := Aside0.mk (cf_made wc N)
      have MB := Aside0.mk (below_alloc (Below.refl wc.heap.size wc) (.cells (madeCells #[.string ⟨#[]⟩, .slice none 0 0, .bool false] (N * 3)) 33))
      go_wp2
      clear hmk
      go_loopg [11] N (fun gg s11 wr => ∃ q : Nat, q ≤ N ∧ N - q ≤ gg ∧ s11 = .int .i64 q ∧ Aside0 (wr.rowIs wc.heap.size 33 (N * 3) (cfF q)) ∧ Aside0 (Below wc.heap.size wc wr))
      case atStart => exact ⟨0, Nat.zero_le _, by omega, rfl, ⟨M0.out⟩, ⟨MB.out⟩⟩
      case round =>
        clear M0 MB
        obtain ⟨q, hq, hgk, rfl, R, B⟩ := hrel
        by_cases hlt : q < N
        · have hltz : (q : Int) < (N : Int) := by omega
          have y0 := R.out.cell (i := q * 3) (by omega)
          have f0 := R.out.frozen (q * 3)
          go_wp2
          go_roundg (N - (q + 1))
          case measure => omega
          case rel => exact ⟨q + 1, by omega, by omega, by simp, ⟨cf_put R.out hlt⟩, ⟨Below.setCell B.out (Nat.le_refl _) _⟩⟩
        · have heq : q = N := by omega
          subst heq
          have hltz : ¬ (q : Int) < (q : Int) := by omega
          have C6 := cf_many_C R.out (by omega)
          have hlong := cf_long (xa := List.replicate q cfX) (by rw [List.length_replicate]; omega) stE1.f0 stE1.f1 stE1.f2 stE1.f3 stE1.f4 stE1.f6 4 (stF.take 4)
          have hl9 : (List.replicate q cfX).length = q := List.length_replicate
          have C6 := Aside0.mk C6
          have HL9 := Aside0.mk hlong
          clear hlong
          go_wp2
          go_meet
          exact ⟨⟨List.replicate q cfX, (some ⟨wc.heap.size, 0, none⟩), q, 1800, (some ⟨b3, 0, none⟩), (some ⟨b4, 0, none⟩), (some ⟨b5, 0, none⟩), none, 2, 1, 1, 0, stE1.f0, stE1.f1, stE1.f2, stE1.f3, stE1.f4, (some ⟨gF, 0, none⟩), 4, stF.take 4, 4, by rw [hl9], rfl,
            ⟨by rw [hl9]; exact C6.out, by rw [hl9]; exact Nat.le_refl _, (B.out.block _ (blk_lt XE.out)).trans XE.out, st_str [⟨#[97, 46, 111]⟩, ⟨#[97, 46, 100]⟩] ((B.out.block _ (blk_lt K3.out)).trans K3.out) (by decide), (by decide), st_str [⟨#[97, 46, 99]⟩] ((B.out.block _ (blk_lt K4.out)).trans K4.out) (by decide), (by decide), st_str [⟨#[97, 46, 104]⟩] ((B.out.block _ (blk_lt K5.out)).trans K5.out) (by decide), (by decide), st_nil _, (by decide), (B.out.block _ (blk_lt XD.out)).trans XD.out, st_F' 4 (by omega) ((B.out.block _ (blk_lt K13.out)).trans K13.out), (by decide), HL9.out.2, .inl ⟨by decide, HL9.out.1⟩, below_then E3.out E3.out.size B.out⟩⟩⟩
    · have x0 : wc.cell? ⟨g8, 4, none⟩ = _ := (blk_cell XE.out 4).trans rfl
      have q0 := blk_frozen XE.out 4
      go_wp2
      go_meet
      exact ⟨⟨[(⟨⟨#[99, 99, 32, 97]⟩, [⟨#[122, 46, 104]⟩], false⟩ : S33_)], (some ⟨gA, 0, none⟩), 1, 1800, (some ⟨b3, 0, none⟩), (some ⟨b4, 0, none⟩), (some ⟨b5, 0, none⟩), none, 2, 1, 1, 0, stE1.f0, stE1.f1, stE1.f2, stE1.f3, ⟨#[]⟩, (some ⟨gF, 0, none⟩), 4, stF.take 4, 4, rfl, rfl, ⟨st_A1 ⟨#[99, 99, 32, 97]⟩ ⟨#[122, 46, 104]⟩ false (blk_far XA.out (by show _ ≠ g8; omega) _) (blk_far K15.out (by show _ ≠ g8; omega) _), Nat.le_refl _, (blk_put (cs := #[.slice (some ⟨b3, 0, none⟩) 2 2, .slice (some ⟨b4, 0, none⟩) 1 1, .slice (some ⟨b5, 0, none⟩) 1 1, .slice none 0 0, .string ⟨#[99, 99, 32, 97]⟩, .bool true, .string ⟨#[116, 119, 111]⟩]) XE.out 4 _ rfl), st_str [⟨#[97, 46, 111]⟩, ⟨#[97, 46, 100]⟩] (blk_far K3.out (by show _ ≠ g8; omega) _) (by decide), (by decide), st_str [⟨#[97, 46, 99]⟩] (blk_far K4.out (by show _ ≠ g8; omega) _) (by decide), (by decide), st_str [⟨#[97, 46, 104]⟩] (blk_far K5.out (by show _ ≠ g8; omega) _) (by decide), (by decide), st_nil _, (by decide), (blk_far XD.out (by show _ ≠ g8; omega) _), st_F' 4 (by omega) (blk_far K13.out (by show _ ≠ g8; omega) _), (by decide), cf_run3, .inl ⟨by decide, cf_reads3⟩, below_set E3.out (by omega)⟩⟩⟩
    · have x0 : wc.cell? ⟨g8, 1, none⟩ = _ := (blk_cell XE.out 1).trans rfl
      have q0 := blk_frozen XE.out 1
      go_wp2
      go_meet
      exact ⟨⟨[(⟨⟨#[99, 99, 32, 97]⟩, [⟨#[122, 46, 104]⟩], false⟩ : S33_)], (some ⟨gA, 0, none⟩), 1, 1800, (some ⟨b3, 0, none⟩), (some ⟨wc.heap.size, 0, none⟩), (some ⟨b5, 0, none⟩), none, 2, 1, 1, 0, stE1.f0, [⟨#[65]⟩], stE1.f2, stE1.f3, stE1.f4, (some ⟨gF, 0, none⟩), 4, stF.take 4, 4, rfl, rfl, ⟨st_A1 ⟨#[99, 99, 32, 97]⟩ ⟨#[122, 46, 104]⟩ false (blk_alloc (blk_far XA.out (by show _ ≠ g8; omega) _) _) (blk_alloc (blk_far K15.out (by show _ ≠ g8; omega) _) _), Nat.le_refl _, (blk_alloc (blk_put (cs := #[.slice (some ⟨b3, 0, none⟩) 2 2, .slice (some ⟨b4, 0, none⟩) 1 1, .slice (some ⟨b5, 0, none⟩) 1 1, .slice none 0 0, .string ⟨#[99, 99, 32, 97]⟩, .bool true, .string ⟨#[116, 119, 111]⟩]) XE.out 1 _ rfl) _), st_str [⟨#[97, 46, 111]⟩, ⟨#[97, 46, 100]⟩] (blk_alloc (blk_far K3.out (by show _ ≠ g8; omega) _) _) (by decide), (by decide), st_str [⟨#[65]⟩] (st_al _ (by simp)) (by decide), (by decide), st_str [⟨#[97, 46, 104]⟩] (blk_alloc (blk_far K5.out (by show _ ≠ g8; omega) _) _) (by decide), (by decide), st_nil _, (by decide), (blk_alloc (blk_far XD.out (by show _ ≠ g8; omega) _) _), st_F' 4 (by omega) (blk_alloc (blk_far K13.out (by show _ ≠ g8; omega) _) _), (by decide), cf_run4, .inl ⟨by decide, cf_reads4⟩, (below_alloc (below_set E3.out (by omega)) _)⟩⟩⟩
    · have x0 : wc.cell? ⟨g9, 0, none⟩ = some (.int .i64 4) := by rw [blk_cell XD.out]; rfl
      have x1 : wc.cell? ⟨g9, 1, none⟩ = some (.slice (some ⟨gF, 0, none⟩) 4 4) := by rw [blk_cell XD.out]; rfl
      have q0 := blk_frozen XD.out 0
      go_wp2
      go_meet
      exact ⟨⟨[(⟨⟨#[99, 99, 32, 97]⟩, [⟨#[122, 46, 104]⟩], false⟩ : S33_)], (some ⟨gA, 0, none⟩), 1, 1800, (some ⟨b3, 0, none⟩), (some ⟨b4, 0, none⟩), (some ⟨b5, 0, none⟩), none, 2, 1, 1, 0, stE1.f0, stE1.f1, stE1.f2, stE1.f3, stE1.f4, (some ⟨gF, 0, none⟩), 4, stF.take 4, (-(1 + z)), rfl, rfl, ⟨st_A1 ⟨#[99, 99, 32, 97]⟩ ⟨#[122, 46, 104]⟩ false (blk_far XA.out (by show _ ≠ g9; omega) _) (blk_far K15.out (by show _ ≠ g9; omega) _), Nat.le_refl _, (blk_far XE.out (by show _ ≠ g9; omega) _), st_str [⟨#[97, 46, 111]⟩, ⟨#[97, 46, 100]⟩] (blk_far K3.out (by show _ ≠ g9; omega) _) (by decide), (by decide), st_str [⟨#[97, 46, 99]⟩] (blk_far K4.out (by show _ ≠ g9; omega) _) (by decide), (by decide), st_str [⟨#[97, 46, 104]⟩] (blk_far K5.out (by show _ ≠ g9; omega) _) (by decide), (by decide), st_nil _, (by decide), (blk_put (cs := #[.int .i64 4, .slice (some ⟨gF, 0, none⟩) 4 4]) XD.out 0 _ rfl), st_F' 4 (by omega) (blk_far K13.out (by show _ ≠ g9; omega) _), (by decide), cf_run5 z hz0 hz1, .inr ⟨by decide, _, cf_reads5⟩, below_set E3.out (by omega)⟩⟩⟩
    · obtain ⟨x0, x1, x2⟩ := ac_cells XA.out
      have q2 := blk_frozen XA.out 2
      go_wp2
      go_meet
      exact ⟨⟨[(⟨⟨#[99, 99, 32, 97]⟩, [⟨#[122, 46, 104]⟩], true⟩ : S33_)], (some ⟨gA, 0, none⟩), 1, 1801, (some ⟨b3, 0, none⟩), (some ⟨b4, 0, none⟩), (some ⟨b5, 0, none⟩), none, 2, 1, 1, 0, stE1.f0, stE1.f1, stE1.f2, stE1.f3, stE1.f4, (some ⟨gF, 0, none⟩), 4, stF.take 4, 4, rfl, rfl, ⟨st_A1 ⟨#[99, 99, 32, 97]⟩ ⟨#[122, 46, 104]⟩ true (blk_put (cs := #[.string ⟨#[99, 99, 32, 97]⟩, .slice (some ⟨gZ, 0, none⟩) 1 1, .bool false]) XA.out 2 _ rfl) (blk_far K15.out (by show _ ≠ gA; omega) _), Nat.le_refl _, (blk_far XE.out (by show _ ≠ gA; omega) _), st_str [⟨#[97, 46, 111]⟩, ⟨#[97, 46, 100]⟩] (blk_far K3.out (by show _ ≠ gA; omega) _) (by decide), (by decide), st_str [⟨#[97, 46, 99]⟩] (blk_far K4.out (by show _ ≠ gA; omega) _) (by decide), (by decide), st_str [⟨#[97, 46, 104]⟩] (blk_far K5.out (by show _ ≠ gA; omega) _) (by decide), (by decide), st_nil _, (by decide), (blk_far XD.out (by show _ ≠ gA; omega) _), st_F' 4 (by omega) (blk_far K13.out (by show _ ≠ gA; omega) _), (by decide), cf_run6, .inr ⟨by decide, _, cf_reads6⟩, below_set E3.out (by omega)⟩⟩⟩
    · obtain ⟨x0, x1, x2⟩ := ac_cells XA.out
      have q1 := blk_frozen XA.out 1
      go_wp2
      go_meet
      exact ⟨⟨[(⟨⟨#[99, 99, 32, 97]⟩, [⟨#[110, 111, 110, 101]⟩], false⟩ : S33_)], (some ⟨gA, 0, none⟩), 1, 1801, (some ⟨b3, 0, none⟩), (some ⟨b4, 0, none⟩), (some ⟨b5, 0, none⟩), none, 2, 1, 1, 0, stE1.f0, stE1.f1, stE1.f2, stE1.f3, stE1.f4, (some ⟨gF, 0, none⟩), 4, stF.take 4, 4, rfl, rfl, ⟨st_A1 ⟨#[99, 99, 32, 97]⟩ ⟨#[110, 111, 110, 101]⟩ false (blk_alloc (blk_put (cs := #[.string ⟨#[99, 99, 32, 97]⟩, .slice (some ⟨gZ, 0, none⟩) 1 1, .bool false]) XA.out 1 _ rfl) _) (st_al _ (by simp)), Nat.le_refl _, (blk_alloc (blk_far XE.out (by show _ ≠ gA; omega) _) _), st_str [⟨#[97, 46, 111]⟩, ⟨#[97, 46, 100]⟩] (blk_alloc (blk_far K3.out (by show _ ≠ gA; omega) _) _) (by decide), (by decide), st_str [⟨#[97, 46, 99]⟩] (blk_alloc (blk_far K4.out (by show _ ≠ gA; omega) _) _) (by decide), (by decide), st_str [⟨#[97, 46, 104]⟩] (blk_alloc (blk_far K5.out (by show _ ≠ gA; omega) _) _) (by decide), (by decide), st_nil _, (by decide), (blk_alloc (blk_far XD.out (by show _ ≠ gA; omega) _) _), st_F' 4 (by omega) (blk_alloc (blk_far K13.out (by show _ ≠ gA; omega) _) _), (by decide), cf_run7, .inr ⟨by decide, _, cf_reads7⟩, (below_alloc (below_set E3.out (by omega)) _)⟩⟩⟩
    · have x0 : wc.cell? ⟨g8, 1, none⟩ = _ := (blk_cell XE.out 1).trans rfl
      have q0 := blk_frozen XE.out 1
      go_wp2
      go_meet
      exact ⟨⟨[(⟨⟨#[99, 99, 32, 97]⟩, [⟨#[122, 46, 104]⟩], false⟩ : S33_)], (some ⟨gA, 0, none⟩), 1, 1801, (some ⟨b3, 0, none⟩), (some ⟨wc.heap.size, 0, none⟩), (some ⟨b5, 0, none⟩), none, 2, 2, 1, 0, stE1.f0, [⟨#[97, 46, 99]⟩, ⟨#[110, 111, 110, 101]⟩], stE1.f2, stE1.f3, stE1.f4, (some ⟨gF, 0, none⟩), 4, stF.take 4, 4, rfl, rfl, ⟨st_A1 ⟨#[99, 99, 32, 97]⟩ ⟨#[122, 46, 104]⟩ false (blk_alloc (blk_far XA.out (by show _ ≠ g8; omega) _) _) (blk_alloc (blk_far K15.out (by show _ ≠ g8; omega) _) _), Nat.le_refl _, (blk_alloc (blk_put (cs := #[.slice (some ⟨b3, 0, none⟩) 2 2, .slice (some ⟨b4, 0, none⟩) 1 1, .slice (some ⟨b5, 0, none⟩) 1 1, .slice none 0 0, .string ⟨#[99, 99, 32, 97]⟩, .bool true, .string ⟨#[116, 119, 111]⟩]) XE.out 1 _ rfl) _), st_str [⟨#[97, 46, 111]⟩, ⟨#[97, 46, 100]⟩] (blk_alloc (blk_far K3.out (by show _ ≠ g8; omega) _) _) (by decide), (by decide), st_str [⟨#[97, 46, 99]⟩, ⟨#[110, 111, 110, 101]⟩] (st_al _ (by simp)) (by decide), (by decide), st_str [⟨#[97, 46, 104]⟩] (blk_alloc (blk_far K5.out (by show _ ≠ g8; omega) _) _) (by decide), (by decide), st_nil _, (by decide), (blk_alloc (blk_far XD.out (by show _ ≠ g8; omega) _) _), st_F' 4 (by omega) (blk_alloc (blk_far K13.out (by show _ ≠ g8; omega) _) _), (by decide), cf_run8, .inr ⟨by decide, _, cf_reads8⟩, (below_alloc (below_set E3.out (by omega)) _)⟩⟩⟩
    · have x0 : wc.cell? ⟨g8, 2, none⟩ = _ := (blk_cell XE.out 2).trans rfl
      have q0 := blk_frozen XE.out 2
      go_wp2
      go_meet
      exact ⟨⟨[(⟨⟨#[99, 99, 32, 97]⟩, [⟨#[122, 46, 104]⟩], false⟩ : S33_)], (some ⟨gA, 0, none⟩), 1, 1801, (some ⟨b3, 0, none⟩), (some ⟨b4, 0, none⟩), (some ⟨wc.heap.size, 0, none⟩), none, 2, 1, 1, 0, stE1.f0, stE1.f1, [⟨#[110, 111, 110, 101]⟩], stE1.f3, stE1.f4, (some ⟨gF, 0, none⟩), 4, stF.take 4, 4, rfl, rfl, ⟨st_A1 ⟨#[99, 99, 32, 97]⟩ ⟨#[122, 46, 104]⟩ false (blk_alloc (blk_far XA.out (by show _ ≠ g8; omega) _) _) (blk_alloc (blk_far K15.out (by show _ ≠ g8; omega) _) _), Nat.le_refl _, (blk_alloc (blk_put (cs := #[.slice (some ⟨b3, 0, none⟩) 2 2, .slice (some ⟨b4, 0, none⟩) 1 1, .slice (some ⟨b5, 0, none⟩) 1 1, .slice none 0 0, .string ⟨#[99, 99, 32, 97]⟩, .bool true, .string ⟨#[116, 119, 111]⟩]) XE.out 2 _ rfl) _), st_str [⟨#[97, 46, 111]⟩, ⟨#[97, 46, 100]⟩] (blk_alloc (blk_far K3.out (by show _ ≠ g8; omega) _) _) (by decide), (by decide), st_str [⟨#[97, 46, 99]⟩] (blk_alloc (blk_far K4.out (by show _ ≠ g8; omega) _) _) (by decide), (by decide), st_str [⟨#[110, 111, 110, 101]⟩] (st_al _ (by simp)) (by decide), (by decide), st_nil _, (by decide), (blk_alloc (blk_far XD.out (by show _ ≠ g8; omega) _) _), st_F' 4 (by omega) (blk_alloc (blk_far K13.out (by show _ ≠ g8; omega) _) _), (by decide), cf_run9, .inr ⟨by decide, _, cf_reads9⟩, (below_alloc (below_set E3.out (by omega)) _)⟩⟩⟩
    · have x0 : wc.cell? ⟨g9, 0, none⟩ = some (.int .i64 4) := by rw [blk_cell XD.out]; rfl
      have x1 : wc.cell? ⟨g9, 1, none⟩ = some (.slice (some ⟨gF, 0, none⟩) 4 4) := by rw [blk_cell XD.out]; rfl
      have q0 := blk_frozen XD.out 1
      go_wp2
      go_meet
      exact ⟨⟨[(⟨⟨#[99, 99, 32, 97]⟩, [⟨#[122, 46, 104]⟩], false⟩ : S33_)], (some ⟨gA, 0, none⟩), 1, 1801, (some ⟨b3, 0, none⟩), (some ⟨b4, 0, none⟩), (some ⟨b5, 0, none⟩), none, 2, 1, 1, 0, stE1.f0, stE1.f1, stE1.f2, stE1.f3, stE1.f4, (some ⟨gF, 0, none⟩), 4, stF.take 3, 4, rfl, rfl, ⟨st_A1 ⟨#[99, 99, 32, 97]⟩ ⟨#[122, 46, 104]⟩ false (blk_far XA.out (by show _ ≠ g9; omega) _) (blk_far K15.out (by show _ ≠ g9; omega) _), Nat.le_refl _, (blk_far XE.out (by show _ ≠ g9; omega) _), st_str [⟨#[97, 46, 111]⟩, ⟨#[97, 46, 100]⟩] (blk_far K3.out (by show _ ≠ g9; omega) _) (by decide), (by decide), st_str [⟨#[97, 46, 99]⟩] (blk_far K4.out (by show _ ≠ g9; omega) _) (by decide), (by decide), st_str [⟨#[97, 46, 104]⟩] (blk_far K5.out (by show _ ≠ g9; omega) _) (by decide), (by decide), st_nil _, (by decide), (blk_put (cs := #[.int .i64 4, .slice (some ⟨gF, 0, none⟩) 4 4]) XD.out 1 _ rfl), st_F' 3 (by omega) (blk_far K13.out (by show _ ≠ g9; omega) _), (by decide), cf_run10, .inr ⟨by decide, _, cf_reads10⟩, below_set E3.out (by omega)⟩⟩⟩
  case rest =>
  obtain ⟨xa, A, c, want, B0, B1, B2, B3, d0, d1, d2, d3, l0, l1, l2, l3, cmd, A5, c5, fs, clk, rfl, rfl, CF⟩ := hcut.out
  clear hcut K3 K4 K5 K13 K15 K16 XE XD E3 HNN
  obtain ⟨ra, ka, xe, r0, k0, r1, k1, r2, k2, r3, k3, xd, rf, kf, run, reads, below⟩ := CF
  have f0 : wc.cell? ⟨g8, 0, none⟩ = some (.slice B0 l0.length d0) := by rw [blk_cell xe]; rfl
  have f1 : wc.cell? ⟨g8, 1, none⟩ = some (.slice B1 l1.length d1) := by rw [blk_cell xe]; rfl
  have f2 : wc.cell? ⟨g8, 2, none⟩ = some (.slice B2 l2.length d2) := by rw [blk_cell xe]; rfl
  have f3 : wc.cell? ⟨g8, 3, none⟩ = some (.slice B3 l3.length d3) := by rw [blk_cell xe]; rfl
  have f4 : wc.cell? ⟨g8, 4, none⟩ = some (.string cmd) := by rw [blk_cell xe]; rfl
  have f5 : wc.cell? ⟨g8, 5, none⟩ = some (.bool true) := by rw [blk_cell xe]; rfl
  have f6 : wc.cell? ⟨g8, 6, none⟩ = some (.string stE1.f6) := by rw [blk_cell xe]; rfl
  have x0 : wc.cell? ⟨g9, 0, none⟩ = some (.int .i64 clk) := by rw [blk_cell xd]; rfl
  have x1 : wc.cell? ⟨g9, 1, none⟩ = some (.slice A5 fs.length c5) := by rw [blk_cell xd]; rfl
  have cR := command_Run.calls 40 A c xa B0 d0 l0 B1 d1 l1 B2 d2 l2 B3 d3 l3 cmd true stE1.f6 clk A5 c5 fs [] want wc ra ka r0 k0 r1 k1 r2 k2 r3 k3 rf kf run
  have cQ := fun (W : World) (hB : Below wc.heap.size wc W) (rr : List ByteArray) (re : Int) (h : command_Reads.f 40 xa l0 l1 l2 l3 cmd true stE1.f6 = some (rr, re)) => command_Reads.calls 40 A c xa B0 d0 l0 B1 d1 l1 B2 d2 l2 B3 d3 l3 cmd true stE1.f6 rr re W (Kd.C_below ra hB) ka (Kd.C_below r0 hB) k0 (Kd.C_below r1 hB) k1 (Kd.C_below r2 hB) k2 (Kd.C_below r3 hB) k3 h
  have XE := Aside0.mk xe
  have RD := Aside0.mk reads
  have CQ := Aside0.mk cQ
  have BL := Aside0.mk below
  clear ra r0 r1 r2 r3 rf ka k0 k1 k2 k3 kf run reads xe xd cQ below
  go_wp2_with fail
  refine cR.mono ?_
  clear cR f0 f1 f2 f3 f4 f5 f6 x0 x1
  rintro e w5 ⟨v, rfl, hR, hb⟩
  obtain ⟨A7, k7, e9⟩ := Kd.R_slice hR
  subst e9
  have cN : ∀ (n : Int) W, Below w.heap.size w W → Calls Tryd.prog 25 #[.int .i64 n] W fun e w' => e = .returned (.int .i64 n) ∧ Below w.heap.size w w' := fun n W hW => (cruciblelaw0_Num.calls n n W rfl).mono fun e w' ⟨he, hd⟩ => ⟨he, below_then hW hW.size hd.below⟩
  have cM : ∀ W, Below w.heap.size w W → Calls Tryd.prog 34 #[.slice none 0 0] W fun e w' => e = .returned (.bool true) ∧ Below w.heap.size w w' := fun W hW => (crucibleref12_ActionsMay.calls 40 none 0 [] true W (Kd.R_reads' (Kd.R_nil k33 33 W 0 (fun _ => True))).2.2 (Nat.le_refl _) (by kernel_rfl)).mono fun e w' ⟨he, hd⟩ => ⟨he, below_then hW hW.size hd⟩
  have XE5 := (hb.block _ (blk_lt XE.out)).trans XE.out
  have f0 : w5.cell? ⟨g8, 0, none⟩ = some (.slice B0 l0.length d0) := by rw [blk_cell XE5]; rfl
  have f1 : w5.cell? ⟨g8, 1, none⟩ = some (.slice B1 l1.length d1) := by rw [blk_cell XE5]; rfl
  have f2 : w5.cell? ⟨g8, 2, none⟩ = some (.slice B2 l2.length d2) := by rw [blk_cell XE5]; rfl
  have f3 : w5.cell? ⟨g8, 3, none⟩ = some (.slice B3 l3.length d3) := by rw [blk_cell XE5]; rfl
  have f4 : w5.cell? ⟨g8, 4, none⟩ = some (.string cmd) := by rw [blk_cell XE5]; rfl
  have f5 : w5.cell? ⟨g8, 5, none⟩ = some (.bool true) := by rw [blk_cell XE5]; rfl
  have f6 : w5.cell? ⟨g8, 6, none⟩ = some (.string stE1.f6) := by rw [blk_cell XE5]; rfl
  have B5 := Aside0.mk (below_then BL.out BL.out.size hb)
  rcases RD.out with ⟨hlt, hq⟩ | ⟨hlt, rr, hq⟩
  · have cq := CQ.out w5 hb [] 1800 hq
    have hm := HM.out
    clear hR hb XE5 CQ RD XE hq
    go_wp2_with fail
    refine cq.mono ?_
    clear cq f0 f1 f2 f3 f4 f5 f6
    rintro e w6 ⟨v, rfl, hR, hb⟩
    obtain ⟨A8, k8, e9⟩ := Kd.R_slice hR
    subst e9
    have W6 := below_then B5.out B5.out.size hb
    clear hR hb
    go_wp2_with (first
      | (go_at_call 25; refine (cN _ _ ?_).mono ?_; assumption; rintro e w' ⟨rfl, hb⟩)
      | (go_at_call 34; refine (cM _ ?_).mono ?_; assumption; rintro e w' ⟨rfl, hb⟩))
    go_ret
    exact ⟨rfl, by assumption⟩
  · have cq := CQ.out w5 hb rr 0 hq
    have hm := HM.out
    clear hR hb XE5 CQ RD XE hq
    go_wp2_with fail
    refine cq.mono ?_
    clear cq f0 f1 f2 f3 f4 f5 f6
    rintro e w6 ⟨v, rfl, hR, hb⟩
    obtain ⟨A8, k8, e9⟩ := Kd.R_slice hR
    subst e9
    have W6 := below_then B5.out B5.out.size hb
    clear hR hb
    go_wp2_with (first
      | (go_at_call 25; refine (cN _ _ ?_).mono ?_; assumption; rintro e w' ⟨rfl, hb⟩)
      | (go_at_call 34; refine (cM _ ?_).mono ?_; assumption; rintro e w' ⟨rfl, hb⟩))
    go_ret
    exact ⟨rfl, by assumption⟩

end Go.Proofs.YtilnamobmjngbaaDoor.P
