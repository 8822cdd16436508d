-- Made by a program of this work's own (wip/myprint.py) over the kit's print; leaves by hand.
import Derived.Test.YtilnamobmjngbaaDoorP0
import Derived.Test.YtilnamobmjngbaaDoorP6
import Derived.Test.YtilnamobmjngbaaDoorP7
import Derived.Test.YtilnamobmjngbaaDoorP12
import Derived.Test.YtilnamobmjngbaaDoorMg1
namespace Go.Proofs.YtilnamobmjngbaaDoor.P
open Go.RowKit Go.Proofs.YtilnamobmjngbaaDoorW.PrintWords Go.Proofs.YtilnamobmjngbaaDoorW.PrintLast Go.Proofs.YtilnamobmjngbaaDoorW.PrintMore
attribute [local go_sem] max2_int min2_int max_two min_two max_three min_three max_four min_four   -- for this text's walks alone
set_option linter.unusedVariables false
set_option linter.unusedSimpArgs false

-- HANDBIG CommandReads.lean
-- IMPORT Derived.Test.YtilnamobmjngbaaDoorPlain
/-! ### command_Reads, by hand -/
def command_Reads.f (k : Nat) (l0 : List (S33)) (l1 l2 l3 l4 : List ByteArray) (cmd : ByteArray) (dep : Bool) (pool : ByteArray) : Option (List ByteArray × Int) :=
  (command_May.f k l0).bind fun b => if b = true then ((graph_Edge.f k l1 l2 l3 l4 cmd pool).bind fun b2 => if b2 = true then (if dep = true then ((command_Action.f k l0 cmd).bind fun a => some (a.2.1, 0)) else some ([], 0)) else some ([], 1800)) else some ([], 1800)
theorem command_Reads.mono : ∀ l0 l1 l2 l3 l4 cmd dep pool k, LeO (command_Reads.f k l0 l1 l2 l3 l4 cmd dep pool) (command_Reads.f (k + 1) l0 l1 l2 l3 l4 cmd dep pool) := fun l0 l1 l2 l3 l4 cmd dep pool k =>
  LeO.bind (command_May.mono _ _) (fun _ => LeO.ite (LeO.bind (graph_Edge.mono _ _ _ _ _ _ _) (fun _ => LeO.ite (LeO.ite (LeO.bind (command_Action.mono _ _ _) (fun _ => LeO.refl _)) (LeO.refl _)) (LeO.refl _))) (LeO.refl _))
theorem rd_fld (a b c : Value) (w : World) : (Instr.field 33 (.agg #[a, b, c]) 1).run Tryd.prog w = .ok b w := by kernel_rfl
attribute [local go_sem] rd_fld
abbrev rdE (A0_0 A0_1 A0_2 A0_3 : Option Addr) (n0 n1 n2 n3 c0_0 c0_1 c0_2 c0_3 : Nat) (cmd : ByteArray) (dep : Bool) (pool : ByteArray) : Obj := .cells #[.slice A0_0 n0 c0_0, .slice A0_1 n1 c0_1, .slice A0_2 n2 c0_2, .slice A0_3 n3 c0_3, .string cmd, .bool dep, .string pool] 25
set_option maxHeartbeats 4000000 in
set_option maxRecDepth 100000 in
theorem command_Reads.calls (k : Nat) (A0 : Option Addr) (c0 : Nat) (l0 : List (S33)) (A1_0 : Option Addr) (c1_0 : Nat) (l1_0 : List ByteArray) (A1_1 : Option Addr) (c1_1 : Nat) (l1_1 : List ByteArray) (A1_2 : Option Addr) (c1_2 : Nat) (l1_2 : List ByteArray) (A1_3 : Option Addr) (c1_3 : Nat) (l1_3 : List ByteArray) (a1_4 : ByteArray) (a1_5 : Bool) (a1_6 : ByteArray) (r1 : List ByteArray) (r2 : Int) (w : World) (hr0 : Kd.C k33 w A0 l0.length l0) (hc0 : l0.length ≤ c0) (hr1_0 : Kd.C Kd.string w A1_0 l1_0.length l1_0) (hc1_0 : l1_0.length ≤ c1_0) (hr1_1 : Kd.C Kd.string w A1_1 l1_1.length l1_1) (hc1_1 : l1_1.length ≤ c1_1) (hr1_2 : Kd.C Kd.string w A1_2 l1_2.length l1_2) (hc1_2 : l1_2.length ≤ c1_2) (hr1_3 : Kd.C Kd.string w A1_3 l1_3.length l1_3) (hc1_3 : l1_3.length ≤ c1_3) (h : command_Reads.f k l0 l1_0 l1_1 l1_2 l1_3 a1_4 a1_5 a1_6 = some (r1, r2)) :
    Calls Tryd.prog 20 #[.slice A0 l0.length c0, .agg #[.slice A1_0 l1_0.length c1_0, .slice A1_1 l1_1.length c1_1, .slice A1_2 l1_2.length c1_2, .slice A1_3 l1_3.length c1_3, .string a1_4, .bool a1_5, .string a1_6]] w fun e w' => ∃ v0_ : Value, e = .returned (.tuple #[v0_, .int .i64 r2]) ∧ Kd.R Kd.string 9 w' w.heap.size (fun _ => True) v0_ r1 ∧ Below w.heap.size w w' := by
  have hu := Tryd.underlying33
  obtain ⟨b, hM, h⟩ := Option.bind_eq_some_iff.1 h
  obtain ⟨w1, hw1⟩ : ∃ w1, w.alloc (rdE A1_0 A1_1 A1_2 A1_3 l1_0.length l1_1.length l1_2.length l1_3.length c1_0 c1_1 c1_2 c1_3 a1_4 a1_5 a1_6) = w1 := ⟨_, rfl⟩
  have B1 : Below w.heap.size w w1 := by rw [← hw1]; exact below_alloc (Below.refl _ _) _
  have hb1 : w1.heap[w.heap.size]? = some (rdE A1_0 A1_1 A1_2 A1_3 l1_0.length l1_1.length l1_2.length l1_3.length c1_0 c1_1 c1_2 c1_3 a1_4 a1_5 a1_6) := by rw [← hw1]; exact heap_alloc_new w _
  have cM := command_May.calls k A0 c0 l0 b w1 (Kd.C_below hr0 B1) hc0 hM
  have HW := Aside0.mk hw1
  have HB1 := Aside0.mk B1
  have X1 := Aside0.mk hb1
  have R0 := Aside0.mk hr0
  have R10 := Aside0.mk hr1_0
  have R11 := Aside0.mk hr1_1
  have R12 := Aside0.mk hr1_2
  have R13 := Aside0.mk hr1_3
  have K0 := Aside0.mk (And.intro hc0 (And.intro hc1_0 (And.intro hc1_1 (And.intro hc1_2 hc1_3))))
  have HH := Aside0.mk h
  clear hw1 B1 hb1 hr0 hr1_0 hr1_1 hr1_2 hr1_3 hc0 hc1_0 hc1_1 hc1_2 hc1_3 h hM
  go_enter Tryd.func20, Tryd.ntmps20
  go_wp2_with fail
  rw [HW.out]
  refine cM.mono ?_
  rintro e w2 ⟨rfl, B2⟩
  clear cM HW
  have X2 := Aside0.mk ((B2.block _ (blk_lt X1.out)).trans X1.out)
  have E2 := Aside0.mk (below_then HB1.out HB1.out.size B2)
  clear B2 X1 HB1
  cases b with
  | false =>
    have h := HH.out
    rw [if_neg (by simp)] at h
    have h5 := Option.some.inj h
    obtain ⟨rfl, rfl⟩ : [] = r1 ∧ (1800 : Int) = r2 := by cases h5; exact ⟨rfl, rfl⟩
    clear h h5 HH
    go_wp2
    go_ret2
    exact ⟨_, rfl, Kd.R_nil _ _ _ _ _, E2.out⟩
  | true =>
    have h := HH.out
    rw [if_pos rfl] at h
    obtain ⟨b2, hE, h⟩ := Option.bind_eq_some_iff.1 h
    have cE := graph_Edge.walk k w.heap.size A1_0 A1_1 A1_2 A1_3 c1_0 c1_1 c1_2 c1_3 l1_0 l1_1 l1_2 l1_3 a1_4 a1_5 a1_6 b2 w2
      ⟨by rw [blk_cell X2.out 0]; rfl, by rw [blk_cell X2.out 1]; rfl, by rw [blk_cell X2.out 2]; rfl, by rw [blk_cell X2.out 3]; rfl, by rw [blk_cell X2.out 4]; rfl, by rw [blk_cell X2.out 5]; rfl, by rw [blk_cell X2.out 6]; rfl,
       Kd.C_below R10.out E2.out, Kd.C_below R11.out E2.out, Kd.C_below R12.out E2.out, Kd.C_below R13.out E2.out, K0.out.2.1, K0.out.2.2.1, K0.out.2.2.2.1, K0.out.2.2.2.2⟩ hE
    have H := Aside0.mk h
    clear h hE HH
    go_wp2_with fail
    refine cE.mono ?_
    rintro e w3 ⟨rfl, B3⟩
    clear cE
    have X3 := Aside0.mk ((B3.block _ (blk_lt X2.out)).trans X2.out)
    have E3 := Aside0.mk (below_then E2.out E2.out.size B3)
    clear B3 X2 E2
    cases b2 with
    | false =>
      have h := H.out
      rw [if_neg (by simp)] at h
      have h5 := Option.some.inj h
      obtain ⟨rfl, rfl⟩ : [] = r1 ∧ (1800 : Int) = r2 := by cases h5; exact ⟨rfl, rfl⟩
      clear h h5 H
      go_wp2
      go_ret2
      exact ⟨_, rfl, Kd.R_nil _ _ _ _ _, E3.out⟩
    | true =>
      have h := H.out
      rw [if_pos rfl] at h
      have f4 : w3.cell? ⟨w.heap.size, 4, none⟩ = some (.string a1_4) := by rw [blk_cell X3.out 4]; rfl
      have f5 : w3.cell? ⟨w.heap.size, 5, none⟩ = some (.bool a1_5) := by rw [blk_cell X3.out 5]; rfl
      cases a1_5 with
      | false =>
        rw [if_neg (by simp)] at h
        have h5 := Option.some.inj h
        obtain ⟨rfl, rfl⟩ : [] = r1 ∧ (0 : Int) = r2 := by cases h5; exact ⟨rfl, rfl⟩
        clear h h5 H
        go_wp2
        go_ret2
        exact ⟨_, rfl, Kd.R_nil _ _ _ _ _, E3.out⟩
      | true =>
        rw [if_pos rfl] at h
        obtain ⟨⟨q0, q1, q2⟩, hA, h⟩ := Option.bind_eq_some_iff.1 h
        have h5 := Option.some.inj h
        obtain ⟨rfl, rfl⟩ : q1 = r1 ∧ (0 : Int) = r2 := by cases h5; exact ⟨rfl, rfl⟩
        have cA := command_Action.calls k A0 c0 l0 a1_4 q0 q1 q2 w3 (Kd.C_below R0.out E3.out) K0.out.1 hA
        clear h h5 H hA
        go_wp2_with fail
        refine cA.mono ?_
        rintro e w4 ⟨v, rfl, hR, B4⟩
        have HR := Aside0.mk hR
        have HB4 := Aside0.mk B4
        clear cA hR B4 f4 f5
        go_wp2
        go_ret2
        exact ⟨_, rfl, Kd.R_mono (Kd.R_lower HR.out E3.out.size) (fun _ _ => trivial), below_then E3.out E3.out.size HB4.out⟩

end Go.Proofs.YtilnamobmjngbaaDoor.P
