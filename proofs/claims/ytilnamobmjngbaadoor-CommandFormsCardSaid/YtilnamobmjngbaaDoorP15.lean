-- Made by a program of this work's own (wip/myprint.py) over the kit's print; leaves by hand.
import Derived.Test.YtilnamobmjngbaaDoorP0
import Derived.Test.YtilnamobmjngbaaDoorP3
import Derived.Test.YtilnamobmjngbaaDoorP5
import Derived.Test.YtilnamobmjngbaaDoorP6
import Derived.BigRegion
import Derived.Test.YtilnamobmjngbaaDoorMg1
namespace Go.Proofs.YtilnamobmjngbaaDoor.P
open Go.RowKit Go.Proofs.YtilnamobmjngbaaDoorW.PrintWords Go.Proofs.YtilnamobmjngbaaDoorW.PrintLast Go.Proofs.YtilnamobmjngbaaDoorW.PrintMore
attribute [local go_sem] max2_int min2_int max_two min_two max_three min_three max_four min_four   -- for this text's walks alone
set_option linter.unusedVariables false
set_option linter.unusedSimpArgs false

-- HAND GraphEdge.lean
-- IMPORT Derived.Test.YtilnamobmjngbaaDoorBase
-- IMPORT Derived.BigRegion
/-! ### graph_Edge, by hand -/
def graph_Edge.f (k : Nat) (l0 l1 l2 l3 : List ByteArray) (cmd : ByteArray) (pool : ByteArray) : Option Bool :=
  (path_All.f k l0 8).bind fun b0 => if b0 = true then ((path_All.f k l1 8).bind fun b1 => if b1 = true then ((path_All.f k l2 8).bind fun b2 => if b2 = true then ((path_All.f k l3 8).bind fun b3 => if b3 = true then
    (if 0 < l0.length then ((graph_Command.f k cmd).bind fun c => if c = true then (if pool.toList = [] then some true else name_May.f pool) else some false) else some false) else some false) else some false) else some false) else some false
theorem graph_Edge.mono : ∀ l0 l1 l2 l3 cmd pool k, LeO (graph_Edge.f k l0 l1 l2 l3 cmd pool) (graph_Edge.f (k + 1) l0 l1 l2 l3 cmd pool) := by
  intro l0 l1 l2 l3 cmd pool k
  unfold graph_Edge.f
  refine LeO.bind (path_All.mono _ _ _) (fun _ => LeO.ite (LeO.bind (path_All.mono _ _ _) (fun _ => LeO.ite (LeO.bind (path_All.mono _ _ _) (fun _ => LeO.ite (LeO.bind (path_All.mono _ _ _) (fun _ => LeO.ite (LeO.ite (LeO.bind (graph_Command.mono _ _) (fun _ => LeO.refl _)) (LeO.refl _)) (LeO.refl _))) (LeO.refl _))) (LeO.refl _))) (LeO.refl _))
structure edge_At (W : World) (g : Nat) (A0 A1 A2 A3 : Option Addr) (c0 c1 c2 c3 : Nat) (l0 l1 l2 l3 : List ByteArray) (cmd : ByteArray) (dep : Bool) (pool : ByteArray) : Prop where
  f0 : W.cell? ⟨g, 0, none⟩ = some (.slice A0 l0.length c0)
  f1 : W.cell? ⟨g, 1, none⟩ = some (.slice A1 l1.length c1)
  f2 : W.cell? ⟨g, 2, none⟩ = some (.slice A2 l2.length c2)
  f3 : W.cell? ⟨g, 3, none⟩ = some (.slice A3 l3.length c3)
  f4 : W.cell? ⟨g, 4, none⟩ = some (.string cmd)
  f5 : W.cell? ⟨g, 5, none⟩ = some (.bool dep)
  f6 : W.cell? ⟨g, 6, none⟩ = some (.string pool)
  r0 : Kd.C Kd.string W A0 l0.length l0
  r1 : Kd.C Kd.string W A1 l1.length l1
  r2 : Kd.C Kd.string W A2 l2.length l2
  r3 : Kd.C Kd.string W A3 l3.length l3
  k0 : l0.length ≤ c0
  k1 : l1.length ≤ c1
  k2 : l2.length ≤ c2
  k3 : l3.length ≤ c3
def edge_end (k : Nat) (l0 : List ByteArray) (cmd pool : ByteArray) : Option Bool := if 0 < l0.length then ((graph_Command.f k cmd).bind fun c => if c = true then (if pool.toList = [] then some true else name_May.f pool) else some false) else some false
def edge_res (k : Nat) (L : Nat → List ByteArray) (cmd pool : ByteArray) : Nat → Option Bool
  | 0 => edge_end k (L 0) cmd pool
  | d + 1 => (path_All.f k (L (3 - d)) 8).bind fun b => if b = true then edge_res k L cmd pool d else some false
theorem edge_res_f (k : Nat) (L : Nat → List ByteArray) (cmd pool : ByteArray) : graph_Edge.f k (L 0) (L 1) (L 2) (L 3) cmd pool = edge_res k L cmd pool 4 := rfl
set_option maxHeartbeats 4000000 in
set_option maxRecDepth 100000 in
theorem graph_Edge.core (k : Nat) (g : Nat) (A : Nat → Option Addr) (c : Nat → Nat) (L : Nat → List ByteArray) (cmd : ByteArray) (pool : ByteArray) (r : Bool) (w : World)
    (f0 : w.cell? ⟨g, 0, none⟩ = some (.slice (A 0) (L 0).length (c 0))) (f1 : w.cell? ⟨g, 1, none⟩ = some (.slice (A 1) (L 1).length (c 1))) (f2 : w.cell? ⟨g, 2, none⟩ = some (.slice (A 2) (L 2).length (c 2))) (f3 : w.cell? ⟨g, 3, none⟩ = some (.slice (A 3) (L 3).length (c 3)))
    (f4 : w.cell? ⟨g, 4, none⟩ = some (.string cmd)) (f6 : w.cell? ⟨g, 6, none⟩ = some (.string pool)) (hr : ∀ j, j < 4 → Kd.C Kd.string w (A j) (L j).length (L j)) (hk : ∀ j, j < 4 → (L j).length ≤ c j) (h : edge_res k L cmd pool 4 = some r) :
    Calls Tryd.prog 51 #[.pointer (some ⟨g, 0, none⟩)] w fun e w' => e = .returned (.bool r) ∧ Below w.heap.size w w' := by
  have hg : g < w.heap.size := World.block_lt_of_cell? w _ f0
  have call : ∀ j, j < 4 → ∀ (W : World) (b : Bool), Below w.heap.size w W → path_All.f k (L j) 8 = some b → Calls Tryd.prog 69 #[.slice (A j) (L j).length (c j), .int .i64 8] W fun e w' => e = .returned (.bool b) ∧ Below W.heap.size W w' :=
    fun j hj W b hB e => path_All.calls k (A j) (c j) (L j) 8 b W (Kd.C_below (hr j hj) hB) (hk j hj) e
  have hcells : ∀ j, j < 4 → (#[.slice (A 0) (L 0).length (c 0), .slice (A 1) (L 1).length (c 1), .slice (A 2) (L 2).length (c 2), .slice (A 3) (L 3).length (c 3)] : Array Value)[j]? = some (.slice (A j) (L j).length (c j)) := fun j hj => match j, hj with
    | 0, _ => rfl | 1, _ => rfl | 2, _ => rfl | 3, _ => rfl | j + 4, h => absurd h (by omega)
  have HC := Aside0.mk hcells
  have CA := Aside0.mk call
  have H := Aside0.mk h
  have n0 : (L 0).length = (L 0).length := rfl
  generalize hn0 : (L 0).length = m0 at f0 HC
  generalize hn1 : (L 1).length = m1 at f1 HC
  generalize hn2 : (L 2).length = m2 at f2 HC
  generalize hn3 : (L 3).length = m3 at f3 HC
  have N0 := Aside0.mk hn0
  have F0 := Aside0.mk f0
  have F4 := Aside0.mk f4
  have F6 := Aside0.mk f6
  clear h hr hk hn0 hn1 hn2 hn3 hcells call n0
  go_enter Tryd.func51, Tryd.ntmps51
  go_wp2
  go_region
  go_wp2
  have B0 := below_alloc (Below.refl w.heap.size w) (.cells #[.slice (A 0) m0 (c 0), .slice (A 1) m1 (c 1), .slice (A 2) m2 (c 2), .slice (A 3) m3 (c 3)] 23)
  have hb0 : ((w.alloc (.cells #[.slice (A 0) m0 (c 0), .slice (A 1) m1 (c 1), .slice (A 2) m2 (c 2), .slice (A 3) m3 (c 3)] 23)).drew).heap[w.heap.size]? = some (.cells #[.slice (A 0) m0 (c 0), .slice (A 1) m1 (c 1), .slice (A 2) m2 (c 2), .slice (A 3) m3 (c 3)] 23 (0, 0)) := heap_alloc_new w _
  have HB0 := Aside0.mk hb0
  have BB0 := Aside0.mk (below_drew B0)
  clear B0 hb0 f0 f1 f2 f3 f4 f6
  go_loopw [23] (fun i wr => ∃ d : Nat, d ≤ 4 ∧ i = .int .i64 (4 - d : Nat) ∧ Aside0 (edge_res k L cmd pool d = some r) ∧ Aside0 (Below w.heap.size w wr) ∧ Aside0 (wr.heap[w.heap.size]? = some (.cells #[.slice (A 0) m0 (c 0), .slice (A 1) m1 (c 1), .slice (A 2) m2 (c 2), .slice (A 3) m3 (c 3)] 23 (0, 0)))) (fun i _ => 4 - (intOf i).toNat)
  case atStart => exact ⟨4, Nat.le_refl _, rfl, H, BB0, HB0⟩
  case round =>
    obtain ⟨d, hd, rfl, R, BW, HBW⟩ := hrel
    cases d with
    | zero =>
      have hg1 := BW.out.cell (p := ⟨g, 0, none⟩) hg
      have c0 : wr.cell? ⟨g, 0, none⟩ = some (.slice (A 0) m0 (c 0)) := (BW.out.cell (p := ⟨g, 0, none⟩) hg).trans F0.out
      have c4 : wr.cell? ⟨g, 4, none⟩ = some (.string cmd) := (BW.out.cell (p := ⟨g, 4, none⟩) hg).trans F4.out
      have c6 : wr.cell? ⟨g, 6, none⟩ = some (.string pool) := (BW.out.cell (p := ⟨g, 6, none⟩) hg).trans F6.out
      have hgr : g < wr.heap.size := Nat.lt_of_lt_of_le hg BW.out.size
      clear hg1
      have hres : edge_end k (L 0) cmd pool = some r := R.out
      unfold edge_end at hres
      rw [N0.out] at hres
      by_cases h0 : 0 < m0
      · rw [if_pos h0] at hres
        obtain ⟨b, hb, hres⟩ := Option.bind_eq_some_iff.1 hres
        have h0z : (0 : Int) < (m0 : Int) := by omega
        have hcmd := fun W => graph_Command.calls k cmd b W hb
        clear hb h0
        cases b with
        | false =>
          have hr : false = r := by simpa using hres
          subst hr
          clear hres R
          go_wp2_with (go_at_call 70; refine (hcmd _).mono ?_; rintro e w1 ⟨rfl, hd1⟩; obtain ⟨nd, hd1⟩ := hd1.out; subst hd1)
          go_ret
          exact ⟨rfl, pw_below_drewN BW.out _⟩
        | true =>
          rw [if_pos rfl] at hres
          by_cases hp : pool.toList = []
          · rw [if_pos hp] at hres
            have hr : true = r := Option.some.inj hres
            subst hr
            have hp2 : (pool.toList == []) = true := by simpa using hp
            clear hres R
            go_wp2_with (go_at_call 70; refine (hcmd _).mono ?_; rintro e w1 ⟨rfl, hd1⟩; obtain ⟨nd, hd1⟩ := hd1.out; subst hd1)
            go_ret
            exact ⟨rfl, pw_below_drewN BW.out _⟩
          · rw [if_neg hp] at hres
            have hp2 : (pool.toList == []) = false := by simpa using hp
            have hmay := fun W => name_May.calls pool r W hres
            clear hres R
            go_wp2_with (first
              | (go_at_call 70; refine (hcmd _).mono ?_; rintro e w1 ⟨rfl, hd1⟩; obtain ⟨nd, hd1⟩ := hd1.out; subst hd1)
              | (go_at_call 71; refine (hmay _).mono ?_; rintro e w2 ⟨rfl, hB2⟩))
            go_ret
            exact ⟨rfl, below_then (pw_below_drewN BW.out _) BW.out.size hB2⟩
      · rw [if_neg h0] at hres
        have hr : false = r := Option.some.inj hres
        subst hr
        obtain rfl : m0 = 0 := by omega
        clear hres R h0
        go_wp2
        go_ret
        exact ⟨rfl, BW.out⟩
    | succ d =>
      obtain ⟨j, hj⟩ : ∃ j, 4 - (d + 1) = j := ⟨_, rfl⟩
      have hj4 : j < 4 := by omega
      have hjz : (j : Int) < 4 := by omega
      have hj3 : 3 - d = j := by omega
      obtain ⟨b, hb, hres⟩ := Option.bind_eq_some_iff.1 (show ((path_All.f k (L (3 - d)) 8).bind fun b => if b = true then edge_res k L cmd pool d else some false) = some r from R.out)
      rw [hj3] at hb
      have hcell : wr.cell? ⟨w.heap.size, j, none⟩ = some (.slice (A j) (L j).length (c j)) := by rw [blk_cell HBW.out j]; exact HC.out j hj4
      have hcall := CA.out j hj4 wr b BW.out hb
      have hB1 : w.heap.size < wr.heap.size := blk_lt HBW.out
      generalize (L j).length = n at hcell hcall
      generalize A j = Aj at hcell hcall
      generalize c j = cj at hcell hcall
      have HR := Aside0.mk hres
      have HJ := Aside0.mk hj
      have HJ3 := Aside0.mk hj3
      have hjd : d = 3 - j := by omega
      have HJD := Aside0.mk hjd
      rw [hj]
      clear hres hb hj hj3 hjd R
      cases b with
      | false =>
        go_wp2_with (go_at_call 69; refine hcall.mono ?_; rintro e w1 ⟨rfl, hB⟩)
        go_ret
        have := HR.out
        simp at this
        exact ⟨by rw [← this]; rfl, below_then BW.out BW.out.size hB⟩
      | true =>
        go_wp2_with (go_at_call 69; refine hcall.mono ?_; rintro e w1 ⟨rfl, hB⟩)
        go_roundw
        case rel => exact ⟨d, by omega, by rw [show 4 - d = j + 1 by have := HJ.out; omega]; go_num, ⟨by simpa using HR.out⟩, ⟨below_then BW.out BW.out.size hB⟩, ⟨(hB.block _ hB1).trans HBW.out⟩⟩
        case measure => simp [intOf]; omega
theorem graph_Edge.walk (k : Nat) (g : Nat) (A0 A1 A2 A3 : Option Addr) (c0 c1 c2 c3 : Nat) (l0 l1 l2 l3 : List ByteArray) (cmd : ByteArray) (dep : Bool) (pool : ByteArray) (r : Bool) (w : World) (hE : edge_At w g A0 A1 A2 A3 c0 c1 c2 c3 l0 l1 l2 l3 cmd dep pool) (h : graph_Edge.f k l0 l1 l2 l3 cmd pool = some r) :
    Calls Tryd.prog 51 #[.pointer (some ⟨g, 0, none⟩)] w fun e w' => e = .returned (.bool r) ∧ Below w.heap.size w w' :=
  graph_Edge.core k g (fun | 0 => A0 | 1 => A1 | 2 => A2 | _ => A3) (fun | 0 => c0 | 1 => c1 | 2 => c2 | _ => c3) (fun | 0 => l0 | 1 => l1 | 2 => l2 | _ => l3) cmd pool r w hE.f0 hE.f1 hE.f2 hE.f3 hE.f4 hE.f6
    (fun j hj => match j, hj with | 0, _ => hE.r0 | 1, _ => hE.r1 | 2, _ => hE.r2 | 3, _ => hE.r3 | j + 4, h => absurd h (by omega))
    (fun j hj => match j, hj with | 0, _ => hE.k0 | 1, _ => hE.k1 | 2, _ => hE.k2 | 3, _ => hE.k3 | j + 4, h => absurd h (by omega)) h

end Go.Proofs.YtilnamobmjngbaaDoor.P
