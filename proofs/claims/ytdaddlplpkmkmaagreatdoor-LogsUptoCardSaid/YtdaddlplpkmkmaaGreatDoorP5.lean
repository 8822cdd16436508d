-- Made by a program of this work's own (wip/myprint.py) over the kit's print; leaves by hand.
import Derived.Test.YtdaddlplpkmkmaaGreatDoorP0
import Derived.Test.YtdaddlplpkmkmaaGreatDoorP4
import Derived.Shelf.Strconv.Itoa3
import Derived.Test.YtdaddlplpkmkmaaGreatDoorMg1
import Derived.Test.YtdaddlplpkmkmaaGreatDoorShelf
import Derived.Test.YtdaddlplpkmkmaaGreatDoorTb
namespace Go.Proofs.YtdaddlplpkmkmaaGreatDoor.P
open Go.RowKit Go.Proofs.YtdaddlplpkmkmaaGreatDoorW.PrintWords Go.Proofs.YtdaddlplpkmkmaaGreatDoorW.PrintLast Go.Proofs.YtdaddlplpkmkmaaGreatDoorW.PrintMore
attribute [local go_sem] max2_int min2_int max_two min_two max_three min_three max_four min_four   -- for this text's walks alone
set_option linter.unusedVariables false
set_option linter.unusedSimpArgs false

-- HAND LogMay.lean
-- IMPORT Derived.Test.YtdaddlplpkmkmaaGreatDoorPlain
/-! ### log_May, by hand -/
def log_all (k : Nat) : List (S31) → Option Bool
  | [] => some true
  | x :: xs => (logline_May.f k x.f0 x.f1 x.f2).bind fun b => if b = true then log_all k xs else some false
def log_May.f (k : Nat) (l0 : List (S31)) : Option Bool := if l0.length ≤ 256 then log_all k l0 else some false
theorem log_all.mono : ∀ l0 k, LeO (log_all k l0) (log_all (k + 1) l0)
  | [], _ => LeO.refl _
  | _ :: xs, k => LeO.bind (logline_May.mono _ _ _ _) (fun _ => LeO.ite (log_all.mono xs k) (LeO.refl _))
theorem log_May.mono : ∀ l0 k, LeO (log_May.f k l0) (log_May.f (k + 1) l0) := fun l0 k => LeO.ite (log_all.mono l0 k) (LeO.refl _)
theorem log_odd.calls (k : Nat) (x : S31) (b : Bool) (W : World) (h : logline_May.f k x.f0 x.f1 x.f2 = some b) :
    Calls Tryz.prog 31 #[.agg #[.string x.f0, .int .i64 x.f1, .string x.f2]] W fun e w' => e = .returned (.bool (!b)) ∧ Below W.heap.size W w' := by
  obtain ⟨s, t, l⟩ := x
  have c1 : ∀ W', Below W.heap.size W W' → Calls Tryz.prog 32 #[.agg #[.string s, .int .i64 t, .string l]] W' fun e w' => e = .returned (.bool b) ∧ Below W'.heap.size W' w' := fun W' hB => logline_May.calls k s t l b W' h
  clear h
  show Calls Tryz.prog 31 #[.agg #[.string s, .int .i64 t, .string l]] W _
  obtain ⟨w1, hw1⟩ : ∃ w1, W.alloc (.cells #[.string s, .int .i64 t, .string l] 31) = w1 := ⟨_, rfl⟩
  have B1 : Below W.heap.size W w1 := by rw [← hw1]; exact below_alloc (Below.refl _ _) _
  have hb1 : w1.heap[W.heap.size]? = some (.cells #[.string s, .int .i64 t, .string l] 31 (0, 0)) := by rw [← hw1]; exact heap_alloc_new W _
  have f0 : w1.cell? ⟨W.heap.size, 0, none⟩ = some (.string s) := by rw [blk_cell hb1 0]; rfl
  have f1 : w1.cell? ⟨W.heap.size, 1, none⟩ = some (.int .i64 t) := by rw [blk_cell hb1 1]; rfl
  have f2 : w1.cell? ⟨W.heap.size, 2, none⟩ = some (.string l) := by rw [blk_cell hb1 2]; rfl
  have cM := c1 w1 B1
  have HW := Aside0.mk hw1
  clear hb1 hw1 c1
  go_enter Tryz.func31, Tryz.ntmps31
  go_wp2_with fail
  rw [HW.out]
  go_wp2_with (go_at_call 32; refine cM.mono ?_; rintro e w2 ⟨rfl, B2⟩)
  go_ret
  exact ⟨rfl, below_then B1 B1.size B2⟩
theorem log_drop (l0 : List (S31)) (kk : Nat) (h : kk < l0.length) : l0.drop kk = rd_T31 l0 (kk : Int) :: l0.drop (kk + 1) := by
  rw [List.drop_eq_getElem_cons h]
  congr 1
  simp [rd_T31, List.getD_eq_getElem?_getD, List.getElem?_eq_getElem h]
set_option maxHeartbeats 2000000 in
theorem log_idx.calls (k : Nat) (A : Option Addr) (c : Nat) (l0 : List (S31)) (r : Bool) (w : World) (hr : Kd.C k31 w A l0.length l0) (hl : l0.length ≤ 256) (h : log_all k l0 = some r) :
    Calls Tryz.prog 46 #[.slice A l0.length c, .func (.func 31) #[] #[]] w fun e w' => ∃ i : Int, e = .returned (.int .i64 i) ∧ decide (0 ≤ i) = (!r) ∧ Below w.heap.size w w' := by
  have HR := Aside0.mk hr
  have HL := Aside0.mk hl
  have H0 := Aside0.mk h
  clear hr hl h
  have eg : ∀ args w, (callFunc 31 args).run Tryz.prog w = .ok (.enter 31 args) w := enters_of Tryz.func31 (by kernel_rfl) rfl
  go_enter Tryz.func46, Tryz.ntmps46
  go_wp2
  go_loopg [5, 8] l0.length (fun gg _ s8 wr => ∃ kk : Nat, kk ≤ l0.length ∧ l0.length - kk ≤ gg ∧ s8 = .int .i64 kk ∧ Aside0 (log_all k (l0.drop kk) = some r) ∧ Aside0 (Below w.heap.size w wr))
  case atStart => exact ⟨0, Nat.zero_le _, by omega, rfl, ⟨H0.out⟩, ⟨Below.refl _ _⟩⟩
  case round =>
    obtain ⟨kk, hkk, hg, rfl, L, B⟩ := hrel
    by_cases hlt : kk < l0.length
    · have hltz : (kk : Int) < (l0.length : Int) := by omega
      obtain ⟨ad, hA, h0, h1, h2⟩ := at_T31 HR.out (kk : Int) (by omega) hltz
      subst hA
      replace h0 := (B.out.cell (World.block_lt_of_cell? w _ h0)).trans h0
      replace h1 := (B.out.cell (World.block_lt_of_cell? w _ h1)).trans h1
      replace h2 := (B.out.cell (World.block_lt_of_cell? w _ h2)).trans h2
      simp only [Int.toNat_natCast] at h0 h1 h2
      have hL := L.out
      rw [log_drop l0 kk hlt, log_all] at hL
      obtain ⟨b, hm, hL⟩ := Option.bind_eq_some_iff.1 hL
      have hcall := log_odd.calls k (rd_T31 l0 (kk : Int)) b wr hm
      clear hm
      generalize rd_T31 l0 (kk : Int) = x at h0 h1 h2 hcall
      obtain ⟨s, t, l⟩ := x
      simp only [] at h0 h1 h2 hcall
      have HL2 := Aside0.mk hL
      clear hL
      cases b with
      | true =>
        simp only [Bool.not_true] at hcall
        go_wp2_with (go_at_fn 31; refine hcall.mono ?_; rintro e w' ⟨rfl, hB⟩)
        go_roundg (l0.length - (kk + 1))
        case measure => omega
        case rel => exact ⟨kk + 1, by omega, by omega, by rw [Spec.wrap_nat (by have := HL.out; omega)], ⟨by simpa using HL2.out⟩, ⟨below_then B.out B.out.size hB⟩⟩
      | false =>
        simp only [Bool.not_false] at hcall
        have hr : false = r := by have := HL2.out; simpa using this
        subst hr
        go_wp2_with (go_at_fn 31; refine hcall.mono ?_; rintro e w' ⟨rfl, hB⟩)
        go_ret
        exact ⟨_, rfl, by simp, below_then B.out B.out.size hB⟩
    · have hltz : ¬ (kk : Int) < (l0.length : Int) := by omega
      have heq : kk = l0.length := by omega
      have hL := L.out
      rw [heq, List.drop_length, log_all] at hL
      obtain rfl := Option.some.inj hL
      clear hL
      subst heq
      go_wp2
      go_ret
      exact ⟨_, rfl, by decide, B.out⟩
theorem log_May.calls (k : Nat) (A0 : Option Addr) (c0 : Nat) (l0 : List (S31)) (r : Bool) (w : World) (hr0 : Kd.C k31 w A0 l0.length l0) (hc0 : l0.length ≤ c0) (h : log_May.f k l0 = some r) :
    Calls Tryz.prog 17 #[.slice A0 l0.length c0] w fun e w' => e = .returned (.bool r) ∧ Below w.heap.size w w' := by
  unfold log_May.f at h
  split at h
  · rename_i hl
    have cI := log_idx.calls k A0 c0 l0 r w hr0 hl h
    have hl2 : decide ((l0.length : Int) ≤ 256) = true := decide_eq_true (by omega)
    have hl3 : (l0.length : Int) ≤ 256 := by omega
    clear hr0 hc0 h hl
    generalize l0.length = n at cI hl2 hl3 ⊢
    have cC : Calls Tryz.prog 33 #[.slice A0 n c0, .func (.func 31) #[] #[]] w fun e w' => e = .returned (.bool (!r)) ∧ Below w.heap.size w w' := by
      clear hl2 hl3
      go_enter Tryz.func33, Tryz.ntmps33
      go_wp2_with (go_at_call 46; refine cI.mono ?_; rintro e w1 ⟨i, rfl, hi, hB⟩)
      go_ret
      exact ⟨rfl, hB⟩
    clear cI
    go_enter Tryz.func17, Tryz.ntmps17
    go_wp2_with (go_at_call 33; refine cC.mono ?_; rintro e w1 ⟨rfl, hB⟩)
    go_ret
    exact ⟨by simp, hB⟩
  · rename_i hl
    obtain rfl := Option.some.inj h
    have hl2 : decide ((l0.length : Int) ≤ 256) = false := decide_eq_false (by omega)
    have hl3 : ¬ (l0.length : Int) ≤ 256 := by omega
    clear hr0 hc0 h hl
    generalize l0.length = n at hl2 hl3 ⊢
    go_enter Tryz.func17, Tryz.ntmps17
    go_wp2
    go_ret
    exact ⟨rfl, Below.refl _ _⟩

-- HAND Itoa.lean
-- IMPORT Derived.Test.YtdaddlplpkmkmaaGreatDoorLine
-- IMPORT Derived.Test.YtdaddlplpkmkmaaGreatDoorTb
-- IMPORT Derived.Test.YtdaddlplpkmkmaaGreatDoorShelf
-- IMPORT Derived.Shelf.Strconv.Itoa3
/-! ### strconv_Itoa, by hand -/
def strconv_Itoa.f (a0 : Int) : Option ByteArray := if -9223372036854775808 ≤ a0 ∧ a0 ≤ 9223372036854775807 then some (Spec.str (Lib.itoa a0)) else none
theorem grow_below (w : World) (k : Nat) (os : Array Obj) : Below w.heap.size w (Go.Sort.grow (w.drewN k) os) := by
  refine ⟨rfl, rfl, rfl, ?_, fun i hi => ?_⟩
  · simp [Go.Sort.grow]
  · show (w.heap ++ os)[i]? = w.heap[i]?
    rw [Array.getElem?_append_left hi]
theorem strconv_Itoa.calls (a0 : Int) (r : ByteArray) (w : World) (h : strconv_Itoa.f a0 = some r) (hT : Tb w) :
    Calls Tryz.prog 35 #[.int .i64 a0] w fun e w' => e = .returned (.string r) ∧ Below w.heap.size w w' := by
  unfold strconv_Itoa.f at h
  split at h
  case isFalse => cases h
  rename_i hb
  obtain rfl := Option.some.inj h
  exact (Tryz.strconv_Itoa a0 hb.1 hb.2 w hT.pow).mono fun e w' ⟨he, k, os, hw⟩ => ⟨he, by rw [hw]; exact grow_below w k os⟩

end Go.Proofs.YtdaddlplpkmkmaaGreatDoor.P
