-- Made by a program of this work's own (wip/myprint.py) over the kit's print; leaves by hand.
import Derived.Test.YtilnamobmjngbaaDoorP0
import Derived.Test.YtilnamobmjngbaaDoorP6
import Derived.Test.YtilnamobmjngbaaDoorMg1
namespace Go.Proofs.YtilnamobmjngbaaDoor.P
open Go.RowKit Go.Proofs.YtilnamobmjngbaaDoorW.PrintWords Go.Proofs.YtilnamobmjngbaaDoorW.PrintLast Go.Proofs.YtilnamobmjngbaaDoorW.PrintMore
attribute [local go_sem] max2_int min2_int max_two min_two max_three min_three max_four min_four   -- for this text's walks alone
set_option linter.unusedVariables false
set_option linter.unusedSimpArgs false

-- HANDBIG CommandAction.lean
-- IMPORT Derived.Test.YtilnamobmjngbaaDoorPlain
/-! ### command_Action, by hand -/
def act_at (s : ByteArray) : List (S33) → Nat
  | [] => 0
  | x :: xs => if x.f0.toList = s.toList then 0 else act_at s xs + 1
theorem act_at_le (s : ByteArray) : ∀ l : List (S33), act_at s l ≤ l.length
  | [] => Nat.le_refl _
  | x :: xs => by
    have := act_at_le s xs
    rw [act_at, List.length_cons]
    split <;> omega
theorem act_rd (l : List (S33)) (j : Nat) (h : j < l.length) : rd_T33 l (j : Int) = l[j] := by
  simp [rd_T33, List.getD_eq_getElem?_getD, List.getElem?_eq_getElem h]
theorem act_at_in (s : ByteArray) : ∀ (l : List (S33)) (j : Nat) (h : j < l.length), j < act_at s l → ¬ l[j].f0.toList = s.toList
  | x :: xs, j, h, hj => by
    rw [act_at] at hj
    split at hj
    · omega
    · rename_i hx
      cases j with
      | zero => exact hx
      | succ j => exact act_at_in s xs j (by simpa using h) (by omega)
theorem act_at_out (s : ByteArray) : ∀ (l : List (S33)) (j : Nat) (h : j < l.length), j = act_at s l → l[j].f0.toList = s.toList
  | x :: xs, j, h, hj => by
    rw [act_at] at hj
    split at hj
    · rename_i hx
      subst hj
      exact hx
    · cases j with
      | zero => omega
      | succ j => exact act_at_out s xs j (by simpa using h) (by omega)
def act_ix (s : ByteArray) (l : List (S33)) : Int := if act_at s l < l.length then (act_at s l : Int) else -1
theorem act_is.calls (s t : ByteArray) (A : Option Addr) (n c : Nat) (b : Bool) (g : Nat) (r : Bool) (W : World) (hg : W.cell? ⟨g, 0, none⟩ = some (.string t)) (hr : decide (s.toList = t.toList) = r) :
    Calls Tryd.prog 48 #[.agg #[.string s, .slice A n c, .bool b], .pointer (some ⟨g, 0, none⟩)] W fun e w' => e = .returned (.bool r) ∧ Below W.heap.size W w' := by
  have hlt := World.block_lt_of_cell? W _ hg
  simp only [] at hlt
  cases r with
  | true =>
    have e : s.toList = t.toList := of_decide_eq_true hr
    have e2 : (s.toList == t.toList) = true := by simpa using e
    clear hr
    go_enter Tryd.func48, Tryd.ntmps48
    go_wp2
    go_ret
    exact ⟨rfl, below_alloc (Below.refl _ _) _⟩
  | false =>
    have e : ¬ s.toList = t.toList := of_decide_eq_false hr
    have e2 : (s.toList == t.toList) = false := by simpa using e
    clear hr
    go_enter Tryd.func48, Tryd.ntmps48
    go_wp2
    go_ret
    exact ⟨rfl, below_alloc (Below.refl _ _) _⟩
set_option maxHeartbeats 2000000 in
theorem act_idx.calls (s : ByteArray) (A : Option Addr) (c : Nat) (l0 : List (S33)) (g : Nat) (w : World) (hr : Kd.C k33 w A l0.length l0) (hl : l0.length ≤ 4611686018427387904) (hg : w.cell? ⟨g, 0, none⟩ = some (.string s)) :
    Calls Tryd.prog 47 #[.slice A l0.length c, .func (.func 48) #[] #[.pointer (some ⟨g, 0, none⟩)]] w fun e w' => e = .returned (.int .i64 (act_ix s l0)) ∧ Below w.heap.size w w' := by
  have HR := Aside0.mk hr
  have HL := Aside0.mk hl
  have HG := Aside0.mk hg
  have HLE := Aside0.mk (act_at_le s l0)
  clear hr hl hg
  have eg : ∀ args w, (callFunc 48 args).run Tryd.prog w = .ok (.enter 48 args) w := enters_of Tryd.func48 (by kernel_rfl) rfl
  go_enter Tryd.func47, Tryd.ntmps47
  go_wp2
  go_loopg [5, 8] l0.length (fun gg _ s8 wr => ∃ kk : Nat, kk ≤ l0.length ∧ l0.length - kk ≤ gg ∧ s8 = .int .i64 kk ∧ Aside0 (kk ≤ act_at s l0) ∧ Aside0 (Below w.heap.size w wr))
  case atStart => exact ⟨0, Nat.zero_le _, by omega, rfl, ⟨Nat.zero_le _⟩, ⟨Below.refl _ _⟩⟩
  case round =>
    obtain ⟨kk, hkk, hg, rfl, L, B⟩ := hrel
    by_cases hlt : kk < l0.length
    · have hltz : (kk : Int) < (l0.length : Int) := by omega
      obtain ⟨ad, A1, c1, hA, h0, h1, h2, h3, h4⟩ := at_T33 HR.out (kk : Int) (by omega) hltz
      subst hA
      replace h0 := (B.out.cell (World.block_lt_of_cell? w _ h0)).trans h0
      replace h1 := (B.out.cell (World.block_lt_of_cell? w _ h1)).trans h1
      replace h2 := (B.out.cell (World.block_lt_of_cell? w _ h2)).trans h2
      simp only [Int.toNat_natCast] at h0 h1 h2
      have hrd := act_rd l0 kk hlt
      have hcg := (B.out.cell (World.block_lt_of_cell? w _ HG.out)).trans HG.out
      clear h3 h4
      by_cases hin : kk < act_at s l0
      · have hq := act_at_in s l0 kk hlt hin
        rw [← hrd] at hq
        have hcall := act_is.calls (rd_T33 l0 (kk : Int)).f0 s A1 (rd_T33 l0 (kk : Int)).f1.length c1 (rd_T33 l0 (kk : Int)).f2 g false wr hcg (decide_eq_false hq)
        clear hq hrd
        generalize rd_T33 l0 (kk : Int) = x at h0 h1 h2 hcall
        obtain ⟨x0, x1, x2⟩ := x
        simp only [] at h0 h1 h2 hcall
        generalize x1.length = n at h1 hcall
        have IN := Aside0.mk hin
        clear hin hcg
        go_wp2_with (go_at_fn 48; refine hcall.mono ?_; rintro e w' ⟨rfl, hB⟩)
        go_roundg (l0.length - (kk + 1))
        case measure => omega
        case rel => exact ⟨kk + 1, by omega, by omega, by rw [Spec.wrap_nat (by have := HL.out; omega)], ⟨IN.out⟩, ⟨below_then B.out B.out.size hB⟩⟩
      · have heq : kk = act_at s l0 := by have := L.out; omega
        have hq := act_at_out s l0 kk hlt heq
        rw [← hrd] at hq
        have hat : act_ix s l0 = (kk : Int) := by unfold act_ix; rw [← heq, if_pos hlt]
        have hcall := act_is.calls (rd_T33 l0 (kk : Int)).f0 s A1 (rd_T33 l0 (kk : Int)).f1.length c1 (rd_T33 l0 (kk : Int)).f2 g true wr hcg (decide_eq_true hq)
        clear hq hrd
        generalize rd_T33 l0 (kk : Int) = x at h0 h1 h2 hcall
        obtain ⟨x0, x1, x2⟩ := x
        simp only [] at h0 h1 h2 hcall
        generalize x1.length = n at h1 hcall
        have AT := Aside0.mk hat
        clear hin hcg heq hat
        go_wp2_with (go_at_fn 48; refine hcall.mono ?_; rintro e w' ⟨rfl, hB⟩)
        go_ret
        exact ⟨by rw [AT.out]; rfl, below_then B.out B.out.size hB⟩
    · have hltz : ¬ (kk : Int) < (l0.length : Int) := by omega
      have heq : kk = l0.length := by omega
      have hat : act_ix s l0 = -1 := by unfold act_ix; rw [if_neg (by have := L.out; have := HLE.out; omega)]
      have AT := Aside0.mk hat
      subst heq
      clear hat
      go_wp2
      go_ret
      exact ⟨by rw [AT.out]; rfl, B.out⟩
abbrev acS (s : ByteArray) : Obj := .cells #[.string s] 9
abbrev acF (a : ByteArray) (v : Value) (b : Bool) : Obj := .cells #[.string a, v, .bool b] 33
theorem ac_put {W : World} {g : Nat} {a : ByteArray} {v : Value} {b : Bool} (h : W.heap[g]? = some (acF a v b)) (a' : ByteArray) (v' : Value) (b' : Bool) : (((W.setCell ⟨g, 0, none⟩ (.string a')).setCell ⟨g, 1, none⟩ v').setCell ⟨g, 2, none⟩ (.bool b')).heap[g]? = some (acF a' v' b') :=
  blk_put (cs := #[.string a', v', .bool b]) (blk_put (cs := #[.string a', v, .bool b]) (blk_put (cs := #[.string a, v, .bool b]) h 0 _ rfl) 1 _ rfl) 2 _ rfl
theorem ac_cells {W : World} {g : Nat} {a : ByteArray} {v : Value} {b : Bool} (h : W.heap[g]? = some (acF a v b)) : W.cell? ⟨g, 0, none⟩ = some (.string a) ∧ W.cell? ⟨g, 1, none⟩ = some v ∧ W.cell? ⟨g, 2, none⟩ = some (.bool b) :=
  ⟨by rw [blk_cell h]; rfl, by rw [blk_cell h]; rfl, by rw [blk_cell h]; rfl⟩
def command_Action.f (k : Nat) (l0 : List (S33)) (s : ByteArray) : Option (ByteArray × List ByteArray × Bool) :=
  if l0.length ≤ 4611686018427387904 then
    (if act_at s l0 < l0.length then (command_May.f k l0).bind fun b => if b = true then (slices_Clone_string_string.f (rd_T33 l0 (act_at s l0 : Int)).f1).bind fun c => some ((rd_T33 l0 (act_at s l0 : Int)).f0, c, (rd_T33 l0 (act_at s l0 : Int)).f2) else some (s, [], false)
     else some (s, [], false))
  else none
theorem command_Action.mono : ∀ l0 s k, LeO (command_Action.f k l0 s) (command_Action.f (k + 1) l0 s) := fun l0 s k => LeO.ite (LeO.ite (LeO.bind (command_May.mono _ _) (fun _ => LeO.refl _)) (LeO.refl _)) (LeO.refl _)
set_option maxHeartbeats 8000000 in
set_option maxRecDepth 100000 in
theorem command_Action.calls (k : Nat) (A0 : Option Addr) (c0 : Nat) (l0 : List (S33)) (a1 : ByteArray) (r1 : ByteArray) (r2 : List ByteArray) (r3 : Bool) (w : World) (hr0 : Kd.C k33 w A0 l0.length l0) (hc0 : l0.length ≤ c0) (h : command_Action.f k l0 a1 = some (r1, r2, r3)) :
    Calls Tryd.prog 18 #[.slice A0 l0.length c0, .string a1] w fun e w' => ∃ v1_ : Value, e = .returned (.agg #[.string r1, v1_, .bool r3]) ∧ Kd.R Kd.string 9 w' w.heap.size (fun _ => True) v1_ r2 ∧ Below w.heap.size w w' := by
  have hu := Tryd.underlying33
  unfold command_Action.f at h
  split at h
  case isFalse => cases h
  rename_i hl
  have b1 : Below w.heap.size w ((w.alloc (acS a1)).alloc (acF ⟨#[]⟩ (.slice none 0 0) false)) := below_alloc (below_alloc (Below.refl _ _) _) _
  have F0 := heap_alloc_new w (acS a1)
  have F1 := heap_alloc_new (w.alloc (acS a1)) (acF ⟨#[]⟩ (.slice none 0 0) false)
  have F0 := (Below.heap_alloc (w.alloc (acS a1)) (acF ⟨#[]⟩ (.slice none 0 0) false) w.heap.size (blk_lt F0)).trans F0
  simp only [World.size_alloc] at F1
  have cI := act_idx.calls a1 A0 c0 l0 w.heap.size _ (Kd.C_below hr0 b1) hl (by rw [blk_cell F0]; rfl)
  have F0 := Aside0.mk F0
  have F1 := Aside0.mk F1
  have B1 := Aside0.mk b1
  have HR := Aside0.mk hr0
  have HC := Aside0.mk hc0
  have HL := Aside0.mk hl
  have HH := Aside0.mk h
  clear b1 hr0 hc0 hl h
  go_enter Tryd.func18, Tryd.ntmps18
  go_wp2_with fail
  refine cI.mono ?_
  rintro e w2 ⟨rfl, B2⟩
  clear cI
  have X0 := Aside0.mk ((B2.block _ (blk_lt F0.out)).trans F0.out)
  have X1 := Aside0.mk ((B2.block _ (blk_lt F1.out)).trans F1.out)
  have E2 := Aside0.mk (below_then B1.out B1.out.size B2)
  have hne : w.heap.size + 1 ≠ w.heap.size := by omega
  clear B2 F0 F1 B1
  by_cases hb : act_at a1 l0 < l0.length
  · have hix : act_ix a1 l0 = (act_at a1 l0 : Int) := if_pos hb
    have h := HH.out
    rw [if_pos hb] at h
    obtain ⟨b, hm, h⟩ := Option.bind_eq_some_iff.1 h
    have hiz : (act_at a1 l0 : Int) < (l0.length : Int) := by omega
    rw [hix]
    clear hix HH hb
    generalize act_at a1 l0 = i at hiz h ⊢
    have hi0 : ¬ ((i : Int) < 0) := by omega
    have cM := command_May.calls k A0 c0 l0 b w2 (Kd.C_below HR.out E2.out) HC.out hm
    obtain ⟨ad, A1, c1, hA, x0, x1, x2, x3, x4⟩ := at_T33 HR.out (i : Int) (by omega) hiz
    have XL := Aside0.mk x3
    have XC := Aside0.mk x4
    have H := Aside0.mk h
    clear hm h x3 x4
    subst hA
    go_wp2_with fail
    refine cM.mono ?_
    rintro e w3 ⟨rfl, B3⟩
    clear cM
    have Y0 := Aside0.mk ((B3.block _ (blk_lt X0.out)).trans X0.out)
    have Y1 := Aside0.mk ((B3.block _ (blk_lt X1.out)).trans X1.out)
    have E3 := Aside0.mk (below_then E2.out E2.out.size B3)
    clear X0 X1 E2 B3
    replace x0 := (E3.out.cell (World.block_lt_of_cell? w _ x0)).trans x0
    replace x1 := (E3.out.cell (World.block_lt_of_cell? w _ x1)).trans x1
    replace x2 := (E3.out.cell (World.block_lt_of_cell? w _ x2)).trans x2
    simp only [Int.toNat_natCast] at x0 x1 x2
    have s0 : w3.cell? ⟨w.heap.size, 0, none⟩ = some (.string a1) := by rw [blk_cell Y0.out]; rfl
    obtain ⟨t0, t1, t2⟩ := ac_cells Y1.out
    have z0 := blk_frozen Y1.out 0
    have z1 := blk_frozen Y1.out 1
    have z2 := blk_frozen Y1.out 2
    cases b with
    | false =>
      have h := H.out
      rw [if_neg (by simp)] at h
      have h5 := Option.some.inj h
      obtain ⟨rfl, rfl, rfl⟩ : a1 = r1 ∧ [] = r2 ∧ false = r3 := by cases h5; exact ⟨rfl, rfl, rfl⟩
      clear h h5 H x0 x1 x2
      go_wp2
      refine bodyPost_ret (results_cell_row rfl _ _ (w.heap.size + 1) 33 #[.string a1, .slice none 0 0, .bool false] (0, 0) _ rfl (ac_put Y1.out _ _ _) Tryd.underlying33 rfl (by kernel_rfl)) rfl ?_
      exact ⟨_, rfl, Kd.R_nil _ _ _ _ _, below_set (below_set (below_set E3.out (Nat.le_succ _)) (Nat.le_succ _)) (Nat.le_succ _)⟩
    | true =>
      have h := H.out
      rw [if_pos rfl] at h
      generalize rd_T33 l0 (i : Int) = x at h x0 x1 x2 XL XC
      obtain ⟨q0, q1, q2⟩ := x
      simp only [] at h x0 x1 x2
      obtain ⟨cl, hcl, h⟩ := Option.bind_eq_some_iff.1 h
      have h5 := Option.some.inj h
      obtain ⟨rfl, rfl, rfl⟩ : q0 = r1 ∧ cl = r2 ∧ q2 = r3 := by cases h5; exact ⟨rfl, rfl, rfl⟩
      have hB4 : Below w3.heap.size w3 (w3.alloc (acF q0 (.slice A1 q1.length c1) q2)) := below_alloc (Below.refl _ _) _
      have cC := slices_Clone_string_string.calls A1 c1 q1 cl (w3.alloc (acF q0 (.slice A1 q1.length c1) q2)) (Kd.C_below XC.out (below_then E3.out E3.out.size hB4)) XL.out hcl
      have F4 := Aside0.mk (heap_alloc_new w3 (acF q0 (.slice A1 q1.length c1) q2))
      have HB4 := Aside0.mk hB4
      have hs3 : w.heap.size + 1 < w3.heap.size := blk_lt Y1.out
      clear h h5 H hcl hB4 XL XC
      generalize q1.length = n1 at x1 cC F4 HB4
      go_wp2_with fail
      refine cC.mono ?_
      rintro e w4 ⟨v, rfl, hR, B4⟩
      clear cC
      obtain ⟨A5, c5, rfl⟩ := Kd.R_slice hR
      have hs4 : w3.heap.size < w4.heap.size := by have := B4.size; rw [World.size_alloc] at this; omega
      have G4 := Aside0.mk ((B4.block _ (blk_lt F4.out)).trans F4.out)
      have HN := below_then HB4.out HB4.out.size B4
      have G1 := Aside0.mk ((HN.block _ (blk_lt Y1.out)).trans Y1.out)
      have E4 := Aside0.mk (below_then E3.out E3.out.size HN)
      have hR0 := Kd.R_bound hR
      rw [World.size_alloc] at hR0
      have HRR := Aside0.mk hR0
      clear HN B4 Y0 Y1 F4 s0 t0 t1 t2 z0 z1 z2 x0 x1 x2 E3 HB4 hR hR0
      obtain ⟨t0, t1, t2⟩ := ac_cells G1.out
      obtain ⟨u0, u1, u2⟩ := ac_cells G4.out
      have z0 := blk_frozen G1.out 0
      have z1 := blk_frozen G1.out 1
      have z2 := blk_frozen G1.out 2
      have y1 := blk_frozen G4.out 1
      have hs5 : w3.heap.size ≠ w.heap.size + 1 := by omega
      generalize cl.length = n5 at *
      go_wp2
      have f3 : ∀ k : Nat, (True ∧ w3.heap.size + 1 ≤ k ∧ k < w4.heap.size ∧ ∃ q, q ∈ 9 :: Kd.string.E ∧ ∃ cells, w4.heap[k]? = some (Obj.cells cells q (0, 0))) → k ≠ w3.heap.size := fun k hk => by have := hk.2.1; omega
      have f1 : ∀ k : Nat, (True ∧ w3.heap.size + 1 ≤ k ∧ k < w4.heap.size ∧ ∃ q, q ∈ 9 :: Kd.string.E ∧ ∃ cells, w4.heap[k]? = some (Obj.cells cells q (0, 0))) → k ≠ w.heap.size + 1 := fun k hk => by have := hk.2.1; omega
      refine bodyPost_ret (results_cell_row rfl _ _ (w.heap.size + 1) 33 #[.string q0, .slice A5 n5 c5, .bool q2] (0, 0) _ rfl (ac_put (blk_far G1.out (Ne.symm hs5) _) _ _ _) Tryd.underlying33 rfl (by kernel_rfl)) rfl ?_
      refine ⟨_, rfl, Kd.R_mono (Kd.R_far (Kd.R_far (Kd.R_far (Kd.R_far (Kd.R_lower HRR.out (by omega)) f3 _) f1 _) f1 _) f1 _) (fun _ _ => trivial), ?_⟩
      exact below_set (below_set (below_set (below_set E4.out (by omega)) (Nat.le_succ _)) (Nat.le_succ _)) (Nat.le_succ _)
  · have hix : act_ix a1 l0 = -1 := if_neg hb
    have h := HH.out
    rw [if_neg hb] at h
    have h5 := Option.some.inj h
    obtain ⟨rfl, rfl, rfl⟩ : a1 = r1 ∧ [] = r2 ∧ false = r3 := by cases h5; exact ⟨rfl, rfl, rfl⟩
    rw [hix]
    clear hix HH hb h h5
    have s0 : w2.cell? ⟨w.heap.size, 0, none⟩ = some (.string a1) := by rw [blk_cell X0.out]; rfl
    obtain ⟨t0, t1, t2⟩ := ac_cells X1.out
    have z0 := blk_frozen X1.out 0
    have z1 := blk_frozen X1.out 1
    have z2 := blk_frozen X1.out 2
    go_wp2
    refine bodyPost_ret (results_cell_row rfl _ _ (w.heap.size + 1) 33 #[.string a1, .slice none 0 0, .bool false] (0, 0) _ rfl (ac_put X1.out _ _ _) Tryd.underlying33 rfl (by kernel_rfl)) rfl ?_
    exact ⟨_, rfl, Kd.R_nil _ _ _ _ _, below_set (below_set (below_set E2.out (Nat.le_succ _)) (Nat.le_succ _)) (Nat.le_succ _)⟩

end Go.Proofs.YtilnamobmjngbaaDoor.P
