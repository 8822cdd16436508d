-- Made by a program of this work's own (wip/myprint.py) over the kit's print; leaves by hand.
import Derived.Test.YtdaddlplpkmkmaaDoorP0
import Derived.Test.YtdaddlplpkmkmaaDoorP4
import Derived.Test.YtdaddlplpkmkmaaDoorP5
import Derived.Shelf.Strings.Builder1
import Derived.Test.YtdaddlplpkmkmaaDoorMg1
import Derived.Test.YtdaddlplpkmkmaaDoorShelf
import Derived.Test.YtdaddlplpkmkmaaDoorTb
namespace Go.Proofs.YtdaddlplpkmkmaaDoor.P
open Go.RowKit Go.Proofs.YtdaddlplpkmkmaaDoorW.PrintWords Go.Proofs.YtdaddlplpkmkmaaDoorW.PrintLast Go.Proofs.YtdaddlplpkmkmaaDoorW.PrintMore
attribute [local go_sem] max2_int min2_int max_two min_two max_three min_three max_four min_four   -- for this text's walks alone
set_option linter.unusedVariables false
set_option linter.unusedSimpArgs false

-- HAND LogMay.lean
-- IMPORT Derived.Test.YtdaddlplpkmkmaaDoorPlain
/-! ### log_May, by hand -/
def log_all (k : Nat) : List (S23) → Option Bool
  | [] => some true
  | x :: xs => (logline_May.f k x.f0 x.f1 x.f2).bind fun b => if b = true then log_all k xs else some false
def log_May.f (k : Nat) (l0 : List (S23)) : Option Bool := if l0.length ≤ 256 then log_all k l0 else some false
theorem log_all.mono : ∀ l0 k, LeO (log_all k l0) (log_all (k + 1) l0)
  | [], _ => LeO.refl _
  | _ :: xs, k => LeO.bind (logline_May.mono _ _ _ _) (fun _ => LeO.ite (log_all.mono xs k) (LeO.refl _))
theorem log_May.mono : ∀ l0 k, LeO (log_May.f k l0) (log_May.f (k + 1) l0) := fun l0 k => LeO.ite (log_all.mono l0 k) (LeO.refl _)
theorem log_odd.calls (k : Nat) (x : S23) (b : Bool) (W : World) (h : logline_May.f k x.f0 x.f1 x.f2 = some b) :
    Calls Tryd.prog 36 #[.agg #[.string x.f0, .int .i64 x.f1, .string x.f2]] W fun e w' => e = .returned (.bool (!b)) ∧ Below W.heap.size W w' := by
  obtain ⟨s, t, l⟩ := x
  have c1 : ∀ W', Below W.heap.size W W' → Calls Tryd.prog 25 #[.agg #[.string s, .int .i64 t, .string l]] W' fun e w' => e = .returned (.bool b) ∧ Below W'.heap.size W' w' := fun W' hB => logline_May.calls k s t l b W' h
  clear h
  show Calls Tryd.prog 36 #[.agg #[.string s, .int .i64 t, .string l]] W _
  obtain ⟨w1, hw1⟩ : ∃ w1, W.alloc (.cells #[.string s, .int .i64 t, .string l] 23) = w1 := ⟨_, rfl⟩
  have B1 : Below W.heap.size W w1 := by rw [← hw1]; exact below_alloc (Below.refl _ _) _
  have hb1 : w1.heap[W.heap.size]? = some (.cells #[.string s, .int .i64 t, .string l] 23 (0, 0)) := by rw [← hw1]; exact heap_alloc_new W _
  have f0 : w1.cell? ⟨W.heap.size, 0, none⟩ = some (.string s) := by rw [blk_cell hb1 0]; rfl
  have f1 : w1.cell? ⟨W.heap.size, 1, none⟩ = some (.int .i64 t) := by rw [blk_cell hb1 1]; rfl
  have f2 : w1.cell? ⟨W.heap.size, 2, none⟩ = some (.string l) := by rw [blk_cell hb1 2]; rfl
  have cM := c1 w1 B1
  have HW := Aside0.mk hw1
  clear hb1 hw1 c1
  go_enter Tryd.func36, Tryd.ntmps36
  go_wp2_with fail
  rw [HW.out]
  go_wp2_with (go_at_call 25; refine cM.mono ?_; rintro e w2 ⟨rfl, B2⟩)
  go_ret
  exact ⟨rfl, below_then B1 B1.size B2⟩
theorem log_drop (l0 : List (S23)) (kk : Nat) (h : kk < l0.length) : l0.drop kk = rd_T23 l0 (kk : Int) :: l0.drop (kk + 1) := by
  rw [List.drop_eq_getElem_cons h]
  congr 1
  simp [rd_T23, List.getD_eq_getElem?_getD, List.getElem?_eq_getElem h]
set_option maxHeartbeats 2000000 in
theorem log_idx.calls (k : Nat) (A : Option Addr) (c : Nat) (l0 : List (S23)) (r : Bool) (w : World) (hr : Kd.C k23 w A l0.length l0) (hl : l0.length ≤ 256) (h : log_all k l0 = some r) :
    Calls Tryd.prog 52 #[.slice A l0.length c, .func (.func 36) #[] #[]] w fun e w' => ∃ i : Int, e = .returned (.int .i64 i) ∧ decide (0 ≤ i) = (!r) ∧ Below w.heap.size w w' := by
  have HR := Aside0.mk hr
  have HL := Aside0.mk hl
  have H0 := Aside0.mk h
  clear hr hl h
  have eg : ∀ args w, (callFunc 36 args).run Tryd.prog w = .ok (.enter 36 args) w := enters_of Tryd.func36 (by kernel_rfl) rfl
  go_enter Tryd.func52, Tryd.ntmps52
  go_wp2
  go_loopg [5, 8] l0.length (fun gg _ s8 wr => ∃ kk : Nat, kk ≤ l0.length ∧ l0.length - kk ≤ gg ∧ s8 = .int .i64 kk ∧ Aside0 (log_all k (l0.drop kk) = some r) ∧ Aside0 (Below w.heap.size w wr))
  case atStart => exact ⟨0, Nat.zero_le _, by omega, rfl, ⟨H0.out⟩, ⟨Below.refl _ _⟩⟩
  case round =>
    obtain ⟨kk, hkk, hg, rfl, L, B⟩ := hrel
    by_cases hlt : kk < l0.length
    · have hltz : (kk : Int) < (l0.length : Int) := by omega
      obtain ⟨ad, hA, h0, h1, h2⟩ := at_T23 HR.out (kk : Int) (by omega) hltz
      subst hA
      replace h0 := (B.out.cell (World.block_lt_of_cell? w _ h0)).trans h0
      replace h1 := (B.out.cell (World.block_lt_of_cell? w _ h1)).trans h1
      replace h2 := (B.out.cell (World.block_lt_of_cell? w _ h2)).trans h2
      simp only [Int.toNat_natCast] at h0 h1 h2
      have hL := L.out
      rw [log_drop l0 kk hlt, log_all] at hL
      obtain ⟨b, hm, hL⟩ := Option.bind_eq_some_iff.1 hL
      have hcall := log_odd.calls k (rd_T23 l0 (kk : Int)) b wr hm
      clear hm
      generalize rd_T23 l0 (kk : Int) = x at h0 h1 h2 hcall
      obtain ⟨s, t, l⟩ := x
      simp only [] at h0 h1 h2 hcall
      have HL2 := Aside0.mk hL
      clear hL
      cases b with
      | true =>
        simp only [Bool.not_true] at hcall
        go_wp2_with (go_at_fn 36; refine hcall.mono ?_; rintro e w' ⟨rfl, hB⟩)
        go_roundg (l0.length - (kk + 1))
        case measure => omega
        case rel => exact ⟨kk + 1, by omega, by omega, by rw [Spec.wrap_nat (by have := HL.out; omega)], ⟨by simpa using HL2.out⟩, ⟨below_then B.out B.out.size hB⟩⟩
      | false =>
        simp only [Bool.not_false] at hcall
        have hr : false = r := by have := HL2.out; simpa using this
        subst hr
        go_wp2_with (go_at_fn 36; refine hcall.mono ?_; rintro e w' ⟨rfl, hB⟩)
        go_ret
        exact ⟨_, rfl, by simp, below_then B.out B.out.size hB⟩
    · have hltz : ¬ (kk : Int) < (l0.length : Int) := by omega
      have heq : kk = l0.length := by omega
      have hL := L.out
      rw [heq, List.drop_length, log_all] at hL
      obtain rfl := Option.some.inj hL
      clear hL
      subst heq
      go_wp2
      go_ret
      exact ⟨_, rfl, by decide, B.out⟩
theorem log_May.calls (k : Nat) (A0 : Option Addr) (c0 : Nat) (l0 : List (S23)) (r : Bool) (w : World) (hr0 : Kd.C k23 w A0 l0.length l0) (hc0 : l0.length ≤ c0) (h : log_May.f k l0 = some r) :
    Calls Tryd.prog 24 #[.slice A0 l0.length c0] w fun e w' => e = .returned (.bool r) ∧ Below w.heap.size w w' := by
  unfold log_May.f at h
  split at h
  · rename_i hl
    have cI := log_idx.calls k A0 c0 l0 r w hr0 hl h
    have hl2 : decide ((l0.length : Int) ≤ 256) = true := decide_eq_true (by omega)
    have hl3 : (l0.length : Int) ≤ 256 := by omega
    clear hr0 hc0 h hl
    generalize l0.length = n at cI hl2 hl3 ⊢
    have cC : Calls Tryd.prog 37 #[.slice A0 n c0, .func (.func 36) #[] #[]] w fun e w' => e = .returned (.bool (!r)) ∧ Below w.heap.size w w' := by
      clear hl2 hl3
      go_enter Tryd.func37, Tryd.ntmps37
      go_wp2_with (go_at_call 52; refine cI.mono ?_; rintro e w1 ⟨i, rfl, hi, hB⟩)
      go_ret
      exact ⟨rfl, hB⟩
    clear cI
    go_enter Tryd.func24, Tryd.ntmps24
    go_wp2_with (go_at_call 37; refine cC.mono ?_; rintro e w1 ⟨rfl, hB⟩)
    go_ret
    exact ⟨by simp, hB⟩
  · rename_i hl
    obtain rfl := Option.some.inj h
    have hl2 : decide ((l0.length : Int) ≤ 256) = false := decide_eq_false (by omega)
    have hl3 : ¬ (l0.length : Int) ≤ 256 := by omega
    clear hr0 hc0 h hl
    generalize l0.length = n at hl2 hl3 ⊢
    go_enter Tryd.func24, Tryd.ntmps24
    go_wp2
    go_ret
    exact ⟨rfl, Below.refl _ _⟩

-- HAND LogText.lean
-- IMPORT Derived.Test.YtdaddlplpkmkmaaDoorPlain
-- IMPORT Derived.Test.YtdaddlplpkmkmaaDoorTb
-- IMPORT Derived.Test.YtdaddlplpkmkmaaDoorShelf
-- IMPORT Derived.Shelf.Strings.Builder1
/-! ### log_Text, by hand -/
def log_texts (k : Nat) : List (S23) → Option (List UInt8)
  | [] => some []
  | x :: xs => (logline_Put.f k x.f0 x.f1 x.f2).bind fun p => (log_texts k xs).bind fun r => some (p.1.data.toList ++ r)
def log_Text.f (k : Nat) (l0 : List (S23)) : Option (ByteArray × Int) :=
  (log_May.f k l0).bind fun b => if b = true then ((log_texts k l0).bind fun s => if l0.length ≤ 256 ∧ s.length ≤ 140737488355328 then some (Spec.str s, 0) else none) else some (⟨#[]⟩, 1400)
theorem log_texts.mono : ∀ l0 k, LeO (log_texts k l0) (log_texts (k + 1) l0)
  | [], _ => LeO.refl _
  | _ :: xs, k => LeO.bind (logline_Put.mono _ _ _ _) (fun _ => LeO.bind (log_texts.mono xs k) (fun _ => LeO.refl _))
theorem log_Text.mono : ∀ l0 k, LeO (log_Text.f k l0) (log_Text.f (k + 1) l0) := fun l0 k => LeO.bind (log_May.mono _ _) (fun _ => LeO.ite (LeO.bind (log_texts.mono l0 k) (fun _ => LeO.refl _)) (LeO.refl _))
theorem log_build_below {T e : TypeId} {B b : Nat} {bs : List Value} {W W' : World} (h : Lib.IsBuilder T e B b bs W) (hb : Below W.heap.size W W') : Lib.IsBuilder T e B b bs W' := by
  have st : ∀ p, Lib.BuilderAt T e B b p bs W → Lib.BuilderAt T e B b p bs W' := by
    rintro p ⟨h1, v, h2, h3, h4⟩
    exact ⟨h1, v, (hb.block b (blk_lt h2)).trans h2, own_move h3 (fun k hk => hb.block k (own_lt h3 k hk)), h4⟩
  exact h.imp (st _) (st _)
theorem log_build_new {b : Nat} {W : World} (h : W.heap[b]? = some (.cells #[.pointer none, .slice none 0 0] 65 (0, 0))) : Lib.IsBuilder 65 5 b b (Lib.byteCells []) W :=
  .inl ⟨Nat.le_refl _, _, h, World.ownsRow_nil _ _ _ _, by simp [Value.ownBlock]⟩
theorem log_write (B b : Nat) (acc : List UInt8) (s : ByteArray) (w : World) (h : Lib.IsBuilder 65 5 B b (Lib.byteCells acc) w) (hlen : acc.length + s.size ≤ 140737488355328) (hBw : B ≤ w.heap.size) :
    Calls Tryd.prog 32 #[.pointer (some ⟨b, 0, none⟩), .string s] w fun e w' => e = .returned (.tuple #[.int .i64 s.size, .nilIface]) ∧ Lib.IsBuilder 65 5 B b (Lib.byteCells (acc ++ s.data.toList)) w' ∧ Below B w w' :=
  (Any.Builder_WriteString (ρ := Tryd.lays156_ren) { Tryd.lays156 with } Tryd.Builder_Extra_156 B b (Lib.byteCells acc) s w h (by rw [Lib.byteCells_length]; exact hlen) hBw).mono fun e w' ⟨he, hb, hB⟩ => ⟨he, .inr (by rw [Lib.byteCells_append]; rw [Lib.strCells_eq] at hb; exact hb), hB⟩
theorem log_string (B b : Nat) (acc : List UInt8) (w : World) (h : Lib.IsBuilder 65 5 B b (Lib.byteCells acc) w) (hBw : B ≤ w.heap.size) :
    Calls Tryd.prog 33 #[.pointer (some ⟨b, 0, none⟩)] w fun e w' => e = .returned (.string (Spec.str acc)) ∧ Below B w w' :=
  Any.Builder_String_any (ρ := Tryd.lays156_ren) { Tryd.lays156 with } Tryd.Builder_Extra_156 B b acc w h hBw
theorem log_one.calls (k : Nat) (x : S23) (p : ByteArray × Int) (w : World) (hT : Tb w) (h : logline_Put.f k x.f0 x.f1 x.f2 = some p) :
    ∀ W, Below w.heap.size w W → Calls Tryd.prog 12 #[.agg #[.string x.f0, .int .i64 x.f1, .string x.f2]] W fun e w' => e = .returned (.tuple #[.string p.1, .int .i64 p.2]) ∧ Below W.heap.size W w' := fun W hB =>
  logline_Put.calls k x.f0 x.f1 x.f2 p.1 p.2 W h (hT.below hB)
theorem log_then {A W W' : World} (h : Below A.heap.size A W) (h' : Below W.heap.size W W') : Below A.heap.size A W' := below_then h h.size h'
set_option maxHeartbeats 4000000 in
set_option maxRecDepth 100000 in
theorem log_Text.calls (k : Nat) (A0 : Option Addr) (c0 : Nat) (l0 : List (S23)) (r1 : ByteArray) (r2 : Int) (w : World) (hr0 : Kd.C k23 w A0 l0.length l0) (hc0 : l0.length ≤ c0) (h : log_Text.f k l0 = some (r1, r2)) (hT : Tb w) :
    Calls Tryd.prog 19 #[.slice A0 l0.length c0] w fun e w' => e = .returned (.tuple #[.string r1, .int .i64 r2]) ∧ Below w.heap.size w w' := by
  obtain ⟨b, hM, h⟩ := Option.bind_eq_some_iff.1 h
  have cM := log_May.calls k A0 c0 l0 b w hr0 hc0 hM
  clear hM
  cases b with
  | false =>
    rw [if_neg (by decide)] at h
    obtain ⟨rfl, rfl⟩ := Prod.mk.inj (Option.some.inj h)
    clear h hr0 hc0
    go_enter Tryd.func19, Tryd.ntmps19
    go_wp2_with (go_at_call 24; refine cM.mono ?_; rintro e w1 ⟨rfl, hB⟩)
    go_ret2
    exact ⟨rfl, hB⟩
  | true =>
    rw [if_pos rfl] at h
    obtain ⟨S, hS, h⟩ := Option.bind_eq_some_iff.1 h
    split at h
    case isFalse => cases h
    rename_i hc
    obtain ⟨hl, hz⟩ := hc
    obtain ⟨rfl, rfl⟩ := Prod.mk.inj (Option.some.inj h)
    have HR := Aside0.mk hr0
    have HL := Aside0.mk hl
    have HS := Aside0.mk hS
    have HZ := Aside0.mk hz
    have HT := Aside0.mk hT
    clear h hr0 hc0 hl hz hS hT
    go_enter Tryd.func19, Tryd.ntmps19
    go_wp2_with (first
      | (go_at_call 24; refine cM.mono ?_; rintro e w1 ⟨rfl, hB1⟩; have HB1 := Aside0.mk hB1; clear hB1)
      | ((with_reducible refine gate_dst (N := 4) rfl ?_); refine box_event ?hg (N := 4) ?hd (cs := #[.pointer none, .slice none 0 0]) (t := 65) ?hr ?_; (case hd => rfl); (case hg => rfl); (case hr => first | (go_simp; done) | (go_simp; rfl)); intro g hg w3 hbox hB3; have HBld := Aside0.mk (log_build_new hbox); have HG := Aside0.mk (show w.heap.size ≤ g by rw [hg]; exact HB1.out.size); have HB3 := Aside0.mk (below_then HB1.out HB1.out.size hB3); have HGl := Aside0.mk (blk_lt hbox); clear hbox hB3 hg HB1))
    go_loopg [14] l0.length (fun gg s14 wr => ∃ kk : Nat, kk ≤ l0.length ∧ l0.length - kk ≤ gg ∧ s14 = .int .i64 kk ∧ Aside0 (∃ acc rest, log_texts k (l0.drop kk) = some rest ∧ acc ++ rest = S ∧ Lib.IsBuilder 65 5 g g (Lib.byteCells acc) wr) ∧ Aside0 (Below w.heap.size w wr) ∧ Aside0 (g < wr.heap.size))
    case atStart => exact ⟨0, Nat.zero_le _, by omega, rfl, ⟨[], S, HS.out, rfl, HBld.out⟩, HB3, HGl⟩
    case round =>
      clear HBld HB3 HGl HS
      obtain ⟨kk, hkk, hgk, rfl, L, B, HGl⟩ := hrel
      by_cases hlt : kk < l0.length
      · have hltz : (kk : Int) < (l0.length : Int) := by omega
        obtain ⟨ad, hA, h0, h1, h2⟩ := at_T23 HR.out (kk : Int) (by omega) hltz
        subst hA
        replace h0 := (B.out.cell (World.block_lt_of_cell? w _ h0)).trans h0
        replace h1 := (B.out.cell (World.block_lt_of_cell? w _ h1)).trans h1
        replace h2 := (B.out.cell (World.block_lt_of_cell? w _ h2)).trans h2
        simp only [Int.toNat_natCast] at h0 h1 h2
        obtain ⟨acc, rest, hL, hcat, hBl⟩ := L.out
        rw [log_drop l0 kk hlt, log_texts] at hL
        obtain ⟨p, hP, hL⟩ := Option.bind_eq_some_iff.1 hL
        obtain ⟨rest', hL3, hrest⟩ := Option.bind_eq_some_iff.1 hL
        obtain rfl := Option.some.inj hrest
        have cP := log_one.calls k (rd_T23 l0 (kk : Int)) p wr (HT.out.below B.out) hP
        clear hP hrest
        have hlen : acc.length + p.1.size ≤ 140737488355328 := by
          have := congrArg List.length hcat
          rw [List.length_append, List.length_append, Spec.size_data] at this
          have := HZ.out
          omega
        have cW := fun W' (hb : Below wr.heap.size wr W') => log_write g g acc p.1 W' (log_build_below hBl hb) hlen (Nat.le_trans (Nat.le_of_lt HGl.out) hb.size)
        have HC := Aside0.mk hcat
        have HL2 := Aside0.mk hL3
        clear hcat hL hL3 hBl hlen L
        generalize rd_T23 l0 (kk : Int) = x at h0 h1 h2 cP
        obtain ⟨s, t, l⟩ := x
        obtain ⟨p, q⟩ := p
        simp only [] at h0 h1 h2 cP cW HC
        go_wp2_with (first
          | ((with_reducible refine gate_dst (N := 6) rfl ?_); refine box_event ?hg (N := 6) ?hd (cs := #[.string (⟨#[]⟩ : ByteArray), .int .i64 0, .string (⟨#[]⟩ : ByteArray)]) (t := 23) ?hr ?_; (case hd => rfl); (case hg => rfl); (case hr => first | (go_simp; done) | (go_simp; rfl)); intro gf hgf wf hbox hBf; have k0 := blk_cell hbox 0; have k1 := blk_cell hbox 1; have k2 := blk_cell hbox 2; have z0 := blk_frozen hbox 0; have z1 := blk_frozen hbox 1; have z2 := blk_frozen hbox 2; have HBX := Aside0.mk hbox; have HGF := Aside0.mk (show wr.heap.size ≤ gf by rw [hgf]; exact Nat.le_refl _); have HBf := Aside0.mk hBf; clear hbox hgf hBf)
          | (go_at_call 12; refine Calls.mono (cP _ (below_set (below_set (below_set HBf.out HGF.out) HGF.out) HGF.out)) ?_; rintro e w6 ⟨rfl, hB6⟩; have HB6 := Aside0.mk (log_then (below_set (below_set (below_set HBf.out HGF.out) HGF.out) HGF.out) hB6); clear hB6)
          | (go_at_call 32; refine (cW _ HB6.out).mono ?_; rintro e w7 ⟨rfl, hI7, hB7⟩; have HI7 := Aside0.mk hI7; have HB7 := Aside0.mk hB7; clear hI7 hB7))
        go_roundg (l0.length - (kk + 1))
        case measure => omega
        case rel => exact ⟨kk + 1, by omega, by omega, by rw [Spec.wrap_nat (by have := HL.out; omega)], ⟨_, _, HL2.out, by rw [List.append_assoc]; exact HC.out, HI7.out⟩, ⟨(below_then B.out B.out.size HB6.out).trans (HB7.out.mono HG.out)⟩, ⟨Nat.lt_of_lt_of_le HGl.out (Nat.le_trans HB6.out.size HB7.out.size)⟩⟩
      · have hltz : ¬ (kk : Int) < (l0.length : Int) := by omega
        have heq : kk = l0.length := by omega
        obtain ⟨acc, rest, hL, hcat, hBl⟩ := L.out
        rw [heq, List.drop_length, log_texts] at hL
        obtain rfl := Option.some.inj hL
        rw [List.append_nil] at hcat
        subst hcat
        have cS := log_string g g acc wr hBl (Nat.le_of_lt HGl.out)
        clear hL hBl L
        subst heq
        go_wp2_with (go_at_call 33; refine cS.mono ?_; rintro e w8 ⟨rfl, hB8⟩)
        go_ret2
        exact ⟨rfl, B.out.trans (hB8.mono HG.out)⟩

end Go.Proofs.YtdaddlplpkmkmaaDoor.P
