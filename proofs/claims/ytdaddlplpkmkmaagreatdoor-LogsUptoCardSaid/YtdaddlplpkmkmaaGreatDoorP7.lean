-- Made by a program of this work's own (wip/myprint.py) over the kit's print; leaves by hand.
import Derived.Test.YtdaddlplpkmkmaaGreatDoorP0
import Derived.Test.YtdaddlplpkmkmaaGreatDoorP5
import Derived.Test.YtdaddlplpkmkmaaGreatDoorP6
import Derived.Shelf.Strings.Builder1
import Derived.Test.YtdaddlplpkmkmaaGreatDoorMg1
import Derived.Test.YtdaddlplpkmkmaaGreatDoorShelf
import Derived.Test.YtdaddlplpkmkmaaGreatDoorTb
namespace Go.Proofs.YtdaddlplpkmkmaaGreatDoor.P
open Go.RowKit Go.Proofs.YtdaddlplpkmkmaaGreatDoorW.PrintWords Go.Proofs.YtdaddlplpkmkmaaGreatDoorW.PrintLast Go.Proofs.YtdaddlplpkmkmaaGreatDoorW.PrintMore
attribute [local go_sem] max2_int min2_int max_two min_two max_three min_three max_four min_four   -- for this text's walks alone
set_option linter.unusedVariables false
set_option linter.unusedSimpArgs false

-- HAND LogText.lean
-- IMPORT Derived.Test.YtdaddlplpkmkmaaGreatDoorPlain
-- IMPORT Derived.Test.YtdaddlplpkmkmaaGreatDoorTb
-- IMPORT Derived.Test.YtdaddlplpkmkmaaGreatDoorShelf
-- IMPORT Derived.Shelf.Strings.Builder1
/-! ### log_Text, by hand -/
def log_texts (k : Nat) : List (S31) → Option (List UInt8)
  | [] => some []
  | x :: xs => (logline_Put.f k x.f0 x.f1 x.f2).bind fun p => (log_texts k xs).bind fun r => some (p.1.data.toList ++ r)
def log_Text.f (k : Nat) (l0 : List (S31)) : Option (ByteArray × Int) :=
  (log_May.f k l0).bind fun b => if b = true then ((log_texts k l0).bind fun s => if l0.length ≤ 256 ∧ s.length ≤ 140737488355328 then some (Spec.str s, 0) else none) else some (⟨#[]⟩, 1400)
theorem log_texts.mono : ∀ l0 k, LeO (log_texts k l0) (log_texts (k + 1) l0)
  | [], _ => LeO.refl _
  | _ :: xs, k => LeO.bind (logline_Put.mono _ _ _ _) (fun _ => LeO.bind (log_texts.mono xs k) (fun _ => LeO.refl _))
theorem log_Text.mono : ∀ l0 k, LeO (log_Text.f k l0) (log_Text.f (k + 1) l0) := fun l0 k => LeO.bind (log_May.mono _ _) (fun _ => LeO.ite (LeO.bind (log_texts.mono l0 k) (fun _ => LeO.refl _)) (LeO.refl _))
theorem log_build_below {T e : TypeId} {B b : Nat} {bs : List Value} {W W' : World} (h : Lib.IsBuilder T e B b bs W) (hb : Below W.heap.size W W') : Lib.IsBuilder T e B b bs W' := by
  have st : ∀ p, Lib.BuilderAt T e B b p bs W → Lib.BuilderAt T e B b p bs W' := by
    rintro p ⟨h1, v, h2, h3, h4⟩
    exact ⟨h1, v, (hb.block b (blk_lt h2)).trans h2, own_move h3 (fun k hk => hb.block k (own_lt h3 k hk)), h4⟩
  exact h.imp (st _) (st _)
theorem log_build_new {b : Nat} {W : World} (h : W.heap[b]? = some (.cells #[.pointer none, .slice none 0 0] 51 (0, 0))) : Lib.IsBuilder 51 5 b b (Lib.byteCells []) W :=
  .inl ⟨Nat.le_refl _, _, h, World.ownsRow_nil _ _ _ _, by simp [Value.ownBlock]⟩
theorem log_write (B b : Nat) (acc : List UInt8) (s : ByteArray) (w : World) (h : Lib.IsBuilder 51 5 B b (Lib.byteCells acc) w) (hlen : acc.length + s.size ≤ 140737488355328) (hBw : B ≤ w.heap.size) :
    Calls Tryz.prog 24 #[.pointer (some ⟨b, 0, none⟩), .string s] w fun e w' => e = .returned (.tuple #[.int .i64 s.size, .nilIface]) ∧ Lib.IsBuilder 51 5 B b (Lib.byteCells (acc ++ s.data.toList)) w' ∧ Below B w w' :=
  (Any.Builder_WriteString (ρ := Tryz.lays156_ren) { Tryz.lays156 with } Tryz.Builder_Extra_156 B b (Lib.byteCells acc) s w h (by rw [Lib.byteCells_length]; exact hlen) hBw).mono fun e w' ⟨he, hb, hB⟩ => ⟨he, .inr (by rw [Lib.byteCells_append]; rw [Lib.strCells_eq] at hb; exact hb), hB⟩
theorem log_string (B b : Nat) (acc : List UInt8) (w : World) (h : Lib.IsBuilder 51 5 B b (Lib.byteCells acc) w) (hBw : B ≤ w.heap.size) :
    Calls Tryz.prog 25 #[.pointer (some ⟨b, 0, none⟩)] w fun e w' => e = .returned (.string (Spec.str acc)) ∧ Below B w w' :=
  Any.Builder_String_any (ρ := Tryz.lays156_ren) { Tryz.lays156 with } Tryz.Builder_Extra_156 B b acc w h hBw
theorem log_one.calls (k : Nat) (x : S31) (p : ByteArray × Int) (w : World) (hT : Tb w) (h : logline_Put.f k x.f0 x.f1 x.f2 = some p) :
    ∀ W, Below w.heap.size w W → Calls Tryz.prog 23 #[.agg #[.string x.f0, .int .i64 x.f1, .string x.f2]] W fun e w' => e = .returned (.tuple #[.string p.1, .int .i64 p.2]) ∧ Below W.heap.size W w' := fun W hB =>
  logline_Put.calls k x.f0 x.f1 x.f2 p.1 p.2 W h (hT.below hB)
theorem log_then {A W W' : World} (h : Below A.heap.size A W) (h' : Below W.heap.size W W') : Below A.heap.size A W' := below_then h h.size h'
set_option maxHeartbeats 4000000 in
set_option maxRecDepth 100000 in
theorem log_Text.calls (k : Nat) (A0 : Option Addr) (c0 : Nat) (l0 : List (S31)) (r1 : ByteArray) (r2 : Int) (w : World) (hr0 : Kd.C k31 w A0 l0.length l0) (hc0 : l0.length ≤ c0) (h : log_Text.f k l0 = some (r1, r2)) (hT : Tb w) :
    Calls Tryz.prog 7 #[.slice A0 l0.length c0] w fun e w' => e = .returned (.tuple #[.string r1, .int .i64 r2]) ∧ Below w.heap.size w w' := by
  obtain ⟨b, hM, h⟩ := Option.bind_eq_some_iff.1 h
  have cM := log_May.calls k A0 c0 l0 b w hr0 hc0 hM
  clear hM
  cases b with
  | false =>
    rw [if_neg (by decide)] at h
    obtain ⟨rfl, rfl⟩ := Prod.mk.inj (Option.some.inj h)
    clear h hr0 hc0
    go_enter Tryz.func7, Tryz.ntmps7
    go_wp2_with (go_at_call 17; refine cM.mono ?_; rintro e w1 ⟨rfl, hB⟩)
    go_ret2
    exact ⟨rfl, hB⟩
  | true =>
    rw [if_pos rfl] at h
    obtain ⟨S, hS, h⟩ := Option.bind_eq_some_iff.1 h
    split at h
    case isFalse => cases h
    rename_i hc
    obtain ⟨hl, hz⟩ := hc
    obtain ⟨rfl, rfl⟩ := Prod.mk.inj (Option.some.inj h)
    have HR := Aside0.mk hr0
    have HL := Aside0.mk hl
    have HS := Aside0.mk hS
    have HZ := Aside0.mk hz
    have HT := Aside0.mk hT
    clear h hr0 hc0 hl hz hS hT
    go_enter Tryz.func7, Tryz.ntmps7
    go_wp2_with (first
      | (go_at_call 17; refine cM.mono ?_; rintro e w1 ⟨rfl, hB1⟩; have HB1 := Aside0.mk hB1; clear hB1)
      | ((with_reducible refine gate_dst (N := 4) rfl ?_); refine box_event ?hg (N := 4) ?hd (cs := #[.pointer none, .slice none 0 0]) (t := 51) ?hr ?_; (case hd => rfl); (case hg => rfl); (case hr => first | (go_simp; done) | (go_simp; rfl)); intro g hg w3 hbox hB3; have HBld := Aside0.mk (log_build_new hbox); have HG := Aside0.mk (show w.heap.size ≤ g by rw [hg]; exact HB1.out.size); have HB3 := Aside0.mk (below_then HB1.out HB1.out.size hB3); have HGl := Aside0.mk (blk_lt hbox); clear hbox hB3 hg HB1))
    go_loopg [14] l0.length (fun gg s14 wr => ∃ kk : Nat, kk ≤ l0.length ∧ l0.length - kk ≤ gg ∧ s14 = .int .i64 kk ∧ Aside0 (∃ acc rest, log_texts k (l0.drop kk) = some rest ∧ acc ++ rest = S ∧ Lib.IsBuilder 51 5 g g (Lib.byteCells acc) wr) ∧ Aside0 (Below w.heap.size w wr) ∧ Aside0 (g < wr.heap.size))
    case atStart => exact ⟨0, Nat.zero_le _, by omega, rfl, ⟨[], S, HS.out, rfl, HBld.out⟩, HB3, HGl⟩
    case round =>
      clear HBld HB3 HGl HS
      obtain ⟨kk, hkk, hgk, rfl, L, B, HGl⟩ := hrel
      by_cases hlt : kk < l0.length
      · have hltz : (kk : Int) < (l0.length : Int) := by omega
        obtain ⟨ad, hA, h0, h1, h2⟩ := at_T31 HR.out (kk : Int) (by omega) hltz
        subst hA
        replace h0 := (B.out.cell (World.block_lt_of_cell? w _ h0)).trans h0
        replace h1 := (B.out.cell (World.block_lt_of_cell? w _ h1)).trans h1
        replace h2 := (B.out.cell (World.block_lt_of_cell? w _ h2)).trans h2
        simp only [Int.toNat_natCast] at h0 h1 h2
        obtain ⟨acc, rest, hL, hcat, hBl⟩ := L.out
        rw [log_drop l0 kk hlt, log_texts] at hL
        obtain ⟨p, hP, hL⟩ := Option.bind_eq_some_iff.1 hL
        obtain ⟨rest', hL3, hrest⟩ := Option.bind_eq_some_iff.1 hL
        obtain rfl := Option.some.inj hrest
        have cP := log_one.calls k (rd_T31 l0 (kk : Int)) p wr (HT.out.below B.out) hP
        clear hP hrest
        have hlen : acc.length + p.1.size ≤ 140737488355328 := by
          have := congrArg List.length hcat
          rw [List.length_append, List.length_append, Spec.size_data] at this
          have := HZ.out
          omega
        have cW := fun W' (hb : Below wr.heap.size wr W') => log_write g g acc p.1 W' (log_build_below hBl hb) hlen (Nat.le_trans (Nat.le_of_lt HGl.out) hb.size)
        have HC := Aside0.mk hcat
        have HL2 := Aside0.mk hL3
        clear hcat hL hL3 hBl hlen L
        generalize rd_T31 l0 (kk : Int) = x at h0 h1 h2 cP
        obtain ⟨s, t, l⟩ := x
        obtain ⟨p, q⟩ := p
        simp only [] at h0 h1 h2 cP cW HC
        go_wp2_with (first
          | ((with_reducible refine gate_dst (N := 6) rfl ?_); refine box_event ?hg (N := 6) ?hd (cs := #[.string (⟨#[]⟩ : ByteArray), .int .i64 0, .string (⟨#[]⟩ : ByteArray)]) (t := 31) ?hr ?_; (case hd => rfl); (case hg => rfl); (case hr => first | (go_simp; done) | (go_simp; rfl)); intro gf hgf wf hbox hBf; have k0 := blk_cell hbox 0; have k1 := blk_cell hbox 1; have k2 := blk_cell hbox 2; have z0 := blk_frozen hbox 0; have z1 := blk_frozen hbox 1; have z2 := blk_frozen hbox 2; have HBX := Aside0.mk hbox; have HGF := Aside0.mk (show wr.heap.size ≤ gf by rw [hgf]; exact Nat.le_refl _); have HBf := Aside0.mk hBf; clear hbox hgf hBf)
          | (go_at_call 23; refine Calls.mono (cP _ (below_set (below_set (below_set HBf.out HGF.out) HGF.out) HGF.out)) ?_; rintro e w6 ⟨rfl, hB6⟩; have HB6 := Aside0.mk (log_then (below_set (below_set (below_set HBf.out HGF.out) HGF.out) HGF.out) hB6); clear hB6)
          | (go_at_call 24; refine (cW _ HB6.out).mono ?_; rintro e w7 ⟨rfl, hI7, hB7⟩; have HI7 := Aside0.mk hI7; have HB7 := Aside0.mk hB7; clear hI7 hB7))
        go_roundg (l0.length - (kk + 1))
        case measure => omega
        case rel => exact ⟨kk + 1, by omega, by omega, by rw [Spec.wrap_nat (by have := HL.out; omega)], ⟨_, _, HL2.out, by rw [List.append_assoc]; exact HC.out, HI7.out⟩, ⟨(below_then B.out B.out.size HB6.out).trans (HB7.out.mono HG.out)⟩, ⟨Nat.lt_of_lt_of_le HGl.out (Nat.le_trans HB6.out.size HB7.out.size)⟩⟩
      · have hltz : ¬ (kk : Int) < (l0.length : Int) := by omega
        have heq : kk = l0.length := by omega
        obtain ⟨acc, rest, hL, hcat, hBl⟩ := L.out
        rw [heq, List.drop_length, log_texts] at hL
        obtain rfl := Option.some.inj hL
        rw [List.append_nil] at hcat
        subst hcat
        have cS := log_string g g acc wr hBl (Nat.le_of_lt HGl.out)
        clear hL hBl L
        subst heq
        go_wp2_with (go_at_call 25; refine cS.mono ?_; rintro e w8 ⟨rfl, hB8⟩)
        go_ret2
        exact ⟨rfl, B.out.trans (hB8.mono HG.out)⟩

/-! ### crucibleref1_small: function 93 -/
def crucibleref1_small.f (a0 : Int) : Option (Bool) := if a0 ≥ 97 then (if a0 ≤ 122 then (some true) else (if a0 ≥ 48 then (some (decide (a0 ≤ 57))) else (some false))) else (if a0 ≥ 48 then (some (decide (a0 ≤ 57))) else (some false))
set_option maxHeartbeats 8000000 in
set_option maxRecDepth 100000 in
theorem crucibleref1_small.calls (a0 : Int) (r : Bool) (w : World) (h : crucibleref1_small.f a0 = some r) :
    Calls Tryz.prog 93 #[.int .u8 a0] w fun e w' => e = .returned (.bool r) ∧ Drawn0 w w' := by
  have H : (if a0 ≥ 97 then (if a0 ≤ 122 then (some true) else (if a0 ≥ 48 then (some (decide (a0 ≤ 57))) else (some false))) else (if a0 ≥ 48 then (some (decide (a0 ≤ 57))) else (some false))) = some r := h
  clear h
  by_cases c2 : a0 ≥ 97
  · rw [if_pos c2] at H
    have c2b0 : decide (97 ≤ a0) = true := decide_eq_true c2
    clear c2
    by_cases c3 : a0 ≤ 122
    · rw [if_pos c3] at H
      have c3b0 : decide (a0 ≤ 122) = true := decide_eq_true c3
      clear c3
      obtain rfl := Option.some.inj H
      go_enter Tryz.func93, Tryz.ntmps93
      go_wp2
      go_ret
      exact ⟨by first | rfl | (simp; done) | (simp [*]; done), by repeat (first | exact Drawn0.refl _ | apply Drawn0.step)⟩
    · rw [if_neg c3] at H
      have c3b0 : decide (a0 ≤ 122) = false := decide_eq_false c3
      clear c3
      by_cases c4 : a0 ≥ 48
      · rw [if_pos c4] at H
        have c4b0 : decide (48 ≤ a0) = true := decide_eq_true c4
        clear c4
        obtain rfl := Option.some.inj H
        go_enter Tryz.func93, Tryz.ntmps93
        go_wp2
        go_ret
        exact ⟨by first | rfl | (simp; done) | (simp [*]; done), by repeat (first | exact Drawn0.refl _ | apply Drawn0.step)⟩
      · rw [if_neg c4] at H
        have c4b0 : decide (48 ≤ a0) = false := decide_eq_false c4
        clear c4
        obtain rfl := Option.some.inj H
        go_enter Tryz.func93, Tryz.ntmps93
        go_wp2
        go_ret
        exact ⟨by first | rfl | (simp; done) | (simp [*]; done), by repeat (first | exact Drawn0.refl _ | apply Drawn0.step)⟩
  · rw [if_neg c2] at H
    have c2b0 : decide (97 ≤ a0) = false := decide_eq_false c2
    clear c2
    by_cases c5 : a0 ≥ 48
    · rw [if_pos c5] at H
      have c5b0 : decide (48 ≤ a0) = true := decide_eq_true c5
      clear c5
      obtain rfl := Option.some.inj H
      go_enter Tryz.func93, Tryz.ntmps93
      go_wp2
      go_ret
      exact ⟨by first | rfl | (simp; done) | (simp [*]; done), by repeat (first | exact Drawn0.refl _ | apply Drawn0.step)⟩
    · rw [if_neg c5] at H
      have c5b0 : decide (48 ≤ a0) = false := decide_eq_false c5
      clear c5
      obtain rfl := Option.some.inj H
      go_enter Tryz.func93, Tryz.ntmps93
      go_wp2
      go_ret
      exact ⟨by first | rfl | (simp; done) | (simp [*]; done), by repeat (first | exact Drawn0.refl _ | apply Drawn0.step)⟩

end Go.Proofs.YtdaddlplpkmkmaaGreatDoor.P
