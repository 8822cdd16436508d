-- Made by a program of this work's own (wip/myprint.py) over the kit's print; leaves by hand.
import Derived.Test.YtkplcmcmpdhigaaDoorP0
import Derived.Test.YtkplcmcmpdhigaaDoorP6
import Derived.Test.YtkplcmcmpdhigaaDoorP10
import Derived.Test.YtkplcmcmpdhigaaDoorP13
import Derived.Test.YtkplcmcmpdhigaaDoorP15
import Derived.Test.YtkplcmcmpdhigaaDoorP25
import Derived.Test.YtkplcmcmpdhigaaDoorPlain
namespace Go.Proofs.YtkplcmcmpdhigaaDoor.P
open Go.RowKit Go.Proofs.YtkplcmcmpdhigaaDoorW.PrintWords Go.Proofs.YtkplcmcmpdhigaaDoorW.PrintLast Go.Proofs.YtkplcmcmpdhigaaDoorW.PrintMore
attribute [local go_sem] max2_int min2_int max_two min_two max_three min_three max_four min_four   -- for this text's walks alone
set_option linter.unusedVariables false
set_option linter.unusedSimpArgs false

-- HAND DeplogLast2.lean
-- IMPORT Derived.Test.YtkplcmcmpdhigaaDoorPlain
/-! ### cruciblelaw16_DeplogLast, by hand -/
def cruciblelaw16_DeplogLast.f (k : Nat) (l0 : List (S41)) (s : ByteArray) (t : Int) (ls : List ByteArray) (name : ByteArray) : Option Bool :=
  if l0.length ≤ 1900000 then (deplog_Last.f k l0 name).bind fun x => (deplog_Last.f k (l0 ++ [⟨s, t, ls⟩]) name).bind fun y => (deplog_May.f k (l0 ++ [⟨s, t, ls⟩])).bind fun m =>
    if m = false then (if y.2.2.2 = false ∧ cruciblelaw0_SameFound.f k y.1 y.2.1 y.2.2.1 ⟨#[]⟩ 0 [] = some true then some true else none)
    else if s = name then (if y.2.2.2 = true ∧ cruciblelaw0_SameFound.f k y.1 y.2.1 y.2.2.1 s t ls = some true then some true else none)
    else (if y.2.2.2 = x.2.2.2 ∧ cruciblelaw0_SameFound.f k y.1 y.2.1 y.2.2.1 x.1 x.2.1 x.2.2.1 = some true then some true else none)
  else none
theorem cruciblelaw16_DeplogLast.mono : ∀ a0 a1 a2 a3 a4 k, LeO (cruciblelaw16_DeplogLast.f k a0 a1 a2 a3 a4) (cruciblelaw16_DeplogLast.f (k + 1) a0 a1 a2 a3 a4) := by
  intro a0 a1 a2 a3 a4 k r h
  unfold cruciblelaw16_DeplogLast.f at h ⊢
  split at h
  case isFalse => cases h
  rename_i hl
  rw [if_pos hl]
  obtain ⟨x, hx, h⟩ := Option.bind_eq_some_iff.1 h
  obtain ⟨y, hy, h⟩ := Option.bind_eq_some_iff.1 h
  obtain ⟨m, hm, h⟩ := Option.bind_eq_some_iff.1 h
  refine Option.bind_eq_some_iff.2 ⟨x, deplog_Last.mono _ _ k x hx, Option.bind_eq_some_iff.2 ⟨y, deplog_Last.mono _ _ k y hy, Option.bind_eq_some_iff.2 ⟨m, deplog_May.mono _ k m hm, ?_⟩⟩⟩
  have st : ∀ (p : Prop) (u : Option Bool) (v : Option Bool), LeO u v → (p → LeO u v) := fun _ _ _ h _ => h
  split at h
  · rename_i hc
    rw [if_pos hc]
    split at h
    · rename_i hd
      rw [if_pos ⟨hd.1, cruciblelaw0_SameFound.mono _ _ _ _ _ _ k _ hd.2⟩]; exact h
    · cases h
  · rename_i hc
    rw [if_neg hc]
    split at h
    · rename_i hs
      rw [if_pos hs]
      split at h
      · rename_i hd
        rw [if_pos ⟨hd.1, cruciblelaw0_SameFound.mono _ _ _ _ _ _ k _ hd.2⟩]; exact h
      · cases h
    · rename_i hs
      rw [if_neg hs]
      split at h
      · rename_i hd
        rw [if_pos ⟨hd.1, cruciblelaw0_SameFound.mono _ _ _ _ _ _ k _ hd.2⟩]; exact h
      · cases h
theorem fa_empty2 (w0 W : World) (g : Nat) (hg : g = W.heap.size) (HB : Below w0.heap.size w0 W) : FaOwn w0 (W.alloc (.cells #[] 41)) (.slice (some ⟨g, 0, none⟩) 0 0) [] := by subst hg; exact fa_empty w0 W HB
theorem fl_lit {W0 W : World} (s : ByteArray) (t : Int) (ls : List ByteArray) (A2 : Option Addr) (c2 : Nat) (h : Kd.C Kd.string W0 A2 ls.length ls) (hc : ls.length ≤ c2) : FaRow W0 (W.alloc (.cells #[.string s, .int .i64 t, .slice A2 ls.length c2] 41)) (some ⟨W.heap.size, 0, none⟩) 1 [⟨s, t, ls⟩] := by
  refine ⟨rfl, (fun e => by cases e), [.string s, .int .i64 t, .slice A2 ls.length c2], ⟨rfl, fun j p hj => ?_⟩, fun ad e j u hu => ?_⟩
  · cases j with
    | zero =>
      obtain rfl : (⟨s, t, ls⟩ : S41) = p := by simpa using hj
      exact k41_mk W0 ⟨s, t, ls⟩ hc h
    | succ j => simp at hj
  · cases e
    rw [add_plain, blk_cell (heap_alloc_new W _)]
    simpa using hu
structure FlB (W : World) (g : Nat) (s : ByteArray) (t : Int) (A : Option Addr) (n c : Nat) : Prop where
  blk : W.heap[g]? = some (.cells #[.string s, .int .i64 t, .slice A n c] 41 (0, 0))
theorem FlB.step {W W' : World} {g : Nat} {s : ByteArray} {t : Int} {A : Option Addr} {n c : Nat} (h : FlB W g s t A n c) (hB : Below W.heap.size W W') : FlB W' g s t A n c := ⟨(hB.block _ (blk_lt h.blk)).trans h.blk⟩
theorem FlB.new (W : World) (s : ByteArray) (t : Int) (A : Option Addr) (n c : Nat) : FlB (W.alloc (.cells #[.string s, .int .i64 t, .slice A n c] 41)) W.heap.size s t A n c := ⟨heap_alloc_new W _⟩
theorem FlB.cells {W : World} {g : Nat} {s : ByteArray} {t : Int} {A : Option Addr} {n c : Nat} (h : FlB W g s t A n c) : W.cell? ⟨g, 0, none⟩ = some (.string s) ∧ W.cell? ⟨g, 1, none⟩ = some (.int .i64 t) ∧ W.cell? ⟨g, 2, none⟩ = some (.slice A n c) :=
  ⟨by rw [blk_cell h.blk]; rfl, by rw [blk_cell h.blk]; rfl, by rw [blk_cell h.blk]; rfl⟩
set_option maxHeartbeats 4000000 in
set_option maxRecDepth 100000 in
theorem cruciblelaw16_DeplogLast.calls (k : Nat) (A0 : Option Addr) (c0 : Nat) (l0 : List (S41)) (s : ByteArray) (t : Int) (A2 : Option Addr) (c2 : Nat) (ls : List ByteArray) (name : ByteArray) (r : Bool) (w : World) (hr0 : Kd.C k41 w A0 l0.length l0) (hc0 : l0.length ≤ c0) (hr2 : Kd.C Kd.string w A2 ls.length ls) (hc2 : ls.length ≤ c2) (h : cruciblelaw16_DeplogLast.f k l0 s t ls name = some r) :
    Calls Tryd.prog 17 #[.slice A0 l0.length c0, .agg #[.string s, .int .i64 t, .slice A2 ls.length c2], .string name] w fun e w' => e = .returned (.bool r) ∧ Below w.heap.size w w' := by
  unfold cruciblelaw16_DeplogLast.f at h
  split at h
  case isFalse => cases h
  rename_i hl
  obtain ⟨⟨x1, x2, x3, x4⟩, hx, h⟩ := Option.bind_eq_some_iff.1 h
  obtain ⟨⟨y1, y2, y3, y4⟩, hy, h⟩ := Option.bind_eq_some_iff.1 h
  obtain ⟨m, hm, h⟩ := Option.bind_eq_some_iff.1 h
  obtain ⟨w1, hw1⟩ : ∃ w1, w.alloc (.cells #[.string s, .int .i64 t, .slice A2 ls.length c2] 41) = w1 := ⟨_, rfl⟩
  have B1 : Below w.heap.size w w1 := by rw [← hw1]; exact below_alloc (Below.refl _ _) _
  have F1 : FlB w1 w.heap.size s t A2 ls.length c2 := by rw [← hw1]; exact FlB.new _ _ _ _ _ _
  have cW := cruciblelaw16_awake.calls true w1 rfl
  have HW := Aside0.mk hw1
  have HH := Aside0.mk h
  clear hw1 h
  go_enter Tryd.func17, Tryd.ntmps17
  go_wp2_with fail
  rw [HW.out]
  go_wp2_with fail
  refine cW.mono ?_
  rintro e w2 ⟨rfl, B2⟩
  clear cW
  have b2 := B2
  have B2 := below_then B1 B1.size B2
  have F2 := F1.step b2
  clear F1 b2
  have cX := deplog_Last.calls k A0 c0 l0 name x1 x2 x3 x4 w2 (Kd.C_below hr0 B2) hc0 hx
  go_wp2_with fail
  refine cX.mono ?_
  rintro e w3 ⟨vx, rfl, hRx, b3⟩
  clear cX
  obtain ⟨A3, c3, rfl⟩ := Kd.R_slice hRx
  have Kx := (Kd.R_reads' hRx).2.1
  have Cx := (Kd.R_reads' hRx).2.2
  have F3 := F2.step b3
  have B3 := below_then B2 B2.size b3
  obtain ⟨w4, hw4⟩ : ∃ w4, w3.alloc (.cells #[.string x1, .int .i64 x2, .slice A3 x3.length c3] 41) = w4 := ⟨_, rfl⟩
  have b4 : Below w3.heap.size w3 w4 := by rw [← hw4]; exact below_alloc (Below.refl _ _) _
  have X4 : FlB w4 w3.heap.size x1 x2 A3 x3.length c3 := by rw [← hw4]; exact FlB.new _ _ _ _ _ _
  have z4 : w3.heap.size + 1 = w4.heap.size := by rw [← hw4]; simp
  have F4 := F3.step b4
  have B4 := below_then B3 B3.size b4
  have Cx4 := Kd.C_below Cx b4
  have C24 := Kd.C_below hr2 B4
  have C04 := Kd.C_below hr0 B4
  have HW4 := Aside0.mk hw4
  have HY := Aside0.mk hy
  have HM := Aside0.mk hm
  have HL := Aside0.mk hl
  have HB4 := Aside0.mk B4
  have HF4 := Aside0.mk F4
  have HX4 := Aside0.mk X4
  have HCx := Aside0.mk Cx4
  have HC2 := Aside0.mk C24
  have HC0 := Aside0.mk C04
  have HZ4 := Aside0.mk z4
  have HKx := Aside0.mk Kx
  have HK2 := Aside0.mk hc2
  clear hw4 hy hm hl B4 F4 X4 Cx4 C24 C04 z4 Kx hc2 hRx Cx F3 B3 b4 b3 F2 B2 B1 hr0 hr2 hx hc0
  go_wp2_with (first
    | ((with_reducible refine gate_builtin (b := .append) (xs := #[.tmp 20, .tmp 21]) rfl ?_); rw [HW4.out]; at_builtin; refine fa_append (w0 := w4) rfl (.tmp 20) (.tmp 21) rfl _ [] l0 A0 _ c0 rfl rfl (fa_empty2 w4 w4 _ HZ4.out (Below.refl _ _)) ((FaRow.of_C HC0.out).below (below_alloc (Below.refl _ _) _)) (below_alloc (Below.refl _ _) _) (by have := HL.out; simp only [List.length_nil]; omega) ?_; intro v1 wA hO hb; obtain ⟨f0, f1, f2⟩ := (HF4.out.step hb).cells; have HO1 := Aside0.mk hO; have HB0 := Aside0.mk hb; clear hO hb)
    | ((with_reducible refine gate_builtin (b := .append) (xs := #[.tmp 23, .tmp 25]) rfl ?_); at_builtin; refine fa_append (w0 := w4) rfl (.tmp 23) (.tmp 25) rfl v1 l0 [⟨s, t, ls⟩] (some ⟨wA.heap.size, 0, none⟩) 1 1 rfl rfl (FaOwn.below HO1.out (below_alloc (Below.refl _ wA) _)) (fl_lit s t ls A2 c2 HC2.out HK2.out) (below_alloc HB0.out _) (by have := HL.out; omega) ?_; intro v2 wB hO hb; obtain ⟨A9, c9, rfl, hc9, hC9⟩ := FaOwn.reads hO hb))
  have cY := deplog_Last.calls k A9 c9 (l0 ++ [⟨s, t, ls⟩]) name y1 y2 y3 y4 wB hC9 hc9 HY.out
  rw [List.length_append, List.length_singleton] at cY
  refine cY.mono ?_
  rintro e w7 ⟨vy, rfl, hRy, b7⟩
  clear cY f0 f1 f2
  obtain ⟨A5, c5, rfl⟩ := Kd.R_slice hRy
  have Ky := (Kd.R_reads' hRy).2.1
  have Cy := (Kd.R_reads' hRy).2.2
  have b47 := below_then hb hb.size b7
  obtain ⟨w8, hw8⟩ : ∃ w8, w7.alloc (.cells #[.string y1, .int .i64 y2, .slice A5 y3.length c5] 41) = w8 := ⟨_, rfl⟩
  have b8 : Below w7.heap.size w7 w8 := by rw [← hw8]; exact below_alloc (Below.refl _ _) _
  have Y8 : FlB w8 w7.heap.size y1 y2 A5 y3.length c5 := by rw [← hw8]; exact FlB.new _ _ _ _ _ _
  have b48 := below_then b47 b47.size b8
  have cM := deplog_May.calls k A9 c9 (l0 ++ [⟨s, t, ls⟩]) m w8 (Kd.C_below (Kd.C_below hC9 b7) b8) hc9 HM.out
  rw [List.length_append, List.length_singleton] at cM
  have Cy8 := Kd.C_below Cy b8
  have HW8 := Aside0.mk hw8
  have HB8 := Aside0.mk b48
  have HY8 := Aside0.mk Y8
  have HCy := Aside0.mk Cy8
  have HKy := Aside0.mk Ky
  clear hw8 b48 Y8 Cy8 Ky b8 b47 Cy hRy b7 hC9 hc9 hO hb
  go_wp2_with fail
  rw [HW8.out]
  refine cM.mono ?_
  rintro e w9 ⟨rfl, b9⟩
  clear cM
  have b49 := below_then HB8.out HB8.out.size b9
  have B9 := below_then HB4.out HB4.out.size b49
  have Cy9 := Kd.C_below HCy.out b9
  have Cx9 := Kd.C_below HCx.out b49
  have C29 := Kd.C_below HC2.out b49
  obtain ⟨g0, g1, g2⟩ := (HY8.out.step b9).cells
  obtain ⟨f0, f1, f2⟩ := (HF4.out.step b49).cells
  obtain ⟨q0, q1, q2⟩ := (HX4.out.step b49).cells
  have HB9 := Aside0.mk B9
  have hh := HH.out
  have C0 : Kd.C Kd.string w9 none 0 [] := ⟨rfl, by decide, fun h => absurd h (by decide)⟩
  clear b49 B9 b9
  cases m with
  | false =>
    rw [if_pos rfl] at hh
    split at hh
    case isFalse => cases hh
    rename_i hd
    obtain ⟨e4, hS⟩ := hd
    obtain rfl : y4 = false := e4
    obtain rfl := Option.some.inj hh
    have cS := cruciblelaw0_SameFound.calls k y1 y2 A5 c5 y3 ⟨#[]⟩ 0 none 0 [] true w9 Cy9 HKy.out C0 (Nat.le_refl _) hS
    rw [List.length_nil] at cS
    clear Cy9 Cx9 C29 C0 hS hh
    go_wp2_with (go_at_call 31; refine cS.mono ?_; rintro e w10 ⟨rfl, b10⟩)
    go_ret
    exact ⟨rfl, below_then HB9.out HB9.out.size b10⟩
  | true =>
    rw [if_neg (by decide)] at hh
    by_cases hs : s = name
    · rw [if_pos hs] at hh
      split at hh
      case isFalse => cases hh
      rename_i hd
      obtain ⟨e4, hS⟩ := hd
      obtain rfl : y4 = true := e4
      obtain rfl := Option.some.inj hh
      have cS := cruciblelaw0_SameFound.calls k y1 y2 A5 c5 y3 s t A2 c2 ls true w9 Cy9 HKy.out C29 HK2.out hS
      subst hs
      have hq : (s.toList == s.toList) = true := beq_self_eq_true _
      clear Cy9 Cx9 C29 C0 hS hh
      go_wp2_with (go_at_call 31; refine cS.mono ?_; rintro e w10 ⟨rfl, b10⟩)
      go_ret
      exact ⟨rfl, below_then HB9.out HB9.out.size b10⟩
    · rw [if_neg hs] at hh
      split at hh
      case isFalse => cases hh
      rename_i hd
      obtain ⟨e4, hS⟩ := hd
      obtain rfl : y4 = x4 := e4
      obtain rfl := Option.some.inj hh
      have cS := cruciblelaw0_SameFound.calls k y1 y2 A5 c5 y3 x1 x2 A3 c3 x3 true w9 Cy9 HKy.out Cx9 HKx.out hS
      have hq : (s.toList == name.toList) = false := by
        rw [beq_eq_false_iff_ne]
        intro e
        exact hs (Spec.data_inj (by rw [← Spec.toList_data, ← Spec.toList_data]; exact e))
      clear Cy9 Cx9 C29 C0 hS hh hs
      go_wp2_with (go_at_call 31; refine cS.mono ?_; rintro e w10 ⟨rfl, b10⟩)
      go_ret
      exact ⟨by simp, below_then HB9.out HB9.out.size b10⟩

end Go.Proofs.YtkplcmcmpdhigaaDoor.P
