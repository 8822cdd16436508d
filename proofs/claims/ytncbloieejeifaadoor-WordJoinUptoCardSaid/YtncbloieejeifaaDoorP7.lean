-- Made by a program of this work's own (wip/myprint.py) over the kit's print; leaves by hand.
import Derived.Test.YtncbloieejeifaaDoorP0
import Derived.Test.YtncbloieejeifaaDoorP2
import Derived.Test.YtncbloieejeifaaDoorP3
import Derived.Test.YtncbloieejeifaaDoorP5
import Derived.Test.YtncbloieejeifaaDoorP6
import Derived.Test.YtncbloieejeifaaDoorJoin7
namespace Go.Proofs.YtncbloieejeifaaDoor.P
open Go.RowKit Go.Proofs.YtncbloieejeifaaDoorW.PrintWords Go.Proofs.YtncbloieejeifaaDoorW.PrintLast Go.Proofs.YtncbloieejeifaaDoorW.PrintMore
attribute [local go_sem] max2_int min2_int max_two min_two max_three min_three max_four min_four   -- for this text's walks alone
set_option linter.unusedVariables false
set_option linter.unusedSimpArgs false

-- HANDBIG WordJoin.lean
-- IMPORT Derived.Test.YtncbloieejeifaaDoorJoin7
/-! ### cruciblelaw7_WordJoin, by hand -/
open Classical in
noncomputable def cruciblelaw7_WordJoin.f (k : Nat) (o i c d : List ByteArray) (_ : Int) : Option Bool :=
  if (∀ m, m < 4 → (Spec.lineT m o i c d).length < 4294967281) ∧ (∀ x, x ∈ o ++ (i ++ (c ++ d)) → crucibleref1_NameMay.f k x = some (words_is x)) ∧
    (cruciblelaw0_SameTexts.f k o o = some true ∧ cruciblelaw0_SameTexts.f k i i = some true ∧ cruciblelaw0_SameTexts.f k c c = some true ∧ cruciblelaw0_SameTexts.f k d d = some true) then some true else none
theorem cruciblelaw7_WordJoin.mono : ∀ a0 a1 a2 a3 a4 k, LeO (cruciblelaw7_WordJoin.f k a0 a1 a2 a3 a4) (cruciblelaw7_WordJoin.f (k + 1) a0 a1 a2 a3 a4) := by
  intro o i c d n k r h
  unfold cruciblelaw7_WordJoin.f at h ⊢
  split at h
  case isFalse => cases h
  rename_i hw
  obtain ⟨w1, w2, w3, w4, w5, w6⟩ := hw
  rw [if_pos ⟨w1, fun x hx => crucibleref1_NameMay.mono _ k _ (w2 x hx), cruciblelaw0_SameTexts.mono _ _ k _ w3, cruciblelaw0_SameTexts.mono _ _ k _ w4, cruciblelaw0_SameTexts.mono _ _ k _ w5, cruciblelaw0_SameTexts.mono _ _ k _ w6⟩]
  exact h
theorem wj_gap : ∀ m : Fin 4, (⟨#[32, 32, 32, 32, 32]⟩ : ByteArray).extract 0 (1 + m.val) = Spec.str (Spec.gapL m.val) := by decide +kernel
def wjA : Nat → Option Addr → Option Addr → Option Addr → Option Addr → Option Addr
  | 0, a, _, _, _ => a
  | 1, _, a, _, _ => a
  | 2, _, _, a, _ => a
  | _, _, _, _, a => a
def wjC : Nat → Nat → Nat → Nat → Nat → Nat
  | 0, a, _, _, _ => a
  | 1, _, a, _, _ => a
  | 2, _, _, a, _ => a
  | _, _, _, _, a => a
theorem wj_take_all {α : Type} (xs : List α) : xs.take xs.length = xs := List.take_of_length_le (Nat.le_refl _)
theorem wj_str (a b : List UInt8) : Spec.str a ++ Spec.str b = Spec.str (a ++ b) := by
  unfold Spec.str
  rw [ByteArray.ext_iff]
  simp
theorem wj_cell {W : World} {g : Nat} {v0 v1 v2 v3 : Value} {t : Nat} (h : W.heap[g]? = some (.cells #[v0, v1, v2, v3] t)) : W.cell? ⟨g, 0, none⟩ = some v0 ∧ W.cell? ⟨g, 1, none⟩ = some v1 ∧ W.cell? ⟨g, 2, none⟩ = some v2 ∧ W.cell? ⟨g, 3, none⟩ = some v3 :=
  ⟨by rw [blk_cell h]; rfl, by rw [blk_cell h]; rfl, by rw [blk_cell h]; rfl, by rw [blk_cell h]; rfl⟩
/-- what stands ahead of the loops, for good -/
structure WjL (w W : World) (g : Nat) (A0 : Option Addr) (c0 : Nat) (o : List ByteArray) (A1 : Option Addr) (c1 : Nat) (i : List ByteArray) (A2 : Option Addr) (c2 : Nat) (c : List ByteArray) (A3 : Option Addr) (c3 : Nat) (d : List ByteArray) : Prop where
  blk : W.heap[g]? = some (.cells #[.slice A0 o.length c0, .slice A1 i.length c1, .slice A2 c.length c2, .slice A3 d.length c3] 22)
  below : Below w.heap.size w W
  r0 : Kd.C Kd.string W A0 o.length o ∧ o.length ≤ c0
  r1 : Kd.C Kd.string W A1 i.length i ∧ i.length ≤ c1
  r2 : Kd.C Kd.string W A2 c.length c ∧ c.length ≤ c2
  r3 : Kd.C Kd.string W A3 d.length d ∧ d.length ≤ c3
theorem WjL.step {w W W' : World} {g : Nat} {A0 A1 A2 A3 : Option Addr} {c0 c1 c2 c3 : Nat} {o i c d : List ByteArray} (h : WjL w W g A0 c0 o A1 c1 i A2 c2 c A3 c3 d) (hb : Below W.heap.size W W') : WjL w W' g A0 c0 o A1 c1 i A2 c2 c A3 c3 d :=
  ⟨(hb.block _ (blk_lt h.blk)).trans h.blk, below_then h.below h.below.size hb, ⟨Kd.C_below h.r0.1 hb, h.r0.2⟩, ⟨Kd.C_below h.r1.1 hb, h.r1.2⟩, ⟨Kd.C_below h.r2.1 hb, h.r2.2⟩, ⟨Kd.C_below h.r3.1 hb, h.r3.2⟩⟩
theorem WjL.at_ {w W : World} {g : Nat} {A0 A1 A2 A3 : Option Addr} {c0 c1 c2 c3 : Nat} {o i c d : List ByteArray} (h : WjL w W g A0 c0 o A1 c1 i A2 c2 c A3 c3 d) (j : Nat) (hj : j < 4) : ∃ A cc, W.cell? ⟨g, j, none⟩ = some (.slice A (Spec.jL o i c d j).length cc) ∧ Kd.C Kd.string W A (Spec.jL o i c d j).length (Spec.jL o i c d j) ∧ (Spec.jL o i c d j).length ≤ cc := by
  obtain ⟨h0, h1, h2, h3⟩ := wj_cell h.blk
  obtain rfl | rfl | rfl | rfl : j = 0 ∨ j = 1 ∨ j = 2 ∨ j = 3 := by omega
  · exact ⟨_, _, h0, h.r0.1, h.r0.2⟩
  · exact ⟨_, _, h1, h.r1.1, h.r1.2⟩
  · exact ⟨_, _, h2, h.r2.1, h.r2.2⟩
  · exact ⟨_, _, h3, h.r3.1, h.r3.2⟩
theorem wj_s1 (m : Nat) (T : List UInt8) (c d : List ByteArray) : (((Spec.str T ++ (⟨#[58]⟩ : ByteArray)) ++ Spec.str (Spec.gapL m)) ++ (⟨#[99, 99]⟩ : ByteArray)) ++ Spec.str (Spec.gapL m) = Spec.str (T ++ Spec.jH m c d 1) := by
  rw [show (⟨#[58]⟩ : ByteArray) = Spec.str [58] from rfl, show (⟨#[99, 99]⟩ : ByteArray) = Spec.str [99, 99] from rfl, wj_str, wj_str, wj_str, wj_str]
  simp only [Spec.jH, List.append_assoc]
theorem wj_s2 (m : Nat) (T : List UInt8) (c d : List ByteArray) (h : c ≠ []) : (Spec.str T ++ (⟨#[124]⟩ : ByteArray)) ++ Spec.str (Spec.gapL m) = Spec.str (T ++ Spec.jH m c d 2) := by
  rw [show (⟨#[124]⟩ : ByteArray) = Spec.str [124] from rfl, wj_str, wj_str]
  simp only [Spec.jH, Spec.signT, if_neg h, List.append_assoc]
theorem wj_s3 (m : Nat) (T : List UInt8) (c d : List ByteArray) (h : d ≠ []) : (Spec.str T ++ (⟨#[124, 124]⟩ : ByteArray)) ++ Spec.str (Spec.gapL m) = Spec.str (T ++ Spec.jH m c d 3) := by
  rw [show (⟨#[124, 124]⟩ : ByteArray) = Spec.str [124, 124] from rfl, wj_str, wj_str]
  simp only [Spec.jH, Spec.signT, if_neg h, List.append_assoc]
theorem wj_n (m : Nat) (T : List UInt8) (xs : List ByteArray) (q : Nat) (hq : q < xs.length) : (Spec.str (T ++ Spec.rowT m (xs.take q)) ++ xs[q]) ++ Spec.str (Spec.gapL m) = Spec.str (T ++ Spec.rowT m (xs.take (q + 1))) := by
  rw [Spec.rowT_take m xs q hq]
  conv => lhs; rw [← Spec.str_of xs[q]]
  rw [wj_str, wj_str]
  simp only [List.append_assoc]
theorem wj_rd (xs : List ByteArray) (q : Nat) (hq : q < xs.length) : rdOf ByteArray.empty xs (q : Int) = xs[q] := by
  simp [rdOf, List.getD_eq_getElem?_getD, hq]
theorem wj_mem (o i c d : List ByteArray) (j : Nat) {x : ByteArray} (h : x ∈ Spec.jL o i c d j) : x ∈ o ++ (i ++ (c ++ d)) := by
  simp only [List.mem_append]
  match j, h with
  | 0, h => exact .inl h
  | 1, h => exact .inr (.inl h)
  | 2, h => exact .inr (.inr (.inl h))
  | j + 3, h => exact .inr (.inr (.inr h))
theorem wj_len (m : Nat) (o i c d : List ByteArray) (j : Nat) (hj : j < 4) (p : Bool) (q : Nat) : (Spec.str (Spec.jT m o i c d j ++ (if p = true then Spec.jH m c d j else [] ))).size ≤ (Spec.lineT m o i c d).length ∧ (Spec.str ((Spec.jT m o i c d j ++ Spec.jH m c d j) ++ Spec.rowT m ((Spec.jL o i c d j).take q))).size ≤ (Spec.lineT m o i c d).length := by
  have h1 := Spec.jT_len m o i c d j hj
  have h2 : Spec.jT m o i c d (j + 1) = Spec.jT m o i c d j ++ (Spec.jH m c d j ++ Spec.rowT m (Spec.jL o i c d j)) := rfl
  have h3 := Spec.rowT_part m (Spec.jL o i c d j) q
  rw [Spec.str_size, Spec.str_size]
  rw [h2] at h1
  simp only [List.length_append] at h1 ⊢
  refine ⟨?_, by omega⟩
  split
  · omega
  · simp only [List.length_nil]; omega
theorem wj_gap4 (m : Fin 4) : (Spec.str (Spec.gapL m.val)).size ≤ 4 := by
  rw [Spec.str_size]; unfold Spec.gapL; rw [List.length_replicate]; omega
set_option maxHeartbeats 8000000 in
set_option maxRecDepth 100000 in
theorem cruciblelaw7_WordJoin.calls (k : Nat) (A0 : Option Addr) (c0 : Nat) (l0 : List ByteArray) (A1 : Option Addr) (c1 : Nat) (l1 : List ByteArray) (A2 : Option Addr) (c2 : Nat) (l2 : List ByteArray) (A3 : Option Addr) (c3 : Nat) (l3 : List ByteArray) (a4 : Int) (r : Bool) (w : World)
    (hr0 : Kd.C Kd.string w A0 l0.length l0) (hc0 : l0.length ≤ c0) (hr1 : Kd.C Kd.string w A1 l1.length l1) (hc1 : l1.length ≤ c1) (hr2 : Kd.C Kd.string w A2 l2.length l2) (hc2 : l2.length ≤ c2) (hr3 : Kd.C Kd.string w A3 l3.length l3) (hc3 : l3.length ≤ c3) (h : cruciblelaw7_WordJoin.f k l0 l1 l2 l3 a4 = some r) :
    Calls Tryd.prog 5 #[.slice A0 l0.length c0, .slice A1 l1.length c1, .slice A2 l2.length c2, .slice A3 l3.length c3, .int .i64 a4] w fun e w' => e = .returned (.bool r) ∧ Below w.heap.size w w' := by
  unfold cruciblelaw7_WordJoin.f at h
  split at h
  case isFalse => cases h
  rename_i hw
  obtain ⟨w1, w2, w3, w4, w5, w6⟩ := hw
  obtain rfl : true = r := Option.some.inj h
  obtain ⟨m, hm⟩ := Spec.bits3 a4
  have hs := w1 m.val m.isLt
  have S := Aside0.mk hs
  have NM := Aside0.mk w2
  have S0 := Aside0.mk w3; have S1 := Aside0.mk w4; have S2 := Aside0.mk w5; have S3 := Aside0.mk w6
  have R0 := Aside0.mk (And.intro hr0 hc0); have R1 := Aside0.mk (And.intro hr1 hc1); have R2 := Aside0.mk (And.intro hr2 hc2); have R3 := Aside0.mk (And.intro hr3 hc3)
  clear w1 w2 w3 w4 w5 w6 h hs hr0 hc0 hr1 hc1 hr2 hc2 hr3 hc3
  have hg := wj_gap m
  go_enter Tryd.func5, Tryd.ntmps5
  go_wp2_with fail
  refine (cruciblelaw7_awake.calls true w rfl).mono ?_
  rintro e w1 ⟨rfl, B1⟩
  go_upto_region 7 with fail
  rw [hg]
  obtain ⟨g, hgs⟩ : ∃ g, w1.heap.size = g := ⟨_, rfl⟩
  obtain ⟨W1, HW⟩ : ∃ W, Aside0 (W = w1.alloc (.cells #[.slice A0 l0.length c0, .slice A1 l1.length c1, .slice A2 l2.length c2, .slice A3 l3.length c3] 22)) := ⟨_, ⟨rfl⟩⟩
  have bW : Below w.heap.size w W1 := by rw [HW.out]; exact B1.alloc B1.size _
  have hL : WjL w W1 g A0 c0 l0 A1 c1 l1 A2 c2 l2 A3 c3 l3 := ⟨by rw [HW.out, ← hgs]; exact heap_alloc_new w1 _, bW, ⟨Kd.C_below R0.out.1 bW, R0.out.2⟩, ⟨Kd.C_below R1.out.1 bW, R1.out.2⟩, ⟨Kd.C_below R2.out.1 bW, R2.out.2⟩, ⟨Kd.C_below R3.out.1 bW, R3.out.2⟩⟩
  rw [← HW.out, hgs]
  have HL := Aside0.mk hL
  clear HW bW hL hgs B1 hg hm R0 R1 R2 R3
  obtain ⟨G, hG⟩ : ∃ G, Spec.str (Spec.gapL m.val) = G := ⟨_, rfl⟩
  have HG := Aside0.mk hG
  rw [hG]
  clear hG
  go_wp2
  go_loopg [12, 13, 15] 4 (fun gg s12 s13 s15 wr => ∃ (j : Nat) (b : Bool) (T : ByteArray), j ≤ 4 ∧ 4 - j ≤ gg ∧ s12 = .bool b ∧ s13 = .string T ∧ s15 = .int .i64 (j : Int) ∧ Aside0 (b = Spec.jK l0 l1 l2 l3 j ∧ T = Spec.str (Spec.jT m.val l0 l1 l2 l3 j)) ∧ Aside0 (∀ q, q < j → Spec.namesW (Spec.jL l0 l1 l2 l3 q)) ∧ Aside0 (WjL w wr g A0 c0 l0 A1 c1 l1 A2 c2 l2 A3 c3 l3))
  case atStart => exact ⟨0, _, G, Nat.zero_le _, by omega, rfl, rfl, rfl, ⟨rfl, HG.out.symm⟩, ⟨fun q hq => absurd hq (by omega)⟩, HL⟩
  case round =>
    clear HL
    obtain ⟨j, b, T, hj, hgg, rfl, rfl, rfl, HT, HN, HL⟩ := hrel
    by_cases hlt : j < 4
    · have hltz : (j : Int) < 4 := by omega
      obtain ⟨A, cc, hcell, hC, hcap⟩ := HL.out.at_ j hlt
      obtain ⟨xs, hxs⟩ : ∃ xs, Spec.jL l0 l1 l2 l3 j = xs := ⟨_, rfl⟩
      rw [hxs] at hcell hC hcap
      have HX := Aside0.mk hxs
      have HC := Aside0.mk (And.intro hC hcap)
      have LN : Aside0 (xs.length ≤ 9223372036854775807) := ⟨Kd.C_max hC⟩
      clear hC hcap hxs
      obtain ⟨n, hn⟩ : ∃ n, xs.length = n := ⟨_, rfl⟩
      rw [hn] at hcell
      have HNL := Aside0.mk hn
      clear hn
      have hGs : G.size ≤ 4 := by rw [← HG.out]; exact wj_gap4 m
      have hTs : T.size < 4294967281 := by
        have h1 := (wj_len m.val l0 l1 l2 l3 j hlt false 0).1
        have h2 := S.out
        rw [if_neg (by simp), List.append_nil, ← HT.out.2] at h1
        omega
      go_upto_region 10 with fail
      go_cut [12] (fun s12 wx => ∃ b' : Bool, s12 = .bool b' ∧ Aside0 (b' = Spec.jK l0 l1 l2 l3 (j + 1)) ∧ wr = wx)
      case first =>
        have hk : Spec.jK l0 l1 l2 l3 (j + 1) = (b && decide (n ≤ 8)) := by rw [HT.out.1, ← HNL.out, ← HX.out]; rfl
        have HK := Aside0.mk hk
        clear hk
        cases b
        · go_wp2
          go_meet
          case rel => exact ⟨_, rfl, ⟨HK.out.symm⟩, rfl⟩
        · go_wp2
          go_meet
          case rel => exact ⟨_, rfl, ⟨by rw [HK.out]; simp; omega⟩, rfl⟩
      case rest =>
        obtain ⟨b', rfl, HB', rfl⟩ := hcut
        go_upto_if 52 with fail
        go_cut [13] (fun s13 wx => ∃ T' : ByteArray, s13 = .string T' ∧ Aside0 (T' = Spec.str (Spec.jT m.val l0 l1 l2 l3 j ++ (if decide (j = 1) = true then Spec.jH m.val l2 l3 j else []))) ∧ wr = wx)
        case first =>
          by_cases h1 : j = 1
          · subst h1
            go_wp2
            go_meet
            case rel => exact ⟨_, rfl, ⟨by rw [if_pos (by decide), HT.out.2, ← HG.out]; exact wj_s1 _ _ _ _⟩, rfl⟩
          · have h1b : ((j : Int) == 1) = false := by rw [beq_eq_false_iff_ne]; omega
            have H1 := Aside0.mk h1
            clear h1
            go_wp2
            go_meet
            case rel => exact ⟨_, rfl, ⟨by rw [if_neg (by simpa using H1.out), List.append_nil]; exact HT.out.2⟩, rfl⟩
        case rest =>
          obtain ⟨T1, rfl, HT1, rfl⟩ := hcut
          clear hTs
          have hTs : T1.size < 4294967281 := by
            have h1 := (wj_len m.val l0 l1 l2 l3 j hlt (decide (j = 1)) 0).1
            have h2 := S.out
            rw [← HT1.out] at h1
            omega
          obtain ⟨bb, hbb⟩ : ∃ bb : Bool, decide (j = 2 ∧ l2 ≠ []) = bb := ⟨_, rfl⟩
          have HBB := Aside0.mk hbb
          clear hbb
          go_upto_region 13 with fail
          go_cut [66] (fun s wx => s = .bool bb ∧ wr = wx)
          case first =>
            by_cases h1 : j = 2
            · subst h1
              by_cases hc : l2 = []
              · subst hc
                obtain rfl : false = bb := by rw [← HBB.out]; rfl
                simp only [List.length_nil]
                go_wp2
                go_meet
                case rel => exact ⟨rfl, rfl⟩
              · have hcl : 0 < l2.length := List.length_pos_iff.2 hc
                have hcl2 : (0 : Int) < (l2.length : Int) := by omega
                obtain rfl : true = bb := by rw [← HBB.out]; simp [hc]
                clear hc
                go_wp2
                go_meet
                case rel => exact ⟨rfl, rfl⟩
            · have h1b : ((j : Int) == 2) = false := by rw [beq_eq_false_iff_ne]; omega
              obtain rfl : false = bb := by rw [← HBB.out]; simp [h1]
              clear h1
              go_wp2
              go_meet
              case rel => exact ⟨rfl, rfl⟩
          case rest =>
          obtain ⟨rfl, rfl⟩ := hcut
          go_upto_if 66 with fail
          go_cut [13] (fun s13 wx => ∃ T' : ByteArray, s13 = .string T' ∧ Aside0 (T' = Spec.str (Spec.jT m.val l0 l1 l2 l3 j ++ (if decide (j = 1 ∨ j = 2) = true then Spec.jH m.val l2 l3 j else []))) ∧ wr = wx)
          case first =>
            cases bb
            · go_wp2
              go_meet
              case rel =>
                refine ⟨_, rfl, ⟨?_⟩, rfl⟩
                rw [HT1.out]
                have hf := HBB.out
                by_cases h2 : j = 2
                · subst h2
                  have hl2 : l2 = [] := by simpa using hf
                  subst hl2
                  rfl
                · simp [h2]
            · go_wp2
              go_meet
              case rel =>
                obtain ⟨h2, hc⟩ : j = 2 ∧ l2 ≠ [] := by simpa using HBB.out
                subst h2
                exact ⟨_, rfl, ⟨by rw [if_pos (by decide), HT1.out, if_neg (by decide), List.append_nil, ← HG.out]; exact wj_s2 _ _ _ _ hc⟩, rfl⟩
          case rest =>
            clear HBB
            obtain ⟨T2, rfl, HT2, rfl⟩ := hcut
            clear hTs
            have hTs : T2.size < 4294967281 := by
              have h1 := (wj_len m.val l0 l1 l2 l3 j hlt (decide (j = 1 ∨ j = 2)) 0).1
              have h2 := S.out
              rw [← HT2.out] at h1
              omega
            obtain ⟨bb, hbb⟩ : ∃ bb : Bool, decide (j = 3 ∧ l3 ≠ []) = bb := ⟨_, rfl⟩
            have HBB := Aside0.mk hbb
            clear hbb
            go_upto_region 15 with fail
            go_cut [77] (fun s wx => s = .bool bb ∧ wr = wx)
            case first =>
              by_cases h1 : j = 3
              · subst h1
                by_cases hc : l3 = []
                · subst hc
                  obtain rfl : false = bb := by rw [← HBB.out]; rfl
                  simp only [List.length_nil]
                  go_wp2
                  go_meet
                  case rel => exact ⟨rfl, rfl⟩
                · have hcl : 0 < l3.length := List.length_pos_iff.2 hc
                  have hcl2 : (0 : Int) < (l3.length : Int) := by omega
                  obtain rfl : true = bb := by rw [← HBB.out]; simp [hc]
                  clear hc
                  go_wp2
                  go_meet
                  case rel => exact ⟨rfl, rfl⟩
              · have h1b : ((j : Int) == 3) = false := by rw [beq_eq_false_iff_ne]; omega
                obtain rfl : false = bb := by rw [← HBB.out]; simp [h1]
                clear h1
                go_wp2
                go_meet
                case rel => exact ⟨rfl, rfl⟩
            case rest =>
            obtain ⟨rfl, rfl⟩ := hcut
            go_upto_if 77 with fail
            go_cut [13] (fun s13 wx => ∃ T' : ByteArray, s13 = .string T' ∧ Aside0 (T' = Spec.str (Spec.jT m.val l0 l1 l2 l3 j ++ Spec.jH m.val l2 l3 j)) ∧ wr = wx)
            case first =>
              cases bb
              · go_wp2
                go_meet
                case rel =>
                  refine ⟨_, rfl, ⟨?_⟩, rfl⟩
                  rw [HT2.out]
                  have hf := HBB.out
                  by_cases h2 : j = 3
                  · subst h2
                    have hl2 : l3 = [] := by simpa using hf
                    subst hl2
                    rfl
                  · have hj3 : j = 0 ∨ j = 1 ∨ j = 2 := by omega
                    rcases hj3 with rfl | rfl | rfl <;> rfl
              · go_wp2
                go_meet
                case rel =>
                  obtain ⟨h2, hc⟩ : j = 3 ∧ l3 ≠ [] := by simpa using HBB.out
                  subst h2
                  exact ⟨_, rfl, ⟨by rw [HT2.out, if_neg (by decide), List.append_nil, ← HG.out]; exact wj_s3 _ _ _ _ hc⟩, rfl⟩
            case rest =>
              clear HBB
              obtain ⟨T3, rfl, HT3, rfl⟩ := hcut
              clear hTs HT1 HT2
              go_wp2
              go_loopg [13, 16] n (fun gq s13 s16 wq => ∃ (q : Nat) (T : ByteArray), q ≤ n ∧ n - q ≤ gq ∧ s13 = .string T ∧ s16 = .int .i64 (q : Int) ∧ Aside0 (T = Spec.str ((Spec.jT m.val l0 l1 l2 l3 j ++ Spec.jH m.val l2 l3 j) ++ Spec.rowT m.val (xs.take q))) ∧ Aside0 (Spec.namesW (xs.take q)) ∧ Aside0 (WjL w wq g A0 c0 l0 A1 c1 l1 A2 c2 l2 A3 c3 l3) ∧ Aside0 (Kd.C Kd.string wq A xs.length xs) ∧ Aside0 (wq.cell? ⟨g, j, none⟩ = some (.slice A n cc)))
              case atStart =>
                have CC := Aside0.mk hcell
                exact ⟨0, T3, Nat.zero_le _, by omega, rfl, rfl, ⟨by rw [HT3.out]; simp [Spec.rowT]⟩, ⟨fun y hy => by simp at hy⟩, HL, ⟨HC.out.1⟩, CC⟩
              case round =>
                clear HT3 HL HC hcell
                obtain ⟨q, TQ, hq, hgq, rfl, rfl, HTQ, HNQ, HLQ, HCQ, HCE⟩ := hrel
                have hcell := HCE.out
                by_cases hql : q < n
                · have hqz : (q : Int) < (n : Int) := by omega
                  have hqx : q < xs.length := by rw [HNL.out]; exact hql
                  have hnl : n ≤ 9223372036854775807 := by rw [← HNL.out]; exact LN.out
                  obtain ⟨ad, hA, hx⟩ := (Kd.reads_of_C (d := ByteArray.empty) HCQ.out).at_ (q : Int) (by omega) (by rw [HNL.out]; exact hqz)
                  subst hA
                  have hn1 := wj_n m.val (Spec.jT m.val l0 l1 l2 l3 j ++ Spec.jH m.val l2 l3 j) xs q hqx
                  rw [wj_rd xs q hqx, Int.toNat_natCast] at hx
                  obtain ⟨x, hxx⟩ : ∃ x, xs[q] = x := ⟨_, rfl⟩
                  have hNx := NM.out x (wj_mem l0 l1 l2 l3 j (by rw [HX.out, ← hxx]; exact List.getElem_mem hqx))
                  rw [hxx, ← HTQ.out, HG.out] at hn1
                  rw [hxx] at hx
                  have hsz : TQ.size + x.size + G.size < 4294967281 := by
                    have h1 := (wj_len m.val l0 l1 l2 l3 j hlt false (q + 1)).2
                    have h2 := S.out
                    rw [HX.out, ← hn1] at h1
                    simp only [ByteArray.size_append] at h1
                    omega
                  have HXX := Aside0.mk hxx
                  have HN1 := Aside0.mk hn1
                  have HNX := Aside0.mk hNx
                  have HQX := Aside0.mk hqx
                  clear hxx hn1 hNx
                  cases hw : words_is x with
                  | false =>
                    have cn := crucibleref1_NameMay.calls k x false wr (by rw [HNX.out, hw])
                    clear hw
                    go_wp2_with fail
                    refine cn.mono ?_
                    clear cn
                    rintro e w2 ⟨rfl, hd⟩
                    have hB := (HLQ.out.step hd.below).below
                    clear hd
                    go_wp2
                    go_ret
                    exact ⟨rfl, hB⟩
                  | true =>
                    have cn := crucibleref1_NameMay.calls k x true wr (by rw [HNX.out, hw])
                    have HWX := Aside0.mk hw
                    clear hw
                    go_wp2_with fail
                    refine cn.mono ?_
                    clear cn
                    rintro e w2 ⟨rfl, hd⟩
                    have hB := Aside0.mk hd.below
                    obtain ⟨nd, rfl⟩ := hd
                    go_wp2
                    go_roundg (n - (q + 1))
                    case measure => omega
                    case rel => exact ⟨q + 1, _, by omega, Nat.le_refl _, rfl, by simp, ⟨HN1.out⟩, ⟨fun y hy => by
                        rw [List.take_succ_eq_append_getElem HQX.out, List.mem_append, List.mem_singleton] at hy
                        rcases hy with hy | hy
                        · exact HNQ.out y hy
                        · rw [hy, HXX.out]; exact HWX.out⟩, ⟨HLQ.out.step hB.out⟩, ⟨Kd.C_below HCQ.out hB.out⟩, ⟨(hB.out.cell (World.block_lt_of_cell? _ _ hcell)).trans hcell⟩⟩
                · have hqn : q = n := by omega
                  subst hqn
                  go_wp2
                  go_roundg (4 - (j + 1))
                  case measure => omega
                  case rel =>
                    have ht : xs.take q = xs := by rw [← HNL.out]; exact List.take_length
                    refine ⟨j + 1, b', TQ, by omega, Nat.le_refl _, rfl, rfl, by simp, ⟨HB'.out, ?_⟩, ⟨fun p hp => ?_⟩, HLQ⟩
                    · rw [HTQ.out, ht, ← HX.out, List.append_assoc]; rfl
                    · by_cases hpj : p = j
                      · subst hpj
                        have := HNQ.out
                        rw [ht] at this
                        rw [HX.out]; exact this
                      · exact HN.out p (by omega)
    · have hj4 : j = 4 := by omega
      subst hj4
      have hn : ∀ q, q < 4 → Spec.namesW (Spec.jL l0 l1 l2 l3 q) := HN.out
      have hb := Spec.line_build m.val l0 l1 l2 l3 (hn 0 (by omega)) (hn 1 (by omega)) (hn 2 (by omega)) (hn 3 (by omega)) S.out
      rw [← Spec.jT_line, ← HT.out.2, ← HT.out.1] at hb
      clear hn
      have hbl := HL.out
      cases b with
      | false =>
        have E := Aside0.mk (show words_Build.f T = some words_no by rw [hb]; rfl)
        clear hb HN HT
        go_wp2_with fail
        refine (words_Build.calls _ _ _ _ _ _ _ _ E.out).mono ?_
        rintro e w2 ⟨v0, v2, v3, v4, rfl, Ra, Rb, Rc, Rd, B2⟩
        have K2 := (hbl.step B2).below
        clear Ra Rb Rc Rd B2 hbl
        go_wp2_with (go_at_call 18; refine (cruciblelaw0_Num.calls _ _ _ rfl).mono ?_; rintro e w3 ⟨rfl, hd3⟩)
        go_ret
        exact ⟨rfl, K2.trans (hd3.below.mono K2.size)⟩
      | true =>
        have E := Aside0.mk (show words_Build.f T = some (l0, ⟨#[99, 99]⟩, l1, l2, l3, 0) by rw [hb]; rfl)
        clear hb HN HT
        go_wp2_with fail
        refine (words_Build.calls _ _ _ _ _ _ _ _ E.out).mono ?_
        rintro e w2 ⟨v0, v2, v3, v4, rfl, Ra, Rb, Rc, Rd, B2⟩
        have HL2 := Aside0.mk (hbl.step B2)
        obtain ⟨Aa, ca, rfl⟩ := Kd.R_slice Ra
        obtain ⟨Ab, cb, rfl⟩ := Kd.R_slice Rb
        obtain ⟨Ac, cc, rfl⟩ := Kd.R_slice Rc
        obtain ⟨Ad, cd, rfl⟩ := Kd.R_slice Rd
        have Ra := Aside0.mk (Kd.R_reads' Ra)
        have Rb := Aside0.mk (Kd.R_reads' Rb)
        have Rc := Aside0.mk (Kd.R_reads' Rc)
        have Rd := Aside0.mk (Kd.R_reads' Rd)
        clear B2 hbl
        have cN : ∀ W, Below w2.heap.size w2 W → Calls Tryd.prog 18 #[.int .i64 0] W fun e w' => e = .returned (.int .i64 0) ∧ Below w2.heap.size w2 w' := fun W hW => (cruciblelaw0_Num.calls 0 0 W rfl).mono fun e w' ⟨he, hd⟩ => ⟨he, below_then hW hW.size hd.below⟩
        have c0 : ∀ W, Below w2.heap.size w2 W → Calls Tryd.prog 17 #[.slice Aa l0.length ca, .slice A0 l0.length c0] W fun e w' => e = .returned (.bool true) ∧ Below w2.heap.size w2 w' := fun W hW => (cruciblelaw0_SameTexts.calls k _ _ l0 _ _ l0 true W (Kd.C_below Ra.out.2.2 hW) Ra.out.2.1 (Kd.C_below HL2.out.r0.1 hW) HL2.out.r0.2 S0.out).mono fun e w' ⟨he, hd⟩ => ⟨he, below_then hW hW.size hd.below⟩
        have c1 : ∀ W, Below w2.heap.size w2 W → Calls Tryd.prog 17 #[.slice Ab l1.length cb, .slice A1 l1.length c1] W fun e w' => e = .returned (.bool true) ∧ Below w2.heap.size w2 w' := fun W hW => (cruciblelaw0_SameTexts.calls k _ _ l1 _ _ l1 true W (Kd.C_below Rb.out.2.2 hW) Rb.out.2.1 (Kd.C_below HL2.out.r1.1 hW) HL2.out.r1.2 S1.out).mono fun e w' ⟨he, hd⟩ => ⟨he, below_then hW hW.size hd.below⟩
        have c2 : ∀ W, Below w2.heap.size w2 W → Calls Tryd.prog 17 #[.slice Ac l2.length cc, .slice A2 l2.length c2] W fun e w' => e = .returned (.bool true) ∧ Below w2.heap.size w2 w' := fun W hW => (cruciblelaw0_SameTexts.calls k _ _ l2 _ _ l2 true W (Kd.C_below Rc.out.2.2 hW) Rc.out.2.1 (Kd.C_below HL2.out.r2.1 hW) HL2.out.r2.2 S2.out).mono fun e w' ⟨he, hd⟩ => ⟨he, below_then hW hW.size hd.below⟩
        have c3 : ∀ W, Below w2.heap.size w2 W → Calls Tryd.prog 17 #[.slice Ad l3.length cd, .slice A3 l3.length c3] W fun e w' => e = .returned (.bool true) ∧ Below w2.heap.size w2 w' := fun W hW => (cruciblelaw0_SameTexts.calls k _ _ l3 _ _ l3 true W (Kd.C_below Rd.out.2.2 hW) Rd.out.2.1 (Kd.C_below HL2.out.r3.1 hW) HL2.out.r3.2 S3.out).mono fun e w' ⟨he, hd⟩ => ⟨he, below_then hW hW.size hd.below⟩
        have fin : ∀ W, Below w2.heap.size w2 W → Below w.heap.size w W := fun W hW => (HL2.out.step hW).below
        have hb0 := Below.refl w2.heap.size w2
        clear S S0 S1 S2 S3 NM Ra Rb Rc Rd HL2
        go_wp2_with (first
          | (go_at_call 18; (with_reducible refine (cN _ ?_).mono ?_); assumption; rintro e w' ⟨rfl, hb⟩)
          | (go_at_call 17; (with_reducible first | refine (c0 _ ?_).mono ?_ | refine (c1 _ ?_).mono ?_ | refine (c2 _ ?_).mono ?_ | refine (c3 _ ?_).mono ?_); assumption; rintro e w' ⟨rfl, hb⟩))
        go_ret
        exact ⟨rfl, fin _ (by assumption)⟩

end Go.Proofs.YtncbloieejeifaaDoor.P
