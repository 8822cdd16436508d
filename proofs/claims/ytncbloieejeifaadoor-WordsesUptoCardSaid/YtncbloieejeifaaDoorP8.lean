-- Made by a program of this work's own (wip/myprint.py) over the kit's print; leaves by hand.
import Derived.Test.YtncbloieejeifaaDoorP0
import Derived.Test.YtncbloieejeifaaDoorP1
import Derived.Test.YtncbloieejeifaaDoorP2
import Derived.Test.YtncbloieejeifaaDoorP6
import Derived.Test.YtncbloieejeifaaDoorP7
import Derived.Test.YtncbloieejeifaaDoorBase
import Derived.Test.YtncbloieejeifaaDoorPlain
namespace Go.Proofs.YtncbloieejeifaaDoor.P
open Go.RowKit Go.Proofs.YtncbloieejeifaaDoorW.PrintWords Go.Proofs.YtncbloieejeifaaDoorW.PrintLast Go.Proofs.YtncbloieejeifaaDoorW.PrintMore
attribute [local go_sem] max2_int min2_int max_two min_two max_three min_three max_four min_four   -- for this text's walks alone
set_option linter.unusedVariables false
set_option linter.unusedSimpArgs false

-- HAND Words7Awake.lean
-- IMPORT Derived.Test.YtncbloieejeifaaDoorBase
/-! ### cruciblelaw7_awake, by hand -/
def cruciblelaw7_awake.f : Option Bool := some true
theorem same_lit {W : World} {base : Nat} {v : Value} {xs : List ByteArray} {ok : Nat → Prop} (ys : List ByteArray) (k : Nat) (r : Bool) (h : cruciblelaw0_SameTexts.f k xs ys = some r) (hl : ys.length ≤ 1000) (hR : Kd.R Kd.string 9 W base ok v xs) :
    Calls Tryd.prog 17 #[v, .slice (some ⟨W.heap.size, 0, none⟩) ys.length ys.length] (W.alloc (.cells (ys.map Value.string).toArray 9)) fun e w' => e = .returned (.bool r) ∧ Below W.heap.size W w' := by
  obtain ⟨A, c, rfl, hc, hC⟩ := Kd.R_reads hR
  obtain ⟨A2, c2, e2, hc2, hC2⟩ := Kd.R_reads (split_row W ys (by omega))
  cases e2
  exact (cruciblelaw0_SameTexts.calls k A c xs _ _ ys r _ (Kd.C_alloc hC _) hc hC2 hc2 h).mono fun e w' ⟨he, hd⟩ => ⟨he, (below_alloc (Below.refl _ _) _).trans (hd.below.mono (below_alloc (Below.refl _ _) _).size)⟩
set_option maxHeartbeats 4000000 in
set_option maxRecDepth 100000 in
theorem cruciblelaw7_awake.calls (r : Bool) (w : World) (h : cruciblelaw7_awake.f = some r) : Calls Tryd.prog 20 #[] w fun e w' => e = .returned (.bool r) ∧ Below w.heap.size w w' := by
  obtain rfl : true = r := Option.some.inj h
  have e1 : words_Build.f (⟨#[120, 46, 111, 32, 32, 121, 32, 58, 32, 99, 99, 32, 120, 46, 99, 32, 124, 32, 97, 46, 104, 32, 124, 124, 32, 103, 101, 110]⟩ : ByteArray) = some ([⟨#[120, 46, 111]⟩, ⟨#[121]⟩], ⟨#[99, 99]⟩, [⟨#[120, 46, 99]⟩], [⟨#[97, 46, 104]⟩], [⟨#[103, 101, 110]⟩], 0) := by kernel_rfl
  have e2 : words_Build.f (⟨#[120, 32, 58, 32, 99, 99, 32, 124, 124, 32, 103, 101, 110]⟩ : ByteArray) = some ([⟨#[120]⟩], ⟨#[99, 99]⟩, [], [], [⟨#[103, 101, 110]⟩], 0) := by kernel_rfl
  have e3 : words_Build.f (⟨#[120, 58, 32, 99, 99]⟩ : ByteArray) = some words_no := by kernel_rfl
  have e4 : words_Build.f (⟨#[120, 32, 58, 32, 99, 99, 32, 124]⟩ : ByteArray) = some words_no := by kernel_rfl
  have E1 := Aside0.mk e1
  have E2 := Aside0.mk e2
  have E3 := Aside0.mk e3
  have E4 := Aside0.mk e4
  clear e1 e2 e3 e4 h
  go_enter Tryd.func20, Tryd.ntmps20
  go_wp2_with fail
  refine (words_Build.calls _ _ _ _ _ _ _ _ E1.out).mono ?_
  rintro e w1 ⟨a0, a2, a3, a4, rfl, Ra, Rb, Rc, Rd, B1⟩
  go_wp2_with fail
  refine (words_Build.calls _ _ _ _ _ _ _ _ E2.out).mono ?_
  rintro e w2 ⟨o0, o2, o3, o4, rfl, _, _, _, Ro, B2⟩
  go_wp2_with fail
  refine (words_Build.calls _ _ _ _ _ _ _ _ E3.out).mono ?_
  rintro e w3 ⟨p0, p2, p3, p4, rfl, _, _, _, _, B3⟩
  go_wp2_with fail
  refine (words_Build.calls _ _ _ _ _ _ _ _ E4.out).mono ?_
  rintro e w4 ⟨q0, q2, q3, q4, rfl, _, _, _, _, B4⟩
  go_wp2_with fail
  have K4 := (B2.trans (B3.mono B2.size)).trans (B4.mono (B2.trans (B3.mono B2.size)).size)
  refine (same_lit [⟨#[120, 46, 111]⟩, ⟨#[121]⟩] 5 true (by decide +kernel) (by decide) (Kd.R_below Ra K4)).mono ?_
  rintro e w5 ⟨rfl, B5⟩
  go_wp2_with fail
  have K5 := K4.trans (B5.mono K4.size)
  refine (same_lit [⟨#[120, 46, 99]⟩] 5 true (by decide +kernel) (by decide) (Kd.R_below Rb K5)).mono ?_
  rintro e w6 ⟨rfl, B6⟩
  go_wp2_with fail
  have K6 := K5.trans (B6.mono K5.size)
  refine (same_lit [⟨#[97, 46, 104]⟩] 5 true (by decide +kernel) (by decide) (Kd.R_below Rc K6)).mono ?_
  rintro e w7 ⟨rfl, B7⟩
  go_wp2_with fail
  have K7 := K6.trans (B7.mono K6.size)
  refine (same_lit [⟨#[103, 101, 110]⟩] 5 true (by decide +kernel) (by decide) (Kd.R_below Rd K7)).mono ?_
  rintro e w8 ⟨rfl, B8⟩
  have K8 := K7.trans (B8.mono K7.size)
  go_wp2_with (go_at_call 18; refine (cruciblelaw0_Num.calls _ _ _ rfl).mono ?_; rintro e w9 ⟨rfl, hd9⟩)
  have KA := (B3.trans (B4.mono B3.size)).trans (B5.mono (B3.trans (B4.mono B3.size)).size)
  have KB := KA.trans (B6.mono KA.size)
  have KC := KB.trans (B7.mono KB.size)
  have KD := KC.trans (B8.mono KC.size)
  have KE := KD.trans (hd9.below.mono KD.size)
  refine (same_lit [⟨#[103, 101, 110]⟩] 5 true (by decide +kernel) (by decide) (Kd.R_below Ro KE)).mono ?_
  rintro e w10 ⟨rfl, B10⟩
  have K9 := K8.trans (hd9.below.mono K8.size)
  have K10 := (B1.trans (K9.mono B1.size)).trans (B10.mono (B1.trans (K9.mono B1.size)).size)
  go_wp2_with (go_at_call 18; refine (cruciblelaw0_Num.calls _ _ _ rfl).mono ?_; rintro e w11 ⟨rfl, hd11⟩; have K10 := K10.trans (hd11.below.mono K10.size); clear hd11)
  go_ret
  exact ⟨rfl, K10⟩

-- HAND Wordses.lean
-- IMPORT Derived.Test.YtncbloieejeifaaDoorPlain
/-! ### cruciblelaw7_Wordses, by hand -/
open Classical in
noncomputable def cruciblelaw7_Wordses.f (k : Nat) (s : ByteArray) : Option Bool :=
  (words_Build.f s).bind fun p => (cruciblelaw0_SpoilTexts.f k p.1).bind fun _ => (cruciblelaw0_SpoilTexts.f k p.2.2.1).bind fun _ => (cruciblelaw0_SpoilTexts.f k p.2.2.2.1).bind fun _ => (cruciblelaw0_SpoilTexts.f k p.2.2.2.2.1).bind fun _ =>
  if crucibleref1_Words.f k s = some p ∧ (cruciblelaw0_SameTexts.f k p.1 p.1 = some true ∧ cruciblelaw0_SameTexts.f k p.2.2.1 p.2.2.1 = some true ∧ cruciblelaw0_SameTexts.f k p.2.2.2.1 p.2.2.2.1 = some true ∧ cruciblelaw0_SameTexts.f k p.2.2.2.2.1 p.2.2.2.2.1 = some true) then some true else none
theorem cruciblelaw7_Wordses.mono : ∀ a0 k, LeO (cruciblelaw7_Wordses.f k a0) (cruciblelaw7_Wordses.f (k + 1) a0) := by
  intro s k r h
  unfold cruciblelaw7_Wordses.f at h ⊢
  obtain ⟨p, hp, h⟩ := Option.bind_eq_some_iff.1 h
  obtain ⟨a, ha, h⟩ := Option.bind_eq_some_iff.1 h
  obtain ⟨b, hb, h⟩ := Option.bind_eq_some_iff.1 h
  obtain ⟨c, hc, h⟩ := Option.bind_eq_some_iff.1 h
  obtain ⟨d, hd, h⟩ := Option.bind_eq_some_iff.1 h
  split at h
  case isFalse => cases h
  rename_i hq
  obtain ⟨q0, q1, q2, q3, q4⟩ := hq
  refine Option.bind_eq_some_iff.2 ⟨p, hp, Option.bind_eq_some_iff.2 ⟨a, cruciblelaw0_SpoilTexts.mono _ k _ ha, Option.bind_eq_some_iff.2 ⟨b, cruciblelaw0_SpoilTexts.mono _ k _ hb, Option.bind_eq_some_iff.2 ⟨c, cruciblelaw0_SpoilTexts.mono _ k _ hc, Option.bind_eq_some_iff.2 ⟨d, cruciblelaw0_SpoilTexts.mono _ k _ hd, ?_⟩⟩⟩⟩⟩
  rw [if_pos ⟨crucibleref1_Words.mono _ k _ q0, cruciblelaw0_SameTexts.mono _ _ k _ q1, cruciblelaw0_SameTexts.mono _ _ k _ q2, cruciblelaw0_SameTexts.mono _ _ k _ q3, cruciblelaw0_SameTexts.mono _ _ k _ q4⟩]
  exact h
theorem ws_spoil (k : Nat) {w W : World} {v : Value} {xs r : List ByteArray} (hB : Below w.heap.size w W) (hR : Kd.R Kd.string 9 W w.heap.size (fun q => v.ownBlock = some q) v xs) (e : cruciblelaw0_SpoilTexts.f k xs = some r) :
    Calls Tryd.prog 19 #[v] W fun e w' => e = .returned (.tuple #[]) ∧ Below w.heap.size w w' ∧ Kept W w' (fun q => v.ownBlock = some q) :=
  (cruciblelaw0_SpoilTexts.calls k _ v xs r w W hB hR e).mono fun e w' ⟨he, _, hb, hk⟩ => ⟨he, hb, hk⟩
theorem ws_kept {w W W' : World} {v u : Value} {xs : List ByteArray} (hR : Kd.R Kd.string 9 W w.heap.size (fun q => v.ownBlock = some q) v xs) (hk : Kept W W' (fun q => u.ownBlock = some q)) (hne : ∀ q, v.ownBlock = some q → ¬ u.ownBlock = some q) : Kd.R Kd.string 9 W' w.heap.size (fun q => v.ownBlock = some q) v xs := Kd.R_kept hR hk hne
theorem ws_own {w W : World} {v : Value} {xs : List ByteArray} {ok : Nat → Prop} (h : Kd.R Kd.string 9 W w.heap.size ok v xs) : Kd.R Kd.string 9 W w.heap.size (fun q => v.ownBlock = some q) v xs := Kd.R_reok rfl h (fun k hk => hk)
set_option maxHeartbeats 8000000 in
set_option maxRecDepth 100000 in
theorem cruciblelaw7_Wordses.calls (k : Nat) (a0 : ByteArray) (r : Bool) (w : World) (h : cruciblelaw7_Wordses.f k a0 = some r) :
    Calls Tryd.prog 3 #[.string a0] w fun e w' => e = .returned (.bool r) ∧ Below w.heap.size w w' := by
  unfold cruciblelaw7_Wordses.f at h
  obtain ⟨⟨o, x, i, c, d, n⟩, hp, h⟩ := Option.bind_eq_some_iff.1 h
  obtain ⟨sa, hsa, h⟩ := Option.bind_eq_some_iff.1 h
  obtain ⟨sb, hsb, h⟩ := Option.bind_eq_some_iff.1 h
  obtain ⟨sc, hsc, h⟩ := Option.bind_eq_some_iff.1 h
  obtain ⟨sd, hsd, h⟩ := Option.bind_eq_some_iff.1 h
  split at h
  case isFalse => cases h
  rename_i hq
  obtain rfl : true = r := Option.some.inj h
  obtain ⟨q0, q1, q2, q3, q4⟩ := hq
  simp only [] at hsa hsb hsc hsd q1 q2 q3 q4
  have E := Aside0.mk hp; have HA := Aside0.mk hsa; have HB := Aside0.mk hsb; have HC := Aside0.mk hsc; have HD := Aside0.mk hsd
  have Q0 := Aside0.mk q0; have Q1 := Aside0.mk q1; have Q2 := Aside0.mk q2; have Q3 := Aside0.mk q3; have Q4 := Aside0.mk q4
  clear hp hsa hsb hsc hsd q0 q1 q2 q3 q4 h
  go_enter Tryd.func3, Tryd.ntmps3
  go_wp2_with fail
  refine (words_Build.calls _ _ _ _ _ _ _ _ E.out).mono ?_
  rintro e w1 ⟨v0, v2, v3, v4, rfl, Ra, Rb, Rc, Rd, B1⟩
  obtain ⟨Aa, ka, rfl⟩ := Kd.R_slice Ra
  obtain ⟨Ab, kb, rfl⟩ := Kd.R_slice Rb
  obtain ⟨Ac, kc, rfl⟩ := Kd.R_slice Rc
  obtain ⟨Ad, kd, rfl⟩ := Kd.R_slice Rd
  have Ra := Aside0.mk Ra; have Rb := Aside0.mk Rb; have Rc := Aside0.mk Rc; have Rd := Aside0.mk Rd; have B1 := Aside0.mk B1
  go_wp2_with fail
  refine (crucibleref1_Words.calls k a0 _ _ _ _ _ _ w1 Q0.out).mono ?_
  rintro e w2 ⟨vo, vi, vc, vd, rfl, So, Si, Sc, Sd, B2⟩
  obtain ⟨Bo, lo, rfl⟩ := Kd.R_slice So
  obtain ⟨Bi, li, rfl⟩ := Kd.R_slice Si
  obtain ⟨Bc, lc, rfl⟩ := Kd.R_slice Sc
  obtain ⟨Bd, ld, rfl⟩ := Kd.R_slice Sd
  obtain ⟨W3, HW⟩ : ∃ W, Aside0 (W = w2.alloc (.cells #[.slice Bo o.length lo, .string x, .slice Bi i.length li, .slice Bc c.length lc, .slice Bd d.length ld] 27)) := ⟨_, ⟨rfl⟩⟩
  have al : Aside0 (Below w2.heap.size w2 W3) := ⟨by rw [HW.out]; exact below_alloc (Below.refl _ _) _⟩
  have bk : Aside0 (W3.heap[w2.heap.size]? = some (.cells #[.slice Bo o.length lo, .string x, .slice Bi i.length li, .slice Bc c.length lc, .slice Bd d.length ld] 27 (0, 0))) := ⟨by rw [HW.out]; exact heap_alloc_new w2 _⟩
  have B3 := Aside0.mk (below_then B2 B2.size al.out)
  have K3 := Aside0.mk (below_then B1.out B1.out.size B3.out)
  have So := Aside0.mk (Kd.R_reads' (Kd.R_below So al.out)); have Si := Aside0.mk (Kd.R_reads' (Kd.R_below Si al.out)); have Sc := Aside0.mk (Kd.R_reads' (Kd.R_below Sc al.out)); have Sd := Aside0.mk (Kd.R_reads' (Kd.R_below Sd al.out))
  clear B2 al
  go_upto_region 3 with fail
  rw [← HW.out]
  generalize w2.heap.size = g at bk ⊢
  clear HW
  have toS : ∀ W, Below W3.heap.size W3 W → (W.cell? ⟨g, 0, none⟩ = some (.slice Bo o.length lo) ∧ W.cell? ⟨g, 1, none⟩ = some (.string x) ∧ W.cell? ⟨g, 2, none⟩ = some (.slice Bi i.length li) ∧ W.cell? ⟨g, 3, none⟩ = some (.slice Bc c.length lc) ∧ W.cell? ⟨g, 4, none⟩ = some (.slice Bd d.length ld)) := fun W hB => by
    have h := (hB.block _ (blk_lt bk.out)).trans bk.out
    exact ⟨by rw [blk_cell h 0]; rfl, by rw [blk_cell h 1]; rfl, by rw [blk_cell h 2]; rfl, by rw [blk_cell h 3]; rfl, by rw [blk_cell h 4]; rfl⟩
  have cN : ∀ W, Below W3.heap.size W3 W → Calls Tryd.prog 18 #[.int .i64 n] W fun e w' => e = .returned (.int .i64 n) ∧ Below W3.heap.size W3 w' := fun W hW => (cruciblelaw0_Num.calls n n W rfl).mono fun e w' ⟨he, hd⟩ => ⟨he, below_then hW hW.size hd.below⟩
  have mv : ∀ {W v xs ok}, Below W3.heap.size W3 W → Aside0 (Kd.R Kd.string 9 w1 w.heap.size ok v xs) → Kd.R Kd.string 9 W w.heap.size ok v xs := fun hW hR => Kd.R_below hR.out (below_then B3.out B3.out.size hW)
  have c0 : ∀ W, Below W3.heap.size W3 W → Calls Tryd.prog 17 #[.slice Aa o.length ka, .slice Bo o.length lo] W fun e w' => e = .returned (.bool true) ∧ Below W3.heap.size W3 w' := fun W hW => (cruciblelaw0_SameTexts.calls k _ _ o _ _ o true W (Kd.R_reads' (mv hW Ra)).2.2 (Kd.R_reads' (mv hW Ra)).2.1 (Kd.C_below So.out.2.2 hW) So.out.2.1 Q1.out).mono fun e w' ⟨he, hd⟩ => ⟨he, below_then hW hW.size hd.below⟩
  have c1 : ∀ W, Below W3.heap.size W3 W → Calls Tryd.prog 17 #[.slice Ab i.length kb, .slice Bi i.length li] W fun e w' => e = .returned (.bool true) ∧ Below W3.heap.size W3 w' := fun W hW => (cruciblelaw0_SameTexts.calls k _ _ i _ _ i true W (Kd.R_reads' (mv hW Rb)).2.2 (Kd.R_reads' (mv hW Rb)).2.1 (Kd.C_below Si.out.2.2 hW) Si.out.2.1 Q2.out).mono fun e w' ⟨he, hd⟩ => ⟨he, below_then hW hW.size hd.below⟩
  have c2 : ∀ W, Below W3.heap.size W3 W → Calls Tryd.prog 17 #[.slice Ac c.length kc, .slice Bc c.length lc] W fun e w' => e = .returned (.bool true) ∧ Below W3.heap.size W3 w' := fun W hW => (cruciblelaw0_SameTexts.calls k _ _ c _ _ c true W (Kd.R_reads' (mv hW Rc)).2.2 (Kd.R_reads' (mv hW Rc)).2.1 (Kd.C_below Sc.out.2.2 hW) Sc.out.2.1 Q3.out).mono fun e w' ⟨he, hd⟩ => ⟨he, below_then hW hW.size hd.below⟩
  have c3 : ∀ W, Below W3.heap.size W3 W → Calls Tryd.prog 17 #[.slice Ad d.length kd, .slice Bd d.length ld] W fun e w' => e = .returned (.bool true) ∧ Below W3.heap.size W3 w' := fun W hW => (cruciblelaw0_SameTexts.calls k _ _ d _ _ d true W (Kd.R_reads' (mv hW Rd)).2.2 (Kd.R_reads' (mv hW Rd)).2.1 (Kd.C_below Sd.out.2.2 hW) Sd.out.2.1 Q4.out).mono fun e w' ⟨he, hd⟩ => ⟨he, below_then hW hW.size hd.below⟩
  have fin : ∀ W, Below W3.heap.size W3 W → Aside0 (Below w.heap.size w W ∧ Kd.R Kd.string 9 W w.heap.size (fun q => (Value.slice Aa o.length ka).ownBlock = some q) (.slice Aa o.length ka) o ∧ Kd.R Kd.string 9 W w.heap.size (fun q => (Value.slice Ab i.length kb).ownBlock = some q) (.slice Ab i.length kb) i ∧ Kd.R Kd.string 9 W w.heap.size (fun q => (Value.slice Ac c.length kc).ownBlock = some q) (.slice Ac c.length kc) c ∧ Kd.R Kd.string 9 W w.heap.size (fun q => (Value.slice Ad d.length kd).ownBlock = some q) (.slice Ad d.length kd) d) :=
    fun W hW => ⟨below_then K3.out K3.out.size hW, ws_own (mv hW Ra), ws_own (mv hW Rb), ws_own (mv hW Rc), ws_own (mv hW Rd)⟩
  have ne1 : Aside0 ((∀ q, (Value.slice Ab i.length kb).ownBlock = some q → ¬ (Value.slice Aa o.length ka).ownBlock = some q) ∧ (∀ q, (Value.slice Ac c.length kc).ownBlock = some q → ¬ (Value.slice Aa o.length ka).ownBlock = some q) ∧ (∀ q, (Value.slice Ad d.length kd).ownBlock = some q → ¬ (Value.slice Aa o.length ka).ownBlock = some q)) :=
    ⟨fun q h e => (Rb.out.1 q h).1 e.symm, fun q h e => (Rc.out.1 q h).1 e.symm, fun q h e => (Rd.out.1 q h).1 e.symm⟩
  have ne2 : Aside0 ((∀ q, (Value.slice Ac c.length kc).ownBlock = some q → ¬ (Value.slice Ab i.length kb).ownBlock = some q) ∧ (∀ q, (Value.slice Ad d.length kd).ownBlock = some q → ¬ (Value.slice Ab i.length kb).ownBlock = some q)) :=
    ⟨fun q h e => (Rc.out.1 q h).2.1 e.symm, fun q h e => (Rd.out.1 q h).2.1 e.symm⟩
  have ne3 : Aside0 (∀ q, (Value.slice Ad d.length kd).ownBlock = some q → ¬ (Value.slice Ac c.length kc).ownBlock = some q) := ⟨fun q h e => (Rd.out.1 q h).2.2 e.symm⟩
  have hb := Below.refl W3.heap.size W3
  obtain ⟨s0, s1, s2, s3, s4⟩ := toS W3 hb
  clear Ra Rb Rc Rd So Si Sc Sd mv Q0 Q1 Q2 Q3 Q4 B1 B3 K3 E bk
  go_upto_region 5 with (first
    | (go_at_call 18; (with_reducible refine (cN _ ?_).mono ?_); assumption; rintro e w' ⟨rfl, hb⟩; obtain ⟨s0, s1, s2, s3, s4⟩ := toS _ hb)
    | (go_at_call 17; (with_reducible first | refine (c0 _ ?_).mono ?_ | refine (c1 _ ?_).mono ?_ | refine (c2 _ ?_).mono ?_ | refine (c3 _ ?_).mono ?_); assumption; rintro e w' ⟨rfl, hb⟩; obtain ⟨s0, s1, s2, s3, s4⟩ := toS _ hb))
  have F := fin _ hb
  clear cN c0 c1 c2 c3 toS fin s0 s1 s2 s3 s4
  go_wp2_with fail
  refine (ws_spoil k F.out.1 F.out.2.1 HA.out).mono ?_
  rintro e w5 ⟨rfl, b5, k5⟩
  have R5 := Aside0.mk (And.intro b5 (And.intro (ws_kept F.out.2.2.1 k5 ne1.out.1) (And.intro (ws_kept F.out.2.2.2.1 k5 ne1.out.2.1) (ws_kept F.out.2.2.2.2 k5 ne1.out.2.2))))
  clear F b5 k5 hb
  go_wp2_with fail
  refine (ws_spoil k R5.out.1 R5.out.2.1 HB.out).mono ?_
  rintro e w6 ⟨rfl, b6, k6⟩
  have R6 := Aside0.mk (And.intro b6 (And.intro (ws_kept R5.out.2.2.1 k6 ne2.out.1) (ws_kept R5.out.2.2.2 k6 ne2.out.2)))
  clear R5 b6 k6
  go_wp2_with fail
  refine (ws_spoil k R6.out.1 R6.out.2.1 HC.out).mono ?_
  rintro e w7 ⟨rfl, b7, k7⟩
  have R7 := Aside0.mk (And.intro b7 (ws_kept R6.out.2.2 k7 ne3.out))
  clear R6 b7 k7
  go_wp2_with fail
  refine (ws_spoil k R7.out.1 R7.out.2 HD.out).mono ?_
  rintro e w8 ⟨rfl, b8, k8⟩
  have R8 := Aside0.mk b8
  clear R7 b8 k8
  go_wp2_with fail
  refine (cruciblelaw7_awake.calls true w8 rfl).mono ?_
  rintro e w9 ⟨rfl, b9⟩
  have R9 := Aside0.mk (below_then R8.out R8.out.size b9)
  clear b9
  go_wp2
  go_ret
  exact ⟨rfl, R9.out⟩

-- HAND WordForms.lean
-- IMPORT Derived.Test.YtncbloieejeifaaDoorPlain
/-! ### cruciblelaw7_WordForms, by hand -/
def cruciblelaw7_WordForms.f (a0 : Int) : Option Bool := some true
def words_isNo (p : words_Parts) : Bool := p.1.isEmpty && p.2.1.toList.isEmpty && p.2.2.1.isEmpty && p.2.2.2.1.isEmpty && p.2.2.2.2.1.isEmpty && p.2.2.2.2.2 == 700
theorem words_isNo_eq {p : words_Parts} (h : words_isNo p = true) : p = words_no := by
  obtain ⟨a, b, c, d, e, f⟩ := p
  simp only [words_isNo, Bool.and_eq_true, List.isEmpty_iff, beq_iff_eq] at h
  obtain ⟨⟨⟨⟨⟨h1, h2⟩, h3⟩, h4⟩, h5⟩, h6⟩ := h
  have hb : b = ⟨#[]⟩ := Spec.data_inj (by rw [← Lib.toList_data, h2])
  rw [h1, hb, h3, h4, h5, h6]; rfl
def words_forms : List ByteArray := [⟨#[]⟩, ⟨#[97]⟩, ⟨#[97, 32, 58]⟩, ⟨#[58, 32, 99, 99]⟩, ⟨#[97, 32, 58, 32, 58, 32, 98]⟩, ⟨#[97, 32, 99, 99, 32, 98]⟩, ⟨#[97, 58, 32, 99, 99]⟩, ⟨#[97, 32, 58, 99, 99]⟩, ⟨#[97, 32, 58, 32, 99, 99, 32, 124]⟩, ⟨#[97, 32, 58, 32, 99, 99, 32, 124, 124]⟩, ⟨#[97, 32, 58, 32, 99, 99, 32, 98, 32, 124, 124, 32, 99, 32, 124, 32, 100]⟩, ⟨#[97, 32, 58, 32, 99, 99, 32, 124, 32, 98, 32, 124, 32, 99]⟩, ⟨#[97, 32, 58, 32, 99, 99, 32, 124, 124, 32, 98, 32, 124, 124, 32, 99]⟩, ⟨#[65, 32, 58, 32, 99, 99]⟩, ⟨#[97, 32, 58, 32, 67, 99]⟩, ⟨#[97, 32, 58, 32, 99, 99, 32, 98, 32, 58, 32, 99]⟩]
theorem words_forms_no (m : Fin 16) : words_Build.f (words_forms.getD m.val ByteArray.empty) = some words_no := by
  have h : ∀ m : Fin 16, decide ((words_forms.getD m.val ByteArray.empty).size < 4294967281) = true ∧ words_isNo (words_build (words_of (words_forms.getD m.val ByteArray.empty))) = true := by decide +kernel
  unfold words_Build.f
  rw [if_pos (by simpa using (h m).1), words_isNo_eq (h m).2]
theorem words_const_no (x : ByteArray) (h : (decide (x.size < 4294967281) && words_isNo (words_build (words_of x))) = true) : words_Build.f x = some words_no := by
  rw [Bool.and_eq_true] at h
  unfold words_Build.f
  rw [if_pos (by simpa using h.1), words_isNo_eq h.2]
theorem words_forms_cell (W : World) (m : Fin 16) : (W.alloc (.cells #[.string ⟨#[]⟩, .string ⟨#[97]⟩, .string ⟨#[97, 32, 58]⟩, .string ⟨#[58, 32, 99, 99]⟩, .string ⟨#[97, 32, 58, 32, 58, 32, 98]⟩, .string ⟨#[97, 32, 99, 99, 32, 98]⟩, .string ⟨#[97, 58, 32, 99, 99]⟩, .string ⟨#[97, 32, 58, 99, 99]⟩, .string ⟨#[97, 32, 58, 32, 99, 99, 32, 124]⟩, .string ⟨#[97, 32, 58, 32, 99, 99, 32, 124, 124]⟩, .string ⟨#[97, 32, 58, 32, 99, 99, 32, 98, 32, 124, 124, 32, 99, 32, 124, 32, 100]⟩, .string ⟨#[97, 32, 58, 32, 99, 99, 32, 124, 32, 98, 32, 124, 32, 99]⟩, .string ⟨#[97, 32, 58, 32, 99, 99, 32, 124, 124, 32, 98, 32, 124, 124, 32, 99]⟩, .string ⟨#[65, 32, 58, 32, 99, 99]⟩, .string ⟨#[97, 32, 58, 32, 67, 99]⟩, .string ⟨#[97, 32, 58, 32, 99, 99, 32, 98, 32, 58, 32, 99]⟩] 9)).cell? ⟨W.heap.size, m.val, none⟩ = some (.string (words_forms.getD m.val ByteArray.empty)) := by
  have h1 := blk_cell (g := W.heap.size) (heap_alloc_new W (.cells #[.string ⟨#[]⟩, .string ⟨#[97]⟩, .string ⟨#[97, 32, 58]⟩, .string ⟨#[58, 32, 99, 99]⟩, .string ⟨#[97, 32, 58, 32, 58, 32, 98]⟩, .string ⟨#[97, 32, 99, 99, 32, 98]⟩, .string ⟨#[97, 58, 32, 99, 99]⟩, .string ⟨#[97, 32, 58, 99, 99]⟩, .string ⟨#[97, 32, 58, 32, 99, 99, 32, 124]⟩, .string ⟨#[97, 32, 58, 32, 99, 99, 32, 124, 124]⟩, .string ⟨#[97, 32, 58, 32, 99, 99, 32, 98, 32, 124, 124, 32, 99, 32, 124, 32, 100]⟩, .string ⟨#[97, 32, 58, 32, 99, 99, 32, 124, 32, 98, 32, 124, 32, 99]⟩, .string ⟨#[97, 32, 58, 32, 99, 99, 32, 124, 124, 32, 98, 32, 124, 124, 32, 99]⟩, .string ⟨#[65, 32, 58, 32, 99, 99]⟩, .string ⟨#[97, 32, 58, 32, 67, 99]⟩, .string ⟨#[97, 32, 58, 32, 99, 99, 32, 98, 32, 58, 32, 99]⟩] 9)) m.val
  rw [h1]
  have : ∀ m : Fin 16, (#[.string ⟨#[]⟩, .string ⟨#[97]⟩, .string ⟨#[97, 32, 58]⟩, .string ⟨#[58, 32, 99, 99]⟩, .string ⟨#[97, 32, 58, 32, 58, 32, 98]⟩, .string ⟨#[97, 32, 99, 99, 32, 98]⟩, .string ⟨#[97, 58, 32, 99, 99]⟩, .string ⟨#[97, 32, 58, 99, 99]⟩, .string ⟨#[97, 32, 58, 32, 99, 99, 32, 124]⟩, .string ⟨#[97, 32, 58, 32, 99, 99, 32, 124, 124]⟩, .string ⟨#[97, 32, 58, 32, 99, 99, 32, 98, 32, 124, 124, 32, 99, 32, 124, 32, 100]⟩, .string ⟨#[97, 32, 58, 32, 99, 99, 32, 124, 32, 98, 32, 124, 32, 99]⟩, .string ⟨#[97, 32, 58, 32, 99, 99, 32, 124, 124, 32, 98, 32, 124, 124, 32, 99]⟩, .string ⟨#[65, 32, 58, 32, 99, 99]⟩, .string ⟨#[97, 32, 58, 32, 67, 99]⟩, .string ⟨#[97, 32, 58, 32, 99, 99, 32, 98, 32, 58, 32, 99]⟩] : Array Value)[m.val]? = some (.string (words_forms.getD m.val ByteArray.empty)) := fun ⟨m, hm⟩ => match m, hm with
    | 0, _ => rfl | 1, _ => rfl | 2, _ => rfl | 3, _ => rfl | 4, _ => rfl | 5, _ => rfl | 6, _ => rfl | 7, _ => rfl | 8, _ => rfl | 9, _ => rfl | 10, _ => rfl | 11, _ => rfl | 12, _ => rfl | 13, _ => rfl | 14, _ => rfl | 15, _ => rfl | k + 16, h => absurd h (by omega)
  exact this m
set_option maxHeartbeats 4000000 in
set_option maxRecDepth 100000 in
theorem cruciblelaw7_WordForms.calls (a0 : Int) (r : Bool) (w : World) (h : cruciblelaw7_WordForms.f a0 = some r) : Calls Tryd.prog 4 #[.int .i64 a0] w fun e w' => e = .returned (.bool r) ∧ Below w.heap.size w w' := by
  obtain rfl : true = r := Option.some.inj h
  obtain ⟨m, hm⟩ := Spec.bits15 a0
  have e1 := words_forms_no m
  have hcell := fun W => words_forms_cell W m
  have E2 := Aside0.mk (words_const_no ⟨#[97, 32, 97, 32, 97, 32, 97, 32, 97, 32, 97, 32, 97, 32, 97, 32, 97, 32, 58, 32, 99, 99]⟩ (by decide +kernel))
  have E3 := Aside0.mk (words_const_no ⟨#[97, 32, 58, 32, 99, 99, 32, 97, 32, 97, 32, 97, 32, 97, 32, 97, 32, 97, 32, 97, 32, 97, 32, 97]⟩ (by decide +kernel))
  have E4 := Aside0.mk (words_const_no ⟨#[97, 32, 58, 32, 99, 99, 32, 124, 32, 97, 32, 97, 32, 97, 32, 97, 32, 97, 32, 97, 32, 97, 32, 97, 32, 97]⟩ (by decide +kernel))
  have E5 := Aside0.mk (words_const_no ⟨#[97, 32, 58, 32, 99, 99, 32, 124, 124, 32, 97, 32, 97, 32, 97, 32, 97, 32, 97, 32, 97, 32, 97, 32, 97, 32, 97]⟩ (by decide +kernel))
  have hm0 : (0 : Int) ≤ (m.val : Int) := by omega
  have hm1 : (m.val : Int) < 16 := by have := m.isLt; omega
  generalize words_forms.getD m.val ByteArray.empty = s at e1 hcell
  have E1 := Aside0.mk e1
  clear e1 h
  go_enter Tryd.func4, Tryd.ntmps4
  go_wp2_with fail
  refine (cruciblelaw7_awake.calls true w rfl).mono ?_
  rintro e w1 ⟨rfl, B1⟩
  go_wp2_with fail
  refine (words_Build.calls _ _ _ _ _ _ _ _ E1.out).mono ?_
  rintro e w2 ⟨v0, v2, v3, v4, rfl, Ra, Rb, Rc, Rd, B2⟩
  obtain ⟨A0, c0, rfl⟩ := Kd.R_slice Ra
  obtain ⟨A2, c2, rfl⟩ := Kd.R_slice Rb
  obtain ⟨A3, c3, rfl⟩ := Kd.R_slice Rc
  obtain ⟨A4, c4, rfl⟩ := Kd.R_slice Rd
  clear Ra Rb Rc Rd
  have K2 := B1.trans (((Below.refl _ _).alloc (Nat.le_refl _) _ |>.trans (B2.mono (by first | exact Nat.le_refl _ | simp))).mono B1.size)
  clear hcell
  go_wp2_with fail
  refine (words_Build.calls _ _ _ _ _ _ _ _ E2.out).mono ?_
  rintro e w3 ⟨v50, v52, v53, v54, rfl, _, _, _, _, B3⟩
  have K3 := K2.trans (B3.mono K2.size)
  go_wp2_with fail
  refine (words_Build.calls _ _ _ _ _ _ _ _ E3.out).mono ?_
  rintro e w4 ⟨v60, v62, v63, v64, rfl, _, _, _, _, B4⟩
  have K4 := K3.trans (B4.mono K3.size)
  go_wp2_with fail
  refine (words_Build.calls _ _ _ _ _ _ _ _ E4.out).mono ?_
  rintro e w5 ⟨v70, v72, v73, v74, rfl, _, _, _, _, B5⟩
  have K5 := K4.trans (B5.mono K4.size)
  go_wp2_with fail
  refine (words_Build.calls _ _ _ _ _ _ _ _ E5.out).mono ?_
  rintro e w6 ⟨v80, v82, v83, v84, rfl, _, _, _, _, B6⟩
  have K6 := K5.trans (B6.mono K5.size)
  go_wp2_with (go_at_call 18; refine (cruciblelaw0_Num.calls _ _ _ rfl).mono ?_; rintro e w7 ⟨rfl, hd7⟩; have K6 := K6.trans (hd7.below.mono K6.size); clear hd7)
  go_ret
  exact ⟨rfl, K6⟩

end Go.Proofs.YtncbloieejeifaaDoor.P
