-- Made by a program of this work's own (wip/myprint.py) over the kit's print; leaves by hand.
import Derived.Test.YtncbloieejeifaaDoorP0
import Derived.Test.YtncbloieejeifaaDoorPlus
import Derived.Test.YtncbloieejeifaaDoorP1
import Derived.Test.YtncbloieejeifaaDoorP2
import Derived.Test.YtncbloieejeifaaDoorP5
import Derived.Test.YtncbloieejeifaaDoorBase
import Derived.Test.YtncbloieejeifaaDoorPlain
namespace Go.Proofs.YtncbloieejeifaaDoor.P
open Go.Proofs.YtncbloieejeifaaDoor.Plus
open Go.RowKit Go.Proofs.YtncbloieejeifaaDoorW.PrintWords Go.Proofs.YtncbloieejeifaaDoorW.PrintLast Go.Proofs.YtncbloieejeifaaDoorW.PrintMore
attribute [local go_sem] max2_int min2_int max_two min_two max_three min_three max_four min_four   -- for this text's walks alone
set_option linter.unusedVariables false
set_option linter.unusedSimpArgs false

/-! ### cruciblelaw0_SpoilTexts: function 19 -/
def cruciblelaw0_SpoilTexts.l0 : Nat → List ByteArray → Int → Option (List ByteArray)
 | 0, _, _ => none
 | k + 1, x0, x2 => if x2 < (x0.length : Int) then (if 0 ≤ x2 then (if 1 + (rdOf ByteArray.empty x0 x2).size ≤ 9223372036854775807 then (cruciblelaw0_SpoilTexts.l0 k (x0.set (x2 : Int).toNat ((⟨#[126]⟩ : ByteArray) ++ (rdOf ByteArray.empty x0 x2))) (wrap64 (x2 + 1))) else (none)) else (none)) else (some x0)
def cruciblelaw0_SpoilTexts.f (k : Nat) (l0 : List ByteArray) : Option (List ByteArray) := cruciblelaw0_SpoilTexts.l0 k l0 0
set_option maxRecDepth 100000 in
theorem cruciblelaw0_SpoilTexts.mono_l : ∀ k, (∀ y0 y1, LeO (cruciblelaw0_SpoilTexts.l0 k y0 y1) (cruciblelaw0_SpoilTexts.l0 (k + 1) y0 y1))
 | 0 => fun _ _ r h => by simp [cruciblelaw0_SpoilTexts.l0] at h
 | k + 1 => by
  have ih0 := cruciblelaw0_SpoilTexts.mono_l k
  ·
   intro y0 y1
   unfold cruciblelaw0_SpoilTexts.l0
   repeat' first
   | (with_reducible exact ih0 _ _)
   | (with_reducible exact LeO.refl _)
   | (with_reducible exact LeO.none _)
   | (with_reducible refine LeO.ite ?_ ?_)
   | (with_reducible refine LeO.bind ?_ (fun _ => ?_))
   | exact ih0 _ _
   | exact LeO.none _
   | refine LeO.ite ?_ ?_
   | refine LeO.bind ?_ (fun _ => ?_)
theorem cruciblelaw0_SpoilTexts.mono : ∀ a0 k, LeO (cruciblelaw0_SpoilTexts.f k a0) (cruciblelaw0_SpoilTexts.f (k + 1) a0) := by
 intro a0 k
 have ih0 := cruciblelaw0_SpoilTexts.mono_l k
 unfold cruciblelaw0_SpoilTexts.f
 repeat' first
   | (with_reducible exact ih0 _ _)
   | (with_reducible exact LeO.refl _)
   | (with_reducible exact LeO.none _)
   | (with_reducible refine LeO.ite ?_ ?_)
   | (with_reducible refine LeO.bind ?_ (fun _ => ?_))
   | exact ih0 _ _
   | exact LeO.none _
   | refine LeO.ite ?_ ?_
   | refine LeO.bind ?_ (fun _ => ?_)
set_option maxHeartbeats 8000000 in
set_option maxRecDepth 100000 in
theorem cruciblelaw0_SpoilTexts.calls (k : Nat) (P0_ : Nat → Prop) (u9000_ : Value) (l0 : List ByteArray) (r : List ByteArray) (w0 w : World) (hB : Below w0.heap.size w0 w) (ho0 : Kd.R Kd.string 9 w w0.heap.size P0_ u9000_ l0) (h : cruciblelaw0_SpoilTexts.f k l0 = some r) :
  Calls Tryd.prog 19 #[u9000_] w fun e w' => e = .returned (.tuple #[]) ∧ Kd.R Kd.string 9 w' w0.heap.size (fun k_ => (P0_ k_ ∨ w.heap.size ≤ k_)) u9000_ r ∧ Below w0.heap.size w0 w' ∧ Kept w w' (fun k_ => P0_ k_) := by
 have HO0 := Aside0.mk (show Kd.R Kd.string 9 w w0.heap.size (fun k_ => (P0_ k_ ∨ w.heap.size ≤ k_)) u9000_ l0 from Kd.R_mono ho0 (fun k_ hk => (.inl hk)))
 have HK := Aside0.mk (Kept.refl w (fun k_ => P0_ k_))
 have HW0 := Aside0.mk hB.size
 have HB := Aside0.mk hB
 clear hB
 have H : (cruciblelaw0_SpoilTexts.l0 k l0 0) = some r := h
 clear h
 have H' := Aside0.mk H
 clear H
 go_enter Tryd.func19, Tryd.ntmps19
 go_wp2
 go_loopg [2] k (fun kq v2 w' => ∃ (x0_1 : List ByteArray) (x2_1 : Int), v2 = .int .i64 x2_1 ∧ Aside0 (cruciblelaw0_SpoilTexts.l0 kq x0_1 x2_1 = some r) ∧ Aside0 (kq ≤ k) ∧ Aside0 (Kd.R Kd.string 9 w' w0.heap.size (fun k_ => (P0_ k_ ∨ w.heap.size ≤ k_)) u9000_ x0_1) ∧ Aside0 (Kept w w' (fun k_ => P0_ k_)) ∧ Aside0 (Below w0.heap.size w0 w'))
 case atStart => exact ⟨(l0), (0), (by first | rfl | (simp; done) | (simp [*]; done)), H', ⟨Nat.le_refl _⟩, ⟨by (with_reducible repeat (first | apply Kd.R_alloc | apply Kd.R_drewN | apply Kd.R_drew)); first | exact HO0.out | exact own_len HO0.out⟩, ⟨by repeat (first | (with_reducible first | exact HK.out | apply Kept.alloc | apply Kept.drewN | apply Kept.drew) | exact HK.out)⟩, ⟨by repeat (first | (with_reducible first | exact HB.out | apply below_alloc | apply pw_below_drewN | apply below_drew1) | exact HB.out)⟩⟩
 case round =>
  clear H'
  try clear c1
  obtain ⟨x0_1, x2_1, rfl, HA, HK1, HO_0, HK, HB⟩ := hrel
  cases gk with
  | zero => exact absurd HA.out (by simp [cruciblelaw0_SpoilTexts.l0])
  | succ k1 =>
   have H := HA.out
   clear HA
   simp only [cruciblelaw0_SpoilTexts.l0] at H
   by_cases c2 : x2_1 < (x0_1.length : Int)
   ·
    rw [if_pos c2] at H
    have c2b0 : decide (x2_1 < (x0_1.length : Int)) = true := decide_eq_true c2
    clear c2
    by_cases c3 : 0 ≤ x2_1
    ·
     rw [if_pos c3] at H
     have c3b0 : decide (0 ≤ x2_1) = true := decide_eq_true c3
     clear c3
     by_cases c4 : 1 + (rdOf ByteArray.empty x0_1 x2_1).size ≤ 9223372036854775807
     ·
      rw [if_pos c4] at H
      have c4b0 := eq_true c4
      have c4b1 : decide (1 + (rdOf ByteArray.empty x0_1 x2_1).size ≤ 9223372036854775807) = true := decide_eq_true c4
      try have c4b2 : (9223372036854775807 < 1 + (rdOf ByteArray.empty x0_1 x2_1).size) = False := eq_false (Nat.not_lt.2 c4)
      obtain ⟨y184, hy184⟩ : ∃ y_ : List ByteArray, y_ = (x0_1.set (x2_1 : Int).toNat ((⟨#[126]⟩ : ByteArray) ++ (rdOf ByteArray.empty x0_1 x2_1))) := ⟨_, rfl⟩
      replace H : (cruciblelaw0_SpoilTexts.l0 k1 y184 (wrap64 (x2_1 + 1))) = some r := by first | (rw [hy184]; with_reducible exact H) | (have H2_ := (Option.bind_some _ _).symm.trans H; rw [hy184]; with_reducible exact H2_) | (have H2_ := (Option.bind_some _ _).symm.trans H; with_reducible exact H2_) | with_reducible exact H | (rw [hy184]; exact H) | exact H
      have Ny184 := Aside0.mk hy184
      clear hy184
      have H' := Aside0.mk H
      clear H
      obtain ⟨Ao6, co6, eo6⟩ := Kd.R_slice HO_0.out
      subst eo6
      have p183 : 0 ≤ (x2_1 : Int) := of_decide_eq_true (by first | (with_reducible assumption) | assumption)
      have q183 : x2_1 < (x0_1.length : Int) := of_decide_eq_true (by first | (with_reducible assumption) | assumption)
      obtain ⟨ad183, e183, hx183_0⟩ := Kd.at_string (Kd.R_reads' HO_0.out).2.2 x2_1 p183 q183
      cases e183
      replace p183 := eq_true p183
      replace q183 := eq_true q183
      have p5 : 0 ≤ (x2_1 : Int) := of_decide_eq_true (by first | (with_reducible assumption) | assumption)
      have q5 : (x2_1 : Int) < ((x0_1.length : Int) : Int) := of_decide_eq_true (by first | (with_reducible assumption) | assumption)
      obtain ⟨go5, co5, eo5, gb5, gl5, cl5, HG5⟩ := Kd.R_form HO_0.out (by omega)
      (first | cases eo5 | (injection eo5 with ea_ en_ ec_; (first | subst ea_ | (injection ea_ with ea_; subst ea_)); subst ec_; clear en_))
      have GB5 := Aside0.mk gb5
      have GG5 := Aside0.mk HG5
      clear gb5 gl5 HG5
      have HMgo5 := Aside0.mk (show (P0_ go5 ∨ w.heap.size ≤ go5) from (HO_0.out.1 _ rfl))
      (first | simp only [add_plain] at hx183_0 | skip)
      obtain ⟨hx5_0, hf5_0⟩ := Kd.R_celln (⟨#[]⟩ : ByteArray) HO_0.out (x2_1 : Int) p5 q5
      replace p5 := eq_true p5
      replace q5 := eq_true q5
      have HP7 := Kd.R_putg HO_0.out (x2_1 : Int) ((⟨#[126]⟩ : ByteArray) ++ (rdOf ByteArray.empty x0_1 x2_1))
      go_wp2_with (first | ((with_reducible refine gate_store (t := 9) (p := 16) rfl ?_); refine store_event (t := 9) (p := 16) (v := ?vo_w8) (w1 := (wr.setCell ⟨go5, (x2_1 : Int).toNat, none⟩ (.string ((⟨#[126]⟩ : ByteArray) ++ (rdOf ByteArray.empty x0_1 x2_1))))) ?hg ?ho ?hn ?hr ?_; (case ho => rfl); (case hg => rfl); (case hn => rfl); (case hr => first | (go_simp; done) | (go_simp; rfl)); intro w8 hw; have hg : wr.grownBy w8 (some go5) := (by rw [hw]; exact HP7.2); have hp_ : Kd.R Kd.string 9 w8 w0.heap.size (fun k_ => (P0_ k_ ∨ w.heap.size ≤ k_)) (.slice (some ⟨go5, 0, none⟩) x0_1.length co6) y184 := (by rw [hw, Ny184.out]; exact HP7.1); clear HP7; have n0_ := Aside0.mk (hp_); have n1_ := Aside0.mk ((by rw [hw]; exact below_set (HB.out) GB5.out : Below w0.heap.size w0 w8)); have n2_ := Aside0.mk (Kept.of_grown (S := (fun k_ => P0_ k_)) hg (by repeat (first | (with_reducible first | exact HK.out | apply Kept.alloc | apply Kept.drewN | apply Kept.drew) | exact HK.out)) (fun k_ e_ => (HO_0.out.1 k_ e_))); clear HO_0; clear HB; clear HK; have HO_0 := n0_; have HB := n1_; have HK := n2_; clear n0_ n1_ n2_; clear hg hw hp_))
      go_roundg k1
      case measure => have := HK1.out; omega
      case rel => exact ⟨(y184), (wrap64 (x2_1 + 1)), (by first | rfl | (simp; done) | (simp [*]; done)), H', ⟨by have := HK1.out; omega⟩, ⟨by (with_reducible repeat (first | apply Kd.R_alloc | apply Kd.R_drewN | apply Kd.R_drew)); first | exact HO_0.out | exact own_len HO_0.out⟩, ⟨by repeat (first | (with_reducible first | exact HK.out | apply Kept.alloc | apply Kept.drewN | apply Kept.drew) | exact HK.out)⟩, ⟨by repeat (first | (with_reducible first | exact HB.out | apply below_alloc | apply pw_below_drewN | apply below_drew1) | exact HB.out)⟩⟩
     ·
      rw [if_neg c4] at H
      exact absurd H (by simp)
    ·
     rw [if_neg c3] at H
     exact absurd H (by simp)
   ·
    rw [if_neg c2] at H
    have c2b0 : decide (x2_1 < (x0_1.length : Int)) = false := decide_eq_false c2
    clear c2
    obtain rfl := Option.some.inj H
    obtain ⟨Ao9, co9, eo9⟩ := Kd.R_slice HO_0.out
    subst eo9
    go_wp2
    first | go_end0 | ((try simp only [Exit.inBlock, Exit.then]); refine bodyPost_ret (results_none rfl _ _ _) rfl ?_)
    exact ⟨by first | rfl | (simp [errW_none, errW_some] <;> rfl) | (simp [*, errW_none, errW_some] <;> rfl), by (with_reducible repeat (first | apply Kd.R_alloc | apply Kd.R_drewN | apply Kd.R_drew)); exact HO_0.out, by repeat (first | (with_reducible first | exact HB.out | apply below_alloc | apply pw_below_drewN | apply below_drew1) | exact HB.out), by repeat (first | (with_reducible first | exact HK.out | apply Kept.alloc | apply Kept.drewN | apply Kept.drew) | exact HK.out)⟩

-- HAND Words7Awake.lean
-- IMPORT Derived.Test.YtncbloieejeifaaDoorBase
/-! ### cruciblelaw7_awake, by hand -/
def cruciblelaw7_awake.f : Option Bool := some true
theorem same_lit {W : World} {base : Nat} {v : Value} {xs : List ByteArray} {ok : Nat → Prop} (ys : List ByteArray) (k : Nat) (r : Bool) (h : cruciblelaw0_SameTexts.f k xs ys = some r) (hl : ys.length ≤ 1000) (hR : Kd.R Kd.string 9 W base ok v xs) :
    Calls Tryd.prog 17 #[v, .slice (some ⟨W.heap.size, 0, none⟩) ys.length ys.length] (W.alloc (.cells (ys.map Value.string).toArray 9)) fun e w' => e = .returned (.bool r) ∧ Below W.heap.size W w' := by
  obtain ⟨A, c, rfl, hc, hC⟩ := Kd.R_reads hR
  obtain ⟨A2, c2, e2, hc2, hC2⟩ := Kd.R_reads (split_row W ys (by omega))
  cases e2
  exact (cruciblelaw0_SameTexts.calls k A c xs _ _ ys r _ (Kd.C_alloc hC _) hc hC2 hc2 h).mono fun e w' ⟨he, hd⟩ => ⟨he, (below_alloc (Below.refl _ _) _).trans (hd.below.mono (below_alloc (Below.refl _ _) _).size)⟩
set_option maxHeartbeats 4000000 in
set_option maxRecDepth 100000 in
theorem cruciblelaw7_awake.calls (r : Bool) (w : World) (h : cruciblelaw7_awake.f = some r) : Calls Tryd.prog 20 #[] w fun e w' => e = .returned (.bool r) ∧ Below w.heap.size w w' := by
  obtain rfl : true = r := Option.some.inj h
  have e1 : words_Build.f (⟨#[120, 46, 111, 32, 32, 121, 32, 58, 32, 99, 99, 32, 120, 46, 99, 32, 124, 32, 97, 46, 104, 32, 124, 124, 32, 103, 101, 110]⟩ : ByteArray) = some ([⟨#[120, 46, 111]⟩, ⟨#[121]⟩], ⟨#[99, 99]⟩, [⟨#[120, 46, 99]⟩], [⟨#[97, 46, 104]⟩], [⟨#[103, 101, 110]⟩], 0) := by kernel_rfl
  have e2 : words_Build.f (⟨#[120, 32, 58, 32, 99, 99, 32, 124, 124, 32, 103, 101, 110]⟩ : ByteArray) = some ([⟨#[120]⟩], ⟨#[99, 99]⟩, [], [], [⟨#[103, 101, 110]⟩], 0) := by kernel_rfl
  have e3 : words_Build.f (⟨#[120, 58, 32, 99, 99]⟩ : ByteArray) = some words_no := by kernel_rfl
  have e4 : words_Build.f (⟨#[120, 32, 58, 32, 99, 99, 32, 124]⟩ : ByteArray) = some words_no := by kernel_rfl
  have E1 := Aside0.mk e1
  have E2 := Aside0.mk e2
  have E3 := Aside0.mk e3
  have E4 := Aside0.mk e4
  clear e1 e2 e3 e4 h
  go_enter Tryd.func20, Tryd.ntmps20
  go_wp2_with fail
  refine (words_Build.calls _ _ _ _ _ _ _ _ E1.out).mono ?_
  rintro e w1 ⟨a0, a2, a3, a4, rfl, Ra, Rb, Rc, Rd, B1⟩
  go_wp2_with fail
  refine (words_Build.calls _ _ _ _ _ _ _ _ E2.out).mono ?_
  rintro e w2 ⟨o0, o2, o3, o4, rfl, _, _, _, Ro, B2⟩
  go_wp2_with fail
  refine (words_Build.calls _ _ _ _ _ _ _ _ E3.out).mono ?_
  rintro e w3 ⟨p0, p2, p3, p4, rfl, _, _, _, _, B3⟩
  go_wp2_with fail
  refine (words_Build.calls _ _ _ _ _ _ _ _ E4.out).mono ?_
  rintro e w4 ⟨q0, q2, q3, q4, rfl, _, _, _, _, B4⟩
  go_wp2_with fail
  have K4 := (B2.trans (B3.mono B2.size)).trans (B4.mono (B2.trans (B3.mono B2.size)).size)
  refine (same_lit [⟨#[120, 46, 111]⟩, ⟨#[121]⟩] 5 true (by decide +kernel) (by decide) (Kd.R_below Ra K4)).mono ?_
  rintro e w5 ⟨rfl, B5⟩
  go_wp2_with fail
  have K5 := K4.trans (B5.mono K4.size)
  refine (same_lit [⟨#[120, 46, 99]⟩] 5 true (by decide +kernel) (by decide) (Kd.R_below Rb K5)).mono ?_
  rintro e w6 ⟨rfl, B6⟩
  go_wp2_with fail
  have K6 := K5.trans (B6.mono K5.size)
  refine (same_lit [⟨#[97, 46, 104]⟩] 5 true (by decide +kernel) (by decide) (Kd.R_below Rc K6)).mono ?_
  rintro e w7 ⟨rfl, B7⟩
  go_wp2_with fail
  have K7 := K6.trans (B7.mono K6.size)
  refine (same_lit [⟨#[103, 101, 110]⟩] 5 true (by decide +kernel) (by decide) (Kd.R_below Rd K7)).mono ?_
  rintro e w8 ⟨rfl, B8⟩
  have K8 := K7.trans (B8.mono K7.size)
  go_wp2_with (go_at_call 18; refine (cruciblelaw0_Num.calls _ _ _ rfl).mono ?_; rintro e w9 ⟨rfl, hd9⟩)
  have KA := (B3.trans (B4.mono B3.size)).trans (B5.mono (B3.trans (B4.mono B3.size)).size)
  have KB := KA.trans (B6.mono KA.size)
  have KC := KB.trans (B7.mono KB.size)
  have KD := KC.trans (B8.mono KC.size)
  have KE := KD.trans (hd9.below.mono KD.size)
  refine (same_lit [⟨#[103, 101, 110]⟩] 5 true (by decide +kernel) (by decide) (Kd.R_below Ro KE)).mono ?_
  rintro e w10 ⟨rfl, B10⟩
  have K9 := K8.trans (hd9.below.mono K8.size)
  have K10 := (B1.trans (K9.mono B1.size)).trans (B10.mono (B1.trans (K9.mono B1.size)).size)
  go_wp2_with (go_at_call 18; refine (cruciblelaw0_Num.calls _ _ _ rfl).mono ?_; rintro e w11 ⟨rfl, hd11⟩; have K10 := K10.trans (hd11.below.mono K10.size); clear hd11)
  go_ret
  exact ⟨rfl, K10⟩

-- NOT PRINTED: function 3 (cruciblelaw7_Wordses)

-- HAND WordForms.lean
-- IMPORT Derived.Test.YtncbloieejeifaaDoorPlain
/-! ### cruciblelaw7_WordForms, by hand -/
def cruciblelaw7_WordForms.f (a0 : Int) : Option Bool := some true
def words_isNo (p : words_Parts) : Bool := p.1.isEmpty && p.2.1.toList.isEmpty && p.2.2.1.isEmpty && p.2.2.2.1.isEmpty && p.2.2.2.2.1.isEmpty && p.2.2.2.2.2 == 700
theorem words_isNo_eq {p : words_Parts} (h : words_isNo p = true) : p = words_no := by
  obtain ⟨a, b, c, d, e, f⟩ := p
  simp only [words_isNo, Bool.and_eq_true, List.isEmpty_iff, beq_iff_eq] at h
  obtain ⟨⟨⟨⟨⟨h1, h2⟩, h3⟩, h4⟩, h5⟩, h6⟩ := h
  have hb : b = ⟨#[]⟩ := Spec.data_inj (by rw [← Lib.toList_data, h2])
  rw [h1, hb, h3, h4, h5, h6]; rfl
def words_forms : List ByteArray := [⟨#[]⟩, ⟨#[97]⟩, ⟨#[97, 32, 58]⟩, ⟨#[58, 32, 99, 99]⟩, ⟨#[97, 32, 58, 32, 58, 32, 98]⟩, ⟨#[97, 32, 99, 99, 32, 98]⟩, ⟨#[97, 58, 32, 99, 99]⟩, ⟨#[97, 32, 58, 99, 99]⟩, ⟨#[97, 32, 58, 32, 99, 99, 32, 124]⟩, ⟨#[97, 32, 58, 32, 99, 99, 32, 124, 124]⟩, ⟨#[97, 32, 58, 32, 99, 99, 32, 98, 32, 124, 124, 32, 99, 32, 124, 32, 100]⟩, ⟨#[97, 32, 58, 32, 99, 99, 32, 124, 32, 98, 32, 124, 32, 99]⟩, ⟨#[97, 32, 58, 32, 99, 99, 32, 124, 124, 32, 98, 32, 124, 124, 32, 99]⟩, ⟨#[65, 32, 58, 32, 99, 99]⟩, ⟨#[97, 32, 58, 32, 67, 99]⟩, ⟨#[97, 32, 58, 32, 99, 99, 32, 98, 32, 58, 32, 99]⟩]
theorem words_forms_no (m : Fin 16) : words_Build.f (words_forms.getD m.val ByteArray.empty) = some words_no := by
  have h : ∀ m : Fin 16, decide ((words_forms.getD m.val ByteArray.empty).size < 4294967281) = true ∧ words_isNo (words_build (words_of (words_forms.getD m.val ByteArray.empty))) = true := by decide +kernel
  unfold words_Build.f
  rw [if_pos (by simpa using (h m).1), words_isNo_eq (h m).2]
theorem words_const_no (x : ByteArray) (h : (decide (x.size < 4294967281) && words_isNo (words_build (words_of x))) = true) : words_Build.f x = some words_no := by
  rw [Bool.and_eq_true] at h
  unfold words_Build.f
  rw [if_pos (by simpa using h.1), words_isNo_eq h.2]
theorem words_forms_cell (W : World) (m : Fin 16) : (W.alloc (.cells #[.string ⟨#[]⟩, .string ⟨#[97]⟩, .string ⟨#[97, 32, 58]⟩, .string ⟨#[58, 32, 99, 99]⟩, .string ⟨#[97, 32, 58, 32, 58, 32, 98]⟩, .string ⟨#[97, 32, 99, 99, 32, 98]⟩, .string ⟨#[97, 58, 32, 99, 99]⟩, .string ⟨#[97, 32, 58, 99, 99]⟩, .string ⟨#[97, 32, 58, 32, 99, 99, 32, 124]⟩, .string ⟨#[97, 32, 58, 32, 99, 99, 32, 124, 124]⟩, .string ⟨#[97, 32, 58, 32, 99, 99, 32, 98, 32, 124, 124, 32, 99, 32, 124, 32, 100]⟩, .string ⟨#[97, 32, 58, 32, 99, 99, 32, 124, 32, 98, 32, 124, 32, 99]⟩, .string ⟨#[97, 32, 58, 32, 99, 99, 32, 124, 124, 32, 98, 32, 124, 124, 32, 99]⟩, .string ⟨#[65, 32, 58, 32, 99, 99]⟩, .string ⟨#[97, 32, 58, 32, 67, 99]⟩, .string ⟨#[97, 32, 58, 32, 99, 99, 32, 98, 32, 58, 32, 99]⟩] 9)).cell? ⟨W.heap.size, m.val, none⟩ = some (.string (words_forms.getD m.val ByteArray.empty)) := by
  have h1 := blk_cell (g := W.heap.size) (heap_alloc_new W (.cells #[.string ⟨#[]⟩, .string ⟨#[97]⟩, .string ⟨#[97, 32, 58]⟩, .string ⟨#[58, 32, 99, 99]⟩, .string ⟨#[97, 32, 58, 32, 58, 32, 98]⟩, .string ⟨#[97, 32, 99, 99, 32, 98]⟩, .string ⟨#[97, 58, 32, 99, 99]⟩, .string ⟨#[97, 32, 58, 99, 99]⟩, .string ⟨#[97, 32, 58, 32, 99, 99, 32, 124]⟩, .string ⟨#[97, 32, 58, 32, 99, 99, 32, 124, 124]⟩, .string ⟨#[97, 32, 58, 32, 99, 99, 32, 98, 32, 124, 124, 32, 99, 32, 124, 32, 100]⟩, .string ⟨#[97, 32, 58, 32, 99, 99, 32, 124, 32, 98, 32, 124, 32, 99]⟩, .string ⟨#[97, 32, 58, 32, 99, 99, 32, 124, 124, 32, 98, 32, 124, 124, 32, 99]⟩, .string ⟨#[65, 32, 58, 32, 99, 99]⟩, .string ⟨#[97, 32, 58, 32, 67, 99]⟩, .string ⟨#[97, 32, 58, 32, 99, 99, 32, 98, 32, 58, 32, 99]⟩] 9)) m.val
  rw [h1]
  have : ∀ m : Fin 16, (#[.string ⟨#[]⟩, .string ⟨#[97]⟩, .string ⟨#[97, 32, 58]⟩, .string ⟨#[58, 32, 99, 99]⟩, .string ⟨#[97, 32, 58, 32, 58, 32, 98]⟩, .string ⟨#[97, 32, 99, 99, 32, 98]⟩, .string ⟨#[97, 58, 32, 99, 99]⟩, .string ⟨#[97, 32, 58, 99, 99]⟩, .string ⟨#[97, 32, 58, 32, 99, 99, 32, 124]⟩, .string ⟨#[97, 32, 58, 32, 99, 99, 32, 124, 124]⟩, .string ⟨#[97, 32, 58, 32, 99, 99, 32, 98, 32, 124, 124, 32, 99, 32, 124, 32, 100]⟩, .string ⟨#[97, 32, 58, 32, 99, 99, 32, 124, 32, 98, 32, 124, 32, 99]⟩, .string ⟨#[97, 32, 58, 32, 99, 99, 32, 124, 124, 32, 98, 32, 124, 124, 32, 99]⟩, .string ⟨#[65, 32, 58, 32, 99, 99]⟩, .string ⟨#[97, 32, 58, 32, 67, 99]⟩, .string ⟨#[97, 32, 58, 32, 99, 99, 32, 98, 32, 58, 32, 99]⟩] : Array Value)[m.val]? = some (.string (words_forms.getD m.val ByteArray.empty)) := fun ⟨m, hm⟩ => match m, hm with
    | 0, _ => rfl | 1, _ => rfl | 2, _ => rfl | 3, _ => rfl | 4, _ => rfl | 5, _ => rfl | 6, _ => rfl | 7, _ => rfl | 8, _ => rfl | 9, _ => rfl | 10, _ => rfl | 11, _ => rfl | 12, _ => rfl | 13, _ => rfl | 14, _ => rfl | 15, _ => rfl | k + 16, h => absurd h (by omega)
  exact this m
set_option maxHeartbeats 4000000 in
set_option maxRecDepth 100000 in
theorem cruciblelaw7_WordForms.calls (a0 : Int) (r : Bool) (w : World) (h : cruciblelaw7_WordForms.f a0 = some r) : Calls Tryd.prog 4 #[.int .i64 a0] w fun e w' => e = .returned (.bool r) ∧ Below w.heap.size w w' := by
  obtain rfl : true = r := Option.some.inj h
  obtain ⟨m, hm⟩ := Spec.bits15 a0
  have e1 := words_forms_no m
  have hcell := fun W => words_forms_cell W m
  have E2 := Aside0.mk (words_const_no ⟨#[97, 32, 97, 32, 97, 32, 97, 32, 97, 32, 97, 32, 97, 32, 97, 32, 97, 32, 58, 32, 99, 99]⟩ (by decide +kernel))
  have E3 := Aside0.mk (words_const_no ⟨#[97, 32, 58, 32, 99, 99, 32, 97, 32, 97, 32, 97, 32, 97, 32, 97, 32, 97, 32, 97, 32, 97, 32, 97]⟩ (by decide +kernel))
  have E4 := Aside0.mk (words_const_no ⟨#[97, 32, 58, 32, 99, 99, 32, 124, 32, 97, 32, 97, 32, 97, 32, 97, 32, 97, 32, 97, 32, 97, 32, 97, 32, 97]⟩ (by decide +kernel))
  have E5 := Aside0.mk (words_const_no ⟨#[97, 32, 58, 32, 99, 99, 32, 124, 124, 32, 97, 32, 97, 32, 97, 32, 97, 32, 97, 32, 97, 32, 97, 32, 97, 32, 97]⟩ (by decide +kernel))
  have hm0 : (0 : Int) ≤ (m.val : Int) := by omega
  have hm1 : (m.val : Int) < 16 := by have := m.isLt; omega
  generalize words_forms.getD m.val ByteArray.empty = s at e1 hcell
  have E1 := Aside0.mk e1
  clear e1 h
  go_enter Tryd.func4, Tryd.ntmps4
  go_wp2_with fail
  refine (cruciblelaw7_awake.calls true w rfl).mono ?_
  rintro e w1 ⟨rfl, B1⟩
  go_wp2_with fail
  refine (words_Build.calls _ _ _ _ _ _ _ _ E1.out).mono ?_
  rintro e w2 ⟨v0, v2, v3, v4, rfl, Ra, Rb, Rc, Rd, B2⟩
  obtain ⟨A0, c0, rfl⟩ := Kd.R_slice Ra
  obtain ⟨A2, c2, rfl⟩ := Kd.R_slice Rb
  obtain ⟨A3, c3, rfl⟩ := Kd.R_slice Rc
  obtain ⟨A4, c4, rfl⟩ := Kd.R_slice Rd
  clear Ra Rb Rc Rd
  have K2 := B1.trans (((Below.refl _ _).alloc (Nat.le_refl _) _ |>.trans (B2.mono (by first | exact Nat.le_refl _ | simp))).mono B1.size)
  clear hcell
  go_wp2_with fail
  refine (words_Build.calls _ _ _ _ _ _ _ _ E2.out).mono ?_
  rintro e w3 ⟨v50, v52, v53, v54, rfl, _, _, _, _, B3⟩
  have K3 := K2.trans (B3.mono K2.size)
  go_wp2_with fail
  refine (words_Build.calls _ _ _ _ _ _ _ _ E3.out).mono ?_
  rintro e w4 ⟨v60, v62, v63, v64, rfl, _, _, _, _, B4⟩
  have K4 := K3.trans (B4.mono K3.size)
  go_wp2_with fail
  refine (words_Build.calls _ _ _ _ _ _ _ _ E4.out).mono ?_
  rintro e w5 ⟨v70, v72, v73, v74, rfl, _, _, _, _, B5⟩
  have K5 := K4.trans (B5.mono K4.size)
  go_wp2_with fail
  refine (words_Build.calls _ _ _ _ _ _ _ _ E5.out).mono ?_
  rintro e w6 ⟨v80, v82, v83, v84, rfl, _, _, _, _, B6⟩
  have K6 := K5.trans (B6.mono K5.size)
  go_wp2_with (go_at_call 18; refine (cruciblelaw0_Num.calls _ _ _ rfl).mono ?_; rintro e w7 ⟨rfl, hd7⟩; have K6 := K6.trans (hd7.below.mono K6.size); clear hd7)
  go_ret
  exact ⟨rfl, K6⟩

end Go.Proofs.YtncbloieejeifaaDoor.P
