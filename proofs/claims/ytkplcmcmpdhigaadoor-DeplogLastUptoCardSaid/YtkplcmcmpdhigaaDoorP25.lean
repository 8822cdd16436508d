-- Made by a program of this work's own (wip/myprint.py) over the kit's print; leaves by hand.
import Derived.Test.YtkplcmcmpdhigaaDoorP0
import Derived.Test.YtkplcmcmpdhigaaDoorP1
import Derived.Test.YtkplcmcmpdhigaaDoorP6
import Derived.Test.YtkplcmcmpdhigaaDoorP9
import Derived.Test.YtkplcmcmpdhigaaDoorP11
import Derived.Test.YtkplcmcmpdhigaaDoorP15
import Derived.Test.YtkplcmcmpdhigaaDoorPlain
namespace Go.Proofs.YtkplcmcmpdhigaaDoor.P
open Go.RowKit Go.Proofs.YtkplcmcmpdhigaaDoorW.PrintWords Go.Proofs.YtkplcmcmpdhigaaDoorW.PrintLast Go.Proofs.YtkplcmcmpdhigaaDoorW.PrintMore
attribute [local go_sem] max2_int min2_int max_two min_two max_three min_three max_four min_four   -- for this text's walks alone
set_option linter.unusedVariables false
set_option linter.unusedSimpArgs false

-- HANDBIG DeplogTwo.lean
-- IMPORT Derived.Test.YtkplcmcmpdhigaaDoorPlain
/-! ### founds appended: their inputs stay where they came in -/
section
variable {ops : Array Oper} {rest : List Oper} {o : Oper} {a : Act} {Q : Exit → Act → World → Prop}
theorem fa_app {α : Type} {R : α → List Value → Prop} {size : Nat} {ps qs : List α} {cs ds : List Value} (h : Reps R size ps cs) (k : Reps R size qs ds) : Reps R size (ps ++ qs) (cs ++ ds) := by
  refine ⟨by rw [List.length_append, List.length_append, h.1, k.1, Nat.add_mul], fun j p hj => ?_⟩
  have hc := h.1
  by_cases hlt : j < ps.length
  · rw [List.getElem?_append_left hlt] at hj
    have h2 : (j + 1) * size ≤ ps.length * size := Nat.mul_le_mul_right _ hlt
    rw [Nat.add_mul, Nat.one_mul] at h2
    rw [List.drop_append_of_le_length (by omega), List.take_append_of_le_length (by rw [List.length_drop]; omega)]
    exact h.2 j p hj
  · rw [List.getElem?_append_right (by omega)] at hj
    have h2 := k.2 _ p hj
    have h3 : j * size = cs.length + (j - ps.length) * size := by rw [hc, ← Nat.add_mul]; congr 1; omega
    rw [h3, List.drop_append, List.drop_eq_nil_of_le (by omega), Nat.add_sub_cancel_left, List.nil_append]
    exact h2
theorem fa_one {w0 : World} {ys : List (S41)} {ds : List Value} (h : Reps (k41.K w0) 3 ys ds) : ∀ u ∈ ds, u.oneCell' = true := by
  intro u hu
  obtain ⟨i, hi, rfl⟩ := List.getElem_of_mem hu
  have hl := h.1
  have hj : i / 3 < ys.length := by omega
  have h2 := h.2 (i / 3) _ (List.getElem?_eq_getElem hj)
  refine k41.K_one h2 _ ?_
  rw [List.mem_iff_getElem?]
  refine ⟨i % 3, ?_⟩
  rw [List.getElem?_take_of_lt (Nat.mod_lt _ (by decide)), List.getElem?_drop, show i / 3 * 3 + i % 3 = i by omega]
  exact List.getElem?_eq_getElem hi
/-- what is read: the elements' cells, whatever the address -/
def FaRow (w0 W : World) (A : Option Addr) (m : Nat) (ys : List (S41)) : Prop := ys.length = m ∧ (A = none → m = 0) ∧ ∃ ds, Reps (k41.K w0) 3 ys ds ∧ ∀ ad, A = some ad → ∀ (j : Nat) (u : Value), ds[j]? = some u → W.cell? (ad.add j) = some u
theorem FaRow.of_C {w0 : World} {A : Option Addr} {m : Nat} {ys : List (S41)} (h : Kd.C k41 w0 A m ys) : FaRow w0 w0 A m ys := by
  have hl := h.1
  cases A with
  | none =>
    have hm : m = 0 := by
      rcases Nat.eq_zero_or_pos m with hm | hm
      · exact hm
      · obtain ⟨ad, e, _⟩ := h.2.2 hm; cases e
    subst hm
    obtain rfl := List.eq_nil_of_length_eq_zero hl
    exact ⟨rfl, fun _ => rfl, [], Reps.none _ _, fun ad e => by cases e⟩
  | some ad =>
    obtain ⟨ds, h1, h2⟩ := ReadsRow.inner_ h
    exact ⟨hl, (fun e => by cases e), ds, h1, fun ad' e j u hu => by cases e; exact h2 j u hu⟩
theorem FaRow.below {w0 W W' : World} {A : Option Addr} {m : Nat} {ys : List (S41)} (h : FaRow w0 W A m ys) (hb : Below W.heap.size W W') : FaRow w0 W' A m ys := by
  obtain ⟨h1, h2, ds, h3, h4⟩ := h
  exact ⟨h1, h2, ds, h3, fun ad e j u hu => by
    have := h4 ad e j u hu
    exact (hb.cell (World.block_lt_of_cell? W _ this)).trans this⟩
theorem fa_info : (Tryd.prog.info? 41).map (fun i => (i.zero, i.size, i.bytes)) = some (some (.agg #[.string ⟨#[]⟩, .int .i64 0, .slice none 0 0]), 3, 48) := by kernel_rfl
abbrev FaOwn (w0 W : World) (v : Value) (xs : List (S41)) : Prop := OwnRow (k41.K w0) 41 3 W w0.heap.size v xs
theorem FaOwn.below {w0 W W' : World} {v : Value} {xs : List (S41)} (h : FaOwn w0 W v xs) (hb : Below W.heap.size W W') : FaOwn w0 W' v xs := by
  obtain ⟨inner, ho, hr⟩ := h
  exact ⟨inner, own_move ho (fun k hk => hb.block k (own_lt ho k hk)), hr⟩
theorem FaOwn.reads {w0 W : World} {v : Value} {xs : List (S41)} (h : FaOwn w0 W v xs) (hB : Below w0.heap.size w0 W) : ∃ A c, v = .slice A xs.length c ∧ xs.length ≤ c ∧ Kd.C k41 W A xs.length xs := by
  obtain ⟨A, c, h1, h2, h3⟩ := OwnRow.reads h
  exact ⟨A, c, h1, h2, ReadsRow.imp_ h3 (Below.refl _ _) (fun p c hp => k41.K_below hB hp)⟩
theorem fa_append {w0 W : World} (hgd : o.guard = none) (s x : Operand) (ho : o.op = .call { callee := .builtin .append, args := #[s, x], argTypes := #[42, 42] })
    (v : Value) (xs ys : List (S41)) (A : Option Addr) (m c : Nat) (hs : a.eval s = v) (hx : a.eval x = .slice A m c)
    (HO : FaOwn w0 W v xs) (HR : FaRow w0 W A m ys) (HB : Below w0.heap.size w0 W) (hl : xs.length + m ≤ 2000000)
    (h : ∀ v1 w1, FaOwn w0 w1 v1 (xs ++ ys) → Below w0.heap.size w0 w1 → wpList Tryd.prog ops Q rest (a.put o.dst v1) w1) :
    wpList Tryd.prog ops Q (o :: rest) a W := by
  obtain ⟨i0, hi, hzz⟩ := Option.map_eq_some_iff.1 fa_info
  simp only [Prod.mk.injEq] at hzz
  obtain ⟨hz0, hz1, hz2⟩ := hzz
  obtain ⟨inner, HO, hr⟩ := HO
  obtain ⟨hm, hA, ds, hds, hcell⟩ := HR
  have hrun : ∃ v1 w1, (Builtin.append_ #[42, 42] o.type #[v, .slice A m c]).run Tryd.prog W = .ok v1 w1 ∧ FaOwn w0 w1 v1 (xs ++ ys) ∧ W.grownBy w1 v.ownBlock := by
    rcases A with _ | ad
    · have h0 := hA rfl
      subst h0
      obtain rfl : ys = [] := List.eq_nil_of_length_eq_zero hm
      refine ⟨v, W, ?_, ⟨inner, by simpa using HO, by simpa using hr⟩, World.grownBy.refl W _⟩
      rcases HO.2 with ⟨rfl, hn⟩ | ⟨g, cap, cur, rfl, _, _, hnc, _⟩
      · simp [Builtin.append_, run_underlying Tryd.underlying42, sizeOf, typeInfo, hi, Builtin.lenOf, Builtin.firstCells]
      · simp [Builtin.append_, run_underlying Tryd.underlying42, sizeOf, typeInfo, hi, Builtin.lenOf, Builtin.firstCells, hnc, storeCells]
    · obtain ⟨v1, w1, hr1, h2, h3, _, h5⟩ := run_append_own_at (P := Tryd.prog) (w := W) w0.heap.size 42 o.type 41 i0 _ 3 48 Tryd.underlying42 hi hz0 hz1 hz2 rfl (by omega) v xs.length inner HO ad m c ds (by rw [hds.1, hm]) (hcell ad rfl) (fa_one hds) (by simp only [maxLen]; omega) (by omega) HB.size
      exact ⟨v1, w1, hr1, ⟨inner ++ ds, by rw [List.length_append, hm]; exact h2, fa_app hr hds⟩, h3⟩
  obtain ⟨v1, w1, hr1, hown, hg⟩ := hrun
  refine wpList_plain hgd fun K hK => ?_
  unfold Oper.wp execOp
  simp only [ho, resolve, invoke, builtin, Sem.run_bind, Sem.run_pure, Result.andThen_ok, List.map_toArray, List.map_cons, List.map_nil, hs, hx, hr1]
  exact hK _ _ (h v1 w1 hown (HB.grown hg HB.size (own_base HO)))
theorem fa_empty (w0 W : World) (HB : Below w0.heap.size w0 W) : FaOwn w0 (W.alloc (.cells #[] 41)) (.slice (some ⟨W.heap.size, 0, none⟩) 0 0) [] := OwnRow.lit W w0.heap.size (Reps.none _ _) HB.size (by simp)
end
/-! ### cruciblelaw16_DeplogTwo, by hand -/
def cruciblelaw16_DeplogTwo.f (k : Nat) (l0 l1 : List (S41)) : Option Bool :=
  (deplog_Text.f k l0).bind fun a => (deplog_Text.f k l1).bind fun b => if a.2 = 0 ∧ b.2 = 0 ∧ l0.length + l1.length ≤ 256 then
    (if deplog_Text.f k (l0 ++ l1) = some (a.1 ++ b.1, 0) ∧ a.1.size + b.1.size ≤ 9223372036854775807 then ((deplog_Load.f k (a.1 ++ b.1)).bind fun d => if cruciblelaw0_SameFounds.f k d (l0 ++ l1) = some true then some true else none) else none)
    else (if l0.length + l1.length ≤ 2000000 then some true else none)
theorem cruciblelaw16_DeplogTwo.mono : ∀ a0 a1 k, LeO (cruciblelaw16_DeplogTwo.f k a0 a1) (cruciblelaw16_DeplogTwo.f (k + 1) a0 a1) := by
  intro a0 a1 k r h
  unfold cruciblelaw16_DeplogTwo.f at h ⊢
  obtain ⟨a, ha, h⟩ := Option.bind_eq_some_iff.1 h
  obtain ⟨b, hb, h⟩ := Option.bind_eq_some_iff.1 h
  refine Option.bind_eq_some_iff.2 ⟨a, deplog_Text.mono a0 k a ha, Option.bind_eq_some_iff.2 ⟨b, deplog_Text.mono a1 k b hb, ?_⟩⟩
  split at h
  · rename_i hc
    rw [if_pos hc]
    split at h
    · rename_i hd
      rw [if_pos ⟨deplog_Text.mono _ k _ hd.1, hd.2⟩]
      obtain ⟨d, hd2, h⟩ := Option.bind_eq_some_iff.1 h
      refine Option.bind_eq_some_iff.2 ⟨d, deplog_Load.mono _ k d hd2, ?_⟩
      split at h
      · rename_i hs
        rw [if_pos (cruciblelaw0_SameFounds.mono _ _ k _ hs)]; exact h
      · cases h
    · cases h
  · rename_i hc
    rw [if_neg hc]; exact h
set_option maxHeartbeats 4000000 in
set_option maxRecDepth 100000 in
theorem cruciblelaw16_DeplogTwo.calls (k : Nat) (A0 : Option Addr) (c0 : Nat) (l0 : List (S41)) (A1 : Option Addr) (c1 : Nat) (l1 : List (S41)) (r : Bool) (w : World) (hr0 : Kd.C k41 w A0 l0.length l0) (hc0 : l0.length ≤ c0) (hr1 : Kd.C k41 w A1 l1.length l1) (hc1 : l1.length ≤ c1) (h : cruciblelaw16_DeplogTwo.f k l0 l1 = some r) :
    Calls Tryd.prog 16 #[.slice A0 l0.length c0, .slice A1 l1.length c1] w fun e w' => e = .returned (.bool r) ∧ Below w.heap.size w w' := by
  unfold cruciblelaw16_DeplogTwo.f at h
  obtain ⟨⟨a1, a2⟩, ha, h⟩ := Option.bind_eq_some_iff.1 h
  obtain ⟨⟨b1, b2⟩, hb, h⟩ := Option.bind_eq_some_iff.1 h
  have cW : ∀ W, Calls Tryd.prog 46 #[] W fun e w' => e = .returned (.bool true) ∧ Below W.heap.size W w' := fun W => cruciblelaw16_awake.calls true W rfl
  have cA : ∀ W, Below w.heap.size w W → Calls Tryd.prog 34 #[.slice A0 l0.length c0] W fun e w' => e = .returned (.tuple #[.string a1, .int .i64 a2]) ∧ Below w.heap.size w w' := fun W hB => (deplog_Text.calls k A0 c0 l0 a1 a2 W (Kd.C_below hr0 hB) hc0 ha).mono fun e w' ⟨he, hd⟩ => ⟨he, below_then hB hB.size hd⟩
  have cB : ∀ W, Below w.heap.size w W → Calls Tryd.prog 34 #[.slice A1 l1.length c1] W fun e w' => e = .returned (.tuple #[.string b1, .int .i64 b2]) ∧ Below w.heap.size w w' := fun W hB => (deplog_Text.calls k A1 c1 l1 b1 b2 W (Kd.C_below hr1 hB) hc1 hb).mono fun e w' ⟨he, hd⟩ => ⟨he, below_then hB hB.size hd⟩
  have cN : ∀ (n : Int) W, Below w.heap.size w W → Calls Tryd.prog 22 #[.int .i64 n] W fun e w' => e = .returned (.int .i64 n) ∧ Below w.heap.size w w' ∧ Below W.heap.size W w' := fun n W hB => (cruciblelaw0_Num.calls n n W rfl).mono fun e w' ⟨he, hd⟩ => ⟨he, below_then hB hB.size hd.below, hd.below⟩
  have R0 := Aside0.mk (FaRow.of_C hr0)
  have R1 := Aside0.mk (FaRow.of_C hr1)
  clear ha hb hr0 hr1 hc0 hc1
  have HB0 := Aside0.mk (Below.refl w.heap.size w)
  by_cases ea : a2 = 0
  · by_cases eb : b2 = 0
    · subst ea eb
      by_cases hl : l0.length + l1.length ≤ 256
      · rw [if_pos ⟨rfl, rfl, hl⟩] at h
        split at h
        case isFalse => cases h
        rename_i hd
        obtain ⟨hT, hsz⟩ := hd
        obtain ⟨d, hL, h⟩ := Option.bind_eq_some_iff.1 h
        split at h
        case isFalse => cases h
        rename_i hS
        obtain rfl := Option.some.inj h
        have hw : wrap64 ((l0.length : Int) + (l1.length : Int)) = (l0.length : Int) + (l1.length : Int) := Spec.wrap_id (by omega) (by omega)
        have hgt : decide ((256 : Int) < (l0.length : Int) + (l1.length : Int)) = false := decide_eq_false (by omega)
        have hgt2 : ¬ (256 : Int) < (l0.length : Int) + (l1.length : Int) := by omega
        have cT : ∀ W A9 c9, Kd.C k41 W A9 (l0 ++ l1).length (l0 ++ l1) → (l0 ++ l1).length ≤ c9 → Below w.heap.size w W → Calls Tryd.prog 34 #[.slice A9 (l0.length + l1.length) c9] W fun e w' => e = .returned (.tuple #[.string (a1 ++ b1), .int .i64 0]) ∧ Below w.heap.size w w' ∧ Below W.heap.size W w' := fun W A9 c9 hC hc hB => by rw [← List.length_append]; exact (deplog_Text.calls k A9 c9 (l0 ++ l1) _ _ W hC hc hT).mono fun e w' ⟨he, hd⟩ => ⟨he, below_then hB hB.size hd, hd⟩
        have cL : ∀ W, Below w.heap.size w W → Calls Tryd.prog 36 #[.string (a1 ++ b1)] W fun e w' => ∃ AL cL, e = .returned (.slice AL d.length cL) ∧ d.length ≤ cL ∧ Kd.C k41 w' AL d.length d ∧ Below W.heap.size W w' ∧ Below w.heap.size w w' := fun W hB => (deplog_Load.calls k (a1 ++ b1) d W hL).mono fun e w' ⟨v, he, hS, hd⟩ => by
          obtain ⟨AL, cL, rfl, h1, h2⟩ := Kd.S_reads hS
          exact ⟨AL, cL, he, h1, h2, hd, below_then hB hB.size hd⟩
        have cS : ∀ W AL cL A9 c9, Kd.C k41 W AL d.length d → d.length ≤ cL → Kd.C k41 W A9 (l0 ++ l1).length (l0 ++ l1) → (l0 ++ l1).length ≤ c9 → Below w.heap.size w W → Calls Tryd.prog 41 #[.slice AL d.length cL, .slice A9 (l0.length + l1.length) c9] W fun e w' => e = .returned (.bool true) ∧ Below w.heap.size w w' := fun W AL cL A9 c9 h1 h2 h3 h4 hB => by rw [← List.length_append]; exact (cruciblelaw0_SameFounds.calls k AL cL d A9 c9 (l0 ++ l1) true W h1 h2 h3 h4 hS).mono fun e w' ⟨he, hd⟩ => ⟨he, below_then hB hB.size hd⟩
        have HL := Aside0.mk hl
        clear hT hL hS h hl
        generalize d.length = nd at cL cS
        go_enter Tryd.func16, Tryd.ntmps16
        go_wp2_with (first
          | (go_at_call 46; refine (cW _).mono ?_; rintro e w' ⟨rfl, hb⟩; have HB := Aside0.mk (below_then HB0.out HB0.out.size hb); clear hb HB0; have HB0 := HB; clear HB)
          | (go_at_call_of 34 (Value.slice A0 l0.length c0); (with_reducible refine (cA _ HB0.out).mono ?_); rintro e w' ⟨rfl, hb⟩; have HB := Aside0.mk hb; clear hb HB0; have HB0 := HB; clear HB)
          | (go_at_call_of 34 (Value.slice A1 l1.length c1); (with_reducible refine (cB _ HB0.out).mono ?_); rintro e w' ⟨rfl, hb⟩; have HB := Aside0.mk hb; clear hb HB0; have HB0 := HB; clear HB)
          | (go_at_call 22; (with_reducible refine (cN _ _ HB0.out).mono ?_); rintro e w' ⟨rfl, hb, hb2⟩; have HB := Aside0.mk hb; (try (have HC := Aside0.mk (Kd.C_below HC9.out hb2); clear HC9; have HC9 := HC; clear HC)); clear hb hb2 HB0; have HB0 := HB; clear HB)
          | ((with_reducible refine gate_builtin (b := .append) (xs := #[.tmp 40, .tmp 41]) rfl ?_); at_builtin; refine fa_append (w0 := w) rfl (.tmp 40) (.tmp 41) rfl _ [] l0 A0 _ c0 rfl rfl (fa_empty w _ HB0.out) (R0.out.below (below_alloc HB0.out _)) (below_alloc HB0.out _) (by have := HL.out; simp only [List.length_nil]; omega) ?_; intro v1 wA hO hb; have HO1 := Aside0.mk hO; have HB := Aside0.mk hb; clear hO hb HB0; have HB0 := HB; clear HB)
          | ((with_reducible refine gate_builtin (b := .append) (xs := #[.tmp 43, .tmp 44]) rfl ?_); at_builtin; refine fa_append (w0 := w) rfl (.tmp 43) (.tmp 44) rfl v1 l0 l1 A1 _ c1 rfl rfl HO1.out (R1.out.below HB0.out) HB0.out (by have := HL.out; omega) ?_; intro v2 wB hO hb; obtain ⟨A9, c9, rfl, hc9, hC9⟩ := FaOwn.reads hO hb; have HC9 := Aside0.mk hC9; have HK9 := Aside0.mk hc9; have HB := Aside0.mk hb; clear hO hb hc9 hC9 HB0; have HB0 := HB; clear HB)
          | (go_at_call 34; (with_reducible refine (cT _ _ _ HC9.out HK9.out HB0.out).mono ?_); rintro e w' ⟨rfl, hb, hb2⟩; have HB := Aside0.mk hb; have HC := Aside0.mk (Kd.C_below HC9.out hb2); clear hb hb2 HB0 HC9; have HB0 := HB; have HC9 := HC; clear HB HC)
          | (go_at_call 36; (with_reducible refine (cL _ HB0.out).mono ?_); rintro e w' ⟨AL, kL, rfl, hkL, hCL, hb2, hb⟩; have HCL := Aside0.mk hCL; have HKL := Aside0.mk hkL; have HB := Aside0.mk hb; have HC := Aside0.mk (Kd.C_below HC9.out hb2); clear hkL hCL hb hb2 HB0 HC9; have HB0 := HB; have HC9 := HC; clear HB HC)
          | (go_at_call 41; (with_reducible refine (cS _ _ _ _ _ HCL.out HKL.out HC9.out HK9.out HB0.out).mono ?_); rintro e w' ⟨rfl, hb⟩; have HB := Aside0.mk hb; clear hb HB0; have HB0 := HB; clear HB))
        go_ret
        exact ⟨rfl, HB0.out⟩
      · rw [if_neg (fun hc => hl hc.2.2)] at h
        split at h
        case isFalse => cases h
        rename_i hm
        obtain rfl := Option.some.inj h
        clear h R0 R1
        have hw : wrap64 ((l0.length : Int) + (l1.length : Int)) = (l0.length : Int) + (l1.length : Int) := Spec.wrap_id (by omega) (by omega)
        have hgt : decide ((256 : Int) < (l0.length : Int) + (l1.length : Int)) = true := decide_eq_true (by omega)
        have hgt2 : (256 : Int) < (l0.length : Int) + (l1.length : Int) := by omega
        clear hm hl
        go_enter Tryd.func16, Tryd.ntmps16
        go_wp2_with (first
          | (go_at_call 46; refine (cW _).mono ?_; rintro e w' ⟨rfl, hb⟩; have HB := Aside0.mk (below_then HB0.out HB0.out.size hb); clear hb HB0; have HB0 := HB; clear HB)
          | (go_at_call_of 34 (Value.slice A0 l0.length c0); (with_reducible refine (cA _ HB0.out).mono ?_); rintro e w' ⟨rfl, hb⟩; have HB := Aside0.mk hb; clear hb HB0; have HB0 := HB; clear HB)
          | (go_at_call_of 34 (Value.slice A1 l1.length c1); (with_reducible refine (cB _ HB0.out).mono ?_); rintro e w' ⟨rfl, hb⟩; have HB := Aside0.mk hb; clear hb HB0; have HB0 := HB; clear HB)
          | (go_at_call 22; (with_reducible refine (cN _ _ HB0.out).mono ?_); rintro e w' ⟨rfl, hb, hb2⟩; have HB := Aside0.mk hb; (try (have HC := Aside0.mk (Kd.C_below HC9.out hb2); clear HC9; have HC9 := HC; clear HC)); clear hb hb2 HB0; have HB0 := HB; clear HB))
        go_ret
        exact ⟨rfl, HB0.out⟩
    · rw [if_neg (fun hc => eb hc.2.1)] at h
      split at h
      case isFalse => cases h
      obtain rfl := Option.some.inj h
      clear h R0 R1
      have e1 : (b2 != 0) = true := bne_iff_ne.2 eb
      have e2 : (b2 == 0) = false := beq_eq_false_iff_ne.2 eb
      subst ea
      clear eb
      go_enter Tryd.func16, Tryd.ntmps16
      go_wp2_with (first
        | (go_at_call 46; refine (cW _).mono ?_; rintro e w' ⟨rfl, hb⟩; have HB := Aside0.mk (below_then HB0.out HB0.out.size hb); clear hb HB0; have HB0 := HB; clear HB)
        | (go_at_call_of 34 (Value.slice A0 l0.length c0); (with_reducible refine (cA _ HB0.out).mono ?_); rintro e w' ⟨rfl, hb⟩; have HB := Aside0.mk hb; clear hb HB0; have HB0 := HB; clear HB)
        | (go_at_call_of 34 (Value.slice A1 l1.length c1); (with_reducible refine (cB _ HB0.out).mono ?_); rintro e w' ⟨rfl, hb⟩; have HB := Aside0.mk hb; clear hb HB0; have HB0 := HB; clear HB)
        | (go_at_call 22; (with_reducible refine (cN _ _ HB0.out).mono ?_); rintro e w' ⟨rfl, hb, hb2⟩; have HB := Aside0.mk hb; (try (have HC := Aside0.mk (Kd.C_below HC9.out hb2); clear HC9; have HC9 := HC; clear HC)); clear hb hb2 HB0; have HB0 := HB; clear HB))
      go_ret
      exact ⟨rfl, HB0.out⟩
  · rw [if_neg (fun hc => ea hc.1)] at h
    split at h
    case isFalse => cases h
    obtain rfl := Option.some.inj h
    clear h R0 R1
    have e1 : (a2 != 0) = true := bne_iff_ne.2 ea
    have e2 : (a2 == 0) = false := beq_eq_false_iff_ne.2 ea
    clear ea
    go_enter Tryd.func16, Tryd.ntmps16
    go_wp2_with (first
      | (go_at_call 46; refine (cW _).mono ?_; rintro e w' ⟨rfl, hb⟩; have HB := Aside0.mk (below_then HB0.out HB0.out.size hb); clear hb HB0; have HB0 := HB; clear HB)
      | (go_at_call_of 34 (Value.slice A0 l0.length c0); (with_reducible refine (cA _ HB0.out).mono ?_); rintro e w' ⟨rfl, hb⟩; have HB := Aside0.mk hb; clear hb HB0; have HB0 := HB; clear HB)
      | (go_at_call_of 34 (Value.slice A1 l1.length c1); (with_reducible refine (cB _ HB0.out).mono ?_); rintro e w' ⟨rfl, hb⟩; have HB := Aside0.mk hb; clear hb HB0; have HB0 := HB; clear HB)
      | (go_at_call 22; (with_reducible refine (cN _ _ HB0.out).mono ?_); rintro e w' ⟨rfl, hb, hb2⟩; have HB := Aside0.mk hb; (try (have HC := Aside0.mk (Kd.C_below HC9.out hb2); clear HC9; have HC9 := HC; clear HC)); clear hb hb2 HB0; have HB0 := HB; clear HB))
    go_ret
    exact ⟨rfl, HB0.out⟩

end Go.Proofs.YtkplcmcmpdhigaaDoor.P
