import Derived.Test.YtilnamobmjngbaaDoorMg2
import Derived.Test.YtilnamobmjngbaaDoorP11
import Derived.Test.YtilnamobmjngbaaDoorP14
import Derived.Test.YtilnamobmjngbaaDoorP22
import Derived.Test.YtilnamobmjngbaaDoorP12
import Derived.Test.YtilnamobmjngbaaDoorP23
import Derived.Test.YtilnamobmjngbaaDoorP2
import Derived.Test.YtilnamobmjngbaaDoorP26
import Derived.Test.YtilnamobmjngbaaDoorP27
import Derived.Test.YtilnamobmjngbaaDoorP24
import Derived.Test.YtilnamobmjngbaaDoorP25
import Derived.Test.YtilnamobmjngbaaDoorP29
section
/- The reference's paths, without the program. -/
namespace Go.Proofs.YtilnamobmjngbaaDoor.Spec
open Go.RowKit Go.Proofs.YtilnamobmjngbaaDoorW.PrintWords Go.Proofs.YtilnamobmjngbaaDoor.P

theorem ev_PathsMay_loop (xs : List ByteArray) (hx : xs.length ≤ 4611686018427387904) (hz : ∀ x ∈ xs, x.size ≤ 4611686018427387904) : ∀ rest pre : List ByteArray, xs = pre ++ rest → (pre.all fun x => isP x.data.toList) = true →
    Ev (fun k => crucibleref1_PathsMay.l0 k xs (pre.length : Int)) (allP xs 8) := by
  intro rest
  induction rest with
  | nil =>
    intro pre h ha
    refine Ev.step (fun k => by rw [crucibleref1_PathsMay.l0]) (ev_neg (by rw [h]; simp) (ev_const ?_))
    rw [List.append_nil] at h
    subst h
    simp only [allP, ha, Bool.true_and, Option.some.injEq, decide_eq_decide]
    omega
  | cons x rest ih =>
    intro pre h ha
    have hl : xs.length = pre.length + (rest.length + 1) := by rw [h]; simp
    have hr : rdOf ByteArray.empty xs (pre.length : Int) = x := by rw [h]; exact rdOf_pre _ _ _ _
    have hw : wrap64 ((pre.length : Int) + 1) = ((pre ++ [x]).length : Int) := wrap_len pre x (by omega)
    refine Ev.step (fun k => by rw [crucibleref1_PathsMay.l0]) ?_
    simp only [hr, hw]
    refine ev_pos (by omega) (ev_pos (by omega) (ev_bind (ev_PathMay x (hz x (by rw [h]; simp))) ?_))
    cases hp : isP x.data.toList with
    | true => exact ev_pos rfl (ih (pre ++ [x]) (by simp [h]) (by simp [ha, hp]))
    | false =>
      refine ev_neg (by simp) (ev_const ?_)
      rw [show allP xs 8 = false by simp [allP, h, hp]]
theorem ev_PathsMay (xs : List ByteArray) (hx : xs.length ≤ 4611686018427387904) (hz : ∀ x ∈ xs, x.size ≤ 4611686018427387904) : Ev (fun k => crucibleref1_PathsMay.f k xs) (allP xs 8) :=
  Ev.congr (fun k => by rw [crucibleref1_PathsMay.f]; rfl) (ev_PathsMay_loop xs hx hz xs [] rfl rfl)
theorem sum_len {α : Type} (f : α → Nat) (xs : List α) : xs.length ≤ (xs.map fun x => f x + 1).sum := by
  induction xs with
  | nil => simp
  | cons x xs ih => simp; omega
theorem sum_mem {α : Type} (f : α → Nat) {xs : List α} {x : α} (h : x ∈ xs) : f x ≤ (xs.map f).sum := by
  induction xs with
  | nil => cases h
  | cons y xs ih =>
    rw [List.map_cons, List.sum_cons]
    rcases List.mem_cons.1 h with rfl | h
    · omega
    · have := ih h; omega
end Go.Proofs.YtilnamobmjngbaaDoor.Spec
end

section
/- Edges without the program: the reference's answer. -/
namespace Go.Proofs.YtilnamobmjngbaaDoor.Spec
open Go.RowKit Go.Proofs.YtilnamobmjngbaaDoorW.PrintWords Go.Proofs.YtilnamobmjngbaaDoor.P

set_option linter.unusedSimpArgs false
set_option linter.unusedVariables false
theorem edgeMay_is (o i m r : List ByteArray) (cmd pool : ByteArray) : (decide (0 < o.length) && (allP o 8 && (allP i 8 && (allP m 8 && (allP r 8 && (cmdOk cmd.data.toList && (pool.data.toList.isEmpty || nameMay pool.data.toList))))))) = edgeOk o i m r cmd pool := by
  unfold edgeOk
  cases decide (0 < o.length) <;> simp
theorem ev_EdgeMay (o i m r : List ByteArray) (cmd : ByteArray) (dep : Bool) (pool : ByteArray) (ho : o.length ≤ 4611686018427387904) (hi : i.length ≤ 4611686018427387904) (hm : m.length ≤ 4611686018427387904) (hr : r.length ≤ 4611686018427387904) (hc : cmd.size ≤ 4611686018427387904)
    (zo : ∀ x ∈ o, x.size ≤ 4611686018427387904) (zi : ∀ x ∈ i, x.size ≤ 4611686018427387904) (zm : ∀ x ∈ m, x.size ≤ 4611686018427387904) (zr : ∀ x ∈ r, x.size ≤ 4611686018427387904) (zp : pool.size ≤ 4611686018427387904) :
    Ev (fun k => crucibleref1_EdgeMay.f k o i m r cmd dep pool) (edgeOk o i m r cmd pool) := by
  refine Ev.congr (fun k => by rw [crucibleref1_EdgeMay.f]) ?_
  rw [← edgeMay_is]
  by_cases h0 : 0 < o.length
  · refine ev_pos (by omega) (ev_bind (ev_PathsMay o ho zo) ?_)
    simp only [h0, decide_true, Bool.true_and]
    cases allP o 8 with
    | false => exact ev_neg (by simp) (Ev.now _)
    | true =>
      refine ev_pos rfl (ev_bind (ev_PathsMay i hi zi) ?_)
      cases allP i 8 with
      | false => exact ev_neg (by simp) (Ev.now _)
      | true =>
        refine ev_pos rfl (ev_bind (ev_PathsMay m hm zm) ?_)
        cases allP m 8 with
        | false => exact ev_neg (by simp) (Ev.now _)
        | true =>
          refine ev_pos rfl (ev_bind (ev_PathsMay r hr zr) ?_)
          cases allP r 8 with
          | false => exact ev_neg (by simp) (Ev.now _)
          | true =>
            refine ev_pos rfl (ev_bind (ev_PlainR cmd 1 256 hc) ?_)
            have e : (cmd.data.toList.all plainB && decide (1 ≤ cmd.size) && decide (cmd.size ≤ 256)) = cmdOk cmd.data.toList := by unfold cmdOk; rw [size_data]
            rw [e]
            simp only [Bool.true_and]
            cases cmdOk cmd.data.toList with
            | false => exact ev_neg (by simp) (Ev.now _)
            | true =>
              refine ev_pos rfl ?_
              simp only [Bool.true_and]
              refine ev_split (fun hp => ev_const ?_) (fun hp => ev_bind (ev_NameMay pool zp) (ev_const ?_))
              · rw [toList_data] at hp
                rw [hp]; rfl
              · rw [toList_data] at hp
                have : pool.data.toList.isEmpty = false := by simpa using hp
                rw [this]; rfl
  · refine ev_neg (by omega) (ev_const ?_)
    simp [h0]
end Go.Proofs.YtilnamobmjngbaaDoor.Spec
end

section
/- Chapter 18 without the program: the reference's answer whether actions may be; sizes of what came in. -/
namespace Go.Proofs.YtilnamobmjngbaaDoor.Spec
open Go.RowKit Go.Proofs.YtilnamobmjngbaaDoorW.PrintWords Go.Proofs.YtilnamobmjngbaaDoor.P

theorem rdA_pre (pre : List (P.S33)) (x : P.S33) (rest : List (P.S33)) : rd_T33 (pre ++ x :: rest) (pre.length : Int) = x := by
  rw [act_rd _ _ (by simp)]
  simp
theorem ev_ActionsMay_loop (l : List (P.S33)) (hS : SmallA l) (hl : l.length ≤ 4611686018427387904) : ∀ rest pre : List (P.S33), l = pre ++ rest →
    Ev (fun k => crucibleref12_ActionsMay.l0 k l (pre.length : Int)) (rest.all actOk && decide (l.length ≤ 16)) := by
  intro rest
  induction rest with
  | nil =>
    intro pre h
    refine Ev.step (fun k => by rw [crucibleref12_ActionsMay.l0]) (ev_neg (by rw [h]; simp) (ev_const ?_))
    simp
    omega
  | cons x rest ih =>
    intro pre h
    have hlen : l.length = pre.length + (rest.length + 1) := by rw [h]; simp
    have hx := hS x (by rw [h]; simp)
    have hr : rd_T33 l (pre.length : Int) = x := by rw [h]; exact rdA_pre pre x rest
    have hw : wrap64 ((pre.length : Int) + 1) = ((pre ++ [x]).length : Int) := wrap_len pre x (by omega)
    refine Ev.step (fun k => by rw [crucibleref12_ActionsMay.l0, hr, hw]) ?_
    refine ev_pos (by omega) (ev_pos (by omega) (ev_bind (ev_PlainR x.f0 1 256 hx.1) ?_))
    have e : (x.f0.data.toList.all plainB && decide (1 ≤ x.f0.size) && decide (x.f0.size ≤ 256)) = cmdOk x.f0.data.toList := by unfold cmdOk; rw [size_data]
    rw [e, List.all_cons, actOk]
    cases cmdOk x.f0.data.toList with
    | false => exact ev_neg (by simp) (Ev.now _)
    | true =>
      refine ev_pos rfl (ev_bind (ev_PathsMay x.f1 hx.2.1 hx.2.2) ?_)
      cases allP x.f1 8 with
      | false => exact ev_neg (by simp) (Ev.now _)
      | true => exact ev_pos rfl (ih (pre ++ [x]) (by simp [h]))
theorem ev_ActionsMay (l : List (P.S33)) (hS : SmallA l) (hl : l.length ≤ 4611686018427387904) : Ev (fun k => crucibleref12_ActionsMay.f k l) (mayA l) := by
  refine Ev.congr (fun k => by rw [crucibleref12_ActionsMay.f]; rfl) (ev_eq (ev_ActionsMay_loop l hS hl l [] rfl) ?_)
  unfold mayA
  rw [Bool.and_comm]
theorem smallA_of {l : List (P.S33)} {B : Nat} (hb : (l.map fun x : P.S33 => (x.f0.size + 1) + ((x.f1.map fun s => s.size + 1).sum + 1) + 1).sum ≤ B) (hB : B ≤ 4611686018427387904) : SmallA l ∧ l.length ≤ B := by
  refine ⟨fun x hx => ?_, ?_⟩
  · have h1 := sum_mem (fun x : P.S33 => (x.f0.size + 1) + ((x.f1.map fun s => s.size + 1).sum + 1) + 1) hx
    have h2 := sum_len (fun s : ByteArray => s.size) x.f1
    refine ⟨by omega, by omega, fun y hy => ?_⟩
    have h3 := sum_mem (fun s : ByteArray => s.size + 1) hy
    omega
  · have := sum_len (fun x : P.S33 => (x.f0.size + 1) + ((x.f1.map fun s => s.size + 1).sum + 1)) l
    omega
end Go.Proofs.YtilnamobmjngbaaDoor.Spec
end

section
/- Disks in plain lists: what the reference finds. -/
namespace Go.Proofs.YtilnamobmjngbaaDoor.Spec
open Go.RowKit Go.Proofs.YtilnamobmjngbaaDoorW.PrintWords Go.Proofs.YtilnamobmjngbaaDoor.P

set_option linter.unusedSimpArgs false
set_option linter.unusedVariables false
theorem ev_RefFind_loop (clk : Int) (l : List (P.S72)) (s : ByteArray) (hl : l.length ≤ 1000000) (hs : ∀ x ∈ l, x.f0.size ≤ 4611686018427387904) (hm : mayD clk l = true) : ∀ rest pre : List (P.S72), l = pre ++ rest →
    Ev (fun k => crucibleref12_Find.l0 k s (pre.length : Int) clk l) (outF (lookF s rest)) := by
  intro rest
  induction rest with
  | nil =>
    intro pre h
    refine Ev.step (fun k => by rw [crucibleref12_Find.l0]) (ev_neg (by rw [h]; simp) ?_)
    refine Ev.step (fun k => by rw [crucibleref12_Find.j1]) ?_
    exact ev_neg (by simp) (Ev.now _)
  | cons x rest ih =>
    intro pre h
    have hlen : l.length = pre.length + (rest.length + 1) := by rw [h]; simp
    have hr : rd_T72 l (pre.length : Int) = x := by rw [rdF_lt l _ (by omega)]; simp [h]
    have hw : wrap64 ((pre.length : Int) + 1) = ((pre ++ [x]).length : Int) := wrap_len pre x (by omega)
    refine Ev.step (fun k => by rw [crucibleref12_Find.l0]) (ev_pos (by omega) (ev_bind (ev_DiskMay clk l hl hs) ?_))
    rw [hm]
    refine Ev.step (fun k => by rw [crucibleref12_Find.j1]) (ev_pos rfl (ev_pos (by omega) (ev_pos (by omega) ?_)))
    simp only [hr, hw]
    rw [lookF]
    by_cases e : x.f0.toList = s.toList
    · rw [if_pos e]
      exact ev_pos e (Ev.now _)
    · rw [if_neg e]
      exact ev_neg e (ih (pre ++ [x]) (by simp [h]))
theorem ev_RefFind (clk : Int) (l : List (P.S72)) (s : ByteArray) (hl : l.length ≤ 1000000) (hs : ∀ x ∈ l, x.f0.size ≤ 4611686018427387904) : Ev (fun k => crucibleref12_Find.f k clk l s) (findD clk l s) := by
  refine Ev.congr (fun k => by rw [crucibleref12_Find.f]) ?_
  unfold findD
  cases hm : mayD clk l with
  | true => exact ev_RefFind_loop clk l s hl hs hm l [] rfl
  | false =>
    refine Ev.step (fun k => by rw [crucibleref12_Find.l0]) ?_
    by_cases h0 : (0 : Int) < (l.length : Int)
    · refine ev_pos h0 (ev_bind (ev_DiskMay clk l hl hs) ?_)
      rw [hm]
      refine Ev.step (fun k => by rw [crucibleref12_Find.j1]) ?_
      exact ev_neg (by simp) (Ev.now _)
    · refine ev_neg h0 ?_
      refine Ev.step (fun k => by rw [crucibleref12_Find.j1]) ?_
      exact ev_neg (by simp) (Ev.now _)
end Go.Proofs.YtilnamobmjngbaaDoor.Spec
end

section
/- Chapter 18 without the program: numbers that are mixed. -/
namespace Go.Proofs.YtilnamobmjngbaaDoor.Spec
open Go.RowKit Go.Proofs.YtilnamobmjngbaaDoorW.PrintWords Go.Proofs.YtilnamobmjngbaaDoor.P

theorem mix_is {h x : Int} (h0 : 0 ≤ h) (h1 : h < 2147483647) (x0 : 0 ≤ x) (x1 : x ≤ 2147483648) : crn_mix h x = (31 * h + x) % 2147483647 := by
  unfold crn_mix
  rw [wrap_id (n := 31 * h) (by omega) (by omega), wrap_id (by omega) (by omega), Int.tmod_eq_emod_of_nonneg (by omega)]
theorem mix_in {h x : Int} (h0 : 0 ≤ h) (h1 : h < 2147483647) (x0 : 0 ≤ x) (x1 : x ≤ 2147483648) : 0 ≤ crn_mix h x ∧ crn_mix h x < 2147483647 := by
  rw [mix_is h0 h1 x0 x1]
  omega
theorem bytes_in : ∀ (l : List Int) (h : Int), (∀ b ∈ l, 0 ≤ b ∧ b ≤ 255) → 0 ≤ h → h < 2147483647 → 0 ≤ crn_bytes h l ∧ crn_bytes h l < 2147483647
  | [], h, _, h0, h1 => ⟨h0, h1⟩
  | b :: bs, h, hb, h0, h1 => by
    have hx := hb b (by simp)
    have := mix_in h0 h1 hx.1 (by omega)
    exact bytes_in bs _ (fun y hy => hb y (by simp [hy])) this.1 this.2
theorem bytesOf_in (s : ByteArray) : ∀ b ∈ bytesOf s, 0 ≤ b ∧ b ≤ 255 := by
  intro b hb
  unfold bytesOf at hb
  obtain ⟨c, _, rfl⟩ := List.mem_map.1 hb
  have := c.toNat_lt
  omega
theorem hash_in (s : ByteArray) : 0 ≤ crn_bytes 0 (bytesOf s) ∧ crn_bytes 0 (bytesOf s) < 2147483647 := bytes_in _ 0 (bytesOf_in s) (by omega) (by omega)
theorem bt_drop (s : ByteArray) (i : Nat) (h : i < s.size) : (bytesOf s).drop i = bt s (i : Int) :: (bytesOf s).drop (i + 1) := by
  rw [crn_drop _ i (by rw [bytesOf_length]; exact h), rd_bytesOf]
end Go.Proofs.YtilnamobmjngbaaDoor.Spec
end

section
/- Chapter 18 without the program: the reference's own answers (an action, what is read besides, what an edge makes). -/
namespace Go.Proofs.YtilnamobmjngbaaDoor.Spec
open Go.RowKit Go.Proofs.YtilnamobmjngbaaDoorW.PrintWords Go.Proofs.YtilnamobmjngbaaDoor.P

theorem ev_RefActionOf_loop (l : List (P.S33)) (s : ByteArray) (hS : SmallA l) (hl : l.length ≤ 4611686018427387904) (hm : mayA l = true) : ∀ rest pre : List (P.S33), l = pre ++ rest →
    Ev (fun k => crucibleref12_ActionOf.l0 k l s (pre.length : Int)) (outA s (lookA s rest)) := by
  intro rest
  induction rest with
  | nil =>
    intro pre h
    refine Ev.step (fun k => by rw [crucibleref12_ActionOf.l0]) (ev_neg (by rw [h]; simp) ?_)
    refine Ev.step (fun k => by rw [crucibleref12_ActionOf.j1]) ?_
    exact ev_neg (by simp) (Ev.now _)
  | cons x rest ih =>
    intro pre h
    have hlen : l.length = pre.length + (rest.length + 1) := by rw [h]; simp
    have hx := (allP_all ((mayA_is hm).2 x (by rw [h]; simp)).2).2
    have hr : rd_T33 l (pre.length : Int) = x := by rw [h]; exact rdA_pre pre x rest
    have hw : wrap64 ((pre.length : Int) + 1) = ((pre ++ [x]).length : Int) := wrap_len pre x (by omega)
    refine Ev.step (fun k => by rw [crucibleref12_ActionOf.l0]) (ev_pos (by omega) (ev_bind (ev_ActionsMay l hS hl) ?_))
    rw [hm]
    refine Ev.step (fun k => by rw [crucibleref12_ActionOf.j1, hr, hw]) (ev_pos rfl (ev_pos (by omega) (ev_pos (by omega) ?_)))
    rw [lookA]
    by_cases e : x.f0.toList = s.toList
    · rw [if_pos e]
      refine ev_pos e (ev_bindc (x := []) rfl (ev_pos (by simp only [List.length_nil]; omega) (ev_const ?_)))
      rw [toList_inj e]
      rfl
    · rw [if_neg e]
      exact ev_neg e (ih (pre ++ [x]) (by simp [h]))
theorem ev_RefActionOf (l : List (P.S33)) (s : ByteArray) (hS : SmallA l) (hl : l.length ≤ 4611686018427387904) : Ev (fun k => crucibleref12_ActionOf.f k l s) (actOf l s) := by
  refine Ev.congr (fun k => by rw [crucibleref12_ActionOf.f]) ?_
  unfold actOf
  cases hm : mayA l with
  | true =>
    rw [if_pos rfl]
    exact ev_RefActionOf_loop l s hS hl hm l [] rfl
  | false =>
    rw [if_neg (by simp)]
    refine Ev.step (fun k => by rw [crucibleref12_ActionOf.l0]) ?_
    by_cases h0 : (0 : Int) < (l.length : Int)
    · refine ev_pos h0 (ev_bind (ev_ActionsMay l hS hl) ?_)
      rw [hm]
      refine Ev.step (fun k => by rw [crucibleref12_ActionOf.j1]) ?_
      exact ev_neg (by simp) (Ev.now _)
    · refine ev_neg h0 ?_
      refine Ev.step (fun k => by rw [crucibleref12_ActionOf.j1]) ?_
      exact ev_neg (by simp) (Ev.now _)
/-- sizes of an edge's texts, as they come in -/
structure SmallT (o i m r : List ByteArray) (pool : ByteArray) : Prop where
  o : ∀ x ∈ o, x.size ≤ 4611686018427387904
  i : ∀ x ∈ i, x.size ≤ 4611686018427387904
  m : ∀ x ∈ m, x.size ≤ 4611686018427387904
  r : ∀ x ∈ r, x.size ≤ 4611686018427387904
  p : pool.size ≤ 4611686018427387904
theorem ev_RefReads (l : List (P.S33)) (o i m r : List ByteArray) (cmd : ByteArray) (dep : Bool) (pool : ByteArray) (h : SmallA l) (hl : l.length ≤ 4611686018427387904) (hE : SmallE o i m r cmd pool) (hT : SmallT o i m r pool) :
    Ev (fun k => crucibleref12_Reads.f k l o i m r cmd dep pool) (readsD l o i m r cmd dep pool) := by
  refine Ev.congr (fun k => by rw [crucibleref12_Reads.f]) (ev_bind (ev_ActionsMay l h hl) ?_)
  unfold readsD
  cases mayA l with
  | false =>
    refine ev_neg (by simp) ?_
    refine Ev.step (fun k => by rw [crucibleref12_Reads.j0]) ?_
    exact ev_pos rfl (Ev.now _)
  | true =>
    refine ev_pos rfl (ev_bind (ev_EdgeMay o i m r cmd dep pool hE.o hE.i hE.m hE.r hE.c hT.o hT.i hT.m hT.r hT.p) ?_)
    refine Ev.step (fun k => by rw [crucibleref12_Reads.j0]) ?_
    cases edgeOk o i m r cmd pool with
    | false => exact ev_pos rfl (Ev.now _)
    | true =>
      refine ev_neg (by simp) ?_
      cases dep with
      | false => exact ev_neg (by simp) (Ev.now _)
      | true => exact ev_pos rfl (ev_bind (ev_RefActionOf l cmd h hl) (Ev.now _))
theorem step_is (h x : Int) : crucibleref12_step.f h x = some (crn_mix h x) := rfl
theorem ev_RefRun_outs (v : Int) (o i m r : List ByteArray) (cmd : ByteArray) (dep : Bool) (pool : ByteArray) (ho : o.length ≤ 1000000) : ∀ n j, j + n = o.length →
    Ev (fun k => crucibleref12_RunEdge.l2 k v (crn_outs v j) (j : Int) o i m r cmd dep pool) (crn_outs v o.length, 0)
  | 0, j, e => by
    refine Ev.step (fun k => by rw [crucibleref12_RunEdge.l2]) (ev_neg (by omega) (ev_const ?_))
    rw [show j = o.length by omega]
  | n + 1, j, e => by
    have ih := ev_RefRun_outs v o i m r cmd dep pool ho n (j + 1) (by omega)
    rw [crn_outs_succ] at ih
    refine Ev.step (fun k => by rw [crucibleref12_RunEdge.l2, wrap_nat (by omega)]) ?_
    exact ev_pos (by omega) (ev_bindc (step_is _ _) (ev_pos (by rw [crn_outs_len]; omega) ih))
def outR (n : Nat) (fails : Bool) : Option Int → List Int × Int
  | none => ([], 1801)
  | some v => if fails = true then ([], 1801) else (crn_outs v n, 0)
theorem ev_RefRun_files (t : Int) (fs : List (P.S72)) (hm : mayD t fs = true) (hs : ∀ x ∈ fs, x.f0.size ≤ 4611686018427387904) (ss o i m r : List ByteArray) (cmd : ByteArray) (dep : Bool) (pool : ByteArray) (hss : ss.length ≤ 1000000) (ho : o.length ≤ 1000000) : ∀ (rest pre : List ByteArray) (h : Int) (fails : Bool), ss = pre ++ rest →
    Ev (fun k => crucibleref12_RunEdge.l1 k ss h fails (pre.length : Int) o i m r cmd dep pool t fs) (if fails = true then ([], 1801) else outR o.length false (lookAll fs h rest)) := by
  intro rest
  induction rest with
  | nil =>
    intro pre h fails e
    refine Ev.step (fun k => by rw [crucibleref12_RunEdge.l1]) (ev_neg (by rw [e]; simp) ?_)
    cases fails with
    | true => exact ev_pos rfl (Ev.now _)
    | false => exact ev_neg (by simp) (ev_RefRun_outs h o i m r cmd dep pool ho o.length 0 (by omega))
  | cons s rest ih =>
    intro pre h fails e
    have ho' := mayD_ok hm
    have hmany := ho'.many
    have hlen : ss.length = pre.length + (rest.length + 1) := by rw [e]; simp
    have hr : rdOf ByteArray.empty ss (pre.length : Int) = s := by rw [e]; exact rdOf_pre _ pre s rest
    have hw : wrap64 ((pre.length : Int) + 1) = ((pre ++ [s]).length : Int) := wrap_len pre s (by omega)
    have ef := ev_RefFind t fs s (by omega) hs
    unfold findD at ef
    rw [if_pos hm] at ef
    refine Ev.step (fun k => by rw [crucibleref12_RunEdge.l1, hr, hw]) (ev_pos (by omega) (ev_pos (by omega) (ev_bind ef ?_)))
    cases fails with
    | true =>
      refine ev_pos rfl (ev_bindc (step_is _ _) ?_)
      exact ih (pre ++ [s]) _ true (by simp [e])
    | false =>
      refine ev_neg (by simp) (ev_bindc (step_is _ _) ?_)
      have := ih (pre ++ [s]) (crn_mix h (outF (lookF s fs)).2.1) (!(outF (lookF s fs)).2.2.2) (by simp [e])
      rw [lookAll]
      cases hx : lookF s fs with
      | none =>
        rw [hx] at this
        exact this
      | some x =>
        rw [hx] at this
        exact this
theorem ev_RefRun_bytes (l : List (P.S33)) (hS : SmallA l) (hl : l.length ≤ 4611686018427387904) (ss o i m r : List ByteArray) (cmd : ByteArray) (dep : Bool) (pool : ByteArray) (t : Int) (fs : List (P.S72)) (hc : cmd.size ≤ 1000000) (Y : Int → List Int × Int)
    (hY : ∀ h, Ev (fun k => crucibleref12_RunEdge.l1 k ss h (actOf l cmd).2.2 0 o i m r cmd dep pool t fs) (Y h)) : ∀ n j h, j + n = cmd.size →
    Ev (fun k => crucibleref12_RunEdge.l0 k l ss h (j : Int) o i m r cmd dep pool t fs) (Y (crn_bytes h ((bytesOf cmd).drop j)))
  | 0, j, h, e => by
    refine Ev.step (fun k => by rw [crucibleref12_RunEdge.l0]) (ev_neg (by omega) (ev_bind (ev_RefActionOf l cmd hS hl) ?_))
    rw [List.drop_eq_nil_of_le (by rw [bytesOf_length]; omega)]
    exact hY h
  | n + 1, j, h, e => by
    have ih := ev_RefRun_bytes l hS hl ss o i m r cmd dep pool t fs hc Y hY n (j + 1) (crn_mix h (bt cmd (j : Int))) (by omega)
    rw [bt_drop cmd j (by omega), crn_bytes]
    have hb := bytesOf_in cmd (bt cmd (j : Int)) (by have := List.mem_of_mem_drop (i := j) (a := bt cmd (j : Int)) (l := bytesOf cmd) (by rw [bt_drop cmd j (by omega)]; simp); exact this)
    refine Ev.step (fun k => by rw [crucibleref12_RunEdge.l0, wrap_nat (by omega), wrap_id (by omega) (by omega)]) ?_
    exact ev_pos (by omega) (ev_pos (by omega) (ev_bindc (step_is _ _) ih))
theorem ev_RefRun (l : List (P.S33)) (o i m r : List ByteArray) (cmd : ByteArray) (dep : Bool) (pool : ByteArray) (t : Int) (fs : List (P.S72)) (h : SmallA l) (hl : l.length ≤ 4611686018427387904) (hE : SmallE o i m r cmd pool) (hT : SmallT o i m r pool) (hf : fs.length ≤ 1000000)
    (hs : ∀ x ∈ fs, x.f0.size ≤ 4611686018427387904) : Ev (fun k => crucibleref12_RunEdge.f k l o i m r cmd dep pool t fs) (runD l o i m r cmd dep pool t fs) := by
  refine Ev.congr (fun k => by rw [crucibleref12_RunEdge.f]) (ev_bind (ev_RefReads l o i m r cmd dep pool h hl hE hT) ?_)
  unfold runD
  by_cases h0 : (readsD l o i m r cmd dep pool).2 = 0
  · refine ev_pos h0 (ev_bind (ev_DiskMay t fs hf hs) ?_)
    refine Ev.step (fun k => by rw [crucibleref12_RunEdge.j0]) ?_
    cases hm : mayD t fs with
    | false => exact ev_pos rfl (ev_const (by rw [if_neg (by simp)]))
    | true =>
      obtain ⟨g1, g2, g3⟩ := readsD_ok h0
      have e := edgeOk_is g2
      have b1 := (allP_all e.po).2
      have b2 := (allP_all e.pi).2
      have b3 := (allP_all e.pm).2
      have b4 := (allP_all g3).2
      have b5 := cmd_len e.pc
      rw [if_pos ⟨h0, rfl⟩]
      refine ev_neg (by simp) (ev_bindc (x := []) rfl (ev_pos (by simp only [List.length_nil]; omega) (ev_bindc (x := i) rfl (ev_pos (by omega) (ev_bindc (x := i ++ m) rfl (ev_pos (by rw [List.length_append]; omega) ?_))))))
      have hss : (i ++ m ++ (readsD l o i m r cmd dep pool).1).length ≤ 1000000 := by rw [List.length_append, List.length_append]; omega
      have := ev_RefRun_bytes l h hl (i ++ m ++ (readsD l o i m r cmd dep pool).1) o i m r cmd dep pool t fs (by omega) _ (fun v => ev_RefRun_files t fs hm hs _ o i m r cmd dep pool hss (by omega) _ [] v (actOf l cmd).2.2 rfl) cmd.size 0 0 (by omega)
      refine ev_eq this ?_
      rw [List.drop_zero]
      cases hL : lookAll fs (crn_bytes 0 (bytesOf cmd)) (i ++ m ++ (readsD l o i m r cmd dep pool).1) with
      | none => unfold endD outR; split <;> rfl
      | some v =>
        rw [show endD l cmd o.length (some v) = if (actOf l cmd).2.2 = true then ([], 1801) else (crn_outs v o.length, 0) from rfl]
        rfl
  · refine ev_neg h0 ?_
    refine Ev.step (fun k => by rw [crucibleref12_RunEdge.j0]) ?_
    exact ev_pos rfl (ev_const (by rw [if_neg (fun q => h0 q.1)]))
end Go.Proofs.YtilnamobmjngbaaDoor.Spec
end

section
/- Chapter 18 in plain lists: copies, sameness and spoiling of actions, edges, disks. -/
namespace Go.Proofs.YtilnamobmjngbaaDoor.Spec
open Go.RowKit Go.Proofs.YtilnamobmjngbaaDoorW.PrintWords Go.Proofs.YtilnamobmjngbaaDoor.P

theorem evt18_and {p q : Nat → Prop} (hp : ∃ K, ∀ k, K ≤ k → p k) (hq : ∃ K, ∀ k, K ≤ k → q k) : ∃ K, ∀ k, K ≤ k → p k ∧ q k := by
  obtain ⟨K1, h1⟩ := hp
  obtain ⟨K2, h2⟩ := hq
  exact ⟨max K1 K2, fun k hk => ⟨h1 k (by omega), h2 k (by omega)⟩⟩
theorem evt18_c {p : Prop} (h : p) : ∃ K : Nat, ∀ k, K ≤ k → p := ⟨0, fun _ _ => h⟩
theorem evt18_if {α : Type} {g f : Nat → Option α} {r : α} {p : Nat → Prop} {inst : ∀ k, Decidable (p k)} (hp : ∃ K, ∀ k, K ≤ k → p k) (e : Ev g r) : Ev (fun k => if p k then g k else f k) r := by
  obtain ⟨K1, h1⟩ := hp
  obtain ⟨K2, h2⟩ := e
  exact ⟨max K1 K2, fun k hk => by show (if p k then g k else f k) = some r; rw [if_pos (h1 k (by omega))]; exact h2 k (by omega)⟩
theorem evt18_is {α : Type} {g : Nat → Option α} {r : α} (e : Ev g r) : ∃ K, ∀ k, K ≤ k → g k = some r := e
def spoil18 (x : ByteArray) : ByteArray := (⟨#[126]⟩ : ByteArray) ++ x
theorem ev_Spoil18_loop : ∀ (rest pre : List ByteArray), pre.length + rest.length ≤ 4611686018427387904 → (∀ x ∈ rest, x.size ≤ 4611686018427387904) → Ev (fun k => cruciblelaw0_SpoilTexts.l0 k (pre.map spoil18 ++ rest) (pre.length : Int)) ((pre ++ rest).map spoil18)
  | [], pre, h, hs => Ev.step (fun k => by rw [cruciblelaw0_SpoilTexts.l0]) (ev_neg (by simp) (ev_const (by simp)))
  | x :: rest, pre, h, hs => by
    have hx := hs x (by simp)
    have hp : (pre.map spoil18).length = pre.length := List.length_map _
    have hr : rdOf ByteArray.empty (pre.map spoil18 ++ x :: rest) (pre.length : Int) = x := by
      have := rdOf_pre ByteArray.empty (pre.map spoil18) x rest
      rwa [hp] at this
    have hw : wrap64 ((pre.length : Int) + 1) = ((pre ++ [x]).length : Int) := wrap_len pre x (by omega)
    have hset : (pre.map spoil18 ++ x :: rest).set (pre.length : Int).toNat ((⟨#[126]⟩ : ByteArray) ++ x) = (pre ++ [x]).map spoil18 ++ rest := by
      rw [Int.toNat_natCast, ← hp]
      simp [spoil18]
    have ih := ev_Spoil18_loop rest (pre ++ [x]) (by rw [List.length_append, List.length_singleton]; rw [List.length_cons] at h; omega) (fun y hy => hs y (by simp [hy]))
    refine Ev.step (fun k => by rw [cruciblelaw0_SpoilTexts.l0]) ?_
    rw [hr, hset, hw]
    rw [List.append_assoc, List.singleton_append] at ih
    exact ev_pos (by rw [List.length_append, hp, List.length_cons]; omega) (ev_pos (by omega) (ev_pos (by omega) ih))
theorem ev_Spoil18 (l : List ByteArray) (h : l.length ≤ 4611686018427387904) (hs : ∀ x ∈ l, x.size ≤ 4611686018427387904) : Ev (fun k => cruciblelaw0_SpoilTexts.f k l) (l.map spoil18) :=
  Ev.congr (fun k => by rw [cruciblelaw0_SpoilTexts.f]; rfl) (ev_Spoil18_loop l [] (by simpa using h) hs)
theorem ev_SpoilI_loop : ∀ n (l : List Int) (j : Nat), j + n = l.length → l.length ≤ 4611686018427387904 → ∃ r, Ev (fun k => cruciblelaw0_SpoilInts.l0 k l (j : Int)) r
  | 0, l, j, e, h => ⟨l, Ev.step (fun k => by rw [cruciblelaw0_SpoilInts.l0]) (ev_neg (by omega) (Ev.now _))⟩
  | n + 1, l, j, e, h => by
    obtain ⟨r, hr⟩ := ev_SpoilI_loop n (l.set (j : Int).toNat (wrap64 ((-9) - (rd l (j : Int))))) (j + 1) (by rw [List.length_set]; omega) (by rw [List.length_set]; omega)
    refine ⟨r, Ev.step (fun k => by rw [cruciblelaw0_SpoilInts.l0, wrap_nat (by omega)]) ?_⟩
    exact ev_pos (by omega) (ev_pos (by omega) hr)
theorem ev_SpoilI (l : List Int) (h : l.length ≤ 4611686018427387904) : ∃ r, Ev (fun k => cruciblelaw0_SpoilInts.f k l) r := by
  obtain ⟨r, hr⟩ := ev_SpoilI_loop l.length l 0 (by omega) h
  exact ⟨r, Ev.congr (fun k => by rw [cruciblelaw0_SpoilInts.f]; rfl) hr⟩
theorem ev_SameI_loop (l : List Int) (h : l.length ≤ 4611686018427387904) : ∀ n j, j + n = l.length → Ev (fun k => cruciblelaw0_SameInts.l0 k l l (j : Int)) true
  | 0, j, e => Ev.step (fun k => by rw [cruciblelaw0_SameInts.l0]) (ev_neg (by omega) (Ev.now _))
  | n + 1, j, e => by
    have ih := ev_SameI_loop l h n (j + 1) (by omega)
    refine Ev.step (fun k => by rw [cruciblelaw0_SameInts.l0, wrap_nat (by omega)]) ?_
    exact ev_pos (by omega) (ev_pos (by omega) (ev_pos (by omega) (ev_pos rfl ih)))
theorem ev_SameI (l : List Int) (h : l.length ≤ 4611686018427387904) : Ev (fun k => cruciblelaw0_SameInts.f k l l) true :=
  Ev.congr (fun k => by rw [cruciblelaw0_SameInts.f]) (ev_pos rfl (show Ev (fun k => cruciblelaw0_SameInts.l0 k l l 0) true from ev_SameI_loop l h l.length 0 (by omega)))
theorem ev_SameT (l : List ByteArray) (h : l.length ≤ 4611686018427387904) : Ev (fun k => cruciblelaw0_SameTexts.f k l l) true := ev_eq (ev_Same l l h) (decide_eq_true rfl)
theorem ev_SameA_loop (l : List (P.S33)) (hl : l.length ≤ 4611686018427387904) (hx : ∀ x ∈ l, x.f1.length ≤ 4611686018427387904) : ∀ rest pre : List (P.S33), l = pre ++ rest → Ev (fun k => cruciblelaw0_SameActions.l0 k l l (pre.length : Int)) true := by
  intro rest
  induction rest with
  | nil =>
    intro pre h
    exact Ev.step (fun k => by rw [cruciblelaw0_SameActions.l0]) (ev_neg (by rw [h]; simp) (Ev.now _))
  | cons x rest ih =>
    intro pre h
    have hlen : l.length = pre.length + (rest.length + 1) := by rw [h]; simp
    have hr : rd_T33 l (pre.length : Int) = x := by rw [h, act_rd _ _ (by simp)]; simp
    have hw : wrap64 ((pre.length : Int) + 1) = ((pre ++ [x]).length : Int) := wrap_len pre x (by omega)
    refine Ev.step (fun k => by rw [cruciblelaw0_SameActions.l0, hr, hw]) ?_
    exact ev_pos (by omega) (ev_pos (by omega) (ev_pos (by omega) (ev_pos rfl (ev_neg (by simp) (ev_bind (ev_SameT x.f1 (hx x (by rw [h]; simp))) (ev_pos rfl (ih (pre ++ [x]) (by simp [h]))))))))
theorem ev_SameA (l : List (P.S33)) (hl : l.length ≤ 4611686018427387904) (hx : ∀ x ∈ l, x.f1.length ≤ 4611686018427387904) : Ev (fun k => cruciblelaw0_SameActions.f k l l) true :=
  Ev.congr (fun k => by rw [cruciblelaw0_SameActions.f]) (ev_pos rfl (show Ev (fun k => cruciblelaw0_SameActions.l0 k l l 0) true from ev_SameA_loop l hl hx l [] rfl))
theorem ev_SameE (o i m r : List ByteArray) (cmd : ByteArray) (dep : Bool) (pool : ByteArray) (ho : o.length ≤ 4611686018427387904) (hi : i.length ≤ 4611686018427387904) (hm : m.length ≤ 4611686018427387904) (hr : r.length ≤ 4611686018427387904) :
    Ev (fun k => cruciblelaw0_SameEdge.f k o i m r cmd dep pool o i m r cmd dep pool) true :=
  Ev.congr (fun k => by rw [cruciblelaw0_SameEdge.f]) (evt18_if (evt18_and (evt18_and (evt18_is (ev_SameT o ho)) (evt18_and (evt18_is (ev_SameT i hi)) (evt18_and (evt18_is (ev_SameT m hm)) (evt18_is (ev_SameT r hr))))) (evt18_c (p := cmd.toList = cmd.toList ∧ dep = dep ∧ pool.toList = pool.toList) ⟨rfl, rfl, rfl⟩)) (Ev.now _))
theorem ev_SameFiles18_loop (l : List (P.S72)) (hl : l.length ≤ 1000000) : ∀ n i, i + n = l.length → Ev (fun k => cruciblelaw0_SameFiles.l0 k l l (i : Int)) true
  | 0, i, h => by
    refine Ev.step (fun k => by rw [cruciblelaw0_SameFiles.l0]) ?_
    exact ev_neg (by omega) (Ev.now _)
  | n + 1, i, h => by
    refine Ev.step (fun k => by rw [cruciblelaw0_SameFiles.l0]) ?_
    refine ev_pos (by omega) (ev_pos (by omega) (ev_pos (by omega) (ev_neg (by simp) ?_)))
    have := ev_SameFiles18_loop l hl n (i + 1) (by omega)
    rwa [← wrap_nat (by omega)] at this
theorem ev_SameD18 (t : Int) (l : List (P.S72)) (hl : l.length ≤ 1000000) : Ev (fun k => cruciblelaw0_SameDisk.f k t l t l) true :=
  Ev.congr (fun k => by rw [cruciblelaw0_SameDisk.f]) (ev_pos rfl (ev_bind (Ev.congr (fun k => by rw [cruciblelaw0_SameFiles.f]) (ev_pos rfl (show Ev (fun k => cruciblelaw0_SameFiles.l0 k l l 0) true from ev_SameFiles18_loop l hl l.length 0 (by omega)))) (Ev.now _)))
theorem ev_CopyA_loop (l : List (P.S33)) (hl : l.length ≤ 1048576) (hx : ∀ x ∈ l, x.f1.length ≤ 1048576) : ∀ rest pre : List (P.S33), l = pre ++ rest → Ev (fun k => cruciblelaw0_CopyActions.l0 k l pre (pre.length : Int)) l := by
  intro rest
  induction rest with
  | nil =>
    intro pre h
    refine Ev.step (fun k => by rw [cruciblelaw0_CopyActions.l0]) (ev_neg (by rw [h]; simp) (ev_const ?_))
    rw [h, List.append_nil]
  | cons x rest ih =>
    intro pre h
    have hlen : l.length = pre.length + (rest.length + 1) := by rw [h]; simp
    have hr : rd_T33 l (pre.length : Int) = x := by rw [h, act_rd _ _ (by simp)]; simp
    have hw : wrap64 ((pre.length : Int) + 1) = ((pre ++ [x]).length : Int) := wrap_len pre x (by omega)
    have hb := hx x (by rw [h]; simp)
    refine Ev.step (fun k => by rw [cruciblelaw0_CopyActions.l0, hr, hw]) ?_
    exact ev_pos (by omega) (ev_pos (by omega) (ev_bindc (x := []) rfl (ev_pos (by simp only [List.length_nil]; omega) (ev_pos (by omega) (ih (pre ++ [x]) (by simp [h]))))))
theorem ev_CopyA (l : List (P.S33)) (hl : l.length ≤ 1048576) (hx : ∀ x ∈ l, x.f1.length ≤ 1048576) : Ev (fun k => cruciblelaw0_CopyActions.f k l) l :=
  Ev.congr (fun k => by rw [cruciblelaw0_CopyActions.f]; rfl) (ev_CopyA_loop l hl hx l [] rfl)
theorem copyE_is (o i m r : List ByteArray) (cmd : ByteArray) (dep : Bool) (pool : ByteArray) (ho : o.length ≤ 1048576) (hi : i.length ≤ 1048576) (hm : m.length ≤ 1048576) (hr : r.length ≤ 1048576) :
    cruciblelaw0_CopyEdge.f o i m r cmd dep pool = some (o, i, m, r, cmd, dep, pool) := by
  unfold cruciblelaw0_CopyEdge.f
  simp only [Option.bind_some, List.nil_append, List.length_nil, Nat.zero_add]
  rw [if_pos (by omega), if_pos (by omega), if_pos (by omega), if_pos (by omega)]
theorem copyD_is (t : Int) (l : List (P.S72)) (hl : l.length ≤ 1048576) : cruciblelaw0_CopyDisk.f t l = some (t, l) := by
  unfold cruciblelaw0_CopyDisk.f
  simp only [Option.bind_some, List.nil_append, List.length_nil, Nat.zero_add]
  rw [if_pos (by omega)]
end Go.Proofs.YtilnamobmjngbaaDoor.Spec
end

section
/- The law Commands without the program. -/
namespace Go.Proofs.YtilnamobmjngbaaDoor.Spec
open Go.RowKit Go.Proofs.YtilnamobmjngbaaDoorW.PrintWords Go.Proofs.YtilnamobmjngbaaDoor.P

theorem clkC_wf {n : Int} (h : (Lit.int .i64 n).wf = true) : n ≤ 9223372036854775807 := by
  simp only [Lit.wf, Bool.and_eq_true, decide_eq_true_eq] at h
  exact h.2
theorem sumC_files : ∀ l : List (P.S72), 3 * l.length ≤ (l.map fun x : P.S72 => (x.f0.size + 1) + 1 + 1).sum ∧ ∀ x ∈ l, x.f0.size ≤ (l.map fun x : P.S72 => (x.f0.size + 1) + 1 + 1).sum
  | [] => ⟨Nat.le_refl _, fun x h => absurd h List.not_mem_nil⟩
  | y :: ys => by
    obtain ⟨h1, h2⟩ := sumC_files ys
    rw [List.map_cons, List.sum_cons, List.length_cons]
    refine ⟨by omega, fun x hx => ?_⟩
    rcases List.mem_cons.1 hx with rfl | hx
    · omega
    · have := h2 x hx
      omega
theorem sumC_texts : ∀ l : List ByteArray, l.length ≤ (l.map fun s => s.size + 1).sum ∧ ∀ x ∈ l, x.size ≤ (l.map fun s => s.size + 1).sum
  | [] => ⟨Nat.le_refl _, fun x h => absurd h List.not_mem_nil⟩
  | y :: ys => by
    obtain ⟨h1, h2⟩ := sumC_texts ys
    rw [List.map_cons, List.sum_cons, List.length_cons]
    refine ⟨by omega, fun x hx => ?_⟩
    rcases List.mem_cons.1 hx with rfl | hx
    · omega
    · have := h2 x hx
      omega
theorem sumC_acts : ∀ l : List (P.S33), ∀ x ∈ l, x.f1.length ≤ (l.map fun x : P.S33 => (x.f0.size + 1) + ((x.f1.map fun s => s.size + 1).sum + 1) + 1).sum
  | [], x, h => absurd h List.not_mem_nil
  | y :: ys, x, hx => by
    rw [List.map_cons, List.sum_cons]
    rcases List.mem_cons.1 hx with rfl | hx
    · have := (sumC_texts x.f1).1
      omega
    · have := sumC_acts ys x hx
      omega
theorem crn_endlen (l : List (P.S33)) (cmd : ByteArray) (n : Nat) : ∀ x, (endD l cmd n x).1.length ≤ n
  | none => Nat.zero_le _
  | some v => by
    rw [show endD l cmd n (some v) = if (actOf l cmd).2.2 = true then ([], 1801) else (crn_outs v n, 0) from rfl]
    split
    · exact Nat.zero_le _
    · exact Nat.le_of_eq (crn_outs_len v n)
theorem runD_len (l : List (P.S33)) (o i m r : List ByteArray) (cmd : ByteArray) (dep : Bool) (pool : ByteArray) (t : Int) (fs : List (P.S72)) : (runD l o i m r cmd dep pool t fs).1.length ≤ o.length := by
  unfold runD
  split
  · exact crn_endlen l cmd o.length _
  · exact Nat.zero_le _
theorem path_sz {x : ByteArray} (h : isP x.data.toList = true) : x.size ≤ 4611686018427387904 := by
  have := bulk_paths (xs := [x]) (m := 1) (by unfold allP; simp [h])
  have h2 : bulk (datas [x]) = x.size + 1 := by simp [bulk, datas]
  omega
theorem allP_small {xs : List ByteArray} (h : allP xs 8 = true) : xs.length ≤ 4611686018427387904 ∧ ∀ x ∈ xs, x.size ≤ 4611686018427387904 :=
  ⟨by have := (allP_all h).2; omega, fun x hx => path_sz ((allP_all h).1 x hx)⟩
theorem readsD_small (l : List (P.S33)) (o i m r : List ByteArray) (cmd : ByteArray) (dep : Bool) (pool : ByteArray) : allP (readsD l o i m r cmd dep pool).1 8 = true := by
  unfold readsD
  split
  · split
    · exact actOf_len l cmd
    · rfl
  · rfl
theorem commands_true (l : List (P.S33)) (o i m r : List ByteArray) (cmd : ByteArray) (dep : Bool) (pool : ByteArray) (t : Int) (fs : List (P.S72)) (s : ByteArray)
    (hb : (l.map fun x : P.S33 => (x.f0.size + 1) + ((x.f1.map fun s => s.size + 1).sum + 1) + 1).sum + 1 + ((o.map fun s => s.size + 1).sum + 1) + ((i.map fun s => s.size + 1).sum + 1) + ((m.map fun s => s.size + 1).sum + 1) + ((r.map fun s => s.size + 1).sum + 1) + (cmd.size + 1) + 1 + (pool.size + 1) + 1 + ((fs.map fun x : P.S72 => (x.f0.size + 1) + 1 + 1).sum + 1) + (s.size + 1) ≤ 1048576)
    {p1 p2 p3 p4 p5 p6 p7 p9 p10 : Prop} (_ : p1) (_ : p2) (_ : p3) (_ : p4) (_ : p5) (_ : p6) (_ : p7) (hc : (Lit.int .i64 t).wf = true) (_ : p9) (_ : p10) :
    ∃ k, cruciblelaw18_Commands.f k l o i m r cmd dep pool t fs s = some true := by
  obtain ⟨hS, hl⟩ := smallA_of (l := l) (B := 1048576) (by omega) (by omega)
  have hx := sumC_acts l
  obtain ⟨s1, z1⟩ := sumC_texts o
  obtain ⟨s2, z2⟩ := sumC_texts i
  obtain ⟨s3, z3⟩ := sumC_texts m
  obtain ⟨s4, z4⟩ := sumC_texts r
  obtain ⟨s5, z5⟩ := sumC_files fs
  have hx' : ∀ x ∈ l, x.f1.length ≤ 1048576 := fun x h => by have := hx x h; omega
  have hz : ∀ x ∈ fs, x.f0.size ≤ 4611686018427387904 := fun x h => by have := z5 x h; omega
  have hE : SmallE o i m r cmd pool := ⟨by omega, by omega, by omega, by omega, by omega⟩
  have hT : SmallT o i m r pool := ⟨fun x h => by have := z1 x h; omega, fun x h => by have := z2 x h; omega, fun x h => by have := z3 x h; omega, fun x h => by have := z4 x h; omega, by omega⟩
  have lo : o.length ≤ 1048576 := by omega
  have li : i.length ≤ 1048576 := by omega
  have lm : m.length ≤ 1048576 := by omega
  have lr : r.length ≤ 1048576 := by omega
  have lf : fs.length ≤ 1000000 := by omega
  clear hb s1 s2 s3 s4 s5 z1 z2 z3 z4 z5 hx
  have ht := clkC_wf hc
  have ll : l.length ≤ 4611686018427387904 := by omega
  obtain ⟨a1, a2⟩ := allP_small (actOf_len l s)
  obtain ⟨b1, b2⟩ := allP_small (readsD_small l o i m r cmd dep pool)
  have c1 := runD_len l o i m r cmd dep pool t fs
  have c2 : (runD l o i m r cmd dep pool t fs).1.length ≤ 4611686018427387904 := by omega
  obtain ⟨sc, hsc⟩ := ev_SpoilI _ c2
  have hx2 : ∀ x ∈ l, x.f1.length ≤ 4611686018427387904 := fun x h => by have := hx' x h; omega
  refine Ev.rounds (Ev.congr (fun k => by rw [cruciblelaw18_Commands.f]) (ev_bind (ev_Action l s hS ll) (ev_bind (ev_Reads l o i m r cmd dep pool hS ll hE) (ev_bind (ev_Run l o i m r cmd dep pool t fs hS ll hE lf ht) (ev_bind (ev_Spoil18 _ a1 a2) (ev_bind (ev_Spoil18 _ b1 b2) (ev_bind hsc ?_)))))))
  refine evt18_if (evt18_and (evt18_and (evt18_and (evt18_is (ev_CopyA l hl hx')) (evt18_and (evt18_c (copyE_is o i m r cmd dep pool lo li lm lr)) (evt18_c (copyD_is t fs (by omega))))) (evt18_and (evt18_is (ev_RefActionOf l s hS ll)) (evt18_and (evt18_is (ev_RefReads l o i m r cmd dep pool hS ll hE hT)) (evt18_is (ev_RefRun l o i m r cmd dep pool t fs hS ll hE hT lf hz)))))
    (evt18_and (evt18_and (evt18_is (ev_SameT _ a1)) (evt18_and (evt18_is (ev_SameT _ b1)) (evt18_is (ev_SameI _ c2)))) (evt18_and (evt18_is (ev_SameA l ll hx2)) (evt18_and (evt18_is (ev_SameE o i m r cmd dep pool hE.o hE.i hE.m hE.r)) (evt18_is (ev_SameD18 t fs lf)))))) (Ev.now _)
end Go.Proofs.YtilnamobmjngbaaDoor.Spec
end
