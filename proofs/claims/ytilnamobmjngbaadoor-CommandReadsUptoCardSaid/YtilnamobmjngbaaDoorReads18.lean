/- The law CommandReads without the program. -/
import Derived.Test.YtilnamobmjngbaaDoorCmdR
import Derived.Test.YtilnamobmjngbaaDoorPut18
import Derived.Test.YtilnamobmjngbaaDoorP35
import Derived.Test.YtilnamobmjngbaaDoorP27
namespace Go.Proofs.YtilnamobmjngbaaDoor.Spec
open Go.RowKit Go.Proofs.YtilnamobmjngbaaDoorW.PrintWords Go.Proofs.YtilnamobmjngbaaDoor.P

theorem ev_SameI_loop (l : List Int) (hl : l.length ≤ 1000000) : ∀ n i, i + n = l.length → Ev (fun k => cruciblelaw0_SameInts.l0 k l l (i : Int)) true
  | 0, i, h => by
    refine Ev.step (fun k => by rw [cruciblelaw0_SameInts.l0]) ?_
    exact ev_neg (by omega) (Ev.now _)
  | n + 1, i, h => by
    refine Ev.step (fun k => by rw [cruciblelaw0_SameInts.l0]) ?_
    refine ev_pos (by omega) (ev_pos (by omega) (ev_pos (by omega) (ev_pos rfl ?_)))
    have := ev_SameI_loop l hl n (i + 1) (by omega)
    rwa [← wrap_nat (by omega)] at this
theorem ev_SameI (l : List Int) (hl : l.length ≤ 1000000) : Ev (fun k => cruciblelaw0_SameInts.f k l l) true :=
  Ev.congr (fun k => by rw [cruciblelaw0_SameInts.f]) (ev_pos rfl (show Ev (fun k => cruciblelaw0_SameInts.l0 k l l 0) true from ev_SameI_loop l hl l.length 0 (by omega)))
theorem endD_bad {l : List (P.S33)} {cmd : ByteArray} {n : Nat} : ∀ {o : Option Int}, (endD l cmd n o).2 ≠ 0 → (endD l cmd n o).1 = []
  | none, _ => rfl
  | some v, h => by
    rw [show endD l cmd n (some v) = if (actOf l cmd).2.2 = true then ([], 1801) else (crn_outs v n, 0) from rfl] at h ⊢
    split
    · rfl
    · rename_i e
      rw [if_neg e] at h
      exact absurd rfl h
theorem endD_ok {l : List (P.S33)} {cmd : ByteArray} {n : Nat} : ∀ {o : Option Int}, (endD l cmd n o).2 = 0 → (endD l cmd n o).1.length = n
  | none, h => absurd (show (1801 : Int) = 0 from h) (by decide)
  | some v, h => by
    rw [show endD l cmd n (some v) = if (actOf l cmd).2.2 = true then ([], 1801) else (crn_outs v n, 0) from rfl] at h ⊢
    split
    · rename_i e
      rw [if_pos e] at h
      exact absurd h (by decide)
    · exact crn_outs_len v n
theorem runD_bad {l : List (P.S33)} {o i m r : List ByteArray} {cmd : ByteArray} {dep : Bool} {pool : ByteArray} {t : Int} {fs : List (P.S72)} (h : (runD l o i m r cmd dep pool t fs).2 ≠ 0) : (runD l o i m r cmd dep pool t fs).1 = [] := by
  unfold runD at h ⊢
  split
  · rename_i e
    rw [if_pos e] at h
    exact endD_bad h
  · rfl
theorem runD_ok {l : List (P.S33)} {o i m r : List ByteArray} {cmd : ByteArray} {dep : Bool} {pool : ByteArray} {t : Int} {fs : List (P.S72)} (h : (runD l o i m r cmd dep pool t fs).2 = 0) :
    (readsD l o i m r cmd dep pool).2 = 0 ∧ mayD t fs = true ∧ (runD l o i m r cmd dep pool t fs).1.length = o.length := by
  unfold runD at h ⊢
  split
  · rename_i e
    rw [if_pos e] at h
    exact ⟨e.1, e.2, endD_ok h⟩
  · rename_i e
    rw [if_neg e] at h
    exact absurd h (by decide)
theorem lookAll_ins (f : P.S72) (l : List (P.S72)) (hp : l.Pairwise fun a b => a.f0.toList < b.f0.toList) : ∀ (ss : List ByteArray) (h : Int), (∀ s ∈ ss, s.toList ≠ f.f0.toList) → lookAll (insF f l) h ss = lookAll l h ss
  | [], h, _ => rfl
  | s :: ss, h, hn => by
    rw [lookAll, lookAll, lookF_ins f s l hp, if_neg (fun e => hn s (by simp) e.symm)]
    cases lookF s l with
    | none => rfl
    | some x => exact lookAll_ins f l hp ss _ (fun y hy => hn y (by simp [hy]))
theorem putD_is {clk : Int} {l : List (P.S72)} {s : ByteArray} {x : Int} (h : (putD clk l s x).2.2 = 0) :
    putD clk l s x = (clk + 1, insF ⟨s, x, clk + 1⟩ l, 0) ∧ mayD clk l = true ∧ mayD (clk + 1) (insF ⟨s, x, clk + 1⟩ l) = true := by
  unfold putD at h ⊢
  split
  · rename_i e
    rw [if_pos e] at h
    simp only [Bool.and_eq_true, decide_eq_true_eq] at e
    split
    · rename_i e2
      rw [if_pos e2] at h
      exact absurd h (by decide)
    · rename_i e2
      have ho := mayD_ok e.1
      have hh := ho.high
      exact ⟨rfl, e.1, ok_mayD (ok_put ho e.2.1 e.2.2 (by omega) (by omega))⟩
  · rename_i e
    rw [if_neg e] at h
    exact absurd h (by decide)
theorem ev_Reads_loop (l : List (P.S33)) (name : ByteArray) (R : List Int) (o i m r : List ByteArray) (cmd : ByteArray) (dep : Bool) (pool : ByteArray) (t : Int) (fs : List (P.S72)) (all : List ByteArray) (ha : all.length ≤ 1000000) (hR : R.length = o.length) (hR2 : R.length ≤ 1000000)
    (F : (∀ s ∈ all, s.toList ≠ name.toList) → Ev (fun k => command_Run.f k l o i m r cmd dep pool t fs) (R, 0)) : ∀ rest pre : List ByteArray, all = pre ++ rest → (∀ s ∈ pre, s.toList ≠ name.toList) →
    Ev (fun k => cruciblelaw18_CommandReads.l0 k l name R all (pre.length : Int) o i m r cmd dep pool t fs) true := by
  intro rest
  have hq : ((R.length : Int) == (o.length : Int)) = true := by rw [hR]; simp
  induction rest with
  | nil =>
    intro pre h hp
    rw [List.append_nil] at h
    subst h
    refine Ev.step (fun k => by rw [cruciblelaw18_CommandReads.l0]) ?_
    refine ev_neg (by omega) (ev_bind (F hp) (ev_bindc (x := 0) rfl (ev_pos rfl (ev_bind (ev_SameI R hR2) (ev_pos rfl (ev_const ?_))))))
    rw [hq]
  | cons x rest ih =>
    intro pre h hp
    have hlen : all.length = pre.length + (rest.length + 1) := by rw [h]; simp
    have hr : rdOf ByteArray.empty all (pre.length : Int) = x := by rw [h]; exact rdOf_pre _ pre x rest
    have hw : wrap64 ((pre.length : Int) + 1) = ((pre ++ [x]).length : Int) := wrap_len pre x (by omega)
    refine Ev.step (fun k => by rw [cruciblelaw18_CommandReads.l0, hr, hw]) ?_
    refine ev_pos (by omega) (ev_pos (by omega) ?_)
    by_cases e : x.toList = name.toList
    · exact ev_pos e (ev_const (by rw [hq]))
    · refine ev_neg e (ih (pre ++ [x]) (by simp [h]) (fun s hs => ?_))
      rcases List.mem_append.1 hs with hs | hs
      · exact hp s hs
      · rw [List.mem_singleton.1 hs]
        exact e
theorem clk_wf18 {n : Int} (h : (Lit.int .i64 n).wf = true) : n ≤ 9223372036854775807 := by
  simp only [Lit.wf, Bool.and_eq_true, decide_eq_true_eq] at h
  exact h.2
theorem sum_three : ∀ l : List (P.S72), 3 * l.length ≤ (l.map fun x : P.S72 => (x.f0.size + 1) + 1 + 1).sum
  | [] => Nat.le_refl _
  | x :: xs => by
    have := sum_three xs
    rw [List.map_cons, List.sum_cons, List.length_cons]
    omega
theorem commandReads_true (l : List (P.S33)) (o i m r : List ByteArray) (cmd : ByteArray) (dep : Bool) (pool : ByteArray) (t : Int) (fs : List (P.S72)) (name : ByteArray) (content : Int)
    (hb : (l.map fun x : P.S33 => (x.f0.size + 1) + ((x.f1.map fun s => s.size + 1).sum + 1) + 1).sum + 1 + ((o.map fun s => s.size + 1).sum + 1) + ((i.map fun s => s.size + 1).sum + 1) + ((m.map fun s => s.size + 1).sum + 1) + ((r.map fun s => s.size + 1).sum + 1) + (cmd.size + 1) + 1 + (pool.size + 1) + 1 + ((fs.map fun x : P.S72 => (x.f0.size + 1) + 1 + 1).sum + 1) + (name.size + 1) + 1 ≤ 1048576)
    {p1 p2 p3 p4 p5 p6 p7 p9 p10 p11 : Prop} (_ : p1) (_ : p2) (_ : p3) (_ : p4) (_ : p5) (_ : p6) (_ : p7) (hc : (Lit.int .i64 t).wf = true) (_ : p9) (_ : p10) (_ : p11) :
    ∃ k, cruciblelaw18_CommandReads.f k l o i m r cmd dep pool t fs name content = some true := by
  obtain ⟨hS, hl⟩ := smallA_of (l := l) (B := 1048576) (by omega) (by omega)
  have s1 := sum_len (fun s : ByteArray => s.size) o
  have s2 := sum_len (fun s : ByteArray => s.size) i
  have s3 := sum_len (fun s : ByteArray => s.size) m
  have s4 := sum_len (fun s : ByteArray => s.size) r
  have s5 := sum_three fs
  have hz : ∀ x ∈ fs, x.f0.size ≤ 4611686018427387904 := fun x hx => by
    have := sum_mem (fun x : P.S72 => (x.f0.size + 1) + 1 + 1) hx
    omega
  have hn : name.size ≤ 1048576 := by omega
  have hE : SmallE o i m r cmd pool := ⟨by omega, by omega, by omega, by omega, by omega⟩
  have lo : o.length ≤ 1048576 := by omega
  have li : i.length ≤ 1048576 := by omega
  have lm : m.length ≤ 1048576 := by omega
  have lf : fs.length ≤ 1000000 := by omega
  clear hb s1 s2 s3 s4 s5
  have ht := clk_wf18 hc
  have e1 := ev_Run l o i m r cmd dep pool t fs hS (by omega) hE lf ht
  have e2 := ev_Reads l o i m r cmd dep pool hS (by omega) hE
  have e3 := ev_PutFile t fs name (Go.bits .and .i64 content 65535) lf hz (by omega)
  obtain ⟨R, hR⟩ : ∃ R, runD l o i m r cmd dep pool t fs = R := ⟨_, rfl⟩
  obtain ⟨D, hD⟩ : ∃ D, readsD l o i m r cmd dep pool = D := ⟨_, rfl⟩
  obtain ⟨c, hcc⟩ : ∃ c, Go.bits .and .i64 content 65535 = c := ⟨_, rfl⟩
  rw [hcc] at e3
  obtain ⟨Q, hQ⟩ : ∃ Q, putD t fs name c = Q := ⟨_, rfl⟩
  rw [hR] at e1
  rw [hD] at e2
  rw [hQ] at e3
  refine Ev.rounds (Ev.congr (fun k => by rw [cruciblelaw18_CommandReads.f, hcc]) ?_)
  refine ev_bindc (x := true) rfl (ev_pos rfl (ev_bind e1 (ev_bind e2 (ev_bind e3 (ev_bindc (x := R.2) rfl ?_)))))
  by_cases h0 : R.2 = 0
  · have done : Ev (fun k => cruciblelaw18_CommandReads.j0 k l name R.1 R.2 D.1 true o i m r cmd dep pool Q.1 Q.2.1) true := by
      refine Ev.step (fun k => by rw [cruciblelaw18_CommandReads.j0]) ?_
      exact ev_pos rfl (ev_bindc (x := R.2) rfl (ev_pos h0 (Ev.now _)))
    have hok : (runD l o i m r cmd dep pool t fs).2 = 0 := by rw [hR]; exact h0
    obtain ⟨k1, k2, k3⟩ := runD_ok hok
    refine ev_pos h0 (ev_bindc (x := D.2) rfl (ev_pos (by rw [← hD]; exact k1) ?_))
    by_cases h2 : Q.2.2 = 0
    · have hq : (putD t fs name c).2.2 = 0 := by rw [hQ]; exact h2
      obtain ⟨q1, q2, q3⟩ := putD_is hq
      obtain rfl : Q = (t + 1, insF ⟨name, c, t + 1⟩ fs, 0) := hQ.symm.trans q1
      obtain ⟨_, _, g3⟩ := readsD_ok k1
      rw [hD] at g3
      have gl := (allP_all g3).2
      have hd := mayD_ok q3
      have hd1 := hd.high
      have hd2 := hd.many
      refine Ev.step (fun k => by rw [cruciblelaw18_CommandReads.j0]) ?_
      refine ev_neg (by simp) (ev_bindc (x := []) rfl (ev_pos (by simp only [List.length_nil]; omega) (ev_bindc (x := i) rfl (ev_pos (by omega) (ev_bindc (x := i ++ m) rfl (ev_pos (by rw [List.length_append]; omega) ?_))))))
      have hRl : R.1.length = o.length := by rw [← hR]; exact k3
      have b1 := (allP_all (edgeOk_is (readsD_ok k1).2.1).po).2
      refine ev_Reads_loop l name R.1 o i m r cmd dep pool (t + 1) _ (i ++ m ++ D.1) (by simp only [List.length_append]; have b2 := (allP_all (edgeOk_is (readsD_ok k1).2.1).pi).2; have b3 := (allP_all (edgeOk_is (readsD_ok k1).2.1).pm).2; omega) hRl (by omega) (fun hall => ?_) _ [] rfl (fun s h => by cases h)
      have e4 := ev_Run l o i m r cmd dep pool (t + 1) (insF ⟨name, c, t + 1⟩ fs) hS (by omega) hE (by omega) (by omega)
      have : runD l o i m r cmd dep pool (t + 1) (insF ⟨name, c, t + 1⟩ fs) = (R.1, 0) := by
        have e5 : runD l o i m r cmd dep pool (t + 1) (insF ⟨name, c, t + 1⟩ fs) = runD l o i m r cmd dep pool t fs := by
          unfold runD
          rw [if_pos ⟨k1, q3⟩, if_pos ⟨k1, k2⟩, hD, lookAll_ins _ fs (mayD_ok q2).rise _ _ hall]
        rw [e5, hR]
        exact Prod.ext rfl h0
      rw [this] at e4
      exact e4
    · rw [show (Q.2.2 != 0) = true by simpa using h2]
      exact done
  · refine ev_neg h0 ?_
    refine Ev.step (fun k => by rw [cruciblelaw18_CommandReads.j0]) ?_
    refine ev_pos rfl (ev_bindc (x := R.2) rfl (ev_neg h0 (ev_const ?_)))
    have : R.1 = [] := by rw [← hR]; exact runD_bad (by rw [hR]; exact h0)
    rw [this]
    rfl
end Go.Proofs.YtilnamobmjngbaaDoor.Spec
