-- Made by a program of this work's own (wip/myprint.py) over the kit's print; leaves by hand.
import Derived.Test.YtncbloieejeifaaDoorP0
import Derived.Test.YtncbloieejeifaaDoorP1
import Derived.Test.YtncbloieejeifaaDoorP19
import Derived.Shelf.Strings.Prefix
import Derived.Test.YtncbloieejeifaaDoorBase
import Derived.Test.YtncbloieejeifaaDoorShelf
namespace Go.Proofs.YtncbloieejeifaaDoor.P
open Go.RowKit Go.Proofs.YtncbloieejeifaaDoorW.PrintWords Go.Proofs.YtncbloieejeifaaDoorW.PrintLast Go.Proofs.YtncbloieejeifaaDoorW.PrintMore
attribute [local go_sem] max2_int min2_int max_two min_two max_three min_three max_four min_four   -- for this text's walks alone
set_option linter.unusedVariables false
set_option linter.unusedSimpArgs false

-- HAND DepfileGet.lean
-- IMPORT Derived.Test.YtncbloieejeifaaDoorBase
-- IMPORT Derived.Test.YtncbloieejeifaaDoorShelf
-- IMPORT Derived.Shelf.Strings.Prefix
/-! ### depfile_Get, by hand -/
def depfile_Get.back (a0 out : ByteArray) (ins : List ByteArray) (p : ByteArray × Int) : ByteArray × List ByteArray × Int :=
  if p.2 = 0 then (if p.1.toList = a0.toList then (out, ins, 0) else ((⟨#[]⟩ : ByteArray), [], 1700)) else ((⟨#[]⟩ : ByteArray), [], 1700)
def depfile_Get.f (k : Nat) (a0 : ByteArray) : Option (ByteArray × List ByteArray × Int) :=
  (strings_Split.f (Spec.str (Lib.trimSuffix a0.data.toList [10])) (⟨#[32]⟩ : ByteArray)).bind fun ws =>
    if 0 < ws.length ∧ a0.size ≤ 9223372036854775807 ∧ (ws.headD ByteArray.empty).size ≤ 9223372036854775807 then
      (depfile_Put.f k (Spec.str (Lib.trimSuffix (ws.headD ByteArray.empty).data.toList [58])) ws.tail).bind fun p => some (depfile_Get.back a0 (Spec.str (Lib.trimSuffix (ws.headD ByteArray.empty).data.toList [58])) ws.tail p)
    else none
theorem depfile_Get.mono : ∀ a0 k, LeO (depfile_Get.f k a0) (depfile_Get.f (k + 1) a0) := by
  intro a0 k
  unfold depfile_Get.f
  refine LeO.bind (LeO.refl _) (fun ws => LeO.ite (LeO.bind (depfile_Put.mono _ _ _) (fun _ => LeO.refl _)) (LeO.none _))
set_option maxHeartbeats 4000000 in
set_option maxRecDepth 100000 in
theorem depfile_Get.calls (k : Nat) (a0 : ByteArray) (r1 : ByteArray) (r2 : List ByteArray) (r3 : Int) (w : World) (h : depfile_Get.f k a0 = some (r1, r2, r3)) :
    Calls Tryd.prog 29 #[.string a0] w fun e w' => ∃ v1_ : Value, e = .returned (.tuple #[.string r1, v1_, .int .i64 r3]) ∧ Kd.Q Kd.string 9 w' w.heap.size (fun _ => True) v1_ r2 ∧ Below w.heap.size w w' := by
  obtain ⟨ws, hS, h⟩ := Option.bind_eq_some_iff.1 h
  split at h
  case isFalse => cases h
  rename_i hc
  obtain ⟨hlen, hs, hs2⟩ := hc
  obtain ⟨⟨p1, p2⟩, hP, hr⟩ := Option.bind_eq_some_iff.1 h
  have hr := Option.some.inj hr
  clear h
  obtain ⟨x, ins, rfl⟩ : ∃ x ins, ws = x :: ins := by
    cases ws with
    | nil => simp at hlen
    | cons x ins => exact ⟨x, ins, rfl⟩
  simp only [List.headD_cons, List.tail_cons] at hs2 hP hr
  obtain ⟨out, hout⟩ : ∃ out, Spec.str (Lib.trimSuffix x.data.toList [58]) = out := ⟨_, rfl⟩
  obtain ⟨t, ht⟩ : ∃ t, Spec.str (Lib.trimSuffix a0.data.toList [10]) = t := ⟨_, rfl⟩
  have c1 : ∀ W, Calls Tryd.prog 49 #[.string a0, .string ⟨#[10]⟩] W fun e w' => e = .returned (.string t) ∧ w' = W := fun W => by
    have := Tryd.strings_TrimSuffix a0 ⟨#[10]⟩ W hs
    rw [← ht]; exact this
  have c2 : ∀ W, Calls Tryd.prog 49 #[.string x, .string ⟨#[58]⟩] W fun e w' => e = .returned (.string out) ∧ w' = W := fun W => by
    have := Tryd.strings_TrimSuffix x ⟨#[58]⟩ W hs2
    rw [← hout]; exact this
  rw [ht] at hS
  rw [hout] at hP hr
  have HS := Aside0.mk hS
  have HP := Aside0.mk hP
  have HR := Aside0.mk hr
  clear ht hout hS hP hr hs hs2 hlen
  go_enter Tryd.func29, Tryd.ntmps29
  go_wp2_with (first
    | (go_at_call 49; refine (c1 _).mono ?_; rintro e w0' ⟨rfl, hw0⟩; rw [hw0]; clear hw0)
    | (go_at_call 41; refine (strings_Split.calls _ _ _ _ HS.out).mono ?_; rintro e w1 ⟨v0, rfl, hR, hB⟩))
  obtain ⟨inner, ho⟩ := Kd.R_own hR
  obtain ⟨g, cap, hv, _, hlt⟩ := ho.form (by simp)
  subst hv
  clear ho
  obtain ⟨_, _, hv2, hnc, _⟩ := Kd.R_reads hR
  have hnc : (x :: ins).length ≤ cap := by injection hv2 with _ _ h3; omega
  obtain ⟨hcell, _⟩ := Kd.R_cell ByteArray.empty hR 0 (Int.le_refl 0) (by rw [List.length_cons]; omega)
  have hcell : w1.cell? ⟨g, 0, none⟩ = some (.string x) := hcell
  obtain ⟨i0, hi, hz0, hz1, hz2⟩ := info_parts (show (Tryd.prog.info? 9).map (fun i => (i.zero, i.size, i.bytes)) = some (some (.string ByteArray.empty), 1, 16) by kernel_rfl)
  have hcut := cut_from (P := Tryd.prog) 22 9 .i64 Tryd.underlying22 hi 1 hz1 (some ⟨g, 0, none⟩) (x :: ins).length cap 1 (by decide) (by rw [List.length_cons]; omega)
  have hQ := Kd.Q_drop (k := 1) (Kd.Q_of_R hR) (by simp)
  obtain ⟨A1, hA1⟩ : ∃ A1, (if cap = 1 then (some ⟨g, 0, none⟩ : Option Addr) else (some ⟨g, 0, none⟩ : Option Addr).map (·.add (1 * 1))) = A1 := ⟨_, rfl⟩
  have hlen : (x :: ins).length - 1 = ins.length := by simp
  have hcut2 : ∀ W : World, (Instr.slice 22 (.slice (some ⟨g, 0, none⟩) (ins.length + 1) cap) (some (.int .i64 1)) none none).run Tryd.prog W = .ok (.slice A1 ins.length (cap - 1)) W := fun W => by
    have := hcut W
    rw [show ((1 : Int).toNat) = 1 from rfl, hA1, hlen] at this
    exact this
  have hQ2 : Kd.Q Kd.string 9 w1 w.heap.size (fun _ => True) (.slice A1 ins.length (cap - 1)) ins := by
    have h1 : (if cap = 1 then (some ⟨g, 0, none⟩ : Option Addr) else (some ⟨g, 0, none⟩ : Option Addr).map (·.add (1 * (Kd.string).sz))) = A1 := hA1
    rw [h1, hlen] at hQ
    exact hQ
  have hn0 : (0 : Int) < ((x :: ins).length : Int) := by rw [List.length_cons]; omega
  have hB1 := Aside0.mk hB
  have hQ3 := Aside0.mk hQ2
  clear hcut hQ hlen hA1 hR hv2 hB hQ2 hi hz0 hz1 hz2
  go_quiet ((go_at_call 49; exact Calls.quiet_of_same (c2 _)))
  clear hcut2 hcell hn0
  have fin : ∀ (b1 b2 : Bool), (p2 != 0) = b1 → (p1.toList != a0.toList) = b2 → (r1, r2, r3) = (if (b1 || b2) = true then ((⟨#[]⟩ : ByteArray), [], 1700) else (out, ins, 0)) := by
    rintro b1 b2 rfl rfl
    rw [← HR.out, depfile_Get.back]
    by_cases e2 : p2 = 0 <;> by_cases e1 : p1.toList = a0.toList <;> simp [e1, e2]
  obtain ⟨b1, hb1⟩ : ∃ b1, (p2 != 0) = b1 := ⟨_, rfl⟩
  obtain ⟨b2, hb2⟩ : ∃ b2, (p1.toList != a0.toList) = b2 := ⟨_, rfl⟩
  have hf := fin b1 b2 hb1 hb2
  have hb3 : (p1.toList == a0.toList) = !b2 := by rw [← hb2]; simp [bne]
  have hb4 : (p2 == 0) = !b1 := by rw [← hb1]; simp [bne]
  clear fin HR hr h
  cases b1 <;> cases b2
  all_goals
    simp only [Bool.not_true, Bool.not_false] at hb3 hb4
    simp only [Bool.or_self, Bool.or_true, Bool.true_or, Bool.or_false, Bool.false_or, Bool.false_eq_true, if_true, if_false, Prod.mk.injEq] at hf
    obtain ⟨rfl, rfl, rfl⟩ := hf
    go_wp2_with (go_at_call 27; with_reducible refine (depfile_Put.calls k _ A1 (cap - 1) _ p1 p2 _ (by exact (Kd.Q_reads' (Kd.Q_drewN hQ3.out _)).2.2) (by exact (Kd.Q_reads' hQ3.out).2.1) HP.out).mono ?_; rintro e w3 ⟨rfl, hB3⟩)
    all_goals go_ret3
    all_goals first
      | exact ⟨_, rfl, Kd.Q_nil _ _ _ _ _, below_then (pw_below_drewN hB1.out _) hB1.out.size hB3⟩
      | exact ⟨_, rfl, Kd.Q_below (Kd.Q_drewN hQ3.out _) hB3, below_then (pw_below_drewN hB1.out _) hB1.out.size hB3⟩

end Go.Proofs.YtncbloieejeifaaDoor.P
