/- The law cruciblelaw18.Commands: called with any arguments of its types that together hold at most 1048576 values and letters it returns true, and each argument reads afterwards as it read before. The row, and its card (the package-level tables that it lists, tied to the program's text). -/
import Derived.Test.YtilnamobmjngbaaDoorCards
import Derived.Test.YtilnamobmjngbaaDoorTie
import Derived.Test.YtilnamobmjngbaaDoorOpen
import Derived.Test.YtilnamobmjngbaaDoorMg3
import Derived.Test.YtilnamobmjngbaaDoorP29
import Derived.WalkKit
import Derived.ProofKit
import Derived.OpenShut
import Derived.ShutString
import Derived.ChangeOld
import Derived.Below
import Derived.Carry
import Derived.SizedLaws
import Derived.Deep.DeepHandedRow
import Derived.Lib.LaidTab
namespace Go.Proofs.YtilnamobmjngbaaDoor.commands
open Go.ChangeShapes Go.WideShapes Go.ChangeAt Go.RowKit Go.Proofs.YtilnamobmjngbaaDoorW.PrintWords
open Go.ChangeMaps (open_string shut_string)
set_option linter.unusedVariables false
set_option linter.unusedSimpArgs false
theorem own : ownKnob Tryd.prog.godebug = none := by kernel_rfl
theorem laidOut : laidOutB Tryd.prog = true := by kernel_rfl
theorem opens33 : Open.Opens Tryd.prog P.k33 33 (fun x : P.S33 => (x.f0.size + 1) + ((x.f1.map fun s => s.size + 1).sum + 1) + 1) (fun x : P.S33 => x.f0.size ≤ maxLen ∧ (∀ s ∈ x.f1, s.size ≤ maxLen) ∧ True) := by
  intro H enc w base sp held fuel cs x h
  obtain ⟨us, ys, n, hcs, hu, hy, hd, hg⟩ := Open.struct_cells (cs := cs.toArray) (d := x.1) (ps := x.2) Tryd.underlying33 h (by kernel_rfl) (by kernel_rfl)
  obtain rfl : cs = us := by simpa using hcs
  have hu_0 : cs.length = 3 := hu.trans rfl
  have hy_0 : ys.length = 3 := hy.trans rfl
  clear hu hy hcs h
  obtain ⟨u_0, cs_0, rfl, hu_1⟩ := Open.len_cons hu_0
  clear hu_0
  obtain ⟨y_0, ys_0, rfl, hy_1⟩ := Open.len_cons hy_0
  clear hy_0
  obtain ⟨u_1, cs_1, rfl, hu_2⟩ := Open.len_cons hu_1
  clear hu_1
  obtain ⟨y_1, ys_1, rfl, hy_2⟩ := Open.len_cons hy_1
  clear hy_1
  obtain ⟨u_2, cs_2, rfl, hu_3⟩ := Open.len_cons hu_2
  clear hu_2
  obtain ⟨y_2, ys_2, rfl, hy_3⟩ := Open.len_cons hy_2
  clear hy_2
  obtain rfl := List.eq_nil_of_length_eq_zero hu_3
  obtain rfl := List.eq_nil_of_length_eq_zero hy_3
  have g_0 := hg 0 _ u_0 y_0 rfl rfl rfl
  obtain ⟨x_0, hK_0, hB_0, hO_0⟩ := (Open.Opens.string Tryd.underlying9) _ _ _ _ _ _ _ _ _ g_0
  try simp only [] at hB_0
  obtain rfl : u_0 = _ := (List.cons.inj hK_0).1
  have g_1 := hg 1 _ u_1 y_1 rfl rfl rfl
  obtain ⟨x_1, hK_1, hB_1, hO_1⟩ := (Open.Opens.slice Tryd.underlying23 (Open.Opens.string Tryd.underlying9) (by kernel_rfl)) _ _ _ _ _ _ _ _ _ g_1
  try simp only [] at hB_1
  obtain ⟨A_1, c_1, hcs_1, hc_1, hr_1⟩ := hK_1
  obtain rfl : u_1 = _ := (List.cons.inj hcs_1).1
  have g_2 := hg 2 _ u_2 y_2 rfl rfl rfl
  obtain ⟨x_2, hK_2, hB_2, hO_2⟩ := (Open.Opens.bool Tryd.underlying4) _ _ _ _ _ _ _ _ _ g_2
  try simp only [] at hB_2
  obtain rfl : u_2 = _ := (List.cons.inj hK_2).1
  refine ⟨(⟨x_0, x_1, x_2⟩ : P.S33), P.k33_mk w (⟨x_0, x_1, x_2⟩ : P.S33) hc_1 hr_1, ?_, hO_0, hO_1, hO_2⟩
  rw [hd]
  simp only [List.map_cons, List.map_nil, Rows.uptoBulk, Rows.uptoBulkAll]
  try simp only [] at hB_0 hB_1 hB_2
  omega
theorem opens72 : Open.Opens Tryd.prog P.k72 72 (fun x : P.S72 => (x.f0.size + 1) + 1 + 1) (fun x : P.S72 => x.f0.size ≤ maxLen ∧ (Lit.int .i64 x.f1).wf = true ∧ (Lit.int .i64 x.f2).wf = true) := by
  intro H enc w base sp held fuel cs x h
  obtain ⟨us, ys, n, hcs, hu, hy, hd, hg⟩ := Open.struct_cells (cs := cs.toArray) (d := x.1) (ps := x.2) Tryd.underlying72 h (by kernel_rfl) (by kernel_rfl)
  obtain rfl : cs = us := by simpa using hcs
  have hu_0 : cs.length = 3 := hu.trans rfl
  have hy_0 : ys.length = 3 := hy.trans rfl
  clear hu hy hcs h
  obtain ⟨u_0, cs_0, rfl, hu_1⟩ := Open.len_cons hu_0
  clear hu_0
  obtain ⟨y_0, ys_0, rfl, hy_1⟩ := Open.len_cons hy_0
  clear hy_0
  obtain ⟨u_1, cs_1, rfl, hu_2⟩ := Open.len_cons hu_1
  clear hu_1
  obtain ⟨y_1, ys_1, rfl, hy_2⟩ := Open.len_cons hy_1
  clear hy_1
  obtain ⟨u_2, cs_2, rfl, hu_3⟩ := Open.len_cons hu_2
  clear hu_2
  obtain ⟨y_2, ys_2, rfl, hy_3⟩ := Open.len_cons hy_2
  clear hy_2
  obtain rfl := List.eq_nil_of_length_eq_zero hu_3
  obtain rfl := List.eq_nil_of_length_eq_zero hy_3
  have g_0 := hg 0 _ u_0 y_0 rfl rfl rfl
  obtain ⟨x_0, hK_0, hB_0, hO_0⟩ := (Open.Opens.string Tryd.underlying9) _ _ _ _ _ _ _ _ _ g_0
  try simp only [] at hB_0
  obtain rfl : u_0 = _ := (List.cons.inj hK_0).1
  have g_1 := hg 1 _ u_1 y_1 rfl rfl rfl
  obtain ⟨x_1, hK_1, hB_1, hO_1⟩ := (Open.Opens.int Tryd.underlying3) _ _ _ _ _ _ _ _ _ g_1
  try simp only [] at hB_1
  obtain rfl : u_1 = _ := (List.cons.inj hK_1).1
  have g_2 := hg 2 _ u_2 y_2 rfl rfl rfl
  obtain ⟨x_2, hK_2, hB_2, hO_2⟩ := (Open.Opens.int Tryd.underlying3) _ _ _ _ _ _ _ _ _ g_2
  try simp only [] at hB_2
  obtain rfl : u_2 = _ := (List.cons.inj hK_2).1
  refine ⟨(⟨x_0, x_1, x_2⟩ : P.S72), P.k72_mk w (⟨x_0, x_1, x_2⟩ : P.S72) , ?_, hO_0, hO_1, hO_2⟩
  rw [hd]
  simp only [List.map_cons, List.map_nil, Rows.uptoBulk, Rows.uptoBulkAll]
  try simp only [] at hB_0 hB_1 hB_2
  omega
set_option maxRecDepth 100000 in
theorem contract (H : Type) (enc : TypeId × Value → H) (W : World) (base : Nat) (args : Array Value) (ds gs : List (DataW H)) (before : List MemPlace)
    (hval0 : ∀ (j : Nat) t v, Tryd.f3.params[j]? = some t → args[j]? = some v → Value.okWide Tryd.prog W .any base t v)
    (hW : DataW.Whole enc Tryd.prog Tryd.f3.params.toList Rows.commandsSpec.vars false W args.toList ds gs before) (hk : Rows.uptoSmall H (ds ++ gs) = true)

    (hsz0 : (DataW.weightsEach Tryd.prog (Tryd.f3.params.toList ++ Rows.commandsSpec.plain.varTypes Tryd.prog) (ds ++ gs)).all (· ≤ reachBytes) = true) :
    Calls Tryd.prog 3 args W fun e W' => ∃ v, e = .returned v ∧ Rows.commandsSpec.post enc Tryd.prog Tryd.f3 false true false false W args v W' := by
  have hsz := hsz0
  have hval := hval0
  have hW' := hW
  obtain ⟨p, q, hA0, hV, rfl, hfz, hnd⟩ := hW
  have hA : DataW.TrodAll enc Tryd.prog W 0 (fun _ => true) true Tryd.f3.params.toList args.toList ds p := hA0
  rw [Tryd.params3] at hA hval hsz
  obtain ⟨v0, vs0, d0, ds0, p0, q0, hargs, rfl, rfl, h0, r0⟩ := trodAll_cons hA
  obtain ⟨v1, vs1, d1, ds1, p1, q1, rfl, rfl, rfl, h1, r1⟩ := trodAll_cons r0
  obtain ⟨v2, vs2, d2, ds2, p2, q2, rfl, rfl, rfl, h2, r2⟩ := trodAll_cons r1
  obtain ⟨v3, vs3, d3, ds3, p3, q3, rfl, rfl, rfl, h3, r3⟩ := trodAll_cons r2
  obtain ⟨rfl, rfl, rfl⟩ := trodAll_nil r3
  obtain rfl : args = #[v0, v1, v2, v3] := by cases args; simp_all
  obtain ⟨rfl, rfl⟩ := trodVars_none hV
  have hbk := Open.small_part hk
  simp only [List.append_nil, List.cons_append, List.nil_append, Rows.uptoBulkAll, Nat.add_zero] at hbk
  obtain ⟨a0, len0, cap0, rfl⟩ := okWide_slice Tryd.underlying22 (hval 0 22 v0 rfl rfl)
  have k0 := h0
  have lt0 : ∀ x ∈ p0, x.block < W.heap.size := by obtain ⟨m, hm⟩ := k0; exact DataW.trod_lt m _ _ _ hm
  obtain ⟨f0, hf0⟩ := h0
  obtain ⟨x0, hK0, hB0, hO0⟩ := (Open.Opens.slice Tryd.underlying22 opens33 (by kernel_rfl)) _ _ _ _ _ _ _ _ _ hf0
  try simp only [] at hB0
  obtain ⟨A0, c0, hcs0, hc0, hr0⟩ := hK0
  simp [Value.cells] at hcs0
  obtain ⟨rfl, rfl, rfl⟩ := hcs0
  obtain ⟨cs1, rfl, _⟩ := okWide_struct Tryd.underlying25 (hval 1 25 v1 rfl rfl)
  have k1 := h1
  have lt1 : ∀ x ∈ p1, x.block < W.heap.size := by obtain ⟨m, hm⟩ := k1; exact DataW.trod_lt m _ _ _ hm
  obtain ⟨f1, hf1⟩ := h1
  obtain ⟨us1, ys1, n1, hcs1, hu1, hy1, hd1, hg1⟩ := Open.struct_cells Tryd.underlying25 hf1 (by kernel_rfl) (by kernel_rfl)
  subst hcs1 hd1
  have hu1_0 : us1.length = 7 := hu1.trans rfl
  have hy1_0 : ys1.length = 7 := hy1.trans rfl
  clear hu1 hy1
  obtain ⟨u1_0, us1_0, rfl, hu1_1⟩ := Open.len_cons hu1_0
  clear hu1_0
  obtain ⟨y1_0, ys1_0, rfl, hy1_1⟩ := Open.len_cons hy1_0
  clear hy1_0
  obtain ⟨u1_1, us1_1, rfl, hu1_2⟩ := Open.len_cons hu1_1
  clear hu1_1
  obtain ⟨y1_1, ys1_1, rfl, hy1_2⟩ := Open.len_cons hy1_1
  clear hy1_1
  obtain ⟨u1_2, us1_2, rfl, hu1_3⟩ := Open.len_cons hu1_2
  clear hu1_2
  obtain ⟨y1_2, ys1_2, rfl, hy1_3⟩ := Open.len_cons hy1_2
  clear hy1_2
  obtain ⟨u1_3, us1_3, rfl, hu1_4⟩ := Open.len_cons hu1_3
  clear hu1_3
  obtain ⟨y1_3, ys1_3, rfl, hy1_4⟩ := Open.len_cons hy1_3
  clear hy1_3
  obtain ⟨u1_4, us1_4, rfl, hu1_5⟩ := Open.len_cons hu1_4
  clear hu1_4
  obtain ⟨y1_4, ys1_4, rfl, hy1_5⟩ := Open.len_cons hy1_4
  clear hy1_4
  obtain ⟨u1_5, us1_5, rfl, hu1_6⟩ := Open.len_cons hu1_5
  clear hu1_5
  obtain ⟨y1_5, ys1_5, rfl, hy1_6⟩ := Open.len_cons hy1_5
  clear hy1_5
  obtain ⟨u1_6, us1_6, rfl, hu1_7⟩ := Open.len_cons hu1_6
  clear hu1_6
  obtain ⟨y1_6, ys1_6, rfl, hy1_7⟩ := Open.len_cons hy1_6
  clear hy1_6
  obtain rfl := List.eq_nil_of_length_eq_zero hu1_7
  obtain rfl := List.eq_nil_of_length_eq_zero hy1_7
  have g1_0 := hg1 0 _ u1_0 y1_0 rfl rfl rfl
  obtain ⟨x1_0, hK1_0, hB1_0, hO1_0⟩ := (Open.Opens.slice Tryd.underlying23 (Open.Opens.string Tryd.underlying9) (by kernel_rfl)) _ _ _ _ _ _ _ _ _ g1_0
  try simp only [] at hB1_0
  obtain ⟨A1_0, c1_0, hcs1_0, hc1_0, hr1_0⟩ := hK1_0
  obtain rfl : u1_0 = _ := (List.cons.inj hcs1_0).1
  have g1_1 := hg1 1 _ u1_1 y1_1 rfl rfl rfl
  obtain ⟨x1_1, hK1_1, hB1_1, hO1_1⟩ := (Open.Opens.slice Tryd.underlying23 (Open.Opens.string Tryd.underlying9) (by kernel_rfl)) _ _ _ _ _ _ _ _ _ g1_1
  try simp only [] at hB1_1
  obtain ⟨A1_1, c1_1, hcs1_1, hc1_1, hr1_1⟩ := hK1_1
  obtain rfl : u1_1 = _ := (List.cons.inj hcs1_1).1
  have g1_2 := hg1 2 _ u1_2 y1_2 rfl rfl rfl
  obtain ⟨x1_2, hK1_2, hB1_2, hO1_2⟩ := (Open.Opens.slice Tryd.underlying23 (Open.Opens.string Tryd.underlying9) (by kernel_rfl)) _ _ _ _ _ _ _ _ _ g1_2
  try simp only [] at hB1_2
  obtain ⟨A1_2, c1_2, hcs1_2, hc1_2, hr1_2⟩ := hK1_2
  obtain rfl : u1_2 = _ := (List.cons.inj hcs1_2).1
  have g1_3 := hg1 3 _ u1_3 y1_3 rfl rfl rfl
  obtain ⟨x1_3, hK1_3, hB1_3, hO1_3⟩ := (Open.Opens.slice Tryd.underlying23 (Open.Opens.string Tryd.underlying9) (by kernel_rfl)) _ _ _ _ _ _ _ _ _ g1_3
  try simp only [] at hB1_3
  obtain ⟨A1_3, c1_3, hcs1_3, hc1_3, hr1_3⟩ := hK1_3
  obtain rfl : u1_3 = _ := (List.cons.inj hcs1_3).1
  have g1_4 := hg1 4 _ u1_4 y1_4 rfl rfl rfl
  obtain ⟨x1_4, hK1_4, hB1_4, hO1_4⟩ := (Open.Opens.string Tryd.underlying9) _ _ _ _ _ _ _ _ _ g1_4
  try simp only [] at hB1_4
  obtain rfl : u1_4 = _ := (List.cons.inj hK1_4).1
  have g1_5 := hg1 5 _ u1_5 y1_5 rfl rfl rfl
  obtain ⟨x1_5, hK1_5, hB1_5, hO1_5⟩ := (Open.Opens.bool Tryd.underlying4) _ _ _ _ _ _ _ _ _ g1_5
  try simp only [] at hB1_5
  obtain rfl : u1_5 = _ := (List.cons.inj hK1_5).1
  have g1_6 := hg1 6 _ u1_6 y1_6 rfl rfl rfl
  obtain ⟨x1_6, hK1_6, hB1_6, hO1_6⟩ := (Open.Opens.string Tryd.underlying9) _ _ _ _ _ _ _ _ _ g1_6
  try simp only [] at hB1_6
  obtain rfl : u1_6 = _ := (List.cons.inj hK1_6).1
  clear hg1
  simp only [List.map_cons, List.map_nil, Rows.uptoBulk, Rows.uptoBulkAll] at hbk
  obtain ⟨cs2, rfl, _⟩ := okWide_struct Tryd.underlying28 (hval 2 28 v2 rfl rfl)
  have k2 := h2
  have lt2 : ∀ x ∈ p2, x.block < W.heap.size := by obtain ⟨m, hm⟩ := k2; exact DataW.trod_lt m _ _ _ hm
  obtain ⟨f2, hf2⟩ := h2
  obtain ⟨us2, ys2, n2, hcs2, hu2, hy2, hd2, hg2⟩ := Open.struct_cells Tryd.underlying28 hf2 (by kernel_rfl) (by kernel_rfl)
  subst hcs2 hd2
  have hu2_0 : us2.length = 2 := hu2.trans rfl
  have hy2_0 : ys2.length = 2 := hy2.trans rfl
  clear hu2 hy2
  obtain ⟨u2_0, us2_0, rfl, hu2_1⟩ := Open.len_cons hu2_0
  clear hu2_0
  obtain ⟨y2_0, ys2_0, rfl, hy2_1⟩ := Open.len_cons hy2_0
  clear hy2_0
  obtain ⟨u2_1, us2_1, rfl, hu2_2⟩ := Open.len_cons hu2_1
  clear hu2_1
  obtain ⟨y2_1, ys2_1, rfl, hy2_2⟩ := Open.len_cons hy2_1
  clear hy2_1
  obtain rfl := List.eq_nil_of_length_eq_zero hu2_2
  obtain rfl := List.eq_nil_of_length_eq_zero hy2_2
  have g2_0 := hg2 0 _ u2_0 y2_0 rfl rfl rfl
  obtain ⟨x2_0, hK2_0, hB2_0, hO2_0⟩ := (Open.Opens.int Tryd.underlying3) _ _ _ _ _ _ _ _ _ g2_0
  try simp only [] at hB2_0
  obtain rfl : u2_0 = _ := (List.cons.inj hK2_0).1
  have g2_1 := hg2 1 _ u2_1 y2_1 rfl rfl rfl
  obtain ⟨x2_1, hK2_1, hB2_1, hO2_1⟩ := (Open.Opens.slice Tryd.underlying26 opens72 (by kernel_rfl)) _ _ _ _ _ _ _ _ _ g2_1
  try simp only [] at hB2_1
  obtain ⟨A2_1, c2_1, hcs2_1, hc2_1, hr2_1⟩ := hK2_1
  obtain rfl : u2_1 = _ := (List.cons.inj hcs2_1).1
  clear hg2
  simp only [List.map_cons, List.map_nil, Rows.uptoBulk, Rows.uptoBulkAll] at hbk
  obtain ⟨a3, rfl, rfl, rfl, y3⟩ := open_string Tryd.underlying9 (hval 3 9 v3 rfl rfl) h3
  have w3 : a3.size ≤ 140737488351232 := by
    have z := sized_string hsz (j := 3) (t := 9) rfl rfl
    rw [Array.length_toList] at z
    exact z
  have e3 : a3.data.toList.length = a3.size := by rw [Array.length_toList]; rfl
  simp only [Rows.uptoBulk] at hbk
  clear hA0 hval0 hsz0 hsz
  obtain ⟨k, h⟩ := Spec.commands_true x0 x1_0 x1_1 x1_2 x1_3 x1_4 x1_5 x1_6 x2_0 x2_1 a3 (by first | exact hbk | omega) hO0 hO1_0 hO1_1 hO1_2 hO1_3 hO1_4 hO1_6 hO2_0 hO2_1 w3
  refine (P.cruciblelaw18_Commands.calls k _ _ x0 _ _ x1_0 _ _ x1_1 _ _ x1_2 _ _ x1_3 x1_4 x1_5 x1_6 x2_0 _ _ x2_1 a3 true W hr0 hc0 hr1_0 hc1_0 hr1_1 hc1_1 hr1_2 hc1_2 hr1_3 hc1_3 hr2_1 hc2_1 h).mono ?_
  rintro e W' ⟨rfl, hd⟩
  have bel : Below W.heap.size W W' := hd
  exact ⟨_, rfl, _, _, _, [], _, [], hW', trodAll_mk1 (shut_bool Tryd.underlying4 _), (trodAll_cons_mk (Below.trod laidOut (by kernel_rfl) (of_decide_eq_true (by kernel_rfl)) k0 bel lt0) (trodAll_cons_mk (Below.trod laidOut (by kernel_rfl) (of_decide_eq_true (by kernel_rfl)) k1 bel lt1) (trodAll_cons_mk (Below.trod laidOut (by kernel_rfl) (of_decide_eq_true (by kernel_rfl)) k2 bel lt2) (trodAll_cons_mk (shut_string Tryd.underlying9 y3) trodAll_mk0)))), rfl, bel.frame _, fun h => by cases h⟩
mutual
def cellsD : DataW Unit → List Value
  | .lit (.int k n) => [.int k n]
  | .agg l => cellsL l
  | _ => []
def cellsL : List (DataW Unit) → List Value
  | [] => []
  | d :: r => cellsD d ++ cellsL r
end
def lay (t : DataW Unit) : Obj → Obj
  | .cells _ e f => .cells (cellsD t).toArray e f
  | o => o
noncomputable def laidWorld (os : Os) : World :=
  { World.holding Tryd.prog os ⟨#[], #[], []⟩ with heap := (Array.modify (Array.modify (World.holding Tryd.prog os ⟨#[], #[], []⟩).heap 2 (lay Rows.laid_unicode_utf8_acceptRanges)) 1 (lay Rows.laid_unicode_utf8_first)) }
theorem laid_met (os : Os) : laidMet Tryd.prog Rows.commandsUptoRow.laid ((laidWorld os).forCall (fun _ _ => 0) ⟨#[], #[.slice none 0 0, .agg #[.slice none 0 0, .slice none 0 0, .slice none 0 0, .slice none 0 0, .string ByteArray.empty, .bool false, .string ByteArray.empty], .agg #[.int .i64 0, .slice none 0 0], .string ByteArray.empty], []⟩).memory :=
  laidMet_of_run' 8 (by kernel_rfl) (by kernel_rfl)
theorem reads (os : Os) {H : Type} (enc : TypeId × Value → H) : ∃ places, DataW.whole enc Tryd.prog ((laidWorld os).forCall (fun _ _ => 0) ⟨#[], #[.slice none 0 0, .agg #[.slice none 0 0, .slice none 0 0, .slice none 0 0, .slice none 0 0, .string ByteArray.empty, .bool false, .string ByteArray.empty], .agg #[.int .i64 0, .slice none 0 0], .string ByteArray.empty], []⟩).memory Tryd.f3.params.toList Rows.commandsSpec.vars false (#[.slice none 0 0, .agg #[.slice none 0 0, .slice none 0 0, .slice none 0 0, .slice none 0 0, .string ByteArray.empty, .bool false, .string ByteArray.empty], .agg #[.int .i64 0, .slice none 0 0], .string ByteArray.empty] : Array Value).toList 8 = some ([.nil, .agg [.nil, .nil, .nil, .nil, .lit (.string []), .lit (.bool false), .lit (.string [])], .agg [.lit (.int .i64 0), .nil], .lit (.string [])], [], places) :=
  ⟨[], by kernel_rfl⟩
set_option maxRecDepth 100000 in
theorem lifted (os : Os) (started : os.Started) (H : Type) (enc : TypeId × Value → H) (F : Stop.Interp) :
    ReturnsInHanded {} Tryd.checked os 3 .any ((Rows.OpenSpec.upto Rows.commandsSpec).preRow enc Tryd.prog Tryd.f3 Rows.commandsUptoRow.domain false Rows.commandsUptoRow.laid) (((Rows.OpenSpec.upto Rows.commandsSpec).at F).post enc Tryd.prog Tryd.f3 false true false false) := by
  obtain ⟨places, hx⟩ := reads os enc
  refine returnsInHanded_of_row (C := Tryd.checked) (s := (Rows.OpenSpec.upto Rows.commandsSpec)) own started (by kernel_rfl) Tryd.func3
    (witness_row_at (enc := enc) (C := Tryd.checked) false (laidWorld os) #[.slice none 0 0, .agg #[.slice none 0 0, .slice none 0 0, .slice none 0 0, .slice none 0 0, .string ByteArray.empty, .bool false, .string ByteArray.empty], .agg #[.int .i64 0, .slice none 0 0], .string ByteArray.empty] rfl (by kernel_rfl) (by kernel_rfl) (by kernel_rfl)
      (OpenSpec.preRow_of_cond 8 hx (by kernel_rfl) (fun k hk => by cases hk; kernel_rfl) (by kernel_rfl) (laid_met os))) ?_
  intro W base args ds gs before hval hW _ hcond hsz hL hsh _
  exact contract H enc W base args ds gs before hval hW (hcond _ rfl) hsz
theorem over : Rows.CommandsUptoSaid :=
  OpenClaim.holds_of_cond 3 Tryd.f3 rfl rfl rfl rfl rfl rfl rfl ⟨rfl, rfl, rfl, rfl, rfl⟩ rfl rfl rfl rfl rfl (by kernel_rfl) Tryd.func3 (by kernel_rfl)
    (of_decide_eq_true (by kernel_rfl)) (by unfold Func.isWrapper; first | (rw [if_pos (by decide +kernel)]; kernel_rfl) | (rw [if_neg (by decide +kernel)]; exact ⟨rfl, rfl⟩))
    (fun os started H enc _ F => by rw [OpenClaim.pre_eq_preRow]; exact lifted os started H enc F)
theorem plain (f : FuncId) (fn : Func) (hf : Tryd.pinned.checked.prog.funcNamed Rows.commandsUptoRow.func = some f) (hfn : Tryd.pinned.checked.prog.funcs[f]? = some fn) :
    false = Tryd.pinned.checked.prog.looks [] ∧ ∀ (j : Nat) t, fn.params[j]? = some t → Tryd.pinned.checked.prog.wantsStandIn t = false := by
  obtain rfl : f = 3 := Option.some.inj ((show Tryd.prog.funcNamed Rows.commandsUptoRow.func = some 3 by kernel_rfl).symm.trans hf) |>.symm
  obtain rfl : fn = Tryd.f3 := (Option.some.inj (Tryd.func3.symm.trans hfn)).symm
  refine ⟨by kernel_rfl, fun j t ht => ?_⟩
  rw [Tryd.params3] at ht
  have hm := Array.mem_of_getElem? ht
  simp only [List.mem_toArray, List.mem_cons, List.not_mem_nil, or_false] at hm
  rcases hm with rfl | rfl | rfl | rfl
  · exact (show Tryd.prog.wantsStandIn 22 = false by kernel_rfl)
  · exact (show Tryd.prog.wantsStandIn 25 = false by kernel_rfl)
  · exact (show Tryd.prog.wantsStandIn 28 = false by kernel_rfl)
  · exact (show Tryd.prog.wantsStandIn 9 = false by kernel_rfl)
/-- THE CARD -/
theorem card : Rows.CommandsUptoCardSaid :=
  Claim7.holds_tied_plain_at .later [] _ _ _ _ over (fun _ h => by cases h) (by kernel_rfl) (fun _ h => by cases h) commandsUpto_row_tie rfl ⟨rfl, rfl⟩ (by kernel_rfl) rfl plain (by kernel_rfl)
end Go.Proofs.YtilnamobmjngbaaDoor.commands
namespace Go.Proofs.YtilnamobmjngbaaDoor
/-- The card, under a short name, for the claim. -/
theorem commands_card : Rows.CommandsUptoCardSaid := commands.card
end Go.Proofs.YtilnamobmjngbaaDoor
