/- The law cruciblelaw14.LogCut: called with any arguments of its types that together hold at most 1048576 values and letters it returns true, and each argument reads afterwards as it read before. The row, and its card (the package-level tables that it lists, tied to the program's text). -/
import Derived.Test.YtdaddlplpkmkmaaDoorCards
import Derived.Test.YtdaddlplpkmkmaaDoorTie
import Derived.Test.YtdaddlplpkmkmaaDoorOpen
import Derived.Test.YtdaddlplpkmkmaaDoorCut14
import Derived.Test.YtdaddlplpkmkmaaDoorP22
import Derived.Test.YtdaddlplpkmkmaaDoorTb
import Derived.Stop.LaidErr
import Derived.Shelf.Vars
import Derived.MakeChecks
import Derived.WalkKit
import Derived.ProofKit
import Derived.OpenShut
import Derived.ShutString
import Derived.ChangeOld
import Derived.Below
import Derived.Carry
import Derived.SizedLaws
import Derived.Deep.DeepHandedRow
import Derived.Lib.LaidTab
namespace Go.Proofs.YtdaddlplpkmkmaaDoor.logCut
open Go.ChangeShapes Go.WideShapes Go.ChangeAt Go.RowKit Go.Proofs.YtdaddlplpkmkmaaDoorW.PrintWords
open Go.ChangeMaps (open_string shut_string)
set_option linter.unusedVariables false
set_option linter.unusedSimpArgs false
theorem own : ownKnob Tryd.prog.godebug = none := by kernel_rfl
theorem laidOut : laidOutB Tryd.prog = true := by kernel_rfl
theorem opens23 : Open.Opens Tryd.prog P.k23 23 (fun x : P.S23 => (x.f0.size + 1) + 1 + (x.f2.size + 1)) (fun x : P.S23 => x.f0.size ≤ maxLen ∧ (Lit.int .i64 x.f1).wf = true ∧ x.f2.size ≤ maxLen) := by
  intro H enc w base sp held fuel cs x h
  obtain ⟨us, ys, n, hcs, hu, hy, hd, hg⟩ := Open.struct_cells (cs := cs.toArray) (d := x.1) (ps := x.2) Tryd.underlying23 h (by kernel_rfl) (by kernel_rfl)
  obtain rfl : cs = us := by simpa using hcs
  have hu_0 : cs.length = 3 := hu.trans rfl
  have hy_0 : ys.length = 3 := hy.trans rfl
  clear hu hy hcs h
  obtain ⟨u_0, cs_0, rfl, hu_1⟩ := Open.len_cons hu_0
  clear hu_0
  obtain ⟨y_0, ys_0, rfl, hy_1⟩ := Open.len_cons hy_0
  clear hy_0
  obtain ⟨u_1, cs_1, rfl, hu_2⟩ := Open.len_cons hu_1
  clear hu_1
  obtain ⟨y_1, ys_1, rfl, hy_2⟩ := Open.len_cons hy_1
  clear hy_1
  obtain ⟨u_2, cs_2, rfl, hu_3⟩ := Open.len_cons hu_2
  clear hu_2
  obtain ⟨y_2, ys_2, rfl, hy_3⟩ := Open.len_cons hy_2
  clear hy_2
  obtain rfl := List.eq_nil_of_length_eq_zero hu_3
  obtain rfl := List.eq_nil_of_length_eq_zero hy_3
  have g_0 := hg 0 _ u_0 y_0 rfl rfl rfl
  obtain ⟨x_0, hK_0, hB_0, hO_0⟩ := (Open.Opens.string Tryd.underlying9) _ _ _ _ _ _ _ _ _ g_0
  try simp only [] at hB_0
  obtain rfl : u_0 = _ := (List.cons.inj hK_0).1
  have g_1 := hg 1 _ u_1 y_1 rfl rfl rfl
  obtain ⟨x_1, hK_1, hB_1, hO_1⟩ := (Open.Opens.int Tryd.underlying3) _ _ _ _ _ _ _ _ _ g_1
  try simp only [] at hB_1
  obtain rfl : u_1 = _ := (List.cons.inj hK_1).1
  have g_2 := hg 2 _ u_2 y_2 rfl rfl rfl
  obtain ⟨x_2, hK_2, hB_2, hO_2⟩ := (Open.Opens.string Tryd.underlying9) _ _ _ _ _ _ _ _ _ g_2
  try simp only [] at hB_2
  obtain rfl : u_2 = _ := (List.cons.inj hK_2).1
  refine ⟨(⟨x_0, x_1, x_2⟩ : P.S23), P.k23_mk w (⟨x_0, x_1, x_2⟩ : P.S23) , ?_, hO_0, hO_1, hO_2⟩
  rw [hd]
  simp only [List.map_cons, List.map_nil, Rows.uptoBulk, Rows.uptoBulkAll]
  try simp only [] at hB_0 hB_1 hB_2
  omega
theorem star : "*" ++ "errors.errorString" = "*errors.errorString" := by decide
theorem sentRow (u : TypeId) (h : Tryd.prog.typeName? 3 u = some "*errors.errorString") : u = 128 :=
  typeName_ptr_named (nm := "errors.errorString") (by rw [star]; kernel_rfl) (by kernel_rfl) (by decide) u (by rw [star]; exact h)
theorem powTab : (Rows.laid_internal_strconv_uint64pow10 : DataW Unit) = Lib.tabData .u64 Lib.pow10Tab := by rfl
theorem tb_of {W : World} (hL : laidMetH Tryd.prog Rows.logCutUptoRow.laid W) (hsh : W.ShapedOpen Tryd.prog) : P.Tb W := by
  rw [MakeChecks.laidMetH_plain _ _ _ (by kernel_rfl)] at hL
  refine ⟨?_, ?_, ?_, Go.Proofs.cell_of_shapedOpen_int (zero := #[.int .i64 0]) (t := 3) hsh (of_decide_eq_true (by kernel_rfl)) (by kernel_rfl) rfl (by kernel_rfl) (by kernel_rfl) Tryd.underlying3⟩
  · have h := hL.tail.tail
    change laidMet Tryd.prog (("internal/strconv.uint64pow10", Rows.laid_internal_strconv_uint64pow10) :: _) W at h
    rw [powTab] at h
    exact Lib.tabIs_of_head (g := 3) (t := 120) (e := 75) (n := 20) (by kernel_rfl) (by kernel_rfl) Tryd.underlying120 Tryd.underlying75 (by kernel_rfl) (by kernel_rfl) h
  · obtain ⟨a, s, hv, _⟩ := laid_sentinel (hL.tail.tail.tail.tail.tail) (g := 1) (by kernel_rfl) (ti := 59) (by kernel_rfl) Tryd.underlying59 sentRow Tryd.underlying128 Tryd.underlying130 rfl rfl Tryd.underlying9 (by kernel_rfl) (by kernel_rfl)
    have hg : Tryd.prog.globalNamed "strconv.ErrSyntax" = some 1 := by kernel_rfl
    exact ⟨_, _, by simpa using World.var?_cell hg hv 0⟩
  · obtain ⟨a, s, hv, _⟩ := laid_sentinel (hL.tail.tail.tail.tail) (g := 2) (by kernel_rfl) (ti := 59) (by kernel_rfl) Tryd.underlying59 sentRow Tryd.underlying128 Tryd.underlying130 rfl rfl Tryd.underlying9 (by kernel_rfl) (by kernel_rfl)
    have hg : Tryd.prog.globalNamed "strconv.ErrRange" = some 2 := by kernel_rfl
    exact ⟨_, _, by simpa using World.var?_cell hg hv 0⟩
set_option maxRecDepth 100000 in
theorem contract (H : Type) (enc : TypeId × Value → H) (W : World) (base : Nat) (args : Array Value) (ds gs : List (DataW H)) (before : List MemPlace)
    (hval0 : ∀ (j : Nat) t v, Tryd.f7.params[j]? = some t → args[j]? = some v → Value.okWide Tryd.prog W .any base t v)
    (hW : DataW.Whole enc Tryd.prog Tryd.f7.params.toList Rows.logCutSpec.vars false W args.toList ds gs before) (hk : Rows.uptoSmall H (ds ++ gs) = true)
    (hTb : P.Tb W)
    (hsz0 : (DataW.weightsEach Tryd.prog (Tryd.f7.params.toList ++ Rows.logCutSpec.plain.varTypes Tryd.prog) (ds ++ gs)).all (· ≤ reachBytes) = true) :
    Calls Tryd.prog 7 args W fun e W' => ∃ v, e = .returned v ∧ Rows.logCutSpec.post enc Tryd.prog Tryd.f7 false true false false W args v W' := by
  have hsz := hsz0
  have hval := hval0
  have hW' := hW
  obtain ⟨p, q, hA0, hV, rfl, hfz, hnd⟩ := hW
  have hA : DataW.TrodAll enc Tryd.prog W 0 (fun _ => true) true Tryd.f7.params.toList args.toList ds p := hA0
  rw [Tryd.params7] at hA hval hsz
  obtain ⟨v0, vs0, d0, ds0, p0, q0, hargs, rfl, rfl, h0, r0⟩ := trodAll_cons hA
  obtain ⟨v1, vs1, d1, ds1, p1, q1, rfl, rfl, rfl, h1, r1⟩ := trodAll_cons r0
  obtain ⟨rfl, rfl, rfl⟩ := trodAll_nil r1
  obtain rfl : args = #[v0, v1] := by cases args; simp_all
  obtain ⟨rfl, rfl⟩ := trodVars_none hV
  have hbk := Open.small_part hk
  simp only [List.append_nil, List.cons_append, List.nil_append, Rows.uptoBulkAll, Nat.add_zero] at hbk
  obtain ⟨a0, len0, cap0, rfl⟩ := okWide_slice Tryd.underlying37 (hval 0 37 v0 rfl rfl)
  have k0 := h0
  have lt0 : ∀ x ∈ p0, x.block < W.heap.size := by obtain ⟨m, hm⟩ := k0; exact DataW.trod_lt m _ _ _ hm
  obtain ⟨f0, hf0⟩ := h0
  obtain ⟨x0, hK0, hB0, hO0⟩ := (Open.Opens.slice Tryd.underlying37 opens23 (by kernel_rfl)) _ _ _ _ _ _ _ _ _ hf0
  try simp only [] at hB0
  obtain ⟨A0, c0, hcs0, hc0, hr0⟩ := hK0
  simp [Value.cells] at hcs0
  obtain ⟨rfl, rfl, rfl⟩ := hcs0
  obtain ⟨a1, rfl, rfl, rfl, w1⟩ := open_int Tryd.underlying3 (hval 1 3 v1 rfl rfl) h1
  simp only [Rows.uptoBulk] at hbk
  clear hA0 hval0 hsz0 hsz
  obtain ⟨k, h⟩ := Spec.LogCut x0 a1 (by first | exact hbk | omega) hO0 w1
  refine (P.cruciblelaw14_LogCut.calls k _ _ x0 a1 true W hr0 hc0 h hTb).mono ?_
  rintro e W' ⟨rfl, hd⟩
  have bel : Below W.heap.size W W' := hd
  exact ⟨_, rfl, _, _, _, [], _, [], hW', trodAll_mk1 (shut_bool Tryd.underlying4 _), (trodAll_cons_mk (Below.trod laidOut (by kernel_rfl) (of_decide_eq_true (by kernel_rfl)) k0 bel lt0) (trodAll_cons_mk (shut_int Tryd.underlying3 w1) trodAll_mk0)), rfl, bel.frame _, fun h => by cases h⟩
mutual
def cellsD : DataW Unit → List Value
  | .lit (.int k n) => [.int k n]
  | .agg l => cellsL l
  | _ => []
def cellsL : List (DataW Unit) → List Value
  | [] => []
  | d :: r => cellsD d ++ cellsL r
end
def lay (t : DataW Unit) : Obj → Obj
  | .cells _ e f => .cells (cellsD t).toArray e f
  | o => o
noncomputable def low : Nat := (World.holding Tryd.prog default ⟨#[], #[], []⟩).heap.size
def point (b : Nat) : Obj → Obj
  | .cells _ e f => .cells #[.iface 128 (.pointer (some ⟨b, 0, none⟩))] e f
  | o => o
noncomputable def laidWorld (os : Os) : World :=
  { World.holding Tryd.prog os ⟨#[.cells #[.string ⟨#[118, 97, 108, 117, 101, 32, 111, 117, 116, 32, 111, 102, 32, 114, 97, 110, 103, 101]⟩] 130, .cells #[.string ⟨#[105, 110, 118, 97, 108, 105, 100, 32, 115, 121, 110, 116, 97, 120]⟩] 130], #[], []⟩ with heap := (Array.modify (Array.modify (Array.modify (Array.modify (Array.modify (Array.modify (Array.modify (World.holding Tryd.prog os ⟨#[.cells #[.string ⟨#[118, 97, 108, 117, 101, 32, 111, 117, 116, 32, 111, 102, 32, 114, 97, 110, 103, 101]⟩] 130, .cells #[.string ⟨#[105, 110, 118, 97, 108, 105, 100, 32, 115, 121, 110, 116, 97, 120]⟩] 130], #[], []⟩).heap 6 (lay Rows.laid_math_bits_deBruijn32tab)) 7 (lay Rows.laid_math_bits_deBruijn64tab)) 3 (lay Rows.laid_internal_strconv_uint64pow10)) 5 (lay Rows.laid_unicode_utf8_acceptRanges)) 2 (point (low + 0))) 1 (point (low + 1))) 4 (lay Rows.laid_unicode_utf8_first)) }
theorem laid_met (os : Os) : laidMet Tryd.prog Rows.logCutUptoRow.laid ((laidWorld os).forCall (fun _ _ => 0) ⟨#[], #[.slice none 0 0, .int .i64 0], []⟩).memory :=
  laidMet_of_run' 8 (by kernel_rfl) (by kernel_rfl)
theorem reads (os : Os) {H : Type} (enc : TypeId × Value → H) : ∃ places, DataW.whole enc Tryd.prog ((laidWorld os).forCall (fun _ _ => 0) ⟨#[], #[.slice none 0 0, .int .i64 0], []⟩).memory Tryd.f7.params.toList Rows.logCutSpec.vars false (#[.slice none 0 0, .int .i64 0] : Array Value).toList 8 = some ([.nil, .lit (.int .i64 0)], [], places) :=
  ⟨[], by kernel_rfl⟩
set_option maxRecDepth 100000 in
theorem lifted (os : Os) (started : os.Started) (H : Type) (enc : TypeId × Value → H) (F : Stop.Interp) :
    ReturnsInHanded {} Tryd.checked os 7 .any ((Rows.OpenSpec.upto Rows.logCutSpec).preRow enc Tryd.prog Tryd.f7 Rows.logCutUptoRow.domain false Rows.logCutUptoRow.laid) (((Rows.OpenSpec.upto Rows.logCutSpec).at F).post enc Tryd.prog Tryd.f7 false true false false) := by
  obtain ⟨places, hx⟩ := reads os enc
  refine returnsInHanded_of_row (C := Tryd.checked) (s := (Rows.OpenSpec.upto Rows.logCutSpec)) own started (by kernel_rfl) Tryd.func7
    (witness_row_at (enc := enc) (C := Tryd.checked) false (laidWorld os) #[.slice none 0 0, .int .i64 0] rfl (by kernel_rfl) (by kernel_rfl) (by kernel_rfl)
      (OpenSpec.preRow_of_cond 8 hx (by kernel_rfl) (fun k hk => by cases hk; kernel_rfl) (by kernel_rfl) (laid_met os))) ?_
  intro W base args ds gs before hval hW _ hcond hsz hL hsh _
  exact contract H enc W base args ds gs before hval hW (hcond _ rfl) (tb_of hL hsh) hsz
theorem over : Rows.LogCutUptoSaid :=
  OpenClaim.holds_of_cond 7 Tryd.f7 rfl rfl rfl rfl rfl rfl rfl ⟨rfl, rfl, rfl, rfl, rfl⟩ rfl rfl rfl rfl rfl (by kernel_rfl) Tryd.func7 (by kernel_rfl)
    (of_decide_eq_true (by kernel_rfl)) (by unfold Func.isWrapper; first | (rw [if_pos (by decide +kernel)]; kernel_rfl) | (rw [if_neg (by decide +kernel)]; exact ⟨rfl, rfl⟩))
    (fun os started H enc _ F => by rw [OpenClaim.pre_eq_preRow]; exact lifted os started H enc F)
theorem plain (f : FuncId) (fn : Func) (hf : Tryd.pinned.checked.prog.funcNamed Rows.logCutUptoRow.func = some f) (hfn : Tryd.pinned.checked.prog.funcs[f]? = some fn) :
    true = Tryd.pinned.checked.prog.looks [] ∧ ∀ (j : Nat) t, fn.params[j]? = some t → Tryd.pinned.checked.prog.wantsStandIn t = false := by
  obtain rfl : f = 7 := Option.some.inj ((show Tryd.prog.funcNamed Rows.logCutUptoRow.func = some 7 by kernel_rfl).symm.trans hf) |>.symm
  obtain rfl : fn = Tryd.f7 := (Option.some.inj (Tryd.func7.symm.trans hfn)).symm
  refine ⟨by kernel_rfl, fun j t ht => ?_⟩
  rw [Tryd.params7] at ht
  have hm := Array.mem_of_getElem? ht
  simp only [List.mem_toArray, List.mem_cons, List.not_mem_nil, or_false] at hm
  rcases hm with rfl | rfl
  · exact (show Tryd.prog.wantsStandIn 37 = false by kernel_rfl)
  · exact (show Tryd.prog.wantsStandIn 3 = false by kernel_rfl)
/-- THE CARD -/
theorem card : Rows.LogCutUptoCardSaid :=
  Claim7.holds_tied_plain_at .later [] _ _ _ _ over (fun _ h => by cases h) (by kernel_rfl) (fun _ h => by cases h) logCutUpto_row_tie rfl ⟨rfl, rfl⟩ (by kernel_rfl) rfl plain (by kernel_rfl)
end Go.Proofs.YtdaddlplpkmkmaaDoor.logCut
namespace Go.Proofs.YtdaddlplpkmkmaaDoor
/-- The card, under a short name, for the claim. -/
theorem logCut_card : Rows.LogCutUptoCardSaid := logCut.card
end Go.Proofs.YtdaddlplpkmkmaaDoor
