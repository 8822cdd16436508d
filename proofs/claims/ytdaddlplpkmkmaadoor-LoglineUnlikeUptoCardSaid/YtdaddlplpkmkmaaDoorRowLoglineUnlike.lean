/- The law cruciblelaw13.LoglineUnlike: called with any arguments of its types that together hold at most 1048576 values and letters it returns true, and each argument reads afterwards as it read before. The row, and its card (the package-level tables that it lists, tied to the program's text). -/
import Derived.Test.YtdaddlplpkmkmaaDoorCards
import Derived.Test.YtdaddlplpkmkmaaDoorTie
import Derived.Test.YtdaddlplpkmkmaaDoorOpen
import Derived.Test.YtdaddlplpkmkmaaDoorUnlike13
import Derived.Test.YtdaddlplpkmkmaaDoorP17
import Derived.Test.YtdaddlplpkmkmaaDoorTb
import Derived.Stop.LaidErr
import Derived.Shelf.Vars
import Derived.MakeChecks
import Derived.WalkKit
import Derived.ProofKit
import Derived.OpenShut
import Derived.ShutString
import Derived.ChangeOld
import Derived.Below
import Derived.Carry
import Derived.SizedLaws
import Derived.Deep.DeepHandedRow
import Derived.Lib.LaidTab
namespace Go.Proofs.YtdaddlplpkmkmaaDoor.loglineUnlike
open Go.ChangeShapes Go.WideShapes Go.ChangeAt Go.RowKit Go.Proofs.YtdaddlplpkmkmaaDoorW.PrintWords
open Go.ChangeMaps (open_string shut_string)
set_option linter.unusedVariables false
set_option linter.unusedSimpArgs false
theorem own : ownKnob Tryd.prog.godebug = none := by kernel_rfl
theorem laidOut : laidOutB Tryd.prog = true := by kernel_rfl
theorem star : "*" ++ "errors.errorString" = "*errors.errorString" := by decide
theorem sentRow (u : TypeId) (h : Tryd.prog.typeName? 3 u = some "*errors.errorString") : u = 128 :=
  typeName_ptr_named (nm := "errors.errorString") (by rw [star]; kernel_rfl) (by kernel_rfl) (by decide) u (by rw [star]; exact h)
theorem powTab : (Rows.laid_internal_strconv_uint64pow10 : DataW Unit) = Lib.tabData .u64 Lib.pow10Tab := by rfl
theorem tb_of {W : World} (hL : laidMetH Tryd.prog Rows.loglineUnlikeUptoRow.laid W) (hsh : W.ShapedOpen Tryd.prog) : P.Tb W := by
  rw [MakeChecks.laidMetH_plain _ _ _ (by kernel_rfl)] at hL
  refine ⟨?_, ?_, ?_, Go.Proofs.cell_of_shapedOpen_int (zero := #[.int .i64 0]) (t := 3) hsh (of_decide_eq_true (by kernel_rfl)) (by kernel_rfl) rfl (by kernel_rfl) (by kernel_rfl) Tryd.underlying3⟩
  · have h := hL.tail.tail
    change laidMet Tryd.prog (("internal/strconv.uint64pow10", Rows.laid_internal_strconv_uint64pow10) :: _) W at h
    rw [powTab] at h
    exact Lib.tabIs_of_head (g := 3) (t := 120) (e := 75) (n := 20) (by kernel_rfl) (by kernel_rfl) Tryd.underlying120 Tryd.underlying75 (by kernel_rfl) (by kernel_rfl) h
  · obtain ⟨a, s, hv, _⟩ := laid_sentinel (hL.tail.tail.tail.tail.tail) (g := 1) (by kernel_rfl) (ti := 59) (by kernel_rfl) Tryd.underlying59 sentRow Tryd.underlying128 Tryd.underlying130 rfl rfl Tryd.underlying9 (by kernel_rfl) (by kernel_rfl)
    have hg : Tryd.prog.globalNamed "strconv.ErrSyntax" = some 1 := by kernel_rfl
    exact ⟨_, _, by simpa using World.var?_cell hg hv 0⟩
  · obtain ⟨a, s, hv, _⟩ := laid_sentinel (hL.tail.tail.tail.tail) (g := 2) (by kernel_rfl) (ti := 59) (by kernel_rfl) Tryd.underlying59 sentRow Tryd.underlying128 Tryd.underlying130 rfl rfl Tryd.underlying9 (by kernel_rfl) (by kernel_rfl)
    have hg : Tryd.prog.globalNamed "strconv.ErrRange" = some 2 := by kernel_rfl
    exact ⟨_, _, by simpa using World.var?_cell hg hv 0⟩
set_option maxRecDepth 100000 in
theorem contract (H : Type) (enc : TypeId × Value → H) (W : World) (base : Nat) (args : Array Value) (ds gs : List (DataW H)) (before : List MemPlace)
    (hval0 : ∀ (j : Nat) t v, Tryd.f5.params[j]? = some t → args[j]? = some v → Value.okWide Tryd.prog W .any base t v)
    (hW : DataW.Whole enc Tryd.prog Tryd.f5.params.toList Rows.loglineUnlikeSpec.vars false W args.toList ds gs before) (hk : Rows.uptoSmall H (ds ++ gs) = true)
    (hTb : P.Tb W)
    (hsz0 : (DataW.weightsEach Tryd.prog (Tryd.f5.params.toList ++ Rows.loglineUnlikeSpec.plain.varTypes Tryd.prog) (ds ++ gs)).all (· ≤ reachBytes) = true) :
    Calls Tryd.prog 5 args W fun e W' => ∃ v, e = .returned v ∧ Rows.loglineUnlikeSpec.post enc Tryd.prog Tryd.f5 false true false false W args v W' := by
  have hsz := hsz0
  have hval := hval0
  have hW' := hW
  obtain ⟨p, q, hA0, hV, rfl, hfz, hnd⟩ := hW
  have hA : DataW.TrodAll enc Tryd.prog W 0 (fun _ => true) true Tryd.f5.params.toList args.toList ds p := hA0
  rw [Tryd.params5] at hA hval hsz
  obtain ⟨v0, vs0, d0, ds0, p0, q0, hargs, rfl, rfl, h0, r0⟩ := trodAll_cons hA
  obtain ⟨v1, vs1, d1, ds1, p1, q1, rfl, rfl, rfl, h1, r1⟩ := trodAll_cons r0
  obtain ⟨rfl, rfl, rfl⟩ := trodAll_nil r1
  obtain rfl : args = #[v0, v1] := by cases args; simp_all
  obtain ⟨rfl, rfl⟩ := trodVars_none hV
  have hbk := Open.small_part hk
  simp only [List.append_nil, List.cons_append, List.nil_append, Rows.uptoBulkAll, Nat.add_zero] at hbk
  obtain ⟨cs0, rfl, _⟩ := okWide_struct Tryd.underlying23 (hval 0 23 v0 rfl rfl)
  have k0 := h0
  have lt0 : ∀ x ∈ p0, x.block < W.heap.size := by obtain ⟨m, hm⟩ := k0; exact DataW.trod_lt m _ _ _ hm
  obtain ⟨f0, hf0⟩ := h0
  obtain ⟨us0, ys0, n0, hcs0, hu0, hy0, hd0, hg0⟩ := Open.struct_cells Tryd.underlying23 hf0 (by kernel_rfl) (by kernel_rfl)
  subst hcs0 hd0
  have hu0_0 : us0.length = 3 := hu0.trans rfl
  have hy0_0 : ys0.length = 3 := hy0.trans rfl
  clear hu0 hy0
  obtain ⟨u0_0, us0_0, rfl, hu0_1⟩ := Open.len_cons hu0_0
  clear hu0_0
  obtain ⟨y0_0, ys0_0, rfl, hy0_1⟩ := Open.len_cons hy0_0
  clear hy0_0
  obtain ⟨u0_1, us0_1, rfl, hu0_2⟩ := Open.len_cons hu0_1
  clear hu0_1
  obtain ⟨y0_1, ys0_1, rfl, hy0_2⟩ := Open.len_cons hy0_1
  clear hy0_1
  obtain ⟨u0_2, us0_2, rfl, hu0_3⟩ := Open.len_cons hu0_2
  clear hu0_2
  obtain ⟨y0_2, ys0_2, rfl, hy0_3⟩ := Open.len_cons hy0_2
  clear hy0_2
  obtain rfl := List.eq_nil_of_length_eq_zero hu0_3
  obtain rfl := List.eq_nil_of_length_eq_zero hy0_3
  have g0_0 := hg0 0 _ u0_0 y0_0 rfl rfl rfl
  obtain ⟨x0_0, hK0_0, hB0_0, hO0_0⟩ := (Open.Opens.string Tryd.underlying9) _ _ _ _ _ _ _ _ _ g0_0
  try simp only [] at hB0_0
  obtain rfl : u0_0 = _ := (List.cons.inj hK0_0).1
  have g0_1 := hg0 1 _ u0_1 y0_1 rfl rfl rfl
  obtain ⟨x0_1, hK0_1, hB0_1, hO0_1⟩ := (Open.Opens.int Tryd.underlying3) _ _ _ _ _ _ _ _ _ g0_1
  try simp only [] at hB0_1
  obtain rfl : u0_1 = _ := (List.cons.inj hK0_1).1
  have g0_2 := hg0 2 _ u0_2 y0_2 rfl rfl rfl
  obtain ⟨x0_2, hK0_2, hB0_2, hO0_2⟩ := (Open.Opens.string Tryd.underlying9) _ _ _ _ _ _ _ _ _ g0_2
  try simp only [] at hB0_2
  obtain rfl : u0_2 = _ := (List.cons.inj hK0_2).1
  clear hg0
  simp only [List.map_cons, List.map_nil, Rows.uptoBulk, Rows.uptoBulkAll] at hbk
  obtain ⟨cs1, rfl, _⟩ := okWide_struct Tryd.underlying23 (hval 1 23 v1 rfl rfl)
  have k1 := h1
  have lt1 : ∀ x ∈ p1, x.block < W.heap.size := by obtain ⟨m, hm⟩ := k1; exact DataW.trod_lt m _ _ _ hm
  obtain ⟨f1, hf1⟩ := h1
  obtain ⟨us1, ys1, n1, hcs1, hu1, hy1, hd1, hg1⟩ := Open.struct_cells Tryd.underlying23 hf1 (by kernel_rfl) (by kernel_rfl)
  subst hcs1 hd1
  have hu1_0 : us1.length = 3 := hu1.trans rfl
  have hy1_0 : ys1.length = 3 := hy1.trans rfl
  clear hu1 hy1
  obtain ⟨u1_0, us1_0, rfl, hu1_1⟩ := Open.len_cons hu1_0
  clear hu1_0
  obtain ⟨y1_0, ys1_0, rfl, hy1_1⟩ := Open.len_cons hy1_0
  clear hy1_0
  obtain ⟨u1_1, us1_1, rfl, hu1_2⟩ := Open.len_cons hu1_1
  clear hu1_1
  obtain ⟨y1_1, ys1_1, rfl, hy1_2⟩ := Open.len_cons hy1_1
  clear hy1_1
  obtain ⟨u1_2, us1_2, rfl, hu1_3⟩ := Open.len_cons hu1_2
  clear hu1_2
  obtain ⟨y1_2, ys1_2, rfl, hy1_3⟩ := Open.len_cons hy1_2
  clear hy1_2
  obtain rfl := List.eq_nil_of_length_eq_zero hu1_3
  obtain rfl := List.eq_nil_of_length_eq_zero hy1_3
  have g1_0 := hg1 0 _ u1_0 y1_0 rfl rfl rfl
  obtain ⟨x1_0, hK1_0, hB1_0, hO1_0⟩ := (Open.Opens.string Tryd.underlying9) _ _ _ _ _ _ _ _ _ g1_0
  try simp only [] at hB1_0
  obtain rfl : u1_0 = _ := (List.cons.inj hK1_0).1
  have g1_1 := hg1 1 _ u1_1 y1_1 rfl rfl rfl
  obtain ⟨x1_1, hK1_1, hB1_1, hO1_1⟩ := (Open.Opens.int Tryd.underlying3) _ _ _ _ _ _ _ _ _ g1_1
  try simp only [] at hB1_1
  obtain rfl : u1_1 = _ := (List.cons.inj hK1_1).1
  have g1_2 := hg1 2 _ u1_2 y1_2 rfl rfl rfl
  obtain ⟨x1_2, hK1_2, hB1_2, hO1_2⟩ := (Open.Opens.string Tryd.underlying9) _ _ _ _ _ _ _ _ _ g1_2
  try simp only [] at hB1_2
  obtain rfl : u1_2 = _ := (List.cons.inj hK1_2).1
  clear hg1
  simp only [List.map_cons, List.map_nil, Rows.uptoBulk, Rows.uptoBulkAll] at hbk
  clear hA0 hval0 hsz0 hsz
  obtain ⟨k, h⟩ := Spec.LoglineUnlike x0_0 x0_1 x0_2 x1_0 x1_1 x1_2 (by first | exact hbk | omega) hO0_0 hO0_1 hO0_2 hO1_0 hO1_1 hO1_2
  refine (P.cruciblelaw13_LoglineUnlike.calls k x0_0 x0_1 x0_2 x1_0 x1_1 x1_2 true W h hTb).mono ?_
  rintro e W' ⟨rfl, hd⟩
  have bel : Below W.heap.size W W' := hd
  exact ⟨_, rfl, _, _, _, [], _, [], hW', trodAll_mk1 (shut_bool Tryd.underlying4 _), (trodAll_cons_mk (Below.trod laidOut (by kernel_rfl) (of_decide_eq_true (by kernel_rfl)) k0 bel lt0) (trodAll_cons_mk (Below.trod laidOut (by kernel_rfl) (of_decide_eq_true (by kernel_rfl)) k1 bel lt1) trodAll_mk0)), rfl, bel.frame _, fun h => by cases h⟩
mutual
def cellsD : DataW Unit → List Value
  | .lit (.int k n) => [.int k n]
  | .agg l => cellsL l
  | _ => []
def cellsL : List (DataW Unit) → List Value
  | [] => []
  | d :: r => cellsD d ++ cellsL r
end
def lay (t : DataW Unit) : Obj → Obj
  | .cells _ e f => .cells (cellsD t).toArray e f
  | o => o
noncomputable def low : Nat := (World.holding Tryd.prog default ⟨#[], #[], []⟩).heap.size
def point (b : Nat) : Obj → Obj
  | .cells _ e f => .cells #[.iface 128 (.pointer (some ⟨b, 0, none⟩))] e f
  | o => o
noncomputable def laidWorld (os : Os) : World :=
  { World.holding Tryd.prog os ⟨#[.cells #[.string ⟨#[118, 97, 108, 117, 101, 32, 111, 117, 116, 32, 111, 102, 32, 114, 97, 110, 103, 101]⟩] 130, .cells #[.string ⟨#[105, 110, 118, 97, 108, 105, 100, 32, 115, 121, 110, 116, 97, 120]⟩] 130], #[], []⟩ with heap := (Array.modify (Array.modify (Array.modify (Array.modify (Array.modify (Array.modify (Array.modify (World.holding Tryd.prog os ⟨#[.cells #[.string ⟨#[118, 97, 108, 117, 101, 32, 111, 117, 116, 32, 111, 102, 32, 114, 97, 110, 103, 101]⟩] 130, .cells #[.string ⟨#[105, 110, 118, 97, 108, 105, 100, 32, 115, 121, 110, 116, 97, 120]⟩] 130], #[], []⟩).heap 6 (lay Rows.laid_math_bits_deBruijn32tab)) 7 (lay Rows.laid_math_bits_deBruijn64tab)) 3 (lay Rows.laid_internal_strconv_uint64pow10)) 5 (lay Rows.laid_unicode_utf8_acceptRanges)) 2 (point (low + 0))) 1 (point (low + 1))) 4 (lay Rows.laid_unicode_utf8_first)) }
theorem laid_met (os : Os) : laidMet Tryd.prog Rows.loglineUnlikeUptoRow.laid ((laidWorld os).forCall (fun _ _ => 0) ⟨#[], #[.agg #[.string ByteArray.empty, .int .i64 0, .string ByteArray.empty], .agg #[.string ByteArray.empty, .int .i64 0, .string ByteArray.empty]], []⟩).memory :=
  laidMet_of_run' 8 (by kernel_rfl) (by kernel_rfl)
theorem reads (os : Os) {H : Type} (enc : TypeId × Value → H) : ∃ places, DataW.whole enc Tryd.prog ((laidWorld os).forCall (fun _ _ => 0) ⟨#[], #[.agg #[.string ByteArray.empty, .int .i64 0, .string ByteArray.empty], .agg #[.string ByteArray.empty, .int .i64 0, .string ByteArray.empty]], []⟩).memory Tryd.f5.params.toList Rows.loglineUnlikeSpec.vars false (#[.agg #[.string ByteArray.empty, .int .i64 0, .string ByteArray.empty], .agg #[.string ByteArray.empty, .int .i64 0, .string ByteArray.empty]] : Array Value).toList 8 = some ([.agg [.lit (.string []), .lit (.int .i64 0), .lit (.string [])], .agg [.lit (.string []), .lit (.int .i64 0), .lit (.string [])]], [], places) :=
  ⟨[], by kernel_rfl⟩
set_option maxRecDepth 100000 in
theorem lifted (os : Os) (started : os.Started) (H : Type) (enc : TypeId × Value → H) (F : Stop.Interp) :
    ReturnsInHanded {} Tryd.checked os 5 .any ((Rows.OpenSpec.upto Rows.loglineUnlikeSpec).preRow enc Tryd.prog Tryd.f5 Rows.loglineUnlikeUptoRow.domain false Rows.loglineUnlikeUptoRow.laid) (((Rows.OpenSpec.upto Rows.loglineUnlikeSpec).at F).post enc Tryd.prog Tryd.f5 false true false false) := by
  obtain ⟨places, hx⟩ := reads os enc
  refine returnsInHanded_of_row (C := Tryd.checked) (s := (Rows.OpenSpec.upto Rows.loglineUnlikeSpec)) own started (by kernel_rfl) Tryd.func5
    (witness_row_at (enc := enc) (C := Tryd.checked) false (laidWorld os) #[.agg #[.string ByteArray.empty, .int .i64 0, .string ByteArray.empty], .agg #[.string ByteArray.empty, .int .i64 0, .string ByteArray.empty]] rfl (by kernel_rfl) (by kernel_rfl) (by kernel_rfl)
      (OpenSpec.preRow_of_cond 8 hx (by kernel_rfl) (fun k hk => by cases hk; kernel_rfl) (by kernel_rfl) (laid_met os))) ?_
  intro W base args ds gs before hval hW _ hcond hsz hL hsh _
  exact contract H enc W base args ds gs before hval hW (hcond _ rfl) (tb_of hL hsh) hsz
theorem over : Rows.LoglineUnlikeUptoSaid :=
  OpenClaim.holds_of_cond 5 Tryd.f5 rfl rfl rfl rfl rfl rfl rfl ⟨rfl, rfl, rfl, rfl, rfl⟩ rfl rfl rfl rfl rfl (by kernel_rfl) Tryd.func5 (by kernel_rfl)
    (of_decide_eq_true (by kernel_rfl)) (by unfold Func.isWrapper; first | (rw [if_pos (by decide +kernel)]; kernel_rfl) | (rw [if_neg (by decide +kernel)]; exact ⟨rfl, rfl⟩))
    (fun os started H enc _ F => by rw [OpenClaim.pre_eq_preRow]; exact lifted os started H enc F)
theorem plain (f : FuncId) (fn : Func) (hf : Tryd.pinned.checked.prog.funcNamed Rows.loglineUnlikeUptoRow.func = some f) (hfn : Tryd.pinned.checked.prog.funcs[f]? = some fn) :
    true = Tryd.pinned.checked.prog.looks [] ∧ ∀ (j : Nat) t, fn.params[j]? = some t → Tryd.pinned.checked.prog.wantsStandIn t = false := by
  obtain rfl : f = 5 := Option.some.inj ((show Tryd.prog.funcNamed Rows.loglineUnlikeUptoRow.func = some 5 by kernel_rfl).symm.trans hf) |>.symm
  obtain rfl : fn = Tryd.f5 := (Option.some.inj (Tryd.func5.symm.trans hfn)).symm
  refine ⟨by kernel_rfl, fun j t ht => ?_⟩
  rw [Tryd.params5] at ht
  have hm := Array.mem_of_getElem? ht
  simp only [List.mem_toArray, List.mem_cons, List.not_mem_nil, or_false] at hm
  rcases hm with rfl | rfl
  · exact (show Tryd.prog.wantsStandIn 23 = false by kernel_rfl)
  · exact (show Tryd.prog.wantsStandIn 23 = false by kernel_rfl)
/-- THE CARD -/
theorem card : Rows.LoglineUnlikeUptoCardSaid :=
  Claim7.holds_tied_plain_at .later [] _ _ _ _ over (fun _ h => by cases h) (by kernel_rfl) (fun _ h => by cases h) loglineUnlikeUpto_row_tie rfl ⟨rfl, rfl⟩ (by kernel_rfl) rfl plain (by kernel_rfl)
end Go.Proofs.YtdaddlplpkmkmaaDoor.loglineUnlike
namespace Go.Proofs.YtdaddlplpkmkmaaDoor
/-- The card, under a short name, for the claim. -/
theorem loglineUnlike_card : Rows.LoglineUnlikeUptoCardSaid := loglineUnlike.card
end Go.Proofs.YtdaddlplpkmkmaaDoor
