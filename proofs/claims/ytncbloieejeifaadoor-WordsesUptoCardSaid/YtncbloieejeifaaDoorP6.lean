-- Made by a program of this work's own (wip/myprint.py) over the kit's print; leaves by hand.
import Derived.Test.YtncbloieejeifaaDoorP0
import Derived.Test.YtncbloieejeifaaDoorP2
import Derived.Test.YtncbloieejeifaaDoorP3
import Derived.Test.YtncbloieejeifaaDoorP4
import Derived.Test.YtncbloieejeifaaDoorP5
import Derived.Test.YtncbloieejeifaaDoorWordsB
namespace Go.Proofs.YtncbloieejeifaaDoor.P
open Go.RowKit Go.Proofs.YtncbloieejeifaaDoorW.PrintWords Go.Proofs.YtncbloieejeifaaDoorW.PrintLast Go.Proofs.YtncbloieejeifaaDoorW.PrintMore
attribute [local go_sem] max2_int min2_int max_two min_two max_three min_three max_four min_four   -- for this text's walks alone
set_option linter.unusedVariables false
set_option linter.unusedSimpArgs false

-- HANDBIG RefWords.lean
-- IMPORT Derived.Test.YtncbloieejeifaaDoorWordsB
/-! ### crucibleref1_Words, by hand -/
open Classical in
noncomputable def crucibleref1_Words.f (k : Nat) (a0 : ByteArray) : Option words_Parts :=
  (crucibleref1_words.f k a0).bind fun ws => if (∀ j, j ≤ ws.length → crucibleref1_names.f k (ws.drop j) = some ((words_lead (ws.drop j)).length : Int)) ∧ (∀ x, x ∈ ws → crucibleref1_NameMay.f k x = some (words_is x)) ∧ ws.length ≤ 4294967296 then some (words_build ws) else none
theorem crucibleref1_Words.mono : ∀ a0 k, LeO (crucibleref1_Words.f k a0) (crucibleref1_Words.f (k + 1) a0) := by
  intro a0 k r h
  unfold crucibleref1_Words.f at h ⊢
  obtain ⟨ws, hw, h⟩ := Option.bind_eq_some_iff.1 h
  split at h
  case isFalse => cases h
  rename_i hc
  refine Option.bind_eq_some_iff.2 ⟨ws, crucibleref1_words.mono _ k ws hw, ?_⟩
  rw [if_pos ⟨fun j hj => crucibleref1_names.mono _ k _ (hc.1 j hj), fun x hx => crucibleref1_NameMay.mono _ k _ (hc.2.1 x hx), hc.2.2⟩]
  exact h
/-- the box under way: its five cells, the rows that they lead to -/
structure RwS (w W : World) (g : Nat) (vo : Value) (o : List ByteArray) (x : ByteArray) (vi : Value) (i : List ByteArray) (vc : Value) (c : List ByteArray) (vd : Value) (d : List ByteArray) : Prop where
  base : w.heap.size ≤ g
  blk : W.heap[g]? = some (.cells #[vo, .string x, vi, vc, vd] 27 (0, 0))
  ro : Kd.R Kd.string 9 W w.heap.size (fun _ => True) vo o
  ri : Kd.R Kd.string 9 W w.heap.size (fun _ => True) vi i
  rc : Kd.R Kd.string 9 W w.heap.size (fun _ => True) vc c
  rd : Kd.R Kd.string 9 W w.heap.size (fun _ => True) vd d
  below : Below w.heap.size w W
theorem rw_types : ∀ q, q ∈ 9 :: (Kd.string).E → q ≠ 27 := by decide
section
variable {w W W' : World} {g : Nat} {vo vi vc vd : Value} {o i c d : List ByteArray} {x : ByteArray}
theorem RwS.step (h : RwS w W g vo o x vi i vc c vd d) (hb : Below W.heap.size W W') : RwS w W' g vo o x vi i vc c vd d :=
  ⟨h.base, (hb.block _ (blk_lt h.blk)).trans h.blk, Kd.R_below h.ro hb, Kd.R_below h.ri hb, Kd.R_below h.rc hb, Kd.R_below h.rd hb, below_then h.below h.below.size hb⟩
theorem RwS.grow (h : RwS w W g vo o x vi i vc c vd d) (hg : W.grownBy W' none) (hb : Below w.heap.size w W') : RwS w W' g vo o x vi i vc c vd d :=
  ⟨h.base, (hg.block g (blk_lt h.blk) (by simp)).trans h.blk, Kd.R_grown h.ro hg (fun _ _ => by simp), Kd.R_grown h.ri hg (fun _ _ => by simp), Kd.R_grown h.rc hg (fun _ _ => by simp), Kd.R_grown h.rd hg (fun _ _ => by simp), hb⟩
theorem RwS.put0 (h : RwS w W g vo o x vi i vc c vd d) {v : Value} {l : List ByteArray} (hv : Kd.R Kd.string 9 W w.heap.size (fun _ => True) v l) : RwS w (W.setCell ⟨g, 0, none⟩ v) g v l x vi i vc c vd d :=
  ⟨h.base, by rw [blk_set h.blk 0]; rfl, Kd.R_set hv h.blk rw_types 0 v, Kd.R_set h.ri h.blk rw_types 0 v, Kd.R_set h.rc h.blk rw_types 0 v, Kd.R_set h.rd h.blk rw_types 0 v, h.below.setCell (p := ⟨g, 0, none⟩) h.base _⟩
theorem RwS.put1 (h : RwS w W g vo o x vi i vc c vd d) (y : ByteArray) : RwS w (W.setCell ⟨g, 1, none⟩ (.string y)) g vo o y vi i vc c vd d :=
  ⟨h.base, by rw [blk_set h.blk 1]; rfl, Kd.R_set h.ro h.blk rw_types 1 _, Kd.R_set h.ri h.blk rw_types 1 _, Kd.R_set h.rc h.blk rw_types 1 _, Kd.R_set h.rd h.blk rw_types 1 _, h.below.setCell (p := ⟨g, 1, none⟩) h.base _⟩
theorem RwS.put2 (h : RwS w W g vo o x vi i vc c vd d) {v : Value} {l : List ByteArray} (hv : Kd.R Kd.string 9 W w.heap.size (fun _ => True) v l) : RwS w (W.setCell ⟨g, 2, none⟩ v) g vo o x v l vc c vd d :=
  ⟨h.base, by rw [blk_set h.blk 2]; rfl, Kd.R_set h.ro h.blk rw_types 2 v, Kd.R_set hv h.blk rw_types 2 v, Kd.R_set h.rc h.blk rw_types 2 v, Kd.R_set h.rd h.blk rw_types 2 v, h.below.setCell (p := ⟨g, 2, none⟩) h.base _⟩
theorem RwS.put3 (h : RwS w W g vo o x vi i vc c vd d) {v : Value} {l : List ByteArray} (hv : Kd.R Kd.string 9 W w.heap.size (fun _ => True) v l) : RwS w (W.setCell ⟨g, 3, none⟩ v) g vo o x vi i v l vd d :=
  ⟨h.base, by rw [blk_set h.blk 3]; rfl, Kd.R_set h.ro h.blk rw_types 3 v, Kd.R_set h.ri h.blk rw_types 3 v, Kd.R_set hv h.blk rw_types 3 v, Kd.R_set h.rd h.blk rw_types 3 v, h.below.setCell (p := ⟨g, 3, none⟩) h.base _⟩
theorem RwS.put4 (h : RwS w W g vo o x vi i vc c vd d) {v : Value} {l : List ByteArray} (hv : Kd.R Kd.string 9 W w.heap.size (fun _ => True) v l) : RwS w (W.setCell ⟨g, 4, none⟩ v) g vo o x vi i vc c v l :=
  ⟨h.base, by rw [blk_set h.blk 4]; rfl, Kd.R_set h.ro h.blk rw_types 4 v, Kd.R_set h.ri h.blk rw_types 4 v, Kd.R_set h.rc h.blk rw_types 4 v, Kd.R_set hv h.blk rw_types 4 v, h.below.setCell (p := ⟨g, 4, none⟩) h.base _⟩
theorem RwS.cells (h : RwS w W g vo o x vi i vc c vd d) : (W.cell? ⟨g, 0, none⟩ = some vo ∧ W.cell? ⟨g, 1, none⟩ = some (.string x) ∧ W.cell? ⟨g, 2, none⟩ = some vi ∧ W.cell? ⟨g, 3, none⟩ = some vc ∧ W.cell? ⟨g, 4, none⟩ = some vd) ∧ (W.frozen? ⟨g, 0, none⟩ = false ∧ W.frozen? ⟨g, 1, none⟩ = false ∧ W.frozen? ⟨g, 2, none⟩ = false ∧ W.frozen? ⟨g, 3, none⟩ = false ∧ W.frozen? ⟨g, 4, none⟩ = false) :=
  ⟨⟨by rw [blk_cell h.blk 0]; rfl, by rw [blk_cell h.blk 1]; rfl, by rw [blk_cell h.blk 2]; rfl, by rw [blk_cell h.blk 3]; rfl, by rw [blk_cell h.blk 4]; rfl⟩, blk_frozen h.blk 0, blk_frozen h.blk 1, blk_frozen h.blk 2, blk_frozen h.blk 3, blk_frozen h.blk 4⟩
end
/-- the words that are left, at a value -/
structure RwQ (w W : World) (A : Option Addr) (n c : Nat) (ws : List ByteArray) : Prop where
  len : n = ws.length
  q : Kd.Q Kd.string 9 W w.heap.size (fun _ => True) (.slice A n c) ws
theorem RwQ.step {w W W' : World} {A : Option Addr} {n c : Nat} {ws : List ByteArray} (h : RwQ w W A n c ws) (hb : Below W.heap.size W W') : RwQ w W' A n c ws := ⟨h.len, Kd.Q_below h.q hb⟩
theorem RwQ.grow {w W W' : World} {A : Option Addr} {n c : Nat} {ws : List ByteArray} (h : RwQ w W A n c ws) (hg : W.grownBy W' none) : RwQ w W' A n c ws := ⟨h.len, Kd.Q_grown h.q hg (fun _ _ => by simp)⟩
theorem RwQ.set {w W : World} {A : Option Addr} {n c : Nat} {ws : List ByteArray} (h : RwQ w W A n c ws) {g : Nat} {cs : Array Value} (hb : W.heap[g]? = some (.cells cs 27 (0, 0))) (j : Nat) (v : Value) : RwQ w (W.setCell ⟨g, j, none⟩ v) A n c ws := ⟨h.len, Kd.Q_set h.q hb rw_types j v⟩
theorem RwQ.cut {w W : World} {A : Option Addr} {n c : Nat} {ws : List ByteArray} (h : RwQ w W A n c ws) (j : Nat) (hj : j ≤ n) :
    ∃ A' n' c', (∀ W : World, (Instr.slice 22 (.slice A n c) (some (.int .i64 (j : Int))) none none).run Tryd.prog W = .ok (.slice A' n' c') W) ∧ RwQ w W A' n' c' (ws.drop j) := by
  obtain ⟨i0, hi, hz1⟩ := words_info
  have hcut := cut_from (P := Tryd.prog) 22 9 .i64 Tryd.underlying22 hi 1 hz1 A n c (j : Int) (by omega) (by omega)
  have hl := h.len
  refine ⟨_, _, _, fun W => hcut W, by rw [Int.toNat_natCast, List.length_drop, hl], ?_⟩
  rw [Int.toNat_natCast]
  exact Kd.Q_drop (k := j) h.q (by omega)
theorem RwQ.to {w W : World} {A : Option Addr} {n c : Nat} {ws : List ByteArray} (h : RwQ w W A n c ws) (j : Nat) (hj : j ≤ n) :
    (∀ W : World, (Instr.slice 22 (.slice A n c) none (some (.int .i64 (j : Int))) none).run Tryd.prog W = .ok (.slice A j c) W) ∧ Kd.C Kd.string W A j (ws.take j) := by
  obtain ⟨i0, hi, hz1⟩ := words_info
  have hq := Kd.Q_reads' h.q
  have hcut := cut_to (P := Tryd.prog) 22 9 .i64 Tryd.underlying22 hi A n c (j : Int) (by omega) (by omega) hq.2.1
  rw [Int.toNat_natCast] at hcut
  refine ⟨hcut, ?_⟩
  have := Kd.C_take (m := j) hq.2.2 (by rw [← h.len]; exact hj)
  rwa [List.length_take, Nat.min_eq_left (by rw [← h.len]; exact hj)] at this
theorem RwQ.at_ {w W : World} {A : Option Addr} {n c : Nat} {ws : List ByteArray} (h : RwQ w W A n c ws) (j : Nat) (hj : j < ws.length) : ∃ ad, A = some ad ∧ W.cell? (ad.add j) = some (.string ws[j]) := by
  obtain ⟨ad, hA, hc⟩ := (Kd.reads_of_C (d := ByteArray.empty) (Kd.Q_reads' h.q).2.2).at_ (j : Int) (by omega) (by omega)
  refine ⟨ad, hA, ?_⟩
  rw [Int.toNat_natCast] at hc
  rw [hc]
  simp [rdOf, List.getD_eq_getElem?_getD, hj]
abbrev rwZ : Obj := .cells #[.slice none 0 0, .string ⟨#[]⟩, .slice none 0 0, .slice none 0 0, .slice none 0 0] 27
def rw_post (w : World) (r : words_Parts) (e : Ending) (w' : World) : Prop :=
  ∃ vo vi vc vd : Value, e = .returned (.tuple #[.agg #[vo, .string r.2.1, vi, vc, vd], .int .i64 r.2.2.2.2.2]) ∧ Kd.R Kd.string 9 w' w.heap.size (fun _ => True) vo r.1 ∧ Kd.R Kd.string 9 w' w.heap.size (fun _ => True) vi r.2.2.1 ∧ Kd.R Kd.string 9 w' w.heap.size (fun _ => True) vc r.2.2.2.1 ∧ Kd.R Kd.string 9 w' w.heap.size (fun _ => True) vd r.2.2.2.2.1 ∧ Below w.heap.size w w'
theorem rw_post_no (w w' : World) (h : Below w.heap.size w w') : rw_post w words_no (.returned (.tuple #[.agg #[.slice none 0 0, .string ⟨#[]⟩, .slice none 0 0, .slice none 0 0, .slice none 0 0], .int .i64 700])) w' :=
  ⟨_, _, _, _, rfl, Kd.R_nil _ _ _ _ _, Kd.R_nil _ _ _ _ _, Kd.R_nil _ _ _ _ _, Kd.R_nil _ _ _ _ _, h⟩
theorem infoS : (Tryd.prog.info? 9).map (fun i => (i.zero, i.size, i.bytes)) = some (some (.string ⟨#[]⟩), 1, 16) := by kernel_rfl
theorem rw_names (k : Nat) {w W : World} {A : Option Addr} {n c : Nat} {ws : List ByteArray} {r : Int} (h : RwQ w W A n c ws) (e : crucibleref1_names.f k ws = some r) :
    Calls Tryd.prog 39 #[.slice A n c] W fun e w' => e = .returned (.int .i64 r) ∧ Drawn0 W w' := by
  obtain ⟨rfl, hq⟩ := h
  exact crucibleref1_names.calls k A c ws r W (Kd.Q_reads' hq).2.2 (Kd.Q_reads' hq).2.1 e
theorem rw_lead (ws : List ByteArray) : ws.take (words_lead ws).length = words_lead ws ∧ ws.drop (words_lead ws).length = words_rest ws := by
  have h : words_lead ws ++ words_rest ws = ws := List.takeWhile_append_dropWhile
  have h1 : (words_lead ws ++ words_rest ws).take (words_lead ws).length = words_lead ws := List.take_left
  have h2 : (words_lead ws ++ words_rest ws).drop (words_lead ws).length = words_rest ws := List.drop_left
  rw [h] at h1 h2
  exact ⟨h1, h2⟩
theorem rw_zcells {W : World} {g : Nat} (h : W.heap[g]? = some rwZ) : (W.cell? ⟨g, 0, none⟩ = some (.slice none 0 0) ∧ W.cell? ⟨g, 1, none⟩ = some (.string ⟨#[]⟩) ∧ W.cell? ⟨g, 2, none⟩ = some (.slice none 0 0) ∧ W.cell? ⟨g, 3, none⟩ = some (.slice none 0 0) ∧ W.cell? ⟨g, 4, none⟩ = some (.slice none 0 0)) ∧ (W.frozen? ⟨g, 0, none⟩ = false ∧ W.frozen? ⟨g, 1, none⟩ = false ∧ W.frozen? ⟨g, 2, none⟩ = false ∧ W.frozen? ⟨g, 3, none⟩ = false ∧ W.frozen? ⟨g, 4, none⟩ = false) :=
  ⟨⟨by rw [blk_cell h 0]; rfl, by rw [blk_cell h 1]; rfl, by rw [blk_cell h 2]; rfl, by rw [blk_cell h 3]; rfl, by rw [blk_cell h 4]; rfl⟩, blk_frozen h 0, blk_frozen h 1, blk_frozen h 2, blk_frozen h 3, blk_frozen h 4⟩
theorem rw_build (ws o rest : List ByteArray) (ho : words_lead ws = o) (hr : words_rest ws = rest) : words_build ws = if words_hd rest ⟨#[58]⟩ = true ∧ words_bad false 1 o.length = false then (match rest.tail with | [] => words_no | x :: r => if words_is x = true then words_tail o x r else words_no) else words_no := by
  subst ho hr; rfl
theorem rw_build_len (ws o : List ByteArray) (ho : words_lead ws = o) (h : o.length < 1 ∨ 8 < o.length) : words_build ws = words_no := by
  rw [rw_build ws o _ ho rfl, if_neg]
  rintro ⟨_, hb⟩
  simp only [words_bad, Bool.or_eq_false_iff, decide_eq_false_iff_not] at hb
  omega
theorem rw_build_short (ws o rest : List ByteArray) (ho : words_lead ws = o) (hr : words_rest ws = rest) (h : rest.length < 2) : words_build ws = words_no := by
  rw [rw_build ws o rest ho hr]
  match rest, h with
  | [], _ => rw [if_neg (by simp [words_hd])]
  | [y], _ => split <;> rfl
theorem rw_build_two (ws o r : List ByteArray) (y x : ByteArray) (ho : words_lead ws = o) (hr : words_rest ws = y :: x :: r) (h1 : 1 ≤ o.length) (h8 : o.length ≤ 8) : words_build ws = if (y.toList == (⟨#[58]⟩ : ByteArray).toList) = true then (if words_is x = true then words_tail o x r else words_no) else words_no := by
  rw [rw_build ws o _ ho hr]
  have hb : words_bad false 1 o.length = false := by
    simp only [words_bad, Bool.or_eq_false_iff, decide_eq_false_iff_not]
    exact ⟨⟨trivial, by omega⟩, by omega⟩
  rw [hb]
  simp [words_hd]
theorem rw_len (ws : List ByteArray) : ws.length = (words_lead ws).length + (words_rest ws).length := by
  have h : words_lead ws ++ words_rest ws = ws := List.takeWhile_append_dropWhile
  rw [← List.length_append, h]
theorem rw_get (ws r : List ByteArray) (y x : ByteArray) (m : Nat) (h : ws.drop m = y :: x :: r) : ∃ (h0 : m < ws.length) (h1 : m + 1 < ws.length), ws[m] = y ∧ ws[m + 1] = x ∧ ws.drop (m + 2) = r := by
  have hl := congrArg List.length h
  rw [List.length_drop] at hl
  simp at hl
  refine ⟨by omega, by omega, ?_, ?_, ?_⟩
  · have : (ws.drop m)[0]? = some y := by rw [h]; rfl
    rw [List.getElem?_drop] at this
    exact (List.getElem?_eq_some_iff.1 this).2
  · have : (ws.drop m)[1]? = some x := by rw [h]; rfl
    rw [List.getElem?_drop] at this
    exact (List.getElem?_eq_some_iff.1 this).2
  · rw [← List.drop_drop, h]; rfl
/-- the result's box, written -/
def rwB (W : World) (g : Nat) (vo : Value) (x : ByteArray) (vi vc vd : Value) : World := ((((W.setCell ⟨g, 0, none⟩ vo).setCell ⟨g, 1, none⟩ (.string x)).setCell ⟨g, 2, none⟩ vi).setCell ⟨g, 3, none⟩ vc).setCell ⟨g, 4, none⟩ vd
theorem rw_written {w W : World} {g : Nat} (h : W.heap[g]? = some rwZ) (hg : w.heap.size ≤ g) (hb : Below w.heap.size w W) (vo : Value) (x : ByteArray) (vi vc vd : Value) :
    (rwB W g vo x vi vc vd).heap[g]? = some (.cells #[vo, .string x, vi, vc, vd] 27 (0, 0)) ∧ Below w.heap.size w (rwB W g vo x vi vc vd) := by
  have h0 : (W.setCell ⟨g, 0, none⟩ vo).heap[g]? = some (.cells #[vo, .string ⟨#[]⟩, .slice none 0 0, .slice none 0 0, .slice none 0 0] 27 (0, 0)) := by rw [blk_set h 0]; rfl
  have h1 : ((W.setCell ⟨g, 0, none⟩ vo).setCell ⟨g, 1, none⟩ (.string x)).heap[g]? = some (.cells #[vo, .string x, .slice none 0 0, .slice none 0 0, .slice none 0 0] 27 (0, 0)) := by rw [blk_set h0 1]; rfl
  have h2 : (((W.setCell ⟨g, 0, none⟩ vo).setCell ⟨g, 1, none⟩ (.string x)).setCell ⟨g, 2, none⟩ vi).heap[g]? = some (.cells #[vo, .string x, vi, .slice none 0 0, .slice none 0 0] 27 (0, 0)) := by rw [blk_set h1 2]; rfl
  have h3 : ((((W.setCell ⟨g, 0, none⟩ vo).setCell ⟨g, 1, none⟩ (.string x)).setCell ⟨g, 2, none⟩ vi).setCell ⟨g, 3, none⟩ vc).heap[g]? = some (.cells #[vo, .string x, vi, vc, .slice none 0 0] 27 (0, 0)) := by rw [blk_set h2 3]; rfl
  exact ⟨by rw [rwB, blk_set h3 4]; rfl, ((((hb.setCell (p := ⟨g, 0, none⟩) hg _).setCell (p := ⟨g, 1, none⟩) hg _).setCell (p := ⟨g, 2, none⟩) hg _).setCell (p := ⟨g, 3, none⟩) hg _).setCell (p := ⟨g, 4, none⟩) hg _⟩
theorem rw_bcells {W : World} {g : Nat} {vo vi vc vd : Value} {x : ByteArray} (h : W.heap[g]? = some (.cells #[vo, .string x, vi, vc, vd] 27 (0, 0))) : W.cell? ⟨g, 0, none⟩ = some vo ∧ W.cell? ⟨g, 1, none⟩ = some (.string x) ∧ W.cell? ⟨g, 2, none⟩ = some vi ∧ W.cell? ⟨g, 3, none⟩ = some vc ∧ W.cell? ⟨g, 4, none⟩ = some vd :=
  ⟨by rw [blk_cell h 0]; rfl, by rw [blk_cell h 1]; rfl, by rw [blk_cell h 2]; rfl, by rw [blk_cell h 3]; rfl, by rw [blk_cell h 4]; rfl⟩
/-- the answer of a line that is refused, at any step -/
theorem rw_out {w W : World} {tm : Array Value} {r : words_Parts} (h : W.heap[w.heap.size]? = some rwZ) (hb : Below w.heap.size w W) (h2 : tm[2]?.getD undef = .pointer (some ⟨w.heap.size, 0, none⟩)) (h3 : tm[3]?.getD undef = .int .i64 700) (hr : r = words_no) :
    bodyPost Tryd.prog Tryd.f16 (rw_post w r) Exit.ret { tmps := tm, defers := [] } (rwB W w.heap.size (.slice none 0 0) ⟨#[]⟩ (.slice none 0 0) (.slice none 0 0) (.slice none 0 0)) := by
  subst hr
  obtain ⟨hx, hy⟩ := rw_written h (Nat.le_refl _) hb (.slice none 0 0) ⟨#[]⟩ (.slice none 0 0) (.slice none 0 0) (.slice none 0 0)
  generalize rwB W w.heap.size (.slice none 0 0) ⟨#[]⟩ (.slice none 0 0) (.slice none 0 0) (.slice none 0 0) = Wf at hx hy ⊢
  obtain ⟨c0, c1, c2, c3, c4⟩ := rw_bcells hx
  exact bodyPost_ret (v := .tuple #[.agg #[.slice none 0 0, .string ⟨#[]⟩, .slice none 0 0, .slice none 0 0, .slice none 0 0], .int .i64 700]) (by simp [results, Tryd.results16, go_sem, Act.eval, h2, h3, c0, c1, c2, c3, c4]) rfl (rw_post_no _ _ hy)
theorem rw_tgrow {W W' : World} {g g' : Nat} (h : W.heap[g]? = some rwZ ∧ g ≠ g') (hg : W.drew.grownBy W' none) : W'.heap[g]? = some rwZ ∧ g ≠ g' :=
  ⟨(hg.block g (by simpa using blk_lt h.1) (by simp)).trans h.1, h.2⟩
structure RwA (w W : World) (g : Nat) (vo : Value) (o : List ByteArray) (x : ByteArray) (vi : Value) (i : List ByteArray) (vc : Value) (c : List ByteArray) (vd : Value) (d : List ByteArray) (A : Option Addr) (n k : Nat) (ws : List ByteArray) : Prop where
  s : RwS w W g vo o x vi i vc c vd d
  q : RwQ w W A n k ws
  t : W.heap[w.heap.size]? = some rwZ ∧ w.heap.size ≠ g
section
variable {w W W' : World} {g n k : Nat} {vo vi vc vd : Value} {o i c d ws : List ByteArray} {x : ByteArray} {A : Option Addr}
theorem RwA.step (h : RwA w W g vo o x vi i vc c vd d A n k ws) (hb : Below W.heap.size W W') : RwA w W' g vo o x vi i vc c vd d A n k ws :=
  ⟨h.s.step hb, h.q.step hb, (hb.block _ (blk_lt h.t.1)).trans h.t.1, h.t.2⟩
theorem RwA.grow (h : RwA w W g vo o x vi i vc c vd d A n k ws) (hg : W.drew.grownBy W' none) (hb : Below w.heap.size w W') : RwA w W' g vo o x vi i vc c vd d A n k ws :=
  ⟨RwS.grow (RwS.step h.s (below_drew (Below.refl _ _))) hg hb, RwQ.grow (RwQ.step h.q (below_drew (Below.refl _ _))) hg, rw_tgrow h.t hg⟩
theorem rw_tset (h : W.heap[w.heap.size]? = some rwZ ∧ w.heap.size ≠ g) (j : Nat) (v : Value) : (W.setCell ⟨g, j, none⟩ v).heap[w.heap.size]? = some rwZ ∧ w.heap.size ≠ g :=
  ⟨(Below.heap_setCell W ⟨g, j, none⟩ v _ h.2).trans h.1, h.2⟩
theorem RwA.put0 (h : RwA w W g vo o x vi i vc c vd d A n k ws) {v : Value} {l : List ByteArray} (hv : Kd.R Kd.string 9 W w.heap.size (fun _ => True) v l) : RwA w (W.setCell ⟨g, 0, none⟩ v) g v l x vi i vc c vd d A n k ws := ⟨h.s.put0 hv, h.q.set h.s.blk 0 v, rw_tset h.t 0 v⟩
theorem RwA.put1 (h : RwA w W g vo o x vi i vc c vd d A n k ws) (y : ByteArray) : RwA w (W.setCell ⟨g, 1, none⟩ (.string y)) g vo o y vi i vc c vd d A n k ws := ⟨h.s.put1 y, h.q.set h.s.blk 1 _, rw_tset h.t 1 _⟩
theorem RwA.put2 (h : RwA w W g vo o x vi i vc c vd d A n k ws) {v : Value} {l : List ByteArray} (hv : Kd.R Kd.string 9 W w.heap.size (fun _ => True) v l) : RwA w (W.setCell ⟨g, 2, none⟩ v) g vo o x v l vc c vd d A n k ws := ⟨h.s.put2 hv, h.q.set h.s.blk 2 v, rw_tset h.t 2 v⟩
theorem RwA.put3 (h : RwA w W g vo o x vi i vc c vd d A n k ws) {v : Value} {l : List ByteArray} (hv : Kd.R Kd.string 9 W w.heap.size (fun _ => True) v l) : RwA w (W.setCell ⟨g, 3, none⟩ v) g vo o x vi i v l vd d A n k ws := ⟨h.s.put3 hv, h.q.set h.s.blk 3 v, rw_tset h.t 3 v⟩
theorem RwA.put4 (h : RwA w W g vo o x vi i vc c vd d A n k ws) {v : Value} {l : List ByteArray} (hv : Kd.R Kd.string 9 W w.heap.size (fun _ => True) v l) : RwA w (W.setCell ⟨g, 4, none⟩ v) g vo o x vi i vc c v l A n k ws := ⟨h.s.put4 hv, h.q.set h.s.blk 4 v, rw_tset h.t 4 v⟩
theorem RwA.re {A' : Option Addr} {n' k' : Nat} {ws' : List ByteArray} (h : RwA w W g vo o x vi i vc c vd d A n k ws) (hq : RwQ w W A' n' k' ws') : RwA w W g vo o x vi i vc c vd d A' n' k' ws' := ⟨h.s, hq, h.t⟩
theorem RwQ.mid (h : RwQ w W A n k ws) (j : Nat) (hj : j + 1 ≤ n) :
    ∃ A' c', (∀ W : World, (Instr.slice 22 (.slice A n k) (some (.int .i64 1)) (some (.int .i64 ((j : Int) + 1))) none).run Tryd.prog W = .ok (.slice A' j c') W) ∧ Kd.C Kd.string W A' j ((ws.drop 1).take j) := by
  obtain ⟨i0, hi, hz1⟩ := words_info
  have hq := Kd.Q_reads' h.q
  have hl := h.len
  have hcut := cut_mid (P := Tryd.prog) 22 9 .i64 .i64 Tryd.underlying22 hi 1 hz1 A n k 1 ((j : Int) + 1) (by omega) (by omega) (by omega) hq.2.1
  have e1 : ((j : Int) + 1).toNat - (1 : Int).toNat = j := by omega
  rw [e1] at hcut
  refine ⟨_, _, hcut, ?_⟩
  have := Kd.C_mid (lo := 1) (hi := j + 1) (c := k) hq.2.2 (by omega) (by omega) (by rw [← hl]; exact hq.2.1)
  have e2 : ((ws.take (j + 1)).drop 1).length = j := by rw [List.length_drop, List.length_take]; omega
  rw [e2] at this
  have e3 : (ws.drop 1).take j = (ws.take (j + 1)).drop 1 := by rw [List.drop_take]; rfl
  rw [e3]
  exact this
theorem RwQ.cutz (h : RwQ w W A n k ws) (j : Nat) (z : Int) (hz : z = (j : Int)) (h1 : j ≤ n) : ∃ A' n' c', (∀ W : World, (Instr.slice 22 (.slice A n k) (some (.int .i64 z)) none none).run Tryd.prog W = .ok (.slice A' n' c') W) ∧ RwQ w W A' n' c' (ws.drop j) := by
  subst hz
  exact h.cut j h1
end
def rwP1 (s : ByteArray) (ws : List ByteArray) : List ByteArray := if words_hd ws s = true then words_lead ws.tail else []
def rwP2 (s : ByteArray) (ws : List ByteArray) : List ByteArray := if words_hd ws s = true then words_rest ws.tail else ws
theorem rw_part (s : ByteArray) (ws : List ByteArray) (bad : Bool) : words_part s ws bad = (rwP1 s ws, rwP2 s ws, if words_hd ws s = true then words_bad bad 1 (rwP1 s ws).length else bad) := by
  unfold words_part rwP1 rwP2
  split <;> rfl
theorem rw_end_bad (o : List ByteArray) (x : ByteArray) (r : List ByteArray) (h : (words_part ⟨#[124]⟩ (words_rest r) (words_bad false 0 (words_lead r).length)).2.2 = true) : words_tail o x r = words_no := by
  unfold words_tail words_end
  rw [if_pos]
  left
  rw [rw_part, h]
  simp only []
  split
  · simp [words_bad]
  · rfl
theorem rw_bad1 (o : List ByteArray) (x : ByteArray) (r : List ByteArray) (h : words_hd (words_rest r) ⟨#[124]⟩ = true) (h0 : (rwP1 ⟨#[124]⟩ (words_rest r)).length = 0) : words_tail o x r = words_no := by
  refine rw_end_bad o x r ?_
  rw [rw_part, if_pos h, h0]
  simp [words_bad]
theorem rw_bad2 (o : List ByteArray) (x : ByteArray) (r : List ByteArray) (h : words_hd (rwP2 ⟨#[124]⟩ (words_rest r)) ⟨#[124, 124]⟩ = true) (h0 : (rwP1 ⟨#[124, 124]⟩ (rwP2 ⟨#[124]⟩ (words_rest r))).length = 0) : words_tail o x r = words_no := by
  unfold words_tail words_end
  rw [if_pos]
  left
  rw [rw_part, rw_part]
  simp only []
  rw [if_pos h, h0]
  simp [words_bad]
theorem rw_tail (o : List ByteArray) (x : ByteArray) (r i c d r6 : List ByteArray) (hi : words_lead r = i) (hc : rwP1 ⟨#[124]⟩ (words_rest r) = c) (hd : rwP1 ⟨#[124, 124]⟩ (rwP2 ⟨#[124]⟩ (words_rest r)) = d) (h6 : rwP2 ⟨#[124, 124]⟩ (rwP2 ⟨#[124]⟩ (words_rest r)) = r6)
    (h1 : words_hd (words_rest r) ⟨#[124]⟩ = true → c.length ≠ 0) (h2 : words_hd (rwP2 ⟨#[124]⟩ (words_rest r)) ⟨#[124, 124]⟩ = true → d.length ≠ 0) (hc0 : words_hd (words_rest r) ⟨#[124]⟩ = false → c.length = 0) (hd0 : words_hd (rwP2 ⟨#[124]⟩ (words_rest r)) ⟨#[124, 124]⟩ = false → d.length = 0) :
    words_tail o x r = if 0 < r6.length ∨ 8 < i.length ∨ 8 < c.length ∨ 8 < d.length then words_no else (o, x, i, c, d, 0) := by
  have key : ((if words_hd (rwP2 ⟨#[124]⟩ (words_rest r)) ⟨#[124, 124]⟩ = true then words_bad (if words_hd (words_rest r) ⟨#[124]⟩ = true then words_bad (words_bad false 0 i.length) 1 c.length else words_bad false 0 i.length) 1 d.length else (if words_hd (words_rest r) ⟨#[124]⟩ = true then words_bad (words_bad false 0 i.length) 1 c.length else words_bad false 0 i.length)) = true ∨ r6 ≠ []) ↔ (0 < r6.length ∨ 8 < i.length ∨ 8 < c.length ∨ 8 < d.length) := by
    rw [← List.length_pos_iff]
    cases e1 : words_hd (words_rest r) ⟨#[124]⟩ with
    | true =>
      have h1 := h1 e1
      cases e2 : words_hd (rwP2 ⟨#[124]⟩ (words_rest r)) ⟨#[124, 124]⟩ with
      | true =>
        have h2 := h2 e2
        simp only [if_true, words_bad, Bool.or_eq_true, decide_eq_true_eq, Bool.false_eq_true, false_or]
        omega
      | false =>
        have h2 := hd0 e2
        simp only [if_true, Bool.false_eq_true, if_false, words_bad, Bool.or_eq_true, decide_eq_true_eq, false_or]
        omega
    | false =>
      have h1 := hc0 e1
      cases e2 : words_hd (rwP2 ⟨#[124]⟩ (words_rest r)) ⟨#[124, 124]⟩ with
      | true =>
        have h2 := h2 e2
        simp only [if_true, Bool.false_eq_true, if_false, words_bad, Bool.or_eq_true, decide_eq_true_eq, false_or]
        omega
      | false =>
        have h2 := hd0 e2
        simp only [Bool.false_eq_true, if_false, words_bad, Bool.or_eq_true, decide_eq_true_eq, false_or]
        omega
  unfold words_tail words_end
  simp only [rw_part, hi, hc, hd, h6]
  by_cases hh : 0 < r6.length ∨ 8 < i.length ∨ 8 < c.length ∨ 8 < d.length
  · rw [if_pos (key.2 hh), if_pos hh]
  · rw [if_neg (fun q => hh (key.1 q)), if_neg hh]
theorem rwP_zero (s : ByteArray) (ws : List ByteArray) (h : words_hd ws s = false) : (rwP1 s ws).length = 0 ∧ rwP2 s ws = ws := by
  unfold rwP1 rwP2
  rw [h]
  exact ⟨rfl, rfl⟩
theorem rw_suffix (s : ByteArray) (ws r : List ByteArray) (h : rwP2 s ws = r) : ∃ q, q + r.length = ws.length ∧ ws.drop q = r := by
  unfold rwP2 at h
  split at h
  · rename_i hh
    cases ws with
    | nil => cases hh
    | cons y l =>
      have h1 := (rw_lead l).2
      have h2 := rw_len l
      rw [List.tail_cons] at h
      rw [h] at h1 h2
      exact ⟨(words_lead l).length + 1, by rw [List.length_cons]; omega, by rw [List.drop_succ_cons]; exact h1⟩
  · subst h; exact ⟨0, Nat.zero_add _, rfl⟩
theorem rw_good {w W : World} {gb : Nat} {vo : Value} {o i c d : List ByteArray} {x : ByteArray} {B : Option Addr} {n k : Nat} {ws6 ws : List ByteArray} {tm : Array Value} {li lc ld : Nat} {Ai Ac Ad : Option Addr} {ki kc kd : Nat} (h : RwA w W gb vo o x (.slice Ai i.length ki) i (.slice Ac c.length kc) c (.slice Ad d.length kd) d B n k ws6) (h2 : tm[2]?.getD undef = .pointer (some ⟨w.heap.size, 0, none⟩)) (h3 : tm[3]?.getD undef = .int .i64 0) (ei : i.length = li) (ec : c.length = lc) (ed : d.length = ld) (hr : words_build ws = (o, x, i, c, d, 0)) :
    bodyPost Tryd.prog Tryd.f16 (rw_post w (words_build ws)) Exit.ret { tmps := tm, defers := [] } (((((W.setCell ⟨w.heap.size, 0, none⟩ vo).setCell ⟨w.heap.size, 1, none⟩ (.string x)).setCell ⟨w.heap.size, 2, none⟩ (.slice Ai li ki)).setCell ⟨w.heap.size, 3, none⟩ (.slice Ac lc kc)).setCell ⟨w.heap.size, 4, none⟩ (.slice Ad ld kd)) := by
  subst ei ec ed
  rw [hr]
  show bodyPost Tryd.prog Tryd.f16 (rw_post w (o, x, i, c, d, 0)) Exit.ret { tmps := tm, defers := [] } (rwB W w.heap.size vo x (.slice Ai i.length ki) (.slice Ac c.length kc) (.slice Ad d.length kd))
  obtain ⟨hx, hy⟩ := rw_written h.t.1 (Nat.le_refl _) h.s.below vo x (.slice Ai i.length ki) (.slice Ac c.length kc) (.slice Ad d.length kd)
  have key : ∀ {u : Value} {l : List ByteArray}, Kd.R Kd.string 9 W w.heap.size (fun _ => True) u l → Kd.R Kd.string 9 (rwB W w.heap.size vo x (.slice Ai i.length ki) (.slice Ac c.length kc) (.slice Ad d.length kd)) w.heap.size (fun _ => True) u l := fun {u l} hR => by
    have e0 := h.t.1
    have h0 := Kd.R_set hR e0 rw_types 0 vo
    have e1 : (W.setCell ⟨w.heap.size, 0, none⟩ vo).heap[w.heap.size]? = some (.cells #[vo, .string ⟨#[]⟩, .slice none 0 0, .slice none 0 0, .slice none 0 0] 27 (0, 0)) := by rw [blk_set e0 0]; rfl
    have h1 := Kd.R_set h0 e1 rw_types 1 (.string x)
    have e2 : ((W.setCell ⟨w.heap.size, 0, none⟩ vo).setCell ⟨w.heap.size, 1, none⟩ (.string x)).heap[w.heap.size]? = some (.cells #[vo, .string x, .slice none 0 0, .slice none 0 0, .slice none 0 0] 27 (0, 0)) := by rw [blk_set e1 1]; rfl
    have h2 := Kd.R_set h1 e2 rw_types 2 (.slice Ai i.length ki)
    have e3 : (((W.setCell ⟨w.heap.size, 0, none⟩ vo).setCell ⟨w.heap.size, 1, none⟩ (.string x)).setCell ⟨w.heap.size, 2, none⟩ (.slice Ai i.length ki)).heap[w.heap.size]? = some (.cells #[vo, .string x, .slice Ai i.length ki, .slice none 0 0, .slice none 0 0] 27 (0, 0)) := by rw [blk_set e2 2]; rfl
    have h3 := Kd.R_set h2 e3 rw_types 3 (.slice Ac c.length kc)
    have e4 : ((((W.setCell ⟨w.heap.size, 0, none⟩ vo).setCell ⟨w.heap.size, 1, none⟩ (.string x)).setCell ⟨w.heap.size, 2, none⟩ (.slice Ai i.length ki)).setCell ⟨w.heap.size, 3, none⟩ (.slice Ac c.length kc)).heap[w.heap.size]? = some (.cells #[vo, .string x, .slice Ai i.length ki, .slice Ac c.length kc, .slice none 0 0] 27 (0, 0)) := by rw [blk_set e3 3]; rfl
    exact Kd.R_set h3 e4 rw_types 4 (.slice Ad d.length kd)
  have ko := key h.s.ro
  have kI := key h.s.ri
  have kC := key h.s.rc
  have kD := key h.s.rd
  clear key
  generalize rwB W w.heap.size vo x (.slice Ai i.length ki) (.slice Ac c.length kc) (.slice Ad d.length kd) = Wf at hx hy ko kI kC kD ⊢
  obtain ⟨c0, c1, c2, c3, c4⟩ := rw_bcells hx
  exact bodyPost_ret (v := .tuple #[.agg #[vo, .string x, .slice Ai i.length ki, .slice Ac c.length kc, .slice Ad d.length kd], .int .i64 0]) (by simp [results, Tryd.results16, go_sem, Act.eval, h2, h3, c0, c1, c2, c3, c4]) rfl ⟨_, _, _, _, rfl, ko, kI, kC, kD, hy⟩
set_option maxHeartbeats 8000000 in
set_option maxRecDepth 100000 in
theorem crucibleref1_Words.walk (k : Nat) (a0 : ByteArray) (ws : List ByteArray) (w : World) (hw : crucibleref1_words.f k a0 = some ws) (hN : ∀ j, j ≤ ws.length → crucibleref1_names.f k (ws.drop j) = some ((words_lead (ws.drop j)).length : Int)) (hM : ∀ x, x ∈ ws → crucibleref1_NameMay.f k x = some (words_is x)) (hl : ws.length ≤ 4294967296) :
    Calls Tryd.prog 16 #[.string a0] w (rw_post w (words_build ws)) := by
  have HW := Aside0.mk hw
  have HN := Aside0.mk hN
  have HM := Aside0.mk hM
  have HL := Aside0.mk hl
  clear hw hN hM hl
  go_enter Tryd.func16, Tryd.ntmps16
  have cW := crucibleref1_words.calls k a0 ws (w.alloc rwZ) HW.out
  go_wp2_with fail
  refine cW.mono ?_
  clear cW
  rintro e w1 ⟨v, rfl, hR, hB⟩
  obtain ⟨A, c, rfl⟩ := Kd.R_slice hR
  have b1 : Below w.heap.size w w1 := below_then (below_alloc (Below.refl _ _) rwZ) (below_alloc (Below.refl w.heap.size w) rwZ).size hB
  have s1 : w.heap.size + 1 ≤ w1.heap.size := by have := hB.size; simpa using this
  obtain ⟨gb, hgb⟩ : ∃ g, w1.heap.size = g := ⟨_, rfl⟩
  obtain ⟨W2, HW2⟩ : ∃ W, Aside0 (W = w1.alloc rwZ) := ⟨_, ⟨rfl⟩⟩
  have S2 : Aside0 (RwS w W2 gb (.slice none 0 0) [] ⟨#[]⟩ (.slice none 0 0) [] (.slice none 0 0) [] (.slice none 0 0) []) := ⟨by
    rw [HW2.out]
    exact ⟨by omega, by rw [← hgb]; exact heap_alloc_new w1 _, Kd.R_nil _ _ _ _ _, Kd.R_nil _ _ _ _ _, Kd.R_nil _ _ _ _ _, Kd.R_nil _ _ _ _ _, below_alloc b1 _⟩⟩
  have Q2 : Aside0 (RwQ w W2 A ws.length c ws) := ⟨by
    rw [HW2.out]
    exact ⟨rfl, Kd.Q_alloc (Kd.Q_of_R (Kd.R_mono (Kd.R_lower hR (by simp)) (fun _ _ => trivial))) _⟩⟩
  have T2 : Aside0 (W2.heap[w.heap.size]? = some rwZ ∧ w.heap.size ≠ gb) := ⟨by
    rw [HW2.out]
    refine ⟨(Below.heap_alloc w1 rwZ w.heap.size (by omega)).trans ((hB.block _ (by simp)).trans (heap_alloc_new w rwZ)), by omega⟩⟩
  obtain ⟨n, hn⟩ : ∃ n, ws.length = n := ⟨_, rfl⟩
  rw [hn] at Q2 ⊢
  have HNL := Aside0.mk hn
  clear hR hB b1 s1 hn
  go_upto_region 3 with fail
  rw [← HW2.out]
  clear HW2
  obtain ⟨o, ho⟩ : ∃ o, words_lead ws = o := ⟨_, rfl⟩
  obtain ⟨m, hm⟩ : ∃ m, o.length = m := ⟨_, rfl⟩
  have cn := rw_names k Q2.out (show crucibleref1_names.f k ws = some (m : Int) by have := HN.out 0 (Nat.zero_le _); rw [List.drop_zero, ho, hm] at this; exact this)
  have HO := Aside0.mk ho
  have HMM := Aside0.mk hm
  clear ho hm
  go_wp2_with fail
  refine cn.mono ?_
  clear cn
  rintro e W3 ⟨rfl, hd⟩
  have S3 := Aside0.mk (S2.out.step hd.below)
  have Q3 := Aside0.mk (Q2.out.step hd.below)
  have T3 : Aside0 (W3.heap[w.heap.size]? = some rwZ ∧ w.heap.size ≠ gb) := ⟨⟨(hd.below.block _ (blk_lt T2.out.1)).trans T2.out.1, T2.out.2⟩⟩
  clear S2 Q2 T2 hd
  obtain ⟨rest, hrest⟩ : ∃ rest, words_rest ws = rest := ⟨_, rfl⟩
  have hnm : n = m + rest.length := by rw [← HNL.out, rw_len ws, HO.out, HMM.out, hrest]
  have hdr : ws.drop m = rest := by rw [← HMM.out, ← HO.out, (rw_lead ws).2, hrest]
  have hnb : n ≤ 4294967296 := by rw [← HNL.out]; exact HL.out
  by_cases h1 : m < 1
  · have h1z : (m : Int) < 1 := by omega
    obtain ⟨⟨y0, y1, y2, y3, y4⟩, z0, z1, z2, z3, z4⟩ := rw_zcells T3.out.1
    clear hnm hdr hrest
    go_wp2
    exact rw_out T3.out.1 S3.out.below rfl rfl (rw_build_len ws o HO.out (.inl (by rw [HMM.out]; exact h1)))
  by_cases h8 : 8 < m
  · have h1z : ¬ (m : Int) < 1 := by omega
    have h8z : (8 : Int) < (m : Int) := by omega
    obtain ⟨⟨y0, y1, y2, y3, y4⟩, z0, z1, z2, z3, z4⟩ := rw_zcells T3.out.1
    clear hnm hdr hrest
    go_wp2
    exact rw_out T3.out.1 S3.out.below rfl rfl (rw_build_len ws o HO.out (.inr (by rw [HMM.out]; exact h8)))
  have h1z : ¬ (m : Int) < 1 := by omega
  have h8z : ¬ (8 : Int) < (m : Int) := by omega
  by_cases h2 : rest.length < 2
  · have hge : (n : Int) ≤ (m : Int) + 1 := by omega
    obtain ⟨⟨y0, y1, y2, y3, y4⟩, z0, z1, z2, z3, z4⟩ := rw_zcells T3.out.1
    have HR := Aside0.mk hrest
    clear hnm hdr hrest
    go_wp2
    exact rw_out T3.out.1 S3.out.below rfl rfl (rw_build_short ws o rest HO.out HR.out h2)
  have hge : ¬ (n : Int) ≤ (m : Int) + 1 := by omega
  obtain ⟨y, x, r, rfl⟩ : ∃ y x r, rest = y :: x :: r := by
    match rest, h2 with
    | [], h => exact absurd (by simp) h
    | [y], h => exact absurd (by simp) h
    | y :: x :: r, _ => exact ⟨y, x, r, rfl⟩
  obtain ⟨g0, g1, gy, gx, gr⟩ := rw_get ws r y x m hdr
  have hbt := rw_build_two ws o r y x HO.out hrest (by rw [HMM.out]; omega) (by rw [HMM.out]; omega)
  obtain ⟨ad, hA, hcy⟩ := Q3.out.at_ m g0
  subst hA
  obtain ⟨ad', hA, hcx⟩ := Q3.out.at_ (m + 1) g1
  cases hA
  have hMx := HM.out x (by rw [← gx]; exact List.getElem_mem g1)
  rw [gy] at hcy
  rw [gx] at hcx
  have hcx : W3.cell? ⟨ad.block, ad.off + (m + 1), none⟩ = some (.string x) := by simpa [Addr.add] using hcx
  have HBT := Aside0.mk hbt
  have HMX := Aside0.mk hMx
  have HGR := Aside0.mk gr
  have hmn : (m : Int) < (n : Int) := by omega
  have hmn1 : (m : Int) + 1 < (n : Int) := by omega
  have HRL : Aside0 (n = m + 2 + r.length) := ⟨by simp at hnm; omega⟩
  have HDR := Aside0.mk hdr
  clear hnm hdr hrest h2 gy gx gr g0 g1 hbt hMx
  cases hy : (y.toList == (⟨#[58]⟩ : ByteArray).toList) with
  | false =>
    obtain ⟨⟨y0, y1, y2, y3, y4⟩, z0, z1, z2, z3, z4⟩ := rw_zcells T3.out.1
    have hyn : ¬ y.toList = [58] := by simpa using hy
    have HY := Aside0.mk hy
    clear hy
    go_wp2
    exact rw_out T3.out.1 S3.out.below rfl rfl (by rw [HBT.out, HY.out]; rfl)
  | true =>
    have hyn : y.toList = [58] := by simpa using hy
    have hbt : words_build ws = if words_is x = true then words_tail o x r else words_no := by rw [HBT.out, hy]; rfl
    have HBT := Aside0.mk hbt
    clear hy hbt
    cases hx : words_is x with
    | false =>
      have cM := fun W => crucibleref1_NameMay.calls k x false W (by rw [HMX.out, hx])
      obtain ⟨⟨y0, y1, y2, y3, y4⟩, z0, z1, z2, z3, z4⟩ := rw_zcells T3.out.1
      have HX := Aside0.mk hx
      clear hx
      go_wp2_with fail
      refine (cM _).mono ?_
      clear cM
      rintro e W4 ⟨rfl, nd, rfl⟩
      go_wp2
      exact rw_out (by simpa using T3.out.1) (pw_below_drewN S3.out.below nd) rfl rfl (by rw [HBT.out, HX.out]; rfl)
    | true =>
      have cM := fun W => crucibleref1_NameMay.calls k x true W (by rw [HMX.out, hx])
      have HX := Aside0.mk hx
      clear hx
      go_wp2_with fail
      refine (cM _).mono ?_
      clear cM
      rintro e W4 ⟨rfl, hd⟩
      have A4 : Aside0 (RwA w W4 gb (.slice none 0 0) [] ⟨#[]⟩ (.slice none 0 0) [] (.slice none 0 0) [] (.slice none 0 0) [] (some ad) n c ws) := ⟨⟨S3.out.step hd.below, Q3.out.step hd.below, (hd.below.block _ (blk_lt T3.out.1)).trans T3.out.1, T3.out.2⟩⟩
      have hbt : words_build ws = words_tail o x r := by rw [HBT.out, HX.out]; rfl
      clear HBT
      have HBT := Aside0.mk hbt
      have hm8 : m ≤ 8 := by omega
      have hmn2 : m + 2 ≤ n := by omega
      have HTK : Aside0 (ws.take m = o) := ⟨by rw [← HMM.out, ← HO.out]; exact (rw_lead ws).1⟩
      have hxm : Aside0 (∃ ad', some ad = some ad' ∧ ∀ W A' k', RwQ w W A' n k' ws → A' = some ad' → W.cell? ⟨ad'.block, ad'.off + (m + 1), none⟩ = some (.string x)) := ⟨⟨ad, rfl, fun W A' k' h e => by
        subst e
        obtain ⟨a2, e2, h2⟩ := h.at_ (m + 1) (by rw [← h.len]; omega)
        cases e2
        have hx2 : ws[m + 1]'(by rw [← h.len]; omega) = x := by
          have h3 := (rw_get ws r y x m HDR.out).2.2.2.1
          exact h3
        rw [hx2] at h2
        simpa [Addr.add] using h2⟩⟩
      clear S3 Q3 T3 hd hcx hcy hyn hbt h1z h8z hge hmn hmn1 HO
      go_upto_region 6 with fail
      go_cut [4] (fun s4 wx => ∃ vo : Value, s4 = .slice (some ad) n c ∧ Aside0 (RwA w wx gb vo o ⟨#[]⟩ (.slice none 0 0) [] (.slice none 0 0) [] (.slice none 0 0) [] (some ad) n c ws))
      case first =>
        obtain ⟨⟨y0, y1, y2, y3, y4⟩, z0, z1, z2, z3, z4⟩ := A4.out.s.cells
        obtain ⟨hto, hC⟩ := A4.out.q.to m (by omega)
        rw [HTK.out] at hC
        have HCT := Aside0.mk hC
        clear hC
        have HB4 := Aside0.mk (below_drew A4.out.s.below)
        go_region_law (refine Kd.R_append_rows_step Kd.string (w0 := w) w.heap.size (by rfl) (.tmp 42) (.tmp 45) 22 9 (.string ⟨#[]⟩) 16 rfl Tryd.underlying22 infoS rfl (by decide) (by decide) (.slice none 0 0) [] o (some ad) m c (fun _ => True) (fun _ => False) rfl rfl (Kd.R_nil _ _ _ _ _) (Kd.C_drew HCT.out) (fun _ _ h => h) (fun _ h => h.elim) (fun _ _ => trivial) HB4.out HB4.out.size (by simp; omega) (fun v1 w1 ho hb hg hat => ?_); obtain ⟨A1, k1, rfl⟩ := Kd.R_slice ho; have HA1 := Aside0.mk (RwA.grow A4.out hg hb); have HO1 := Aside0.mk ho; obtain ⟨⟨p0, p1, p2, p3, p4⟩, q0, q1, q2, q3, q4⟩ := HA1.out.s.cells; clear ho hb hg hat)
        go_wp2
        go_meet
        case rel => exact ⟨_, rfl, ⟨HA1.out.put0 HO1.out⟩⟩
      case rest =>
        clear A4 HTK
        obtain ⟨vo, rfl, A6⟩ := hcut
        obtain ⟨ad', ea, hxc⟩ := hxm.out
        cases ea
        have hcx := hxc wc (some ad) c A6.out.q rfl
        clear hxc hxm
        obtain ⟨⟨y0, y1, y2, y3, y4⟩, z0, z1, z2, z3, z4⟩ := A6.out.s.cells
        go_upto_region 8 with fail
        obtain ⟨W7, HW7⟩ : ∃ W, Aside0 (W = wc.setCell ⟨gb, 1, none⟩ (.string x)) := ⟨_, ⟨rfl⟩⟩
        have A7 : Aside0 (RwA w W7 gb vo o x (.slice none 0 0) [] (.slice none 0 0) [] (.slice none 0 0) [] (some ad) n c ws) := ⟨by rw [HW7.out]; exact A6.out.put1 x⟩
        rw [← HW7.out]
        obtain ⟨B8, n8, c8, hcut8, hQ8⟩ := A7.out.q.cutz (m + 2) ((m : Int) + 2) (by omega) hmn2
        rw [HGR.out] at hQ8
        have A8 := Aside0.mk (A7.out.re hQ8)
        clear HW7 A6 A7 hQ8 y0 y1 y2 y3 y4 z0 z1 z2 z3 z4 hcx HGR
        obtain ⟨i, hi⟩ : ∃ i, words_lead r = i := ⟨_, rfl⟩
        obtain ⟨m2, hm2⟩ : ∃ m, i.length = m := ⟨_, rfl⟩
        have HNW : Aside0 (∀ j, j ≤ r.length → crucibleref1_names.f k (r.drop j) = some ((words_lead (r.drop j)).length : Int)) := ⟨fun j hj => by
          have h3 := (rw_get ws r y x m HDR.out).2.2.2.2
          have := HN.out (m + 2 + j) (by have := HRL.out; have := HNL.out; omega)
          rwa [← List.drop_drop, h3] at this⟩
        have cn := fun W h => rw_names k (w := w) (W := W) (A := B8) (n := n8) (c := c8) h (show crucibleref1_names.f k r = some (m2 : Int) by have := HNW.out 0 (Nat.zero_le _); rw [List.drop_zero, hi, hm2] at this; exact this)
        have HI := Aside0.mk hi
        have HI2 := Aside0.mk hm2
        have hn8 : n8 = r.length := A8.out.q.len
        have hm2n : m2 ≤ n8 := by rw [hn8, ← HI2.out, ← HI.out, rw_len r]; omega
        have hr9 : n8 ≤ 4294967296 := by rw [hn8]; have := HRL.out; omega
        have HN8 := Aside0.mk hn8
        clear hi hm2 hn8
        go_wp2_with fail
        with_reducible refine (cn _ A8.out.q).mono ?_
        clear cn hcut8
        rintro e W9 ⟨rfl, hd⟩
        have A9 := Aside0.mk (A8.out.step hd.below)
        clear hd A8
        have HTK : Aside0 (r.take m2 = i) := ⟨by rw [← HI2.out, ← HI.out]; exact (rw_lead r).1⟩
        go_upto_region 10 with fail
        go_cut [4] (fun s4 wx => ∃ vi : Value, s4 = .slice B8 n8 c8 ∧ Aside0 (RwA w wx gb vo o x vi i (.slice none 0 0) [] (.slice none 0 0) [] B8 n8 c8 r))
        case first =>
          obtain ⟨⟨y0, y1, y2, y3, y4⟩, z0, z1, z2, z3, z4⟩ := A9.out.s.cells
          obtain ⟨hto, hC⟩ := A9.out.q.to m2 hm2n
          rw [HTK.out] at hC
          have HCT := Aside0.mk hC
          clear hC
          have HB4 := Aside0.mk (below_drew A9.out.s.below)
          go_region_law (refine Kd.R_append_rows_step Kd.string (w0 := w) w.heap.size (by rfl) (.tmp 61) (.tmp 64) 22 9 (.string ⟨#[]⟩) 16 rfl Tryd.underlying22 infoS rfl (by decide) (by decide) (.slice none 0 0) [] i B8 m2 c8 (fun _ => True) (fun _ => False) rfl rfl (Kd.R_nil _ _ _ _ _) (Kd.C_drew HCT.out) (fun _ _ h => h) (fun _ h => h.elim) (fun _ _ => trivial) HB4.out HB4.out.size (by simp; omega) (fun v1 w1 ho hb hg hat => ?_); obtain ⟨A1, k1, rfl⟩ := Kd.R_slice ho; have HA1 := Aside0.mk (RwA.grow A9.out hg hb); have HO1 := Aside0.mk ho; obtain ⟨⟨p0, p1, p2, p3, p4⟩, q0, q1, q2, q3, q4⟩ := HA1.out.s.cells; clear ho hb hg hat)
          go_wp2
          go_meet
          case rel => exact ⟨_, rfl, ⟨HA1.out.put2 HO1.out⟩⟩
        case rest =>
          clear A9 HTK
          obtain ⟨vi, rfl, A10⟩ := hcut
          obtain ⟨B11, n11, c11, hcut11, hQ11⟩ := A10.out.q.cut m2 hm2n
          have hr4 : r.drop m2 = words_rest r := by rw [← HI2.out, ← HI.out]; exact (rw_lead r).2
          rw [hr4] at hQ11
          have A11 := Aside0.mk (A10.out.re hQ11)
          obtain ⟨r4, h4⟩ : ∃ r4, words_rest r = r4 := ⟨_, rfl⟩
          rw [h4] at A11
          have HNW4 : Aside0 (∀ j, j ≤ r4.length → crucibleref1_names.f k (r4.drop j) = some ((words_lead (r4.drop j)).length : Int)) := ⟨fun j hj => by
            have h3 : r.drop m2 = r4 := hr4.trans h4
            have h5 : r.length = m2 + r4.length := by rw [← HI2.out, ← HI.out, ← h4]; exact rw_len r
            have := HNW.out (m2 + j) (by omega)
            rwa [← List.drop_drop, h3] at this⟩
          have hr11 : n11 ≤ 4294967296 := by
            have h5 : r.length = m2 + r4.length := by rw [← HI2.out, ← HI.out, ← h4]; exact rw_len r
            have := A11.out.q.len
            have := HN8.out
            omega
          have H4 := Aside0.mk h4
          clear A10 hQ11 hr4 h4 HNW
          obtain ⟨hbone, hhbone⟩ : ∃ b, words_hd r4 ⟨#[124]⟩ = b := ⟨_, rfl⟩
          have HBone := Aside0.mk hhbone
          clear hhbone
          go_upto_region 12 with fail
          go_cut [4, 78] (fun s4 s wx => s4 = .slice B11 n11 c11 ∧ s = .bool hbone ∧ Aside0 (RwA w wx gb vo o x vi i (.slice none 0 0) [] (.slice none 0 0) [] B11 n11 c11 r4))
          case first =>
            cases hr : r4 with
            | nil =>
              obtain rfl : n11 = 0 := by have := A11.out.q.len; rw [hr] at this; exact this
              obtain rfl : false = hbone := by have := HBone.out; rw [hr] at this; exact this
              subst hr
              go_wp2
              go_meet
              case rel => exact ⟨rfl, rfl, A11⟩
            | cons y4 r4' =>
              subst hr
              have hlen := A11.out.q.len
              have hn0 : (0 : Int) < (n11 : Int) := by rw [hlen, List.length_cons]; omega
              have hq := A11.out.q.q
              rw [hlen] at hq
              obtain ⟨a4, hB4, hc4⟩ := words_first hq
              have hhd : (y4.toList == (⟨#[124]⟩ : ByteArray).toList) = hbone := HBone.out
              have elit : (⟨#[124]⟩ : ByteArray).toList = [124] := by decide +kernel
              have hhd2 : (y4.toList == ([124] : List UInt8)) = hbone := by rw [← elit]; exact hhd
              subst hB4
              clear hlen hq
              cases hbone with
              | false =>
                clear hhd elit
                go_wp2
                go_meet
                case rel => exact ⟨rfl, rfl, A11⟩
              | true =>
                clear hhd elit
                go_wp2
                go_meet
                case rel => exact ⟨rfl, rfl, A11⟩
          case rest =>
          obtain ⟨rfl, rfl, AAone⟩ := hcut
          have HL4 : Aside0 (r4.length ≤ 4294967296) := ⟨by rw [← A11.out.q.len]; exact hr11⟩
          clear A11
          go_upto_if 78 with fail
          go_cut [4] (fun s4 wx => ∃ (B : Option Addr) (nn cc : Nat) (vc : Value), s4 = .slice B nn cc ∧ Aside0 (RwA w wx gb vo o x vi i vc (rwP1 ⟨#[124]⟩ r4) (.slice none 0 0) [] B nn cc (rwP2 ⟨#[124]⟩ r4)) ∧ Aside0 (hbone = true → (rwP1 ⟨#[124]⟩ r4).length ≠ 0))
          case first =>
            cases hbone with
            | false =>
              have hz := rwP_zero _ _ HBone.out
              have HZ := Aside0.mk hz
              clear hz
              go_wp2
              go_meet
              case rel => exact ⟨_, _, _, .slice none 0 0, rfl, ⟨by rw [HZ.out.2, List.length_eq_zero_iff.1 HZ.out.1]; exact AAone.out⟩, ⟨fun h => by cases h⟩⟩
            | true =>
              have h1n : 1 ≤ n11 := by
                have := AAone.out.q.len
                have h2 := HBone.out
                cases hr : r4 with
                | nil => rw [hr] at h2; cases h2
                | cons a b => rw [hr, List.length_cons] at this; omega
              obtain ⟨B13, n13, c13, hcut13, hQ13⟩ := AAone.out.q.cutz 1 1 (by omega) h1n
              obtain ⟨d, hd⟩ : ∃ d, rwP1 ⟨#[124]⟩ r4 = d := ⟨_, rfl⟩
              obtain ⟨m3, hm3⟩ : ∃ m, d.length = m := ⟨_, rfl⟩
              have hdl : words_lead (r4.drop 1) = d := by rw [← hd, rwP1, if_pos HBone.out, List.drop_one]
              have cn := fun W h => rw_names k (w := w) (W := W) (A := B13) (n := n13) (c := c13) h (show crucibleref1_names.f k (r4.drop 1) = some (m3 : Int) by have := HNW4.out 1 (by rw [← AAone.out.q.len]; exact h1n); rw [hdl, hm3] at this; exact this)
              have hm3n : m3 + 1 ≤ n11 := by
                have h3 := rw_len (r4.drop 1)
                rw [hdl, hm3, List.length_drop, ← AAone.out.q.len] at h3
                omega
              have HTK : Aside0 ((r4.drop 1).take m3 = d) := ⟨by rw [← hm3, ← hdl]; exact (rw_lead _).1⟩
              have HRS : Aside0 (r4.drop (m3 + 1) = rwP2 ⟨#[124]⟩ r4) := ⟨by rw [rwP2, if_pos HBone.out, Nat.add_comm, ← List.drop_drop, ← List.drop_one, ← hm3, ← hdl]; exact (rw_lead _).2⟩
              have HQ13 := Aside0.mk hQ13
              have HD := Aside0.mk hd
              have HM3 := Aside0.mk hm3
              clear hd hm3 hdl hQ13
              go_wp2_with fail
              with_reducible refine (cn _ HQ13.out).mono ?_
              clear cn hcut13 HQ13
              rintro e W13 ⟨rfl, hdr⟩
              have A13 := Aside0.mk (AAone.out.step hdr.below)
              clear hdr AAone
              by_cases hz : m3 = 0
              · have hz1 : ((m3 : Int) == 0) = true := by rw [beq_iff_eq]; omega
                have hz2 : (m3 : Int) = 0 := by omega
                have HZ := Aside0.mk hz
                obtain ⟨⟨y0, y1, y2, y3, y4⟩, z0, z1, z2, z3, z4⟩ := rw_zcells A13.out.t.1
                clear hz hz1
                go_wp2
                exact rw_out A13.out.t.1 A13.out.s.below rfl rfl (by rw [HBT.out]; exact rw_bad1 o x r (by rw [H4.out]; exact HBone.out) (by rw [H4.out, HD.out, HM3.out]; exact HZ.out))
              · have hz1 : ((m3 : Int) == 0) = false := by rw [beq_eq_false_iff_ne]; omega
                have hz2 : ¬ (m3 : Int) = 0 := by omega
                have HZ := Aside0.mk hz
                clear hz
                go_upto_region 16 with fail
                obtain ⟨⟨y0, y1, y2, y3, y4⟩, z0, z1, z2, z3, z4⟩ := A13.out.s.cells
                obtain ⟨B16, c16, hto, hC⟩ := A13.out.q.mid m3 hm3n
                rw [HTK.out] at hC
                have HCT := Aside0.mk hC
                clear hC
                have HB4 := Aside0.mk (below_drew A13.out.s.below)
                have hwr : IntKind.i64.wrap ((m3 : Int) + 1) = (m3 : Int) + 1 := IntWalk.i64_in _ (by omega)
                go_region_law (refine Kd.R_append_rows_step Kd.string (w0 := w) w.heap.size (by rfl) (.tmp 86) (.tmp 90) 22 9 (.string ⟨#[]⟩) 16 rfl Tryd.underlying22 infoS rfl (by decide) (by decide) (.slice none 0 0) [] d B16 m3 c16 (fun _ => True) (fun _ => False) rfl rfl (Kd.R_nil _ _ _ _ _) (Kd.C_drew HCT.out) (fun _ _ h => h) (fun _ h => h.elim) (fun _ _ => trivial) HB4.out HB4.out.size (by simp; omega) (fun v1 w1 ho hb hg hat => ?_); obtain ⟨A1, k1, rfl⟩ := Kd.R_slice ho; have HA1 := Aside0.mk (RwA.grow A13.out hg hb); have HO1 := Aside0.mk ho; obtain ⟨⟨p0, p1, p2, p3, p4⟩, q0, q1, q2, q3, q4⟩ := HA1.out.s.cells; clear ho hb hg hat)
                clear hwr
                obtain ⟨B17, n17, c17, hcut17, hQ17⟩ := (HA1.out.put3 HO1.out).q.cutz (m3 + 1) ((m3 : Int) + 1) (by omega) hm3n
                rw [HRS.out] at hQ17
                have A17 := Aside0.mk ((HA1.out.put3 HO1.out).re hQ17)
                clear hQ17 HA1 HO1 p0 p1 p2 p3 p4 q0 q1 q2 q3 q4 hto
                go_wp2
                go_wp2
                go_meet
                case rel => exact ⟨_, _, _, _, rfl, ⟨by rw [HD.out]; exact A17.out⟩, ⟨fun _ => by rw [HD.out, HM3.out]; exact HZ.out⟩⟩
          case rest =>
          obtain ⟨B18, n18, c18, vc, rfl, A18, HC0⟩ := hcut
          obtain ⟨r5, h5⟩ : ∃ l, rwP2 ⟨#[124]⟩ r4 = l := ⟨_, rfl⟩
          rw [h5] at A18
          have hs5 : ∃ q, q + r5.length = r4.length ∧ r4.drop q = r5 := rw_suffix ⟨#[124]⟩ r4 r5 h5
          have HNW5 : Aside0 (∀ j, j ≤ r5.length → crucibleref1_names.f k (r5.drop j) = some ((words_lead (r5.drop j)).length : Int)) := ⟨fun j hj => by
            obtain ⟨q, hq, hdq⟩ := hs5
            have := HNW4.out (q + j) (by omega)
            rwa [← List.drop_drop, hdq] at this⟩
          have hr18 : n18 ≤ 4294967296 := by
            obtain ⟨q, hq, hdq⟩ := hs5
            have h1 := A18.out.q.len
            have h2 := HL4.out
            omega
          have H5 := Aside0.mk h5
          clear hs5 h5
          obtain ⟨hbtwo, hhbtwo⟩ : ∃ b, words_hd r5 ⟨#[124, 124]⟩ = b := ⟨_, rfl⟩
          have HBtwo := Aside0.mk hhbtwo
          clear hhbtwo
          go_upto_region 18 with fail
          go_cut [4, 105] (fun s4 s wx => s4 = .slice B18 n18 c18 ∧ s = .bool hbtwo ∧ Aside0 (RwA w wx gb vo o x vi i vc (rwP1 ⟨#[124]⟩ r4) (.slice none 0 0) [] B18 n18 c18 r5))
          case first =>
            cases hr : r5 with
            | nil =>
              obtain rfl : n18 = 0 := by have := A18.out.q.len; rw [hr] at this; exact this
              obtain rfl : false = hbtwo := by have := HBtwo.out; rw [hr] at this; exact this
              subst hr
              go_wp2
              go_meet
              case rel => exact ⟨rfl, rfl, A18⟩
            | cons y4 r4' =>
              subst hr
              have hlen := A18.out.q.len
              have hn0 : (0 : Int) < (n18 : Int) := by rw [hlen, List.length_cons]; omega
              have hq := A18.out.q.q
              rw [hlen] at hq
              obtain ⟨a4, hB4, hc4⟩ := words_first hq
              have hhd : (y4.toList == (⟨#[124, 124]⟩ : ByteArray).toList) = hbtwo := HBtwo.out
              have elit : (⟨#[124, 124]⟩ : ByteArray).toList = [124, 124] := by decide +kernel
              have hhd2 : (y4.toList == ([124, 124] : List UInt8)) = hbtwo := by rw [← elit]; exact hhd
              subst hB4
              clear hlen hq
              cases hbtwo with
              | false =>
                clear hhd elit
                go_wp2
                go_meet
                case rel => exact ⟨rfl, rfl, A18⟩
              | true =>
                clear hhd elit
                go_wp2
                go_meet
                case rel => exact ⟨rfl, rfl, A18⟩
          case rest =>
          obtain ⟨rfl, rfl, AAtwo⟩ := hcut
          clear A18 HL4
          go_upto_if 105 with fail
          go_cut [4] (fun s4 wx => ∃ (B : Option Addr) (nn cc : Nat) (vd : Value), s4 = .slice B nn cc ∧ Aside0 (RwA w wx gb vo o x vi i vc (rwP1 ⟨#[124]⟩ r4) vd (rwP1 ⟨#[124, 124]⟩ r5) B nn cc (rwP2 ⟨#[124, 124]⟩ r5)) ∧ Aside0 (hbtwo = true → (rwP1 ⟨#[124, 124]⟩ r5).length ≠ 0))
          case first =>
            cases hbtwo with
            | false =>
              have hz := rwP_zero _ _ HBtwo.out
              have HZ := Aside0.mk hz
              clear hz
              go_wp2
              go_meet
              case rel => exact ⟨_, _, _, .slice none 0 0, rfl, ⟨by rw [HZ.out.2, List.length_eq_zero_iff.1 HZ.out.1]; exact AAtwo.out⟩, ⟨fun h => by cases h⟩⟩
            | true =>
              have h1n : 1 ≤ n18 := by
                have := AAtwo.out.q.len
                have h2 := HBtwo.out
                cases hr : r5 with
                | nil => rw [hr] at h2; cases h2
                | cons a b => rw [hr, List.length_cons] at this; omega
              obtain ⟨B13, n13, c13, hcut13, hQ13⟩ := AAtwo.out.q.cutz 1 1 (by omega) h1n
              obtain ⟨d, hd⟩ : ∃ d, rwP1 ⟨#[124, 124]⟩ r5 = d := ⟨_, rfl⟩
              obtain ⟨m3, hm3⟩ : ∃ m, d.length = m := ⟨_, rfl⟩
              have hdl : words_lead (r5.drop 1) = d := by rw [← hd, rwP1, if_pos HBtwo.out, List.drop_one]
              have cn := fun W h => rw_names k (w := w) (W := W) (A := B13) (n := n13) (c := c13) h (show crucibleref1_names.f k (r5.drop 1) = some (m3 : Int) by have := HNW5.out 1 (by rw [← AAtwo.out.q.len]; exact h1n); rw [hdl, hm3] at this; exact this)
              have hm3n : m3 + 1 ≤ n18 := by
                have h3 := rw_len (r5.drop 1)
                rw [hdl, hm3, List.length_drop, ← AAtwo.out.q.len] at h3
                omega
              have HTK : Aside0 ((r5.drop 1).take m3 = d) := ⟨by rw [← hm3, ← hdl]; exact (rw_lead _).1⟩
              have HRS : Aside0 (r5.drop (m3 + 1) = rwP2 ⟨#[124, 124]⟩ r5) := ⟨by rw [rwP2, if_pos HBtwo.out, Nat.add_comm, ← List.drop_drop, ← List.drop_one, ← hm3, ← hdl]; exact (rw_lead _).2⟩
              have HQ13 := Aside0.mk hQ13
              have HD := Aside0.mk hd
              have HM3 := Aside0.mk hm3
              clear hd hm3 hdl hQ13
              go_wp2_with fail
              with_reducible refine (cn _ HQ13.out).mono ?_
              clear cn hcut13 HQ13
              rintro e W13 ⟨rfl, hdr⟩
              have A13 := Aside0.mk (AAtwo.out.step hdr.below)
              clear hdr AAtwo
              by_cases hz : m3 = 0
              · have hz1 : ((m3 : Int) == 0) = true := by rw [beq_iff_eq]; omega
                have hz2 : (m3 : Int) = 0 := by omega
                have HZ := Aside0.mk hz
                obtain ⟨⟨y0, y1, y2, y3, y4⟩, z0, z1, z2, z3, z4⟩ := rw_zcells A13.out.t.1
                clear hz hz1
                go_wp2
                exact rw_out A13.out.t.1 A13.out.s.below rfl rfl (by rw [HBT.out]; exact rw_bad2 o x r (by rw [H4.out, H5.out]; exact HBtwo.out) (by rw [H4.out, H5.out, HD.out, HM3.out]; exact HZ.out))
              · have hz1 : ((m3 : Int) == 0) = false := by rw [beq_eq_false_iff_ne]; omega
                have hz2 : ¬ (m3 : Int) = 0 := by omega
                have HZ := Aside0.mk hz
                clear hz
                go_upto_region 22 with fail
                obtain ⟨⟨y0, y1, y2, y3, y4⟩, z0, z1, z2, z3, z4⟩ := A13.out.s.cells
                obtain ⟨B16, c16, hto, hC⟩ := A13.out.q.mid m3 hm3n
                rw [HTK.out] at hC
                have HCT := Aside0.mk hC
                clear hC
                have HB4 := Aside0.mk (below_drew A13.out.s.below)
                have hwr : IntKind.i64.wrap ((m3 : Int) + 1) = (m3 : Int) + 1 := IntWalk.i64_in _ (by omega)
                go_region_law (refine Kd.R_append_rows_step Kd.string (w0 := w) w.heap.size (by rfl) (.tmp 113) (.tmp 117) 22 9 (.string ⟨#[]⟩) 16 rfl Tryd.underlying22 infoS rfl (by decide) (by decide) (.slice none 0 0) [] d B16 m3 c16 (fun _ => True) (fun _ => False) rfl rfl (Kd.R_nil _ _ _ _ _) (Kd.C_drew HCT.out) (fun _ _ h => h) (fun _ h => h.elim) (fun _ _ => trivial) HB4.out HB4.out.size (by simp; omega) (fun v1 w1 ho hb hg hat => ?_); obtain ⟨A1, k1, rfl⟩ := Kd.R_slice ho; have HA1 := Aside0.mk (RwA.grow A13.out hg hb); have HO1 := Aside0.mk ho; obtain ⟨⟨p0, p1, p2, p3, p4⟩, q0, q1, q2, q3, q4⟩ := HA1.out.s.cells; clear ho hb hg hat)
                clear hwr
                obtain ⟨B17, n17, c17, hcut17, hQ17⟩ := (HA1.out.put4 HO1.out).q.cutz (m3 + 1) ((m3 : Int) + 1) (by omega) hm3n
                rw [HRS.out] at hQ17
                have A17 := Aside0.mk ((HA1.out.put4 HO1.out).re hQ17)
                clear hQ17 HA1 HO1 p0 p1 p2 p3 p4 q0 q1 q2 q3 q4 hto
                go_wp2
                go_wp2
                go_meet
                case rel => exact ⟨_, _, _, _, rfl, ⟨by rw [HD.out]; exact A17.out⟩, ⟨fun _ => by rw [HD.out, HM3.out]; exact HZ.out⟩⟩
          case rest =>
          obtain ⟨B23, n23, c23, vd, rfl, A23, HD0⟩ := hcut
          have hfin := rw_tail o x r i _ _ _ HI.out rfl rfl rfl (by rw [H4.out]; intro h; exact HC0.out (by rw [← HBone.out]; exact h)) (by rw [H4.out, H5.out]; intro h; exact HD0.out (by rw [← HBtwo.out]; exact h)) (fun h => (rwP_zero _ _ h).1) (fun h => (rwP_zero _ _ h).1)
          rw [H4.out, H5.out] at hfin
          obtain ⟨r6, h6⟩ : ∃ l, rwP2 ⟨#[124, 124]⟩ r5 = l := ⟨_, rfl⟩
          obtain ⟨ic, hic⟩ : ∃ l, rwP1 ⟨#[124]⟩ r4 = l := ⟨_, rfl⟩
          obtain ⟨id_, hid⟩ : ∃ l, rwP1 ⟨#[124, 124]⟩ r5 = l := ⟨_, rfl⟩
          rw [h6, hic, hid] at hfin
          rw [h6, hid] at A23
          rw [hic] at A23
          clear h6 hic hid HD0 HC0 HBone HBtwo H4 H5 HI HI2 HNW4 HNW5 hr11 hr18
          have HF := Aside0.mk hfin
          clear hfin
          obtain ⟨Ao, ko, rfl⟩ := Kd.R_slice A23.out.s.ro
          obtain ⟨Ai, ki, rfl⟩ := Kd.R_slice A23.out.s.ri
          obtain ⟨Ac, kc, rfl⟩ := Kd.R_slice A23.out.s.rc
          obtain ⟨Ad, kd, rfl⟩ := Kd.R_slice A23.out.s.rd
          obtain ⟨⟨y0, y1, y2, y3, y4⟩, z0, z1, z2, z3, z4⟩ := A23.out.s.cells
          obtain ⟨⟨u0, u1, u2, u3, u4⟩, v0, v1, v2, v3, v4⟩ := rw_zcells A23.out.t.1
          have hl6 := A23.out.q.len
          rw [← hl6] at HF
          clear hl6
          obtain ⟨li, hi'⟩ : ∃ l, i.length = l := ⟨_, rfl⟩
          obtain ⟨lc, hc'⟩ : ∃ l, ic.length = l := ⟨_, rfl⟩
          obtain ⟨ld, hd'⟩ : ∃ l, id_.length = l := ⟨_, rfl⟩
          rw [hi', hc', hd'] at HF
          rw [hi'] at y2
          rw [hc'] at y3
          rw [hd'] at y4
          by_cases hA : 0 < n23 ∨ 8 < li ∨ 8 < lc ∨ 8 < ld
          · have HR : Aside0 (words_build ws = words_no) := ⟨by rw [HBT.out, HF.out, if_pos hA]⟩
            have HI' := Aside0.mk hi'; have HC' := Aside0.mk hc'; have HD' := Aside0.mk hd'
            clear HF hi' hc' hd'
            by_cases g1 : 0 < n23
            · have g1z : (0 : Int) < (n23 : Int) := by omega
              clear hA
              go_wp2
              exact rw_out A23.out.t.1 A23.out.s.below rfl rfl HR.out
            have g1z : ¬ (0 : Int) < (n23 : Int) := by omega
            by_cases g2 : 8 < li
            · have g2z : (8 : Int) < (li : Int) := by omega
              clear hA
              go_wp2
              exact rw_out A23.out.t.1 A23.out.s.below rfl rfl HR.out
            have g2z : ¬ (8 : Int) < (li : Int) := by omega
            by_cases g3 : 8 < lc
            · have g3z : (8 : Int) < (lc : Int) := by omega
              clear hA
              go_wp2
              exact rw_out A23.out.t.1 A23.out.s.below rfl rfl HR.out
            have g3z : ¬ (8 : Int) < (lc : Int) := by omega
            have g4 : 8 < ld := by omega
            have g4z : (8 : Int) < (ld : Int) := by omega
            clear hA
            go_wp2
            exact rw_out A23.out.t.1 A23.out.s.below rfl rfl HR.out
          · have g1z : ¬ (0 : Int) < (n23 : Int) := by omega
            have g2z : ¬ (8 : Int) < (li : Int) := by omega
            have g3z : ¬ (8 : Int) < (lc : Int) := by omega
            have g4z : ¬ (8 : Int) < (ld : Int) := by omega
            have HR : Aside0 (words_build ws = (o, x, i, ic, id_, 0)) := ⟨by rw [HBT.out, HF.out, if_neg hA]⟩
            have HI' := Aside0.mk hi'; have HC' := Aside0.mk hc'; have HD' := Aside0.mk hd'
            clear HF hi' hc' hd' hA
            go_wp2
            refine rw_good A23.out ?_ ?_ HI'.out HC'.out HD'.out HR.out <;> rfl
theorem crucibleref1_Words.calls (k : Nat) (a0 : ByteArray) (r1 : List ByteArray) (r2 : ByteArray) (r3 r4 r5 : List ByteArray) (r6 : Int) (w : World) (h : crucibleref1_Words.f k a0 = some (r1, r2, r3, r4, r5, r6)) :
    Calls Tryd.prog 16 #[.string a0] w fun e w' => ∃ vo vi vc vd : Value, e = .returned (.tuple #[.agg #[vo, .string r2, vi, vc, vd], .int .i64 r6]) ∧ Kd.R Kd.string 9 w' w.heap.size (fun _ => True) vo r1 ∧ Kd.R Kd.string 9 w' w.heap.size (fun _ => True) vi r3 ∧ Kd.R Kd.string 9 w' w.heap.size (fun _ => True) vc r4 ∧ Kd.R Kd.string 9 w' w.heap.size (fun _ => True) vd r5 ∧ Below w.heap.size w w' := by
  unfold crucibleref1_Words.f at h
  obtain ⟨ws, hw, h⟩ := Option.bind_eq_some_iff.1 h
  split at h
  case isFalse => cases h
  rename_i hc
  have hr := Option.some.inj h
  have := crucibleref1_Words.walk k a0 ws w hw hc.1 hc.2.1 hc.2.2
  rw [hr] at this
  exact this

end Go.Proofs.YtncbloieejeifaaDoor.P
