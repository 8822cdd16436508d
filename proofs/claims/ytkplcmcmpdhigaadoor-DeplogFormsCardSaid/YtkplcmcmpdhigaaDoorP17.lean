-- Made by a program of this work's own (wip/myprint.py) over the kit's print; leaves by hand.
import Derived.Test.YtkplcmcmpdhigaaDoorP0
import Derived.Test.YtkplcmcmpdhigaaDoorWRepsOne
import Derived.Test.YtkplcmcmpdhigaaDoorP1
import Derived.Test.YtkplcmcmpdhigaaDoorP6
import Derived.Test.YtkplcmcmpdhigaaDoorP9
import Derived.Test.YtkplcmcmpdhigaaDoorP12
import Derived.Test.YtkplcmcmpdhigaaDoorP13
import Derived.Test.YtkplcmcmpdhigaaDoorP14
import Derived.Test.YtkplcmcmpdhigaaDoorP15
import Derived.Deep.OwnRows
import Derived.Deep.RegionHeld3
import Derived.Test.YtkplcmcmpdhigaaDoorDeplog
namespace Go.Proofs.YtkplcmcmpdhigaaDoor.P
open Go.RowKit Go.Proofs.YtkplcmcmpdhigaaDoorW.PrintWords Go.Proofs.YtkplcmcmpdhigaaDoorW.PrintLast Go.Proofs.YtkplcmcmpdhigaaDoorW.PrintMore
attribute [local go_sem] max2_int min2_int max_two min_two max_three min_three max_four min_four   -- for this text's walks alone
set_option linter.unusedVariables false
set_option linter.unusedSimpArgs false

-- HANDBIG DeplogForms.lean
-- IMPORT Derived.Test.YtkplcmcmpdhigaaDoorDeplog
-- IMPORT Derived.Deep.RegionHeld3
-- IMPORT Derived.Deep.OwnRows
/-! ### cruciblelaw16_DeplogForms, by hand -/
def cruciblelaw16_DeplogForms.f (_ : Nat) (a0 : Int) (a1 : Int) : Option Bool := some true
theorem cruciblelaw16_DeplogForms.mono : ∀ a0 a1 k, LeO (cruciblelaw16_DeplogForms.f k a0 a1) (cruciblelaw16_DeplogForms.f (k + 1) a0 a1) := fun _ _ _ _ h => h
/-! what the calls answer -/
def fm_g : S41 := ⟨⟨#[97]⟩, 1, [⟨#[98]⟩]⟩
theorem fm_gm : Spec.mayF fm_g = true := by decide +kernel
def FmIns (l : List (S41)) : Prop := ∀ x ∈ l, x.f2.length ≤ 10
theorem FmIns.wide {l : List (S41)} (h : FmIns l) : ∀ x ∈ l, x.f2.length ≤ 4611686018427387904 := fun x hx => by have := h x hx; omega
theorem fm_text (W : World) (A : Option Addr) (c n : Nat) (l : List (S41)) (hn : l.length = n) (hC : Kd.C k41 W A n l) (hc : n ≤ c) (hi : FmIns l) (hm : Spec.mayFs l = false) :
    Calls Tryd.prog 34 #[.slice A n c] W fun e w' => e = .returned (.tuple #[.string ⟨#[]⟩, .int .i64 1600]) ∧ Below W.heap.size W w' := by
  subst hn
  have e := Spec.ev_Text16 l hi.wide
  have hd : Spec.textF l = (⟨#[]⟩, 1600) := by
    unfold Spec.textF
    rw [if_neg (by rw [hm]; decide)]; rfl
  rw [hd] at e
  obtain ⟨k, hk⟩ := Ev.rounds e
  exact deplog_Text.calls k A c l _ _ W hC hc hk
theorem fm_textOk (W : World) (A : Option Addr) (c n : Nat) (l : List (S41)) (hn : l.length = n) (hC : Kd.C k41 W A n l) (hc : n ≤ c) (hi : FmIns l) (hm : Spec.mayFs l = true) :
    Calls Tryd.prog 34 #[.slice A n c] W fun e w' => e = .returned (.tuple #[.string (Spec.str (Spec.fsText l)), .int .i64 0]) ∧ Below W.heap.size W w' := by
  subst hn
  have e := Spec.ev_Text16 l hi.wide
  have hd : Spec.textF l = (Spec.str (Spec.fsText l), 0) := by
    unfold Spec.textF
    rw [if_pos hm]
  rw [hd] at e
  obtain ⟨k, hk⟩ := Ev.rounds e
  exact deplog_Text.calls k A c l _ _ W hC hc hk
theorem fm_may (W : World) (A : Option Addr) (c n : Nat) (l : List (S41)) (hn : l.length = n) (hC : Kd.C k41 W A n l) (hc : n ≤ c) (hi : FmIns l) (hm : Spec.mayFs l = false) :
    Calls Tryd.prog 43 #[.slice A n c] W fun e w' => e = .returned (.bool false) ∧ Below W.heap.size W w' := by
  subst hn
  have e := Spec.ev_May16 l hi.wide
  rw [hm] at e
  obtain ⟨k, hk⟩ := Ev.rounds e
  exact deplog_May.calls k A c l _ W hC hc hk
theorem fm_last (W : World) (A : Option Addr) (c n : Nat) (l : List (S41)) (o : ByteArray) (j : Nat) (hn : l.length = n) (hC : Kd.C k41 W A n l) (hc : n ≤ c) (hi : FmIns l) (hm : Spec.mayFs l = false) (hl : l.length ≤ 1000) (hj : deplog_lastUpto l o l.length = (j : Int)) :
    Calls Tryd.prog 37 #[.slice A n c, .string o] W fun e w' => ∃ A2 c2, e = .returned (.tuple #[.agg #[.string ⟨#[]⟩, .int .i64 0, .slice A2 0 c2], .bool false]) ∧ Below W.heap.size W w' := by
  subst hn
  have hlast : deplog_last.f l o = some (j : Int) := by unfold deplog_last.f; rw [if_pos (by omega), hj]
  have e : Ev (fun k => deplog_Last.f k l o) (⟨#[]⟩, 0, [], false) := by
    refine Ev.congr (fun k => by rw [deplog_Last.f]) (Spec.ev_bindc hlast ?_)
    refine Spec.ev_neg (by omega) (Spec.ev_bind (Spec.ev_May16 l hi.wide) ?_)
    rw [hm]
    exact Spec.ev_neg (by simp) (Ev.now _)
  obtain ⟨k, hk⟩ := Ev.rounds e
  refine (deplog_Last.calls k A c l o _ _ _ _ W hC hc hk).mono ?_
  rintro e w' ⟨v, rfl, hR, hB⟩
  obtain ⟨A2, c2, rfl⟩ := Kd.R_slice hR
  exact ⟨A2, c2, rfl, hB⟩
theorem fm_comp (W : World) (A : Option Addr) (c n : Nat) (l : List (S41)) (hn : l.length = n) (hC : Kd.C k41 W A n l) (hc : n ≤ c) (hi : FmIns l) (hm : Spec.mayFs l = false) :
    Calls Tryd.prog 39 #[.slice A n c] W fun e w' => ∃ A2 c2, e = .returned (.tuple #[.slice A2 0 c2, .int .i64 1600]) ∧ Below W.heap.size W w' := by
  subst hn
  have e : Ev (fun k => deplog_Compact.f k l) ([], 1600) := by
    refine Ev.congr (fun k => by rw [deplog_Compact.f]) (Spec.ev_bind (Spec.ev_May16 l hi.wide) ?_)
    rw [hm]
    exact Spec.ev_neg (by simp) (Ev.now _)
  obtain ⟨k, hk⟩ := Ev.rounds e
  refine (deplog_Compact.calls k A c l _ _ W hC hc hk).mono ?_
  rintro e w' ⟨v, rfl, hS, hB⟩
  obtain ⟨A2, c2, rfl, _, _⟩ := Kd.S_reads hS
  exact ⟨A2, c2, rfl, hB⟩
def fm_T : ByteArray := Spec.str (Spec.fsText (List.replicate 256 fm_g))
theorem fm_all (n : Nat) : ∀ f ∈ List.replicate n fm_g, Spec.mayF f = true := fun f hf => by rw [List.eq_of_mem_replicate hf]; exact fm_gm
theorem fm_Tlen : fm_T.size ≤ 40960 := by
  have h := Spec.fsText_len (List.replicate 256 fm_g) (fm_all 256)
  rw [List.length_replicate] at h
  have h2 : fm_T.size = (Spec.fsText (List.replicate 256 fm_g)).length := Spec.str_size _
  omega
theorem fm_load (W : World) : Calls Tryd.prog 36 #[.string (fm_T ++ fm_T)] W fun e w' => ∃ A c, e = .returned (.slice A 256 c) ∧ Below W.heap.size W w' := by
  have e := Spec.ev_Load (fm_T ++ fm_T)
  have hd : Spec.loadD 256 (fm_T ++ fm_T).data.toList = List.replicate 256 fm_g := by
    have h := Spec.load_put (List.replicate 256 fm_g) 256 (Spec.fsText (List.replicate 256 fm_g)) (fm_all 256) (by rw [List.length_replicate]; exact Nat.le_refl _)
    rw [List.length_replicate, Nat.sub_self, Spec.loadD, List.append_nil] at h
    rw [fm_T, Spec.str_append, Spec.str_data]
    exact h
  rw [hd] at e
  obtain ⟨k, hk⟩ := Ev.rounds e
  refine (deplog_Load.calls k _ _ W hk).mono ?_
  rintro e w' ⟨v, rfl, hS, hB⟩
  obtain ⟨A, c, hv, _, _⟩ := Kd.S_reads hS
  rw [List.length_replicate] at hv
  exact ⟨A, c, by rw [hv], hB⟩
theorem fm_manyOk : Spec.mayFs (List.replicate 256 fm_g) = true := Spec.mayFs_of (by rw [List.length_replicate]; exact Nat.le_refl _) (fm_all 256)
theorem fm_manyNo (n : Nat) (h : 256 < n) : Spec.mayFs (List.replicate n fm_g) = false := by
  rw [Spec.mayFs, List.length_replicate, decide_eq_false (by omega)]; rfl
theorem fm_manyIns (n : Nat) : FmIns (List.replicate n fm_g) := fun x hx => by rw [List.eq_of_mem_replicate hx]; exact (by decide : (1 : Nat) ≤ 10)
theorem fm_then {w W w' : World} (h : Below w.heap.size w W) (hB : Below W.heap.size W w') : Below w.heap.size w w' := below_then h h.size hB
/-! the bad ones -/
def fm_bads (d : Int) (s : Nat) : List FdL := [(⟨⟨#[65]⟩, 1, []⟩, none, 0), (⟨⟨#[97]⟩, 1 - d, []⟩, none, 0), (⟨⟨#[97]⟩, 1, [⟨#[47]⟩]⟩, some ⟨s + 1 + 1, 0, none⟩, 1), (⟨⟨#[]⟩, 0, []⟩, none, 0)]
abbrev fmXo : Obj := .cells #[.string ⟨#[98]⟩] 9
abbrev fmGo (s : Nat) : Obj := .cells #[.string ⟨#[97]⟩, .int .i64 1, .slice (some ⟨s, 0, none⟩) 1 1] 41
abbrev fmSo : Obj := .cells #[.string ⟨#[47]⟩] 9
abbrev fmBo (d : Int) (s : Nat) : Obj := .cells #[.string ⟨#[65]⟩, .int .i64 1, .slice none 0 0, .string ⟨#[97]⟩, .int .i64 (1 - d), .slice none 0 0, .string ⟨#[97]⟩, .int .i64 1, .slice (some ⟨s + 1 + 1, 0, none⟩) 1 1, .string ⟨#[]⟩, .int .i64 0, .slice none 0 0] 41
abbrev fmW (w : World) (d : Int) : World := (((w.alloc fmXo).alloc (fmGo w.heap.size)).alloc fmSo).alloc (fmBo d w.heap.size)
theorem fm_row1 (W' : World) (g : Nat) (x : ByteArray) (hg : W'.heap[g]? = some (.cells #[.string x] 9 (0, 0))) : Kd.C Kd.string W' (some ⟨g, 0, none⟩) 1 [x] := by
  refine ⟨rfl, by decide, fun _ => ⟨_, rfl, fun j p hp => ?_⟩⟩
  cases j with
  | succ j => simp at hp
  | zero =>
    obtain rfl : x = p := by simpa using hp
    refine ⟨[.string x], rfl, rfl, fun i u hu => ?_⟩
    rw [add_plain, blk_cell hg]
    cases i with
    | zero => exact hu
    | succ i => simp at hu
structure FmN (w : World) (d : Int) (W : World) : Prop where
  x : W.heap[w.heap.size]? = some fmXo
  g : W.heap[w.heap.size + 1]? = some (fmGo w.heap.size)
  s : W.heap[w.heap.size + 1 + 1]? = some fmSo
  b : W.heap[w.heap.size + 1 + 1 + 1]? = some (fmBo d w.heap.size)
  below : Below w.heap.size w W
theorem FmN.new (w : World) (d : Int) : FmN w d (fmW w d) := by
  have h1 := heap_alloc_new w fmXo
  have h2 := heap_alloc_new (w.alloc fmXo) (fmGo w.heap.size)
  have h3 := heap_alloc_new ((w.alloc fmXo).alloc (fmGo w.heap.size)) fmSo
  have h4 := heap_alloc_new (((w.alloc fmXo).alloc (fmGo w.heap.size)).alloc fmSo) (fmBo d w.heap.size)
  simp only [World.size_alloc] at h2 h3 h4
  have st : ∀ (W : World) (o : Obj) (k : Nat) (q : Obj), W.heap[k]? = some q → (W.alloc o).heap[k]? = some q := fun W o k q h => (Below.heap_alloc W o k (blk_lt h)).trans h
  exact ⟨st _ _ _ _ (st _ _ _ _ (st _ _ _ _ h1)), st _ _ _ _ (st _ _ _ _ h2), st _ _ _ _ h3, h4, below_alloc (below_alloc (below_alloc (below_alloc (Below.refl _ _) _) _) _) _⟩
theorem FmN.step {w W W' : World} {d : Int} (h : FmN w d W) (hB : Below W.heap.size W W') : FmN w d W' :=
  ⟨(hB.block _ (blk_lt h.x)).trans h.x, (hB.block _ (blk_lt h.g)).trans h.g, (hB.block _ (blk_lt h.s)).trans h.s, (hB.block _ (blk_lt h.b)).trans h.b, fm_then h.below hB⟩
theorem FmN.bads {w W : World} {d : Int} (h : FmN w d W) : Kd.C k41 W (some ⟨w.heap.size + 1 + 1 + 1, 0, none⟩) 4 ((fm_bads d w.heap.size).map (·.1)) := by
  refine founds_lit _ _ (fm_bads d w.heap.size) (show (4 : Nat) ≤ 1000 by decide) h.b (fun p hp => ?_)
  unfold fm_bads at hp
  rcases List.mem_cons.1 hp with rfl | hp
  · exact ⟨Nat.le_refl 0, c_none _⟩
  rcases List.mem_cons.1 hp with rfl | hp
  · exact ⟨Nat.le_refl 0, c_none _⟩
  rcases List.mem_cons.1 hp with rfl | hp
  · exact ⟨Nat.le_refl _, fm_row1 _ _ _ h.s⟩
  · obtain rfl := List.mem_singleton.1 hp
    exact ⟨Nat.le_refl 0, c_none _⟩
theorem FmN.cells {w W : World} {d : Int} (h : FmN w d W) : W.cell? ⟨w.heap.size + 1, 0, none⟩ = some (.string ⟨#[97]⟩) ∧ W.cell? ⟨w.heap.size + 1, 1, none⟩ = some (.int .i64 1) ∧ W.cell? ⟨w.heap.size + 1, 2, none⟩ = some (.slice (some ⟨w.heap.size, 0, none⟩) 1 1) :=
  ⟨by rw [blk_cell h.g]; rfl, by rw [blk_cell h.g]; rfl, by rw [blk_cell h.g]; rfl⟩
theorem fm_bad (d : Int) (s : Nat) (hd : 1 ≤ d) (p : S41) (hp : p ∈ (fm_bads d s).map (·.1)) : Spec.mayF p = false ∧ p.f2.length ≤ 10 := by
  obtain ⟨q, hq, rfl⟩ := List.mem_map.1 hp
  clear hp
  unfold fm_bads at hq
  rcases List.mem_cons.1 hq with rfl | hq
  · exact ⟨by decide +kernel, by decide⟩
  rcases List.mem_cons.1 hq with rfl | hq
  · refine ⟨show Spec.mayD ⟨#[97]⟩ (1 - d) [] = false from ?_, Nat.zero_le _⟩
    rw [Spec.mayD, decide_eq_false (show ¬ 1 ≤ 1 - d by omega)]; simp
  rcases List.mem_cons.1 hq with rfl | hq
  · exact ⟨show Spec.mayF ⟨⟨#[97]⟩, 1, [⟨#[47]⟩]⟩ = false by decide +kernel, show 1 ≤ 10 by decide⟩
  · obtain rfl := List.mem_singleton.1 hq
    exact ⟨by decide +kernel, by decide⟩
theorem fm_idx {m : Int} (h0 : 0 ≤ m) (h4 : m < 4) (d : Int) (s : Nat) : rd_T41 ((fm_bads d s).map (·.1)) m ∈ (fm_bads d s).map (·.1) := by
  have hl : ((fm_bads d s).map (·.1)).length = 4 := rfl
  have : m.toNat < ((fm_bads d s).map (·.1)).length := by omega
  rw [rd_T41, List.getD_eq_getElem?_getD, List.getElem?_eq_getElem this]
  exact List.getElem_mem this
/-! the row of three -/
def fm_three (p : S41) : List (S41) := [fm_g, p, fm_g]
theorem fm_threeNo {p : S41} (h : Spec.mayF p = false) : Spec.mayFs (fm_three p) = false := by simp [Spec.mayFs, fm_three, h]
theorem fm_threeIns {p : S41} (h : p.f2.length ≤ 10) : FmIns (fm_three p) := by
  intro x hx
  rcases List.mem_cons.1 hx with rfl | hx
  · exact (by decide : (1 : Nat) ≤ 10)
  rcases List.mem_cons.1 hx with rfl | hx
  · exact h
  · obtain rfl := List.mem_singleton.1 hx
    exact (by decide : (1 : Nat) ≤ 10)
theorem fm_threeLast (p : S41) : deplog_lastUpto (fm_three p) ⟨#[97]⟩ (fm_three p).length = ((2 : Nat) : Int) := by
  show deplog_lastUpto (fm_three p) ⟨#[97]⟩ (2 + 1) = _
  rw [deplog_lastUpto, if_pos]
  rfl
abbrev fmTo (s : Nat) (p : S41) (A : Option Addr) (c : Nat) : Obj := .cells #[.string ⟨#[97]⟩, .int .i64 1, .slice (some ⟨s, 0, none⟩) 1 1, .string p.f0, .int .i64 p.f1, .slice A p.f2.length c, .string ⟨#[97]⟩, .int .i64 1, .slice (some ⟨s, 0, none⟩) 1 1] 41
theorem fm_three_C {w W : World} {d : Int} (h : FmN w d W) {b : Nat} {p : S41} {A : Option Addr} {c : Nat} (hb : W.heap[b]? = some (fmTo w.heap.size p A c)) (hc : p.f2.length ≤ c) (hC : Kd.C Kd.string W A p.f2.length p.f2) : Kd.C k41 W (some ⟨b, 0, none⟩) 3 (fm_three p) :=
  founds_lit _ _ [(fm_g, some ⟨w.heap.size, 0, none⟩, 1), (p, A, c), (fm_g, some ⟨w.heap.size, 0, none⟩, 1)] (show (3 : Nat) ≤ 1000 by decide) hb (fun q hq => by
    rcases List.mem_cons.1 hq with rfl | hq
    · exact ⟨Nat.le_refl _, fm_row1 _ _ _ h.x⟩
    rcases List.mem_cons.1 hq with rfl | hq
    · exact ⟨hc, hC⟩
    · obtain rfl := List.mem_singleton.1 hq
      exact ⟨Nat.le_refl _, fm_row1 _ _ _ h.x⟩)
/-! many -/
def fmC (s : Nat) : Nat → Value
  | 0 => .string ⟨#[97]⟩
  | 1 => .int .i64 1
  | _ => .slice (some ⟨s, 0, none⟩) 1 1
def fmZ : Nat → Value
  | 0 => .string ⟨#[]⟩
  | 1 => .int .i64 0
  | _ => .slice none 0 0
def fmF (s q : Nat) (i : Nat) : Value := if i < 3 * q then fmC s (i % 3) else fmZ (i % 3)
theorem fm_made (W : World) (n : Nat) (s : Nat) : (W.alloc (.cells (madeCells #[.string ⟨#[]⟩, .int .i64 0, .slice none 0 0] (n * 3)) 41)).rowIs W.heap.size 41 (n * 3) (fmF s 0) :=
  ⟨_, heap_alloc_new _ _, size_madeCells _ _, fun i hi => by
    rw [fmF, if_neg (by omega)]
    simp only [madeCells, Array.getElem?_map]
    rw [Array.getElem?_range, if_pos hi]
    show some (#[Value.string ⟨#[]⟩, .int .i64 0, .slice none 0 0][i % 3]!) = _
    have h3 : i % 3 < 3 := Nat.mod_lt _ (by decide)
    rcases (by omega : i % 3 = 0 ∨ i % 3 = 1 ∨ i % 3 = 2) with h | h | h <;> rw [h] <;> rfl⟩
theorem fm_many_C {W : World} {b n s : Nat} (h : W.rowIs b 41 (n * 3) (fmF s n)) (hx : W.heap[s]? = some fmXo) (q : Nat) (hq : q ≤ n) (hn : n ≤ 1000) : Kd.C k41 W (some ⟨b, 0, none⟩) q (List.replicate q fm_g) := by
  refine ⟨List.length_replicate, by omega, fun _ => ⟨_, rfl, fun j p hp => ?_⟩⟩
  rw [List.getElem?_replicate] at hp
  split at hp
  case isFalse => cases hp
  rename_i hj
  obtain rfl : fm_g = p := Option.some.inj hp
  refine ⟨_, rfl, k41_mk W fm_g (Nat.le_refl 1) (fm_row1 _ _ _ hx), fun i u hu => ?_⟩
  rw [add_plain]
  have e : ∀ t, t < 3 → W.cell? ⟨b, j * 3 + t, none⟩ = some (fmC s t) := fun t ht => by
    rw [h.cell (by omega), fmF, if_pos (by omega), show (j * 3 + t) % 3 = t by omega]
  match i, hu with
  | 0, hu => exact (e 0 (by decide)).trans hu
  | 1, hu => exact (e 1 (by decide)).trans hu
  | 2, hu => exact (e 2 (by decide)).trans hu
  | i + 3, hu => simp at hu
theorem fm_put {W : World} {b n s q : Nat} (h : W.rowIs b 41 (n * 3) (fmF s q)) (hq : q < n) :
    (((W.setCell ⟨b, q * 3, none⟩ (.string ⟨#[97]⟩)).setCell ⟨b, q * 3 + 1, none⟩ (.int .i64 1)).setCell ⟨b, q * 3 + 2, none⟩ (.slice (some ⟨s, 0, none⟩) 1 1)).rowIs b 41 (n * 3) (fmF s (q + 1)) := by
  refine (((h.set (q * 3) _).set (q * 3 + 1) _).set (q * 3 + 2) _).congr fun i hi => ?_
  simp only [fmF]
  by_cases h2 : i = q * 3 + 2
  · rw [if_pos h2, if_pos (by omega), show i % 3 = 2 by omega]; rfl
  rw [if_neg h2]
  by_cases h1 : i = q * 3 + 1
  · rw [if_pos h1, if_pos (by omega), show i % 3 = 1 by omega]; rfl
  rw [if_neg h1]
  by_cases h0 : i = q * 3
  · rw [if_pos h0, if_pos (by omega), show i % 3 = 0 by omega]; rfl
  rw [if_neg h0]
  by_cases hl : i < 3 * q
  · rw [if_pos hl, if_pos (by omega)]
  · rw [if_neg hl, if_neg (by omega)]
theorem fm_make (N : Nat) (hN : N ≤ 1000) (W : World) : (Instr.makeSlice 42 (.int .i64 (N : Int)) (.int .i64 (N : Int))).run Tryd.prog W = .ok (.slice (some ⟨W.heap.size, 0, none⟩) N N) (W.alloc (.cells (madeCells #[.string ⟨#[]⟩, .int .i64 0, .slice none 0 0] (N * 3)) 41)) := by
  have fi : (Tryd.prog.info? 41).map (fun i => (i.zero, i.size, i.bytes)) = some (some (.agg #[.string ⟨#[]⟩, .int .i64 0, .slice none 0 0]), 3, 48) := by kernel_rfl
  obtain ⟨i0, hi, hzz⟩ := Option.map_eq_some_iff.1 fi
  simp only [Prod.mk.injEq] at hzz
  obtain ⟨hz0, hz1, hz2⟩ := hzz
  have hr := run_make (P := Tryd.prog) W 42 41 i0 _ Tryd.underlying42 hi hz0 .i64 .i64 (N : Int) (N : Int) (by omega) (Int.le_refl _) (by rw [hz2]; omega) (by omega)
  simp only [Int.toNat_natCast, hz1] at hr
  exact hr
set_option maxHeartbeats 8000000 in
set_option maxRecDepth 100000 in
theorem cruciblelaw16_DeplogForms.calls (k : Nat) (a0 : Int) (a1 : Int) (r : Bool) (w : World) (h : cruciblelaw16_DeplogForms.f k a0 a1 = some r) : Calls Tryd.prog 13 #[.int .i64 a0, .int .i64 a1] w fun e w' => e = .returned (.bool r) ∧ Below w.heap.size w w' := by
  obtain rfl : true = r := Option.some.inj h
  have h3 : Go.bits .and .i64 a0 3 = a0 % 4 := Spec.bits_low 2 (by omega) a0
  have h63 : Go.bits .and .i64 a1 63 = a1 % 64 := Spec.bits_low 6 (by omega) a1
  obtain ⟨m, hm⟩ : ∃ m : Int, a0 % 4 = m := ⟨_, rfl⟩
  obtain ⟨d, hd⟩ : ∃ d : Int, a1 % 64 = d := ⟨_, rfl⟩
  have hm0 : 0 ≤ m := by omega
  have hm4 : m < 4 := by omega
  have hd0 : 0 ≤ d := by omega
  have hd8 : d < 64 := by omega
  rw [hm] at h3
  rw [hd] at h63
  have cA := fun W => cruciblelaw16_awake.calls true W rfl
  obtain ⟨N, HN, hN0, hN1⟩ : ∃ N : Nat, Aside0 ((256 : Int) + (1 + d) = (N : Int)) ∧ 257 ≤ N ∧ N ≤ 400 := ⟨(257 + d).toNat, ⟨by omega⟩, by omega, by omega⟩
  clear h hm hd
  go_enter Tryd.func13, Tryd.ntmps13
  go_wp2_with fail
  refine (cA _).mono ?_
  rintro e w1 ⟨rfl, B1⟩
  have N4 := Aside0.mk (FmN.new w1 (1 + d))
  have B1 := Aside0.mk B1
  go_wp2_with fail
  generalize hW : World.alloc _ _ = W
  have hW : fmW w1 (1 + d) = W := hW
  rw [hW] at N4
  clear hW
  have hpm := fm_idx hm0 hm4 (1 + d) w1.heap.size
  obtain ⟨ad, A2, c2, ead, hx0, hx1, hx2, hl2, hC2⟩ := at_T41 N4.out.bads m hm0 hm4
  cases ead
  obtain ⟨p, hp⟩ : ∃ p, rd_T41 ((fm_bads (1 + d) w1.heap.size).map (·.1)) m = p := ⟨_, rfl⟩
  rw [hp] at hx0 hx1 hx2 hl2 hC2 hpm
  obtain ⟨hbad, hlen⟩ := fm_bad (1 + d) w1.heap.size (by omega) p hpm
  clear hp hpm
  simp only [add_plain, Nat.zero_add] at hx0 hx1 hx2
  have HC2 := Aside0.mk hC2
  have HL2 := Aside0.mk hl2
  have HBad := Aside0.mk (fm_threeNo hbad)
  have HIns := Aside0.mk (fm_threeIns hlen)
  have toS : ∀ w', Below W.heap.size W w' → (w'.cell? ⟨w1.heap.size + 1, 0, none⟩ = some (.string ⟨#[97]⟩) ∧ w'.cell? ⟨w1.heap.size + 1, 1, none⟩ = some (.int .i64 1) ∧ w'.cell? ⟨w1.heap.size + 1, 2, none⟩ = some (.slice (some ⟨w1.heap.size, 0, none⟩) 1 1) ∧ w'.cell? ⟨w1.heap.size + 1 + 1 + 1, m.toNat * 3, none⟩ = some (.string p.f0) ∧ w'.cell? ⟨w1.heap.size + 1 + 1 + 1, m.toNat * 3 + 1, none⟩ = some (.int .i64 p.f1) ∧ w'.cell? ⟨w1.heap.size + 1 + 1 + 1, m.toNat * 3 + 2, none⟩ = some (.slice A2 p.f2.length c2) ∧ Below W.heap.size W w') := fun w' hB => by
    obtain ⟨q0, q1, q2⟩ := (N4.out.step hB).cells
    exact ⟨q0, q1, q2, (hB.cell (World.block_lt_of_cell? W _ hx0)).trans hx0, (hB.cell (World.block_lt_of_cell? W _ hx1)).trans hx1, (hB.cell (World.block_lt_of_cell? W _ hx2)).trans hx2, hB⟩
  obtain ⟨s0, s1, s2, s3, s4, s5, s6⟩ := toS W (Below.refl _ _)
  clear hx0 hx1 hx2 hl2 hC2 hbad hlen
  go_region_held3 (fun w' => w'.cell? ⟨w1.heap.size + 1, 0, none⟩ = some (.string ⟨#[97]⟩) ∧ w'.cell? ⟨w1.heap.size + 1, 1, none⟩ = some (.int .i64 1) ∧ w'.cell? ⟨w1.heap.size + 1, 2, none⟩ = some (.slice (some ⟨w1.heap.size, 0, none⟩) 1 1) ∧ w'.cell? ⟨w1.heap.size + 1 + 1 + 1, m.toNat * 3, none⟩ = some (.string p.f0) ∧ w'.cell? ⟨w1.heap.size + 1 + 1 + 1, m.toNat * 3 + 1, none⟩ = some (.int .i64 p.f1) ∧ w'.cell? ⟨w1.heap.size + 1 + 1 + 1, m.toNat * 3 + 2, none⟩ = some (.slice A2 p.f2.length c2) ∧ Below W.heap.size W w')
    (first | assumption | (refine toS _ ?_; (repeat (first | (with_reducible exact Below.refl _ _) | (with_reducible refine below_drew ?_) | (with_reducible refine below_alloc ?_ _))); done) | go_keep)
    (first | fail)
  have C2 := HC2.out
  have B1' := fm_then B1.out N4.out.below
  generalize hW2 : World.drew _ = W2
  have hB2 : Below W.heap.size W W2 := by rw [← hW2]; exact below_drew (below_alloc (Below.refl _ _) _)
  have hT2 : W2.heap[W.heap.size]? = some (fmTo w1.heap.size p A2 c2) := by rw [← hW2]; exact heap_alloc_new W _
  clear hW2 toS s0 s1 s2 s3 s4 s5 s6
  have N2 := N4.out.step hB2
  have C3 := fm_three_C N2 hT2 HL2.out (Kd.C_below C2 hB2)
  have BW := fm_then B1' hB2
  clear N4 HC2 HL2 C2 hT2 hB2 B1 B1'
  generalize W.heap.size = tb at C3 ⊢
  have c7 := fm_text W2 _ 3 3 (fm_three p) rfl C3 (by decide) HIns.out HBad.out
  have N2 := Aside0.mk N2
  have BW := Aside0.mk BW
  have C3 := Aside0.mk C3
  go_wp2_with fail
  refine c7.mono ?_
  rintro e w3 ⟨rfl, B3⟩
  clear c7
  have c8 := fm_last w3 _ 3 3 (fm_three p) ⟨#[97]⟩ 2 rfl (Kd.C_below C3.out B3) (by decide) HIns.out HBad.out (show 3 ≤ 1000 by decide) (fm_threeLast p)
  have B3 := Aside0.mk B3
  go_wp2_with fail
  refine c8.mono ?_
  rintro e w4 ⟨A4, k4, rfl, B4⟩
  clear c8
  have b4 : Below W2.heap.size W2 (w4.alloc (.cells #[.string ⟨#[]⟩, .int .i64 0, .slice A4 0 k4] 41)) := below_alloc (below_then B3.out B3.out.size B4) _
  have c9 := fm_comp _ _ 3 3 (fm_three p) rfl (Kd.C_below C3.out b4) (by decide) HIns.out HBad.out
  have b4 := Aside0.mk b4
  clear B3 B4
  go_wp2_with fail
  refine c9.mono ?_
  rintro e w5 ⟨A5, k5, rfl, B5⟩
  clear c9
  have b5 := below_then b4.out b4.out.size B5
  have N5 := Aside0.mk (N2.out.step b5)
  have C5 := Aside0.mk (Kd.C_below C3.out b5)
  have W5 := Aside0.mk (fm_then BW.out b5)
  clear B5 b5 b4 N2 C3 BW
  have hmk : ∀ W : World, (Instr.makeSlice 42 (.int .i64 (256 + (1 + d))) (.int .i64 (256 + (1 + d)))).run Tryd.prog W = .ok (.slice (some ⟨W.heap.size, 0, none⟩) N N) (W.alloc (.cells (madeCells #[.string ⟨#[]⟩, .int .i64 0, .slice none 0 0] (N * 3)) 41)) := fun W => by
    rw [HN.out]
    exact fm_make N (by omega) W
  have M0 := Aside0.mk (fm_made w5 N w1.heap.size)
  have MB := Aside0.mk (below_alloc (Below.refl w5.heap.size w5) (.cells (madeCells #[.string ⟨#[]⟩, .int .i64 0, .slice none 0 0] (N * 3)) 41))
  go_wp2
  clear hmk
  go_loopg [16] N (fun gg s16 wr => ∃ q : Nat, q ≤ N ∧ N - q ≤ gg ∧ s16 = .int .i64 q ∧ Aside0 (wr.rowIs w5.heap.size 41 (N * 3) (fmF w1.heap.size q)) ∧ Aside0 (Below w5.heap.size w5 wr))
  case atStart => exact ⟨0, Nat.zero_le _, by omega, rfl, ⟨M0.out⟩, ⟨MB.out⟩⟩
  case round =>
    clear M0 MB
    obtain ⟨q, hq, hgk, rfl, R, B⟩ := hrel
    by_cases hlt : q < N
    · have hltz : (q : Int) < (N : Int) := by omega
      obtain ⟨g0, g1, g2⟩ := (N5.out.step B.out).cells
      have z0 := R.out.cell (i := q * 3) (by omega)
      have z1 := R.out.cell (i := q * 3 + 1) (by omega)
      have z2 := R.out.cell (i := q * 3 + 2) (by omega)
      have f0 := R.out.frozen (q * 3)
      have f1 := R.out.frozen (q * 3 + 1)
      have f2 := R.out.frozen (q * 3 + 2)
      go_wp2
      go_roundg (N - (q + 1))
      case measure => omega
      case rel => exact ⟨q + 1, by omega, by omega, by simp, ⟨fm_put R.out hlt⟩, ⟨Below.setCell (Below.setCell (Below.setCell B.out (Nat.le_refl _) _) (Nat.le_refl _) _) (Nat.le_refl _) _⟩⟩
    · have heq : q = N := by omega
      subst heq
      have hltz : ¬ (q : Int) < (q : Int) := by omega
      have NR := N5.out.step B.out
      have C6 := fm_many_C R.out NR.x q (Nat.le_refl _) (by omega)
      have C7 := Aside0.mk (fm_many_C R.out NR.x 256 (by omega) (by omega))
      have C8 := Aside0.mk (Kd.C_below C5.out B.out)
      have WR := Aside0.mk (fm_then W5.out B.out)
      have HMN := Aside0.mk (fm_manyNo q (by omega))
      have HMI := Aside0.mk (fm_manyIns q)
      have h256 : (256 : Int) ≤ (q : Int) := by omega
      have h256n : 256 ≤ q := by omega
      clear R B N5 C5 W5 NR HN hN0 hN1
      have c10 := fm_text wr _ q q (List.replicate q fm_g) List.length_replicate C6 (Nat.le_refl _) HMI.out HMN.out
      have C6 := Aside0.mk C6
      go_wp2_with fail
      refine c10.mono ?_
      rintro e w6 ⟨rfl, B6⟩
      clear c10
      have c11 : Calls Tryd.prog 34 #[.slice (some ⟨w5.heap.size, 0, none⟩) 256 q] w6 fun e w' => e = .returned (.tuple #[.string fm_T, .int .i64 0]) ∧ Below w6.heap.size w6 w' := fm_textOk w6 _ q 256 (List.replicate 256 fm_g) List.length_replicate (Kd.C_below C7.out B6) h256n (fm_manyIns 256) fm_manyOk
      have B6 := Aside0.mk B6
      clear C7
      go_wp2_with fail
      refine c11.mono ?_
      rintro e w7 ⟨rfl, B7⟩
      clear c11
      have b7 := below_then B6.out B6.out.size B7
      have c12 := fm_may w7 _ 3 3 (fm_three p) rfl (Kd.C_below C8.out b7) (by decide) HIns.out HBad.out
      have b7 := Aside0.mk b7
      clear B6 B7 C8
      go_wp2_with fail
      refine c12.mono ?_
      rintro e w8 ⟨rfl, B8⟩
      clear c12
      have b8 := below_then b7.out b7.out.size B8
      have c13 := fm_may w8 _ q q (List.replicate q fm_g) List.length_replicate (Kd.C_below C6.out b8) (Nat.le_refl _) HMI.out HMN.out
      have W8 := Aside0.mk (fm_then WR.out b8)
      clear B8 b7 b8 C6 WR HBad HIns HMN HMI
      go_wp2_with fail
      refine c13.mono ?_
      rintro e w9 ⟨rfl, B9⟩
      clear c13
      have W9 := Aside0.mk (fm_then W8.out B9)
      clear W8 B9
      have hT1 := fm_Tlen
      have hT2 : fm_T.size + fm_T.size ≤ 9223372036854775807 := by omega
      have hT3 : (fm_T.size : Int) + (fm_T.size : Int) ≤ 9223372036854775807 := by omega
      clear hT1
      have cN : ∀ (n : Int) W, Below w.heap.size w W → Calls Tryd.prog 22 #[.int .i64 n] W fun e w' => e = .returned (.int .i64 n) ∧ Below w.heap.size w w' := fun n W hW => (cruciblelaw0_Num.calls n n W rfl).mono fun e w' ⟨he, hd⟩ => ⟨he, fm_then hW hd.below⟩
      have cL : ∀ W, Below w.heap.size w W → Calls Tryd.prog 36 #[.string (fm_T ++ fm_T)] W fun e w' => ∃ A c, e = .returned (.slice A 256 c) ∧ Below w.heap.size w w' := fun W hW => (fm_load W).mono fun e w' ⟨A, c, he, hB⟩ => ⟨A, c, he, fm_then hW hB⟩
      have W9 := W9.out
      go_wp2_with (first
        | (go_at_call 22; refine (cN _ _ ?_).mono ?_; assumption; rintro e w' ⟨rfl, hb⟩)
        | (go_at_call 36; refine (cL _ ?_).mono ?_; assumption; rintro e w' ⟨AL, kL, rfl, hb⟩))
      go_ret
      exact ⟨rfl, by assumption⟩

end Go.Proofs.YtkplcmcmpdhigaaDoor.P
