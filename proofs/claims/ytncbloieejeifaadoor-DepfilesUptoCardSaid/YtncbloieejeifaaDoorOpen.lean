/- What a reading of an argument gives: a value of the printed functions' own kind; its size (values and letters) is at most the reading's. -/
import Derived.Test.YtncbloieejeifaaDoorRows
import Derived.Test.YtncbloieejeifaaDoorWWords
import Derived.Deep.Slices
import Derived.ChangeArms
namespace Go.Proofs.YtncbloieejeifaaDoor.Open
open Go.RowKit Go.Proofs.YtncbloieejeifaaDoorW.PrintWords

theorem one_le {H : Type} (d : DataW H) : 1 ≤ Rows.uptoBulk d := by
  cases d with
  | lit l => cases l <;> simp [Rows.uptoBulk]
  | _ => simp [Rows.uptoBulk]
theorem all_append {H : Type} (l r : List (DataW H)) : Rows.uptoBulkAll (l ++ r) = Rows.uptoBulkAll l + Rows.uptoBulkAll r := by
  induction l with
  | nil => simp [Rows.uptoBulkAll]
  | cons x l ih => simp only [List.cons_append, Rows.uptoBulkAll, ih]; omega

def Opens {α : Type} (P : Program) (d : Kd α) (t : TypeId) (B : α → Nat) (ok : α → Prop) : Prop :=
  ∀ (H : Type) (enc : TypeId × Value → H) (w : World) (base : Nat) (sp : Nat → Bool) (held : Bool) (fuel : Nat) (cs : List Value) (x : DataW H × List MemPlace),
    DataW.trod enc P w base sp held fuel t cs = some x → ∃ a : α, d.K w a cs ∧ B a ≤ Rows.uptoBulk x.1 ∧ ok a

section
variable {P : Program} {t e : TypeId}
theorem Opens.int {k : IntKind} (ht : P.underlying t = some (.int k)) : Opens P (Kd.int k) t (fun _ => 1) (fun n => (Lit.int k n).wf = true) := by
  intro H enc w base sp held fuel cs x h
  obtain ⟨n, rfl, rfl, hw⟩ := DataW.trod_int ht h
  exact ⟨n, rfl, one_le _, hw⟩
theorem Opens.bool (ht : P.underlying t = some .bool) : Opens P Kd.bool t (fun _ => 1) (fun _ => True) := by
  intro H enc w base sp held fuel cs x h
  obtain ⟨b, rfl, rfl⟩ := DataW.trod_bool ht h
  exact ⟨b, rfl, one_le _, trivial⟩
theorem Opens.string (ht : P.underlying t = some .string) : Opens P Kd.string t (fun s => s.size + 1) (fun s => s.size ≤ maxLen) := by
  intro H enc w base sp held fuel cs x h
  obtain ⟨s, rfl, rfl, hw⟩ := DataW.trod_string ht h
  exact ⟨s, rfl, by simp [Rows.uptoBulk], hw⟩

theorem reads_list {α : Type} {d : Kd α} {w : World} {B : α → Nat} {ok : α → Prop} {H : Type} (ad : Addr) : ∀ (n m0 : Nat) (D : Nat → DataW H),
    (∀ i, i < n → ∃ (a : α) (c : List Value), c.length = d.sz ∧ d.K w a c ∧ B a ≤ Rows.uptoBulk (D i) ∧ ok a ∧ ∀ j u, c[j]? = some u → w.cell? (ad.add ((m0 + i) * d.sz + j)) = some u) →
    ∃ xs : List α, xs.length = n ∧ (xs.map B).sum ≤ Rows.uptoBulkAll ((List.range n).map D) ∧ (∀ x ∈ xs, ok x) ∧
      ∀ j p, xs[j]? = some p → ∃ c : List Value, c.length = d.sz ∧ d.K w p c ∧ ∀ i u, c[i]? = some u → w.cell? (ad.add ((m0 + j) * d.sz + i)) = some u
  | 0, m0, D, _ => ⟨[], rfl, by simp [Rows.uptoBulkAll], fun x hx => by simp at hx, fun j p h => by simp at h⟩
  | n + 1, m0, D, h => by
    obtain ⟨a, c, hc, hK, hB, ho, hcell⟩ := h 0 (by omega)
    obtain ⟨xs, hl, hs, hok, hx⟩ := reads_list (d := d) (w := w) (B := B) (ok := ok) ad n (m0 + 1) (fun i => D (i + 1)) (fun i hi => by
      obtain ⟨a, c, h1, h2, h3, h4, h5⟩ := h (i + 1) (by omega)
      exact ⟨a, c, h1, h2, h3, h4, fun j u hu => by rw [show m0 + 1 + i = m0 + (i + 1) by omega]; exact h5 j u hu⟩)
    refine ⟨a :: xs, by simp [hl], ?_, ?_, ?_⟩
    · rw [List.map_cons, List.sum_cons, List.range_succ_eq_map, List.map_cons, List.map_map, Rows.uptoBulkAll]
      exact Nat.add_le_add hB hs
    · intro x hx'
      rcases List.mem_cons.1 hx' with rfl | hx'
      · exact ho
      · exact hok x hx'
    · intro j p hp
      cases j with
      | zero =>
        obtain rfl : a = p := by simpa using hp
        exact ⟨c, hc, hK, hcell⟩
      | succ j =>
        obtain ⟨c, h1, h2, h3⟩ := hx j p (by simpa using hp)
        exact ⟨c, h1, h2, fun i u hu => by rw [show m0 + (j + 1) = m0 + 1 + j by omega]; exact h3 i u hu⟩

/-- a slice -/
theorem Opens.slice {α : Type} {d : Kd α} {B : α → Nat} {ok : α → Prop} (ht : P.underlying t = some (.slice e)) (hd : Opens P d e B ok) (hsz : P.cellsOf e = d.sz) :
    Opens P (Kd.slice e d) t (fun xs => (xs.map B).sum + 1) (fun xs => ∀ x ∈ xs, ok x) := by
  intro H enc w base sp held fuel cs x h
  rcases Go.Deep.open_slice ht h with ⟨rfl, rfl⟩ | ⟨a, len, cap, m, n, D, Pl, rfl, hb, hl, hm, hmm, rfl, hi⟩
  · exact ⟨[], ⟨none, 0, rfl, Nat.le_refl _, rfl, by simp, fun hn => by simp at hn⟩, one_le _, fun x hx => by simp at hx⟩
  · have hlm : len ≤ m := by rw [hmm]; split <;> omega
    obtain ⟨xs, hxl, hxs, hok, hx⟩ := reads_list (d := d) (w := w) (B := B) (ok := ok) a len 0 D (fun i hi' => by
      obtain ⟨cs', hc, ht'⟩ := hi i (by omega)
      obtain ⟨y, hK, hB, ho⟩ := hd H enc w base sp held n cs' _ ht'
      obtain ⟨_, hcl, hat⟩ := World.cells?_some hc
      refine ⟨y, cs', by rw [hcl, hsz], hK, hB, ho, fun j u hu => ?_⟩
      have hj : j < P.cellsOf e := by
        rw [← hcl]; exact (List.getElem?_eq_some_iff.1 hu).1
      rw [Nat.zero_add, ← hsz, ← Go.Deep.add_add, hat j hj]
      exact hu)
    refine ⟨xs, ⟨some a, cap, by rw [hxl], by omega, ?_⟩, ?_, hok⟩
    · refine ⟨rfl, ?_, fun _ => ⟨a, rfl, fun j p hp => ?_⟩⟩
      · unfold maxLen at hm; omega
      · obtain ⟨c, h1, h2, h3⟩ := hx j p hp
        exact ⟨c, h1, h2, fun i u hu => by have := h3 i u hu; rwa [Nat.zero_add] at this⟩
    · simp only [Rows.uptoBulk]
      omega
/-- a struct whose fields are of one cell each -/
theorem struct_cells {H : Type} {enc : TypeId × Value → H} {w : World} {base : Nat} {sp : Nat → Bool} {held : Bool} {fuel : Nat} {fs : Array Field} {cs : Array Value} {d : DataW H} {ps : List MemPlace} (ht : P.underlying t = some (.struct fs))
    (hf : DataW.trod enc P w base sp held fuel t cs.toList = some (d, ps)) (hoff : (fs.toList.zipIdx.all fun p => p.1.offset == p.2 && P.cellsOf p.1.type == 1) = true) (hsz : P.cellsOf t = fs.size) :
    ∃ (us : List Value) (ys : List (DataW H × List MemPlace)) (n : Nat), cs = us.toArray ∧ us.length = fs.size ∧ ys.length = fs.size ∧ d = .agg (ys.map (·.1)) ∧
      ∀ (i : Nat) (f : Field) (u : Value) (y : DataW H × List MemPlace), fs[i]? = some f → us[i]? = some u → ys[i]? = some y → DataW.trod enc P w base sp held n f.type [u] = some y := by
  obtain ⟨xs, n, _, hx, hl, hlen, hff⟩ := DataW.trod_struct ht hf
  refine ⟨cs.toList, xs, n, by simp, by rw [hl, hsz], hlen, (Prod.mk.inj hx).1, fun i f u y h1 h2 h3 => ?_⟩
  have h4 := hff i f h1
  have hi : i < fs.size := (Array.getElem?_eq_some_iff.1 h1).1
  have hm : (f, i) ∈ fs.toList.zipIdx := by
    rw [List.mk_mem_zipIdx_iff_getElem?]
    rw [Array.getElem?_toList]
    exact h1
  have h5 := List.all_eq_true.1 hoff (f, i) hm
  simp only [Bool.and_eq_true, beq_iff_eq] at h5
  obtain ⟨hj, e⟩ := List.getElem?_eq_some_iff.1 h2
  rw [h5.1, h5.2, List.drop_eq_getElem_cons hj, e, h3] at h4
  exact h4
theorem len_cons {α : Type} {l : List α} {n : Nat} (h : l.length = n + 1) : ∃ a r, l = a :: r ∧ r.length = n := by
  cases l with
  | nil => simp at h
  | cons a r => exact ⟨a, r, rfl, by simpa using h⟩
end
/-- what the second form's bound gives of one argument -/
theorem small_part {H : Type} {l : List (DataW H)} (hk : Rows.uptoSmall H l = true) : Rows.uptoBulkAll l ≤ 1048576 := of_decide_eq_true hk
end Go.Proofs.YtncbloieejeifaaDoor.Open
