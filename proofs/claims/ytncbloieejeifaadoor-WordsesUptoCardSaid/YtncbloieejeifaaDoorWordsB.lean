/- Words by hand (2): a sign taken, and the names behind it. -/
import Derived.Test.YtncbloieejeifaaDoorWordsA
namespace Go.Proofs.YtncbloieejeifaaDoor.P
open Go.RowKit Go.Proofs.YtncbloieejeifaaDoorW.PrintWords Go.Proofs.YtncbloieejeifaaDoorW.PrintLast Go.Proofs.YtncbloieejeifaaDoorW.PrintMore
attribute [local go_sem] max2_int min2_int max_two min_two max_three min_three max_four min_four
set_option linter.unusedVariables false
set_option linter.unusedSimpArgs false
theorem words_add0 (ad : Addr) : ad.add 0 = ad := by simp [Addr.add]
/-- the first word's cell -/
theorem words_first {W : World} {A : Option Addr} {c base : Nat} {x : ByteArray} {r : List ByteArray} (hQ : Kd.Q Kd.string 9 W base (fun _ => True) (.slice A (x :: r).length c) (x :: r)) : ∃ ad, A = some ad ∧ W.cell? ad = some (.string x) := by
  obtain ⟨ad, hA, hc⟩ := Kd.at_string (Kd.Q_reads' hQ).2.2 0 (by omega) (by simp)
  refine ⟨ad, hA, ?_⟩
  rw [show (0 : Int).toNat = 0 from rfl, words_add0] at hc
  exact hc
/-- the cells of a reader -/
theorem words_cells {W : World} {g : Nat} {v : Value} {bad : Bool} (hblk : W.heap[g]? = some (.cells #[v, .bool bad] 59 (0, 0))) :
    W.cell? ⟨g, 0, none⟩ = some v ∧ W.cell? ⟨g, 1, none⟩ = some (.bool bad) ∧ W.frozen? ⟨g, 0, none⟩ = false ∧ W.frozen? ⟨g, 1, none⟩ = false :=
  ⟨by rw [blk_cell hblk 0]; rfl, by rw [blk_cell hblk 1]; rfl, blk_frozen hblk 0, blk_frozen hblk 1⟩
/-- the first word is taken -/
theorem words_St.tail {w0 W : World} {g : Nat} {A : Option Addr} {c : Nat} {x : ByteArray} {r : List ByteArray} {bad : Bool} (hbase : w0.heap.size ≤ g) (hblk : W.heap[g]? = some (.cells #[.slice A (x :: r).length c, .bool bad] 59 (0, 0)))
    (hQ : Kd.Q Kd.string 9 W w0.heap.size (fun _ => True) (.slice A (x :: r).length c) (x :: r)) (hbel : Below w0.heap.size w0 W) (hl : (x :: r).length ≤ 4294967296) :
    ∃ A1, (∀ W : World, (Instr.slice 22 (.slice A (x :: r).length c) (some (.int .i64 1)) none none).run Tryd.prog W = .ok (.slice A1 r.length (c - 1)) W) ∧ words_St w0 (W.setCell ⟨g, 0, none⟩ (.slice A1 r.length (c - 1))) g r bad := by
  obtain ⟨i0, hi, hz1⟩ := words_info
  have hcut := cut_from (P := Tryd.prog) 22 9 .i64 Tryd.underlying22 hi 1 hz1 A (x :: r).length c 1 (by decide) (by rw [List.length_cons]; omega)
  have hd := Kd.Q_drop (k := 1) hQ (by simp)
  have e1 : (x :: r).length - 1 = r.length := by simp
  rw [e1] at hd
  refine ⟨if c = 1 then A else A.map (·.add (1 * 1)), fun W => ?_, hbase, ⟨if c = 1 then A else A.map (·.add (1 * 1)), c - 1, ?_, ?_⟩, hbel.setCell (p := ⟨g, 0, none⟩) hbase _, by simp at hl; omega⟩
  · have := hcut W
    rw [show ((1 : Int).toNat) = 1 from rfl, e1] at this
    exact this
  · rw [blk_set hblk 0]; rfl
  · exact Kd.Q_set hd hblk words_types 0 _
def words_hd (ws : List ByteArray) (s : ByteArray) : Bool := match ws with
  | [] => false
  | x :: _ => x.toList == s.toList
theorem words_sign.no (w0 W : World) (g : Nat) (ws : List ByteArray) (bad : Bool) (s : ByteArray) (h : words_St w0 W g ws bad) (hh : words_hd ws s = false) :
    Calls Tryd.prog 35 #[.pointer (some ⟨g, 0, none⟩), .string s] W fun e w' => e = .returned (.bool false) ∧ w' = W := by
  obtain ⟨A, c, hblk, hQ⟩ := h.blk
  obtain ⟨hc0, hc1, hf0, hf1⟩ := words_cells hblk
  cases ws with
  | nil =>
    clear hblk hQ h hh
    simp only [List.length_nil] at hc0
    go_enter Tryd.func35, Tryd.ntmps35
    go_wp2
    go_ret
    exact ⟨rfl, rfl⟩
  | cons x r =>
    obtain ⟨ad, rfl, hx⟩ := words_first hQ
    have hne : (x.toList == s.toList) = false := hh
    have hn0 : (0 : Int) < ((x :: r).length : Int) := by rw [List.length_cons]; omega
    generalize (x :: r).length = n at *
    clear hblk hQ h hh
    go_enter Tryd.func35, Tryd.ntmps35
    go_wp2
    go_ret
    exact ⟨rfl, rfl⟩
theorem words_sign.yes (w0 W : World) (g : Nat) (ws : List ByteArray) (bad : Bool) (s : ByteArray) (h : words_St w0 W g ws bad) (hh : words_hd ws s = true) :
    Calls Tryd.prog 35 #[.pointer (some ⟨g, 0, none⟩), .string s] W fun e w' => e = .returned (.bool true) ∧ words_St w0 w' g ws.tail bad ∧ KeepBut W w' g none := by
  obtain ⟨A, c, hblk, hQ⟩ := h.blk
  obtain ⟨hc0, hc1, hf0, hf1⟩ := words_cells hblk
  cases ws with
  | nil => cases hh
  | cons x r =>
    obtain ⟨A1, hcut, hst⟩ := words_St.tail h.base hblk hQ h.below h.len
    obtain ⟨ad, rfl, hx⟩ := words_first hQ
    have hne : (x.toList == s.toList) = true := hh
    have hn0 : (0 : Int) < ((x :: r).length : Int) := by rw [List.length_cons]; omega
    have HS := Aside0.mk hst
    have hk : ∀ v, KeepBut W (W.setCell ⟨g, 0, none⟩ v) g none := fun v => (KeepBut.refl W g none).set_ 0 v
    clear hblk hQ h hh hst
    generalize (x :: r).length = n at *
    go_enter Tryd.func35, Tryd.ntmps35
    go_wp2
    go_ret
    exact ⟨rfl, HS.out, hk _⟩
def words_part (s : ByteArray) (ws : List ByteArray) (bad : Bool) : List ByteArray × List ByteArray × Bool :=
  if words_hd ws s = true then (words_lead ws.tail, words_rest ws.tail, words_bad bad 1 (words_lead ws.tail).length) else ([], ws, bad)
theorem words_part.calls (w0 W : World) (g : Nat) (ws : List ByteArray) (bad : Bool) (s : ByteArray) (h : words_St w0 W g ws bad) :
    Calls Tryd.prog 37 #[.pointer (some ⟨g, 0, none⟩), .string s] W fun e w' => ∃ vo, e = .returned vo ∧ Kd.R Kd.string 9 w' W.heap.size (fun _ => True) vo (words_part s ws bad).1 ∧ words_St w0 w' g (words_part s ws bad).2.1 (words_part s ws bad).2.2 ∧ KeepBut W w' g none := by
  cases hh : words_hd ws s with
  | false =>
    have c1 := words_sign.no w0 W g ws bad s h hh
    rw [words_part, if_neg (by rw [hh]; decide)]
    go_enter Tryd.func37, Tryd.ntmps37
    go_wp2_with (go_at_call 35; refine c1.mono ?_; rintro e w' ⟨rfl, rfl⟩)
    go_ret
    exact ⟨_, rfl, Kd.R_nil _ _ _ _ _, h, KeepBut.refl _ _ _⟩
  | true =>
    have c1 := words_sign.yes w0 W g ws bad s h hh
    rw [words_part, if_pos hh]
    clear hh
    generalize ws.tail = t at *
    have c2 := fun (W1 : World) (h1 : words_St w0 W1 g t bad) => words_names.calls w0 W1 g t bad 1 (Nat.le_refl _) h1
    go_enter Tryd.func37, Tryd.ntmps37
    go_wp2_with (first
      | (go_at_call 35; refine c1.mono ?_; rintro e w1 ⟨rfl, h1, k1⟩)
      | (go_at_call 34; refine (c2 _ h1).mono ?_; rintro e w2 ⟨vo, rfl, hR, h2, k2⟩))
    go_ret
    exact ⟨_, rfl, Kd.R_lower hR k1.1, h2, k1.trans k2 (.inl rfl)⟩
end Go.Proofs.YtncbloieejeifaaDoor.P
