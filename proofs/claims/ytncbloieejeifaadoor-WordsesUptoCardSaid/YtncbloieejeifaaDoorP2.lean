-- Made by a program of this work's own (wip/myprint.py) over the kit's print; leaves by hand.
import Derived.Test.YtncbloieejeifaaDoorP0
import Derived.Test.YtncbloieejeifaaDoorWRepsOne
import Derived.Test.YtncbloieejeifaaDoorP1
import Derived.Test.YtncbloieejeifaaDoorWordsB
namespace Go.Proofs.YtncbloieejeifaaDoor.P
open Go.RowKit Go.Proofs.YtncbloieejeifaaDoorW.PrintWords Go.Proofs.YtncbloieejeifaaDoorW.PrintLast Go.Proofs.YtncbloieejeifaaDoorW.PrintMore
attribute [local go_sem] max2_int min2_int max_two min_two max_three min_three max_four min_four   -- for this text's walks alone
set_option linter.unusedVariables false
set_option linter.unusedSimpArgs false

-- HANDBIG Words.lean
-- IMPORT Derived.Test.YtncbloieejeifaaDoorWordsB
/-! ### words_Build, by hand -/
abbrev words_Parts := List ByteArray × ByteArray × List ByteArray × List ByteArray × List ByteArray × Int
def words_no : words_Parts := ([], ⟨#[]⟩, [], [], [], 700)
def words_end (o : List ByteArray) (x : ByteArray) (i : List ByteArray) (p q : List ByteArray × List ByteArray × Bool) : words_Parts :=
  if q.2.2 = true ∨ q.2.1 ≠ [] then words_no else (o, x, i, p.1, q.1, 0)
def words_tail (o : List ByteArray) (x : ByteArray) (r : List ByteArray) : words_Parts :=
  words_end o x (words_lead r) (words_part ⟨#[124]⟩ (words_rest r) (words_bad false 0 (words_lead r).length)) (words_part ⟨#[124, 124]⟩ (words_part ⟨#[124]⟩ (words_rest r) (words_bad false 0 (words_lead r).length)).2.1 (words_part ⟨#[124]⟩ (words_rest r) (words_bad false 0 (words_lead r).length)).2.2)
def words_build (ws : List ByteArray) : words_Parts :=
  if words_hd (words_rest ws) ⟨#[58]⟩ = true ∧ words_bad false 1 (words_lead ws).length = false then
    match (words_rest ws).tail with
    | [] => words_no
    | x :: r => if words_is x = true then words_tail (words_lead ws) x r else words_no
  else words_no
def words_Build.f (a0 : ByteArray) : Option words_Parts := if a0.size < 4294967281 then some (words_build (words_of a0)) else none
theorem words_St.setBad {w0 W : World} {g : Nat} {ws : List ByteArray} {bad : Bool} (h : words_St w0 W g ws bad) (b : Bool) : words_St w0 (W.setCell ⟨g, 1, none⟩ (.bool b)) g ws b := by
  obtain ⟨A, c, hblk, hQ⟩ := h.blk
  exact ⟨h.base, ⟨A, c, by rw [blk_set hblk 1]; rfl, Kd.Q_set hQ hblk words_types 1 _⟩, h.below.setCell (p := ⟨g, 1, none⟩) h.base _, h.len⟩
theorem words_of_len (a0 : ByteArray) (hs : a0.size < 4294967281) : (words_of a0).length ≤ 4294967296 := by
  have h1 := words_split_len 32 a0.data.toList
  rw [Spec.size_data] at h1
  have h2 : (words_of a0).length ≤ ((Spec.split 32 a0.data.toList).map Spec.str).length := List.length_filter_le _ _
  rw [List.length_map] at h2
  omega
theorem words_St.then_ {w0 W W1 : World} {g : Nat} {ws : List ByteArray} {bad : Bool} (h : words_St w0 W g ws bad) (hB : Below W.heap.size W W1) : words_St w0 W1 g ws bad := by
  obtain ⟨A, c, hblk, hQ⟩ := h.blk
  exact ⟨h.base, ⟨A, c, (hB.block g (blk_lt hblk)).trans hblk, Kd.Q_below hQ hB⟩, below_then h.below h.below.size hB, h.len⟩
/-- behind a test of the first word: it is not bad; the first word is told, and taken -/
theorem words_St.more {w0 W W1 : World} {g : Nat} {ad : Addr} {c : Nat} {x : ByteArray} {r : List ByteArray} {bad : Bool} (hbase : w0.heap.size ≤ g) (hblk : W.heap[g]? = some (.cells #[.slice (some ad) (x :: r).length c, .bool bad] 59 (0, 0)))
    (hQ : Kd.Q Kd.string 9 W w0.heap.size (fun _ => True) (.slice (some ad) (x :: r).length c) (x :: r)) (hbel : Below w0.heap.size w0 W) (hl : (x :: r).length ≤ 4294967296) (hB : Below W.heap.size W W1) :
    ∃ A1, (∀ W : World, (Instr.slice 22 (.slice (some ad) (x :: r).length c) (some (.int .i64 1)) none none).run Tryd.prog W = .ok (.slice A1 r.length (c - 1)) W) ∧ (W1.setCell ⟨g, 1, none⟩ (.bool false)).cell? ad = some (.string x) ∧ words_St w0 ((W1.setCell ⟨g, 1, none⟩ (.bool false)).setCell ⟨g, 0, none⟩ (.slice A1 r.length (c - 1))) g r false := by
  have hb5 := (hB.block _ (blk_lt hblk)).trans hblk
  have b6 : (W1.setCell ⟨g, 1, none⟩ (.bool false)).heap[g]? = some (.cells #[.slice (some ad) (x :: r).length c, .bool false] 59 (0, 0)) := by rw [blk_set hb5 1]; rfl
  have hQ6 := Kd.Q_set (Kd.Q_below hQ hB) hb5 words_types 1 (.bool false)
  obtain ⟨ad6, e6, hcx6⟩ := words_first hQ6
  cases e6
  obtain ⟨A7, hcut7, h7⟩ := words_St.tail hbase b6 hQ6 ((below_then hbel hbel.size hB).setCell (p := ⟨g, 1, none⟩) hbase _) hl
  exact ⟨A7, hcut7, hcx6, h7⟩
/-- the world where the reader is laid -/
theorem words_St.start {w w1 : World} {A : Option Addr} {c : Nat} {ws : List ByteArray} (hR : Kd.R Kd.string 9 w1 w.heap.size (fun _ => True) (.slice A ws.length c) ws) (hB : Below w.heap.size w w1) (hl : ws.length ≤ 4294967296) :
    words_St w (w1.alloc (.cells #[.slice A ws.length c, .bool false] 59)) w1.heap.size ws false :=
  ⟨hB.size, ⟨A, c, heap_alloc_new w1 _, Kd.Q_alloc (Kd.Q_of_R hR) _⟩, below_alloc hB _, hl⟩
def words_post (w : World) (r : words_Parts) (e : Ending) (w' : World) : Prop :=
  ∃ v0_ v2_ v3_ v4_ : Value, e = .returned (.tuple #[v0_, .string r.2.1, v2_, v3_, v4_, .int .i64 r.2.2.2.2.2]) ∧ Kd.R Kd.string 9 w' w.heap.size (fun k_ => some k_ ≠ (v2_ : Value).ownBlock ∧ some k_ ≠ (v3_ : Value).ownBlock ∧ some k_ ≠ (v4_ : Value).ownBlock) v0_ r.1 ∧ Kd.R Kd.string 9 w' w.heap.size (fun k_ => some k_ ≠ (v0_ : Value).ownBlock ∧ some k_ ≠ (v3_ : Value).ownBlock ∧ some k_ ≠ (v4_ : Value).ownBlock) v2_ r.2.2.1 ∧ Kd.R Kd.string 9 w' w.heap.size (fun k_ => some k_ ≠ (v0_ : Value).ownBlock ∧ some k_ ≠ (v2_ : Value).ownBlock ∧ some k_ ≠ (v4_ : Value).ownBlock) v3_ r.2.2.2.1 ∧ Kd.R Kd.string 9 w' w.heap.size (fun k_ => some k_ ≠ (v0_ : Value).ownBlock ∧ some k_ ≠ (v2_ : Value).ownBlock ∧ some k_ ≠ (v3_ : Value).ownBlock) v4_ r.2.2.2.2.1 ∧ Below w.heap.size w w'
theorem words_post_no (w w' : World) (h : Below w.heap.size w w') : words_post w words_no (.returned (.tuple #[.slice none 0 0, .string ⟨#[]⟩, .slice none 0 0, .slice none 0 0, .slice none 0 0, .int .i64 700])) w' :=
  ⟨_, _, _, _, rfl, Kd.R_nil _ _ _ _ _, Kd.R_nil _ _ _ _ _, Kd.R_nil _ _ _ _ _, Kd.R_nil _ _ _ _ _, h⟩
theorem words_names.calls1 (w0 W : World) (g : Nat) (ws : List ByteArray) (bad : Bool) (h : words_St w0 W g ws bad) :
    Calls Tryd.prog 34 #[.pointer (some ⟨g, 0, none⟩), .int .i64 1] W fun e w' => ∃ vo, e = .returned vo ∧ Kd.R Kd.string 9 w' W.heap.size (fun _ => True) vo (words_lead ws) ∧ words_St w0 w' g (words_rest ws) (words_bad bad 1 (words_lead ws).length) ∧ KeepBut W w' g none :=
  words_names.calls w0 W g ws bad 1 (Nat.le_refl _) h
theorem words_names.calls0 (w0 W : World) (g : Nat) (ws : List ByteArray) (bad : Bool) (h : words_St w0 W g ws bad) :
    Calls Tryd.prog 34 #[.pointer (some ⟨g, 0, none⟩), .int .i64 0] W fun e w' => ∃ vo, e = .returned vo ∧ Kd.R Kd.string 9 w' W.heap.size (fun _ => True) vo (words_lead ws) ∧ words_St w0 w' g (words_rest ws) (words_bad bad 0 (words_lead ws).length) ∧ KeepBut W w' g none :=
  words_names.calls w0 W g ws bad 0 (Nat.zero_le _) h
theorem words_move {w W W' : World} {g b : Nat} {v : Value} {xs : List ByteArray} {ws : List ByteArray} {bad : Bool} (h : Kd.R Kd.string 9 W b (fun _ => True) v xs) (hs : words_St w W g ws bad) (hk : KeepBut W W' g none) : Kd.R Kd.string 9 W' b (fun _ => True) v xs := by
  obtain ⟨A, c, hblk, _⟩ := hs.blk
  have hne := Kd.R_ne h hblk (by decide)
  have h1 : Kd.R Kd.string 9 W b (fun k => k ≠ g) v xs := Kd.R_reok rfl h (fun k hk e => hne (by rw [hk, e]))
  exact Kd.R_mono (Kd.R_keep h1 hk (fun _ h => h)) (fun _ _ => trivial)
theorem words_fin {w w3 w7 w8 w9 w10 : World} {g b3 : Nat} {vo vi vp vq : Value} {o i p q s3 s7 s8 s9 s10 : List ByteArray} {d3 d7 d8 d9 d10 : Bool} (x : ByteArray)
    (hRo : Kd.R Kd.string 9 w3 b3 (fun _ => True) vo o) (hb3 : w.heap.size ≤ b3) (h3 : words_St w w3 g s3 d3) (k7 : KeepBut w3 w7 g none) (h7 : words_St w w7 g s7 d7)
    (hRi : Kd.R Kd.string 9 w8 w7.heap.size (fun _ => True) vi i) (h8 : words_St w w8 g s8 d8) (k8 : KeepBut w7 w8 g none)
    (hRp : Kd.R Kd.string 9 w9 w8.heap.size (fun _ => True) vp p) (h9 : words_St w w9 g s9 d9) (k9 : KeepBut w8 w9 g none)
    (hRq : Kd.R Kd.string 9 w10 w9.heap.size (fun _ => True) vq q) (h10 : words_St w w10 g s10 d10) (k10 : KeepBut w9 w10 g none) :
    words_post w (o, x, i, p, q, 0) (.returned (.tuple #[vo, .string x, vi, vp, vq, .int .i64 0])) w10 := by
  have z37 := k7.1
  have z78 := k8.1
  have z89 := k9.1
  have z910 := k10.1
  have hw3 := h3.below.size
  have mo := words_move (words_move (words_move (words_move hRo h3 k7) h7 k8) h8 k9) h9 k10
  have mi := words_move (words_move hRi h8 k9) h9 k10
  have mp := words_move hRp h9 k10
  have lo := Kd.R_lt hRo
  have li := Kd.R_lt hRi
  have lp := Kd.R_lt hRp
  have bi := Kd.R_base hRi
  have bp := Kd.R_base hRp
  have bq := Kd.R_base hRq
  refine ⟨vo, vi, vp, vq, rfl, Kd.R_reok rfl (Kd.R_lower mo hb3) (fun k hk => ?_), Kd.R_reok rfl (Kd.R_lower mi (by omega)) (fun k hk => ?_), Kd.R_reok rfl (Kd.R_lower mp (by omega)) (fun k hk => ?_), Kd.R_reok rfl (Kd.R_lower hRq (by omega)) (fun k hk => ?_), h10.below⟩
  · have := lo k hk
    exact ⟨fun e => by have := bi k e.symm; omega, fun e => by have := bp k e.symm; omega, fun e => by have := bq k e.symm; omega⟩
  · have := li k hk
    have := bi k hk
    exact ⟨fun e => by have := lo k e.symm; omega, fun e => by have := bp k e.symm; omega, fun e => by have := bq k e.symm; omega⟩
  · have := lp k hk
    have := bp k hk
    exact ⟨fun e => by have := lo k e.symm; omega, fun e => by have := li k e.symm; omega, fun e => by have := bq k e.symm; omega⟩
  · have := bq k hk
    exact ⟨fun e => by have := lo k e.symm; omega, fun e => by have := li k e.symm; omega, fun e => by have := lp k e.symm; omega⟩
set_option maxHeartbeats 600000 in
set_option maxRecDepth 100000 in
theorem words_Build.good (a0 : ByteArray) (w : World) (ws o r1 : List ByteArray) (x : ByteArray) (r : List ByteArray) (n : Nat)
    (cOf : Calls Tryd.prog 33 #[.string a0] w fun e w' => ∃ v, e = .returned v ∧ Kd.R Kd.string 9 w' w.heap.size (fun _ => True) v ws ∧ Below w.heap.size w w')
    (cN : ∀ (W1 : World) (g : Nat), words_St w W1 g ws false → Calls Tryd.prog 34 #[.pointer (some ⟨g, 0, none⟩), .int .i64 1] W1 fun e w' => ∃ vo, e = .returned vo ∧ Kd.R Kd.string 9 w' W1.heap.size (fun _ => True) vo o ∧ words_St w w' g r1 false ∧ KeepBut W1 w' g none)
    (HL : Aside0 (ws.length ≤ 4294967296))
    (cS : ∀ (W1 : World) (g : Nat), words_St w W1 g r1 false → Calls Tryd.prog 35 #[.pointer (some ⟨g, 0, none⟩), .string ⟨#[58]⟩] W1 fun e w' => e = .returned (.bool true) ∧ words_St w w' g (x :: r) false ∧ KeepBut W1 w' g none)
    (hx : words_is x = true) (hn0 : (0 : Int) < (n : Int)) (hn1 : ((n : Int) == 0) = false) (HNR : Aside0 (n = r.length + 1)) (HN : Aside0 ((x :: r).length = n)) :
    Calls Tryd.prog 15 #[.string a0] w (words_post w (words_tail o x r)) := by
  have c1 : ∀ W, Calls Tryd.prog 36 #[.string x] W fun e w' => e = .returned (.bool (words_is x)) ∧ Below W.heap.size W w' := fun W => name_May.calls x (words_is x) W rfl
  rw [hx] at c1
  clear hx
  obtain ⟨i, hi⟩ : ∃ i, words_lead r = i := ⟨_, rfl⟩
  obtain ⟨r4, hr4⟩ : ∃ r4, words_rest r = r4 := ⟨_, rfl⟩
  obtain ⟨b2, hb2⟩ : ∃ b2, words_bad false 0 i.length = b2 := ⟨_, rfl⟩
  obtain ⟨p, hp⟩ : ∃ p, words_part ⟨#[124]⟩ r4 b2 = p := ⟨_, rfl⟩
  obtain ⟨q, hq⟩ : ∃ q, words_part ⟨#[124, 124]⟩ p.2.1 p.2.2 = q := ⟨_, rfl⟩
  have ht : words_tail o x r = words_end o x i p q := by rw [← hq, ← hp, ← hb2, ← hr4, ← hi]; rfl
  rw [ht]
  clear ht
  have cN2 := fun (W1 : World) g (h1 : words_St w W1 g r false) => words_names.calls0 w W1 g r false h1
  have cP := fun (W1 : World) g (h1 : words_St w W1 g r4 b2) => words_part.calls w W1 g r4 b2 ⟨#[124]⟩ h1
  have cQ := fun (W1 : World) g (h1 : words_St w W1 g p.2.1 p.2.2) => words_part.calls w W1 g p.2.1 p.2.2 ⟨#[124, 124]⟩ h1
  rw [hi, hr4, hb2] at cN2
  rw [hp] at cP
  rw [hq] at cQ
  clear hi hr4 hb2 hp hq
  obtain ⟨p1, p2, p3⟩ := p
  obtain ⟨q1, q2, q3⟩ := q
  simp only [] at cP cQ
  go_enter Tryd.func15, Tryd.ntmps15
  go_wp2_with (first
    | (go_at_call 33; refine cOf.mono ?_; rintro e w1 ⟨v, rfl, hR, hB⟩; obtain ⟨A, c, rfl⟩ := Kd.R_slice hR; have h2 := words_St.start hR hB HL.out)
    | (go_at_call 34; (with_reducible refine (cN _ _ h2).mono ?_); rintro e w3 ⟨vo, rfl, hRo, h3, k3⟩)
    | (go_at_call 35; refine (cS _ _ h3).mono ?_; rintro e w4 ⟨rfl, h4, k4⟩; obtain ⟨A3, c3, hblk3, hQ3⟩ := h4.blk; obtain ⟨hc0, hc1, hf0, hf1⟩ := words_cells hblk3; obtain ⟨ad, hA3, hcx⟩ := words_first hQ3; subst hA3; rw [HN.out] at hc0; have hg4 := blk_lt hblk3; have HB3 := Aside0.mk hblk3; have HQ3 := Aside0.mk hQ3; clear hblk3 hQ3)
    | (go_at_call 36; refine (c1 _).mono ?_; rintro e w5 ⟨rfl, hB5⟩; obtain ⟨hc5, hf5⟩ := words_bcell hB5; obtain ⟨A7, hcut7, hcx6, h7⟩ := words_St.more h4.base HB3.out HQ3.out h4.below h4.len hB5; rw [HN.out] at hcut7)
    | (go_at_call 34; (with_reducible refine (cN2 _ _ h7).mono ?_); rintro e w8 ⟨vi, rfl, hRi, h8, k8⟩))
  go_wp2_with (go_at_call 37; (with_reducible refine (cP _ _ h8).mono ?_); rintro e w9 ⟨vp, rfl, hRp, h9, k9⟩)
  go_wp2_with fail
  refine (cQ _ _ h9).mono ?_
  rintro e w10 ⟨vq, rfl, hRq, h10, k10⟩
  obtain ⟨A10, c10, hblk10, hQ10⟩ := h10.blk
  obtain ⟨hc100, hc101, hf100, hf101⟩ := words_cells hblk10
  clear hblk10 hQ10
  have kb : ∀ v v', KeepBut w3 ((w5.setCell ⟨w1.heap.size, 1, none⟩ v).setCell ⟨w1.heap.size, 0, none⟩ v') w1.heap.size none := fun v v' => k4.trans (((KeepBut.of_below hB5 w1.heap.size none).set_ 1 v).set_ 0 v') (.inl rfl)
  have hfin := words_fin x hRo h2.below.size h3 (kb _ _) h7 hRi h8 k8 hRp h9 k9 hRq h10 k10
  have hno := words_post_no _ _ h10.below
  have HF := Aside0.mk hfin
  have HO := Aside0.mk hno
  clear hfin hno kb
  cases q3 with
  | true =>
    rw [words_end, if_pos (.inl rfl)]
    go_wp2
    exact bodyPost_ret (v := .tuple #[.slice none 0 0, .string ⟨#[]⟩, .slice none 0 0, .slice none 0 0, .slice none 0 0, .int .i64 700]) (by simp [results, Tryd.results15, go_sem]) rfl HO.out
  | false =>
    cases q2 with
    | nil =>
      rw [words_end, if_neg (by simp)]
      simp only [List.length_nil] at hc100
      go_wp2
      exact bodyPost_ret (v := .tuple #[vo, .string x, vi, vp, vq, .int .i64 0]) (by simp [results, Tryd.results15, go_sem]) rfl HF.out
    | cons y ys =>
      rw [words_end, if_pos (.inr (by simp))]
      have hn2 : (0 : Int) < ((y :: ys).length : Int) := by rw [List.length_cons]; omega
      generalize (y :: ys).length = n2 at hc100 hn2
      go_wp2
      exact bodyPost_ret (v := .tuple #[.slice none 0 0, .string ⟨#[]⟩, .slice none 0 0, .slice none 0 0, .slice none 0 0, .int .i64 700]) (by simp [results, Tryd.results15, go_sem]) rfl HO.out
set_option maxHeartbeats 4000000 in
set_option maxRecDepth 100000 in
theorem words_Build.walk (a0 : ByteArray) (w : World) (hs : a0.size < 4294967281) : Calls Tryd.prog 15 #[.string a0] w (words_post w (words_build (words_of a0))) := by
  have hl := words_of_len a0 hs
  have cOf := words_Of.calls a0 w hs
  obtain ⟨ws, hws⟩ : ∃ ws, words_of a0 = ws := ⟨_, rfl⟩
  rw [hws] at hl cOf ⊢
  clear hws
  have cN := fun (W1 : World) g (h1 : words_St w W1 g ws false) => words_names.calls1 w W1 g ws false h1
  have HL := Aside0.mk hl
  clear hl
  obtain ⟨o, ho⟩ : ∃ o, words_lead ws = o := ⟨_, rfl⟩
  obtain ⟨r1, hr1⟩ : ∃ r1, words_rest ws = r1 := ⟨_, rfl⟩
  obtain ⟨b1, hb1⟩ : ∃ b1, words_bad false 1 o.length = b1 := ⟨_, rfl⟩
  have hbuild : words_build ws = if words_hd r1 ⟨#[58]⟩ = true ∧ b1 = false then (match r1.tail with | [] => words_no | x :: r => if words_is x = true then words_tail o x r else words_no) else words_no := by
    rw [← hb1, ← hr1, ← ho]; rfl
  rw [hbuild]
  rw [ho, hr1, hb1] at cN
  clear hbuild ho hr1 hb1
  cases hh : words_hd r1 ⟨#[58]⟩ with
  | false =>
    have cS := fun (W1 : World) g (h1 : words_St w W1 g r1 b1) => words_sign.no w W1 g r1 b1 ⟨#[58]⟩ h1 hh
    rw [if_neg (by simp)]
    clear hh
    go_enter Tryd.func15, Tryd.ntmps15
    go_wp2_with (first
      | (go_at_call 33; refine cOf.mono ?_; rintro e w1 ⟨v, rfl, hR, hB⟩; obtain ⟨A, c, rfl⟩ := Kd.R_slice hR; have h2 := words_St.start hR hB HL.out)
      | (go_at_call 34; refine (cN _ _ h2).mono ?_; rintro e w3 ⟨vo, rfl, hRo, h3, k3⟩)
      | (go_at_call 35; refine (cS _ _ h3).mono ?_; rintro e w4 ⟨rfl, hw4⟩; subst hw4; obtain ⟨A3, c3, hblk3, hQ3⟩ := h3.blk; obtain ⟨hc0, hc1, hf0, hf1⟩ := words_cells hblk3; clear hblk3 hQ3))
    exact bodyPost_ret (v := .tuple #[.slice none 0 0, .string ⟨#[]⟩, .slice none 0 0, .slice none 0 0, .slice none 0 0, .int .i64 700]) (by simp [results, Tryd.results15, go_sem]) rfl (words_post_no _ _ (h3.setBad true).below)
  | true =>
    have cS := fun (W1 : World) g (h1 : words_St w W1 g r1 b1) => words_sign.yes w W1 g r1 b1 ⟨#[58]⟩ h1 hh
    obtain ⟨r2, hr2⟩ : ∃ r2, r1.tail = r2 := ⟨_, rfl⟩
    rw [hr2] at cS ⊢
    clear hh hr2
    cases b1 with
    | true =>
      rw [if_neg (by simp)]
      go_enter Tryd.func15, Tryd.ntmps15
      go_wp2_with (first
        | (go_at_call 33; refine cOf.mono ?_; rintro e w1 ⟨v, rfl, hR, hB⟩; obtain ⟨A, c, rfl⟩ := Kd.R_slice hR; have h2 := words_St.start hR hB HL.out)
        | (go_at_call 34; refine (cN _ _ h2).mono ?_; rintro e w3 ⟨vo, rfl, hRo, h3, k3⟩)
        | (go_at_call 35; refine (cS _ _ h3).mono ?_; rintro e w4 ⟨rfl, h4, k4⟩; obtain ⟨A3, c3, hblk3, hQ3⟩ := h4.blk; obtain ⟨hc0, hc1, hf0, hf1⟩ := words_cells hblk3; clear hblk3 hQ3))
      exact bodyPost_ret (v := .tuple #[.slice none 0 0, .string ⟨#[]⟩, .slice none 0 0, .slice none 0 0, .slice none 0 0, .int .i64 700]) (by simp [results, Tryd.results15, go_sem]) rfl (words_post_no _ _ (h4.setBad true).below)
    | false =>
      rw [if_pos ⟨rfl, rfl⟩]
      cases r2 with
      | nil =>
        simp only [List.length_nil]
        go_enter Tryd.func15, Tryd.ntmps15
        go_wp2_with (first
          | (go_at_call 33; refine cOf.mono ?_; rintro e w1 ⟨v, rfl, hR, hB⟩; obtain ⟨A, c, rfl⟩ := Kd.R_slice hR; have h2 := words_St.start hR hB HL.out)
          | (go_at_call 34; refine (cN _ _ h2).mono ?_; rintro e w3 ⟨vo, rfl, hRo, h3, k3⟩)
          | (go_at_call 35; refine (cS _ _ h3).mono ?_; rintro e w4 ⟨rfl, h4, k4⟩; obtain ⟨A3, c3, hblk3, hQ3⟩ := h4.blk; obtain ⟨hc0, hc1, hf0, hf1⟩ := words_cells hblk3; simp only [List.length_nil] at hc0; clear hblk3 hQ3))
        exact bodyPost_ret (v := .tuple #[.slice none 0 0, .string ⟨#[]⟩, .slice none 0 0, .slice none 0 0, .slice none 0 0, .int .i64 700]) (by simp [results, Tryd.results15, go_sem]) rfl (words_post_no _ _ (h4.setBad true).below)
      | cons x r =>
        show Calls Tryd.prog 15 #[.string a0] w (words_post w (if words_is x = true then words_tail o x r else words_no))
        have c1 : ∀ W, Calls Tryd.prog 36 #[.string x] W fun e w' => e = .returned (.bool (words_is x)) ∧ Below W.heap.size W w' := fun W => name_May.calls x (words_is x) W rfl
        obtain ⟨n, hn⟩ : ∃ n, (x :: r).length = n := ⟨_, rfl⟩
        have hn0 : (0 : Int) < (n : Int) := by rw [← hn, List.length_cons]; omega
        have hn1 : ((n : Int) == 0) = false := by rw [beq_eq_false_iff_ne]; omega
        have hnr : n = r.length + 1 := by rw [← hn]; rfl
        have HNR := Aside0.mk hnr
        have HN := Aside0.mk hn
        clear hn hnr
        cases hx : words_is x with
        | false =>
          rw [hx] at c1
          simp only [Bool.false_eq_true, if_false]
          clear hx
          go_enter Tryd.func15, Tryd.ntmps15
          go_wp2_with (first
            | (go_at_call 33; refine cOf.mono ?_; rintro e w1 ⟨v, rfl, hR, hB⟩; obtain ⟨A, c, rfl⟩ := Kd.R_slice hR; have h2 := words_St.start hR hB HL.out)
            | (go_at_call 34; refine (cN _ _ h2).mono ?_; rintro e w3 ⟨vo, rfl, hRo, h3, k3⟩)
            | (go_at_call 35; refine (cS _ _ h3).mono ?_; rintro e w4 ⟨rfl, h4, k4⟩; obtain ⟨A3, c3, hblk3, hQ3⟩ := h4.blk; obtain ⟨hc0, hc1, hf0, hf1⟩ := words_cells hblk3; obtain ⟨ad, hA3, hcx⟩ := words_first hQ3; subst hA3; rw [HN.out] at hc0; have hg4 := blk_lt hblk3; clear hblk3 hQ3)
            | (go_at_call 36; refine (c1 _).mono ?_; rintro e w5 ⟨rfl, hB5⟩; obtain ⟨hc5, hf5⟩ := words_bcell hB5))
          exact bodyPost_ret (v := .tuple #[.slice none 0 0, .string ⟨#[]⟩, .slice none 0 0, .slice none 0 0, .slice none 0 0, .int .i64 700]) (by simp [results, Tryd.results15, go_sem]) rfl (words_post_no _ _ ((h4.then_ hB5).setBad true).below)
        | true =>
          rw [if_pos rfl]
          exact words_Build.good a0 w ws o r1 x r n cOf cN HL cS hx hn0 hn1 HNR HN
theorem words_Build.calls (a0 : ByteArray) (r1 : List ByteArray) (r2 : ByteArray) (r3 r4 r5 : List ByteArray) (r6 : Int) (w : World) (h : words_Build.f a0 = some (r1, r2, r3, r4, r5, r6)) :
    Calls Tryd.prog 15 #[.string a0] w fun e w' => ∃ v0_ v2_ v3_ v4_ : Value, e = .returned (.tuple #[v0_, .string r2, v2_, v3_, v4_, .int .i64 r6]) ∧ Kd.R Kd.string 9 w' w.heap.size (fun k_ => some k_ ≠ (v2_ : Value).ownBlock ∧ some k_ ≠ (v3_ : Value).ownBlock ∧ some k_ ≠ (v4_ : Value).ownBlock) v0_ r1 ∧ Kd.R Kd.string 9 w' w.heap.size (fun k_ => some k_ ≠ (v0_ : Value).ownBlock ∧ some k_ ≠ (v3_ : Value).ownBlock ∧ some k_ ≠ (v4_ : Value).ownBlock) v2_ r3 ∧ Kd.R Kd.string 9 w' w.heap.size (fun k_ => some k_ ≠ (v0_ : Value).ownBlock ∧ some k_ ≠ (v2_ : Value).ownBlock ∧ some k_ ≠ (v4_ : Value).ownBlock) v3_ r4 ∧ Kd.R Kd.string 9 w' w.heap.size (fun k_ => some k_ ≠ (v0_ : Value).ownBlock ∧ some k_ ≠ (v2_ : Value).ownBlock ∧ some k_ ≠ (v3_ : Value).ownBlock) v4_ r5 ∧ Below w.heap.size w w' := by
  unfold words_Build.f at h
  split at h
  · rename_i hs
    have hr := Option.some.inj h
    have := words_Build.walk a0 w hs
    rw [hr] at this
    exact this
  · cases h

end Go.Proofs.YtncbloieejeifaaDoor.P
