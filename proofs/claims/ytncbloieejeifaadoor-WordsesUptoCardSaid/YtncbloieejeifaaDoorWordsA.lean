/- Words by hand (1): the words of a text, and the names that a reader of words takes. -/
import Derived.Test.YtncbloieejeifaaDoorP1
import Derived.Test.YtncbloieejeifaaDoorBase
import Derived.Test.YtncbloieejeifaaDoorShelf
namespace Go.Proofs.YtncbloieejeifaaDoor.P
open Go.RowKit Go.Proofs.YtncbloieejeifaaDoorW.PrintWords Go.Proofs.YtncbloieejeifaaDoorW.PrintLast Go.Proofs.YtncbloieejeifaaDoorW.PrintMore
attribute [local go_sem] max2_int min2_int max_two min_two max_three min_three max_four min_four
set_option linter.unusedVariables false
set_option linter.unusedSimpArgs false
/-! ### words_Build, by hand -/
/-- may it be a name? -/
def words_is (x : ByteArray) : Bool := Spec.nameMay x.data.toList
def words_lead (ws : List ByteArray) : List ByteArray := ws.takeWhile words_is
def words_rest (ws : List ByteArray) : List ByteArray := ws.dropWhile words_is
theorem words_lead_take : ∀ ws : List ByteArray, ws.take (words_lead ws).length = words_lead ws
  | [] => rfl
  | x :: ws => by
    unfold words_lead
    rw [List.takeWhile_cons]
    cases words_is x with
    | false => rfl
    | true => exact congrArg (x :: ·) (words_lead_take ws)
theorem words_rest_drop : ∀ ws : List ByteArray, ws.drop (words_lead ws).length = words_rest ws
  | [] => rfl
  | x :: ws => by
    unfold words_lead words_rest
    rw [List.takeWhile_cons, List.dropWhile_cons]
    cases words_is x with
    | false => rfl
    | true => exact words_rest_drop ws
theorem words_lead_le (ws : List ByteArray) : (words_lead ws).length ≤ ws.length := by
  have := congrArg List.length (words_lead_take ws)
  rw [List.length_take] at this
  omega
theorem words_lead_in : ∀ (ws : List ByteArray) (j : Nat), j < (words_lead ws).length → words_is (ws.getD j ByteArray.empty) = true
  | [], j, h => by simp [words_lead] at h
  | x :: ws, j, h => by
    unfold words_lead at h
    rw [List.takeWhile_cons] at h
    cases hx : words_is x with
    | false => rw [hx] at h; simp at h
    | true =>
      rw [hx] at h
      cases j with
      | zero => exact hx
      | succ j => exact words_lead_in ws j (by simpa [words_lead] using h)
theorem words_lead_out : ∀ (ws : List ByteArray), (words_lead ws).length < ws.length → words_is (ws.getD (words_lead ws).length ByteArray.empty) = false
  | [], h => by simp at h
  | x :: ws, h => by
    unfold words_lead at h ⊢
    rw [List.takeWhile_cons] at h ⊢
    cases hx : words_is x with
    | false => exact hx
    | true => rw [hx] at h; exact words_lead_out ws (by simpa [words_lead] using h)
theorem words_odd.calls (x : ByteArray) (W : World) : Calls Tryd.prog 53 #[.string x] W fun e w' => e = .returned (.bool (!words_is x)) ∧ Below W.heap.size W w' := by
  obtain ⟨b, hb⟩ : ∃ b, words_is x = b := ⟨_, rfl⟩
  have c1 : ∀ W, Calls Tryd.prog 36 #[.string x] W fun e w' => e = .returned (.bool b) ∧ Below W.heap.size W w' := fun W => name_May.calls x b W (by unfold name_May.f; rw [← hb]; rfl)
  rw [hb]
  clear hb
  go_enter Tryd.func53, Tryd.ntmps53
  go_wp2_with (go_at_call 36; refine (c1 _).mono ?_; rintro e w' ⟨rfl, hB⟩)
  go_ret
  exact ⟨rfl, hB⟩
/-- where the first one is that is no name; -1: none is -/
def words_at (ws : List ByteArray) : Int := if (words_lead ws).length < ws.length then (words_lead ws).length else -1
set_option maxHeartbeats 2000000 in
theorem words_idx.calls (A : Option Addr) (c : Nat) (ws : List ByteArray) (w : World) (hr : Kd.C Kd.string w A ws.length ws) (hl : ws.length ≤ 4294967296) :
    Calls Tryd.prog 52 #[.slice A ws.length c, .func (.func 53) #[] #[]] w fun e w' => e = .returned (.int .i64 (words_at ws)) ∧ Below w.heap.size w w' := by
  have hlead := Aside0.mk (words_lead_le ws)
  have hcell : ∀ (W : World), Below w.heap.size w W → ∀ j : Nat, j < ws.length → ∃ ad, A = some ad ∧ W.cell? (ad.add j) = some (.string (ws.getD j ByteArray.empty)) := fun W hB j hj => by
    obtain ⟨ad, hA, hc⟩ := Kd.at_string hr (j : Int) (by omega) (by omega)
    refine ⟨ad, hA, ?_⟩
    have h2 := pw_cell_below hB hc
    simpa [rdOf] using h2
  have HC := Aside0.mk hcell
  have eg : ∀ args w, (callFunc 53 args).run Tryd.prog w = .ok (.enter 53 args) w := enters_of Tryd.func53 (by kernel_rfl) rfl
  clear hcell hr
  go_enter Tryd.func52, Tryd.ntmps52
  go_wp2
  go_loopg [5, 8] ws.length (fun gg _ s8 wr => ∃ kk : Nat, kk ≤ ws.length ∧ ws.length - kk ≤ gg ∧ s8 = .int .i64 kk ∧ Aside0 (kk ≤ (words_lead ws).length) ∧ Aside0 (Below w.heap.size w wr))
  case atStart => exact ⟨0, Nat.zero_le _, by omega, rfl, ⟨Nat.zero_le _⟩, ⟨Below.refl _ _⟩⟩
  case round =>
    obtain ⟨kk, hkk, hg, rfl, L, B⟩ := hrel
    by_cases hlt : kk < ws.length
    · have hltz : (kk : Int) < (ws.length : Int) := by omega
      obtain ⟨ad, hA, hcell⟩ := HC.out wr B.out kk hlt
      subst hA
      by_cases hin : kk < (words_lead ws).length
      · have hq := words_lead_in ws kk hin
        have hcall := words_odd.calls (ws.getD kk ByteArray.empty)
        rw [hq] at hcall
        simp only [Bool.not_true, Bool.not_false] at hcall
        generalize ws.getD kk ByteArray.empty = y at hcell hcall
        clear hq
        have IN := Aside0.mk hin
        clear hin
        go_wp2_with (go_at_fn 53; refine (hcall _).mono ?_; rintro e w' ⟨rfl, hB⟩)
        go_roundg (ws.length - (kk + 1))
        case measure => omega
        case rel => exact ⟨kk + 1, by omega, by omega, by go_num, ⟨IN.out⟩, ⟨below_then B.out B.out.size hB⟩⟩
      · have heq : kk = (words_lead ws).length := by have := L.out; omega
        have hq := words_lead_out ws (by omega)
        have hat : words_at ws = kk := by unfold words_at; rw [if_pos (by omega), heq]
        rw [← heq] at hq
        have hcall := words_odd.calls (ws.getD kk ByteArray.empty)
        rw [hq] at hcall
        simp only [Bool.not_true, Bool.not_false] at hcall
        generalize ws.getD kk ByteArray.empty = y at hcell hcall
        have AT := Aside0.mk hat
        clear hq heq hin hat
        go_wp2_with (go_at_fn 53; refine (hcall _).mono ?_; rintro e w' ⟨rfl, hB⟩)
        go_ret
        exact ⟨by rw [AT.out]; rfl, below_then B.out B.out.size hB⟩
    · have hltz : ¬ (kk : Int) < (ws.length : Int) := by omega
      have heq : kk = ws.length := by omega
      have hat : words_at ws = -1 := by unfold words_at; rw [if_neg (by have := L.out; omega)]
      have AT := Aside0.mk hat
      subst heq
      clear hat
      go_wp2
      go_ret
      exact ⟨by rw [AT.out]; rfl, B.out⟩
theorem words_clone.calls (A : Option Addr) (n c : Nat) (xs : List ByteArray) (w : World) (hn : n = xs.length) (hr : Kd.C Kd.string w A xs.length xs) (hl : xs.length ≤ 4294967296) :
    Calls Tryd.prog 54 #[.slice A n c] w fun e w' => ∃ v, e = .returned v ∧ Kd.R Kd.string 9 w' w.heap.size (fun _ => True) v xs ∧ Below w.heap.size w w' := by
  subst hn
  cases A with
  | none =>
    have : xs = [] := by
      cases xs with
      | nil => rfl
      | cons x xs => obtain ⟨ad, h, _⟩ := Kd.at_string hr 0 (by omega) (by simp); cases h
    subst this
    exact (Tryd.slices_Clone_string_nil 0 c w).mono fun e w' ⟨he, hw⟩ => ⟨_, he, Kd.R_nil _ _ _ _ _, by rw [hw]; exact Below.refl _ _⟩
  | some ad =>
    cases xs with
    | nil => exact (Tryd.slices_Clone_string_zero ad c w).mono fun e w' ⟨v, he, ho, _, hB⟩ => ⟨v, he, Kd.R_of_own ho (fun _ _ => trivial), hB⟩
    | cons x xs =>
      obtain ⟨b, o, sp⟩ := ad
      have h0 : ∀ j : Nat, j < (x :: xs).length → w.cell? ((⟨b, o, sp⟩ : Addr).add j) = some (.string ((x :: xs).getD j ByteArray.empty)) := fun j hj => by
        obtain ⟨ad, hA, hc⟩ := Kd.at_string hr (j : Int) (by omega) (by omega)
        cases hA
        simpa [rdOf] using hc
      obtain rfl : sp = none := by
        have h1 := h0 0 (by simp)
        cases sp with
        | none => rfl
        | some s =>
          simp only [Addr.add, if_true, World.cell?] at h1
          split at h1
          · simp at h1
          · cases h1
      refine (Tryd.slices_Clone_string b o (x :: xs).length c (x :: xs) w (Nat.le_refl _) (by omega) (fun j hj => by rw [← h0 j hj, add_at])).mono fun e w' ⟨v, he, ho, _, hB⟩ => ⟨v, he, Kd.R_of_own ?_ (fun _ _ => trivial), hB⟩
      rw [List.take_length] at ho
      exact ho
/-! the words of a text -/
def words_none (x : ByteArray) : Bool := x.toList.isEmpty
theorem words_none.gives (x : ByteArray) (W : World) : FnGives Tryd.prog 51 #[] #[.string x] (.bool (words_none x)) W := by
  show Calls Tryd.prog 51 #[.string x] W _
  obtain ⟨b, hb⟩ : ∃ b, words_none x = b := ⟨_, rfl⟩
  rw [hb]
  unfold words_none at hb
  cases b
  · have h2 : ¬ x.toList = [] := by simpa using hb
    have h3 : (x.toList == []) = false := by simpa using h2
    go_enter Tryd.func51, Tryd.ntmps51
    go_wp2
    go_ret
    exact ⟨rfl, 0, rfl⟩
  · have h2 : x.toList = [] := by simpa using hb
    have h3 : (x.toList == []) = true := by simpa using h2
    go_enter Tryd.func51, Tryd.ntmps51
    go_wp2
    go_ret
    exact ⟨rfl, 0, rfl⟩
def words_of (a0 : ByteArray) : List ByteArray := ((Spec.split 32 a0.data.toList).map Spec.str).filter fun x => !words_none x
section
open Go.Sort
theorem words_put_heap {w : World} {g n : Nat} {cur : Array Value} {e : TypeId} {fr : Nat × Nat} (d : Array ByteArray) (hb : w.heap[g]? = some (.cells cur e fr)) :
    (putRow Value.string (Sort.ahead w n) g 0 d).heap[g]? = some (.cells (putCells Value.string 0 d cur) e fr) := by
  simp [putRow, mapBlock, Sort.ahead, Array.getElem?_modify, hb, onCells]
theorem words_put_below {B : Nat} {w w1 : World} (hB : Below B w w1) {g n : Nat} (hg : B ≤ g) (d : Array ByteArray) : Below B w (putRow Value.string (Sort.ahead w1 n) g 0 d) := by
  refine ⟨hB.os, hB.tape, hB.output, by rw [size_putRow]; exact hB.size, fun i hi => ?_⟩
  have : g ≠ i := by omega
  rw [← hB.block i hi]
  simp [putRow, mapBlock, Sort.ahead, Array.getElem?_modify, this]
theorem words_put_take (cur : Array Value) (ts us : List ByteArray) (h : ts.length ≤ cur.size) : (putCells Value.string 0 (ts ++ us).toArray cur).toList.take ts.length = encs Value.string ts := by
  apply List.ext_getElem?
  intro j
  by_cases hj : j < ts.length
  · rw [List.getElem?_take_of_lt hj, Array.getElem?_toList]
    have h1 : j < cur.size := by omega
    have h2 : j < (ts ++ us).length := by simp; omega
    have h3 : (ts ++ us)[j]! = ts[j] := by rw [getElem!_pos _ j h2, List.getElem_append_left hj]
    simp only [List.length_append] at h2
    simp [putCells, encs, hj, h1, h2, h3]
  · rw [List.getElem?_take_eq_none (by omega), List.getElem?_eq_none (by simp [encs]; omega)]
theorem words_split_len (c : UInt8) : ∀ l : List UInt8, (Spec.split c l).length ≤ l.length + 1
  | [] => Nat.le_refl _
  | b :: l => by
    have ih := words_split_len c l
    rw [Spec.split]
    split
    · simp; omega
    · simp [List.length_tail]; omega
theorem words_Of.calls (a0 : ByteArray) (w : World) (hs : a0.size < 4294967281) :
    Calls Tryd.prog 33 #[.string a0] w fun e w' => ∃ v, e = .returned v ∧ Kd.R Kd.string 9 w' w.heap.size (fun _ => True) v (words_of a0) ∧ Below w.heap.size w w' := by
  obtain ⟨xs, hx⟩ : ∃ xs, (Spec.split 32 a0.data.toList).map Spec.str = xs := ⟨_, rfl⟩
  have hS : strings_Split.f a0 (⟨#[32]⟩ : ByteArray) = some xs := by
    rw [← hx]
    exact if_pos hs
  have hne : xs ≠ [] := by
    rw [← hx]
    intro h
    exact Spec.split_ne 32 _ (List.map_eq_nil_iff.1 h)
  have hof : words_of a0 = xs.filter fun x => !words_none x := by rw [words_of, hx]
  have hlen : xs.length ≤ 4294967296 := by
    have := congrArg List.length hx
    rw [List.length_map] at this
    have h2 := words_split_len 32 a0.data.toList
    rw [Spec.size_data] at h2
    omega
  rw [hof]
  have HS := Aside0.mk hS
  have HN := Aside0.mk hne
  clear hof hS hx hne
  have eg : ∀ args w, (callFunc 51 args).run Tryd.prog w = .ok (.enter 51 args) w := enters_of Tryd.func51 (by kernel_rfl) rfl
  go_enter Tryd.func33, Tryd.ntmps33
  go_wp2_with (go_at_call 41; refine (strings_Split.calls _ _ _ _ HS.out).mono ?_; rintro e w1 ⟨v0, rfl, hR, hB⟩)
  have ho := Kd.own_of_R hR
  rcases ho.2 with ⟨_, h0⟩ | ⟨g, cap, cur, rfl, hg, hblk, hn, hcap, hcs, htk⟩
  · have h1 := HN.out
    cases xs with
    | nil => exact absurd rfl h1
    | cons x xs => simp [encs] at h0
  · have hH : Holds Value.string w1 g 0 xs.toArray := by
      intro j hj
      have hj' : j < xs.length := by simpa using hj
      have := Kd.R_cell ByteArray.empty hR (j : Int) (by omega) (by omega)
      have e1 : xs.toArray[j]! = rdOf ByteArray.empty xs (j : Int) := by
        rw [getElem!_pos _ j hj]
        simp [rdOf, hj']
      rw [e1, Nat.zero_add]
      exact this
    have hD := Tryd.slices_DeleteFunc Value.string (fun _ => rfl) words_none 51 #[] eg ByteArray.empty Tryd.zeroValue9 g 0 cap xs.toArray w1
      (fun W x _ => words_none.gives x W) (fun n os dk x _ => words_none.gives x _) hH (by simp; omega) (by simpa using hn)
    simp only [List.size_toArray] at hD
    have HD := Aside0.mk hD
    have HB := Aside0.mk hB
    have HK := Aside0.mk hblk
    clear hD hB hblk hH ho hR htk
    go_wp2_with (go_at_call 50; refine HD.out.mono ?_; rintro e w2 ⟨rfl, q, hw2⟩)
    go_ret
    have hml : (xs.filter fun x => !words_none x).length ≤ xs.length := List.length_filter_le _ _
    refine ⟨_, rfl, Kd.R_of_own ⟨by simp [encs], .inr ⟨g, cap, _, rfl, hg, words_put_heap _ HK.out, by omega, hcap, ?_, ?_⟩⟩ (fun _ _ => trivial), words_put_below HB.out hg _⟩
    · rw [← hcs]; simp [putCells]
    · rw [Nat.mul_one]
      exact words_put_take cur _ _ (by omega)
end
/-! the reader of words -/
structure words_St (w0 W : World) (g : Nat) (ws : List ByteArray) (bad : Bool) : Prop where
  base : w0.heap.size ≤ g
  blk : ∃ A c, W.heap[g]? = some (.cells #[.slice A ws.length c, .bool bad] 59 (0, 0)) ∧ Kd.Q Kd.string 9 W w0.heap.size (fun _ => True) (.slice A ws.length c) ws
  below : Below w0.heap.size w0 W
  len : ws.length ≤ 4294967296
theorem words_bcell {W w1 : World} (hb : Below W.heap.size W w1) : (∀ b o, b < W.heap.size → w1.cell? ⟨b, o, none⟩ = W.cell? ⟨b, o, none⟩) ∧ (∀ b o, b < W.heap.size → w1.frozen? ⟨b, o, none⟩ = W.frozen? ⟨b, o, none⟩) :=
  ⟨fun b o h => hb.cell (p := ⟨b, o, none⟩) h, fun b o h => hb.frozen (p := ⟨b, o, none⟩) h⟩
theorem words_types : ∀ q, q ∈ 9 :: (Kd.string).E → q ≠ 59 := by
  intro q hq
  have : (Kd.string).E = [] := rfl
  rw [this] at hq
  simp at hq
  omega
theorem words_info : ∃ i0, Tryd.prog.info? 9 = some i0 ∧ i0.size = 1 := by
  obtain ⟨i0, hi, hz0, hz1, hz2⟩ := info_parts (show (Tryd.prog.info? 9).map (fun i => (i.zero, i.size, i.bytes)) = some (some (.string ByteArray.empty), 1, 16) by kernel_rfl)
  exact ⟨i0, hi, hz1⟩
def words_bad (bad : Bool) (least m : Nat) : Bool := bad || decide (m < least) || decide (8 < m)
theorem words_bad2 {least m : Nat} (h : m < least) : words_bad false least m = true := by simp [words_bad, h]
theorem words_bad3 {least m : Nat} (h : 8 < m) : words_bad false least m = true := by simp [words_bad, h]
theorem words_bad4 {least m : Nat} (h1 : ¬ m < least) (h2 : ¬ 8 < m) : words_bad false least m = false := by simp [words_bad, h1, h2]
set_option maxHeartbeats 4000000 in
theorem words_names.core (w0 W : World) (g : Nat) (A : Option Addr) (c n m least : Nat) (ws : List ByteArray) (bad : Bool) (idx : Int) (hn : n = ws.length) (hidx : (idx = -1 ∧ m = n) ∨ (idx = (m : Int) ∧ m < n)) (hle : least ≤ 1)
    (hbase : w0.heap.size ≤ g) (hblk : W.heap[g]? = some (.cells #[.slice A n c, .bool bad] 59 (0, 0))) (hQ : Kd.Q Kd.string 9 W w0.heap.size (fun _ => True) (.slice A n c) ws) (hbel : Below w0.heap.size w0 W) (hl : n ≤ 4294967296)
    (c1 : Calls Tryd.prog 52 #[.slice A n c, .func (.func 53) #[] #[]] W fun e w' => e = .returned (.int .i64 idx) ∧ Below W.heap.size W w') :
    Calls Tryd.prog 34 #[.pointer (some ⟨g, 0, none⟩), .int .i64 (least : Int)] W fun e w' => ∃ vo, e = .returned vo ∧ Kd.R Kd.string 9 w' W.heap.size (fun _ => True) vo (ws.take m) ∧ words_St w0 w' g (ws.drop m) (words_bad bad least m) ∧ KeepBut W w' g none := by
  have hmn : m ≤ n := by rcases hidx with ⟨_, h⟩ | ⟨_, h⟩ <;> omega
  have hg : g < W.heap.size := blk_lt hblk
  have hnc : n ≤ c := (Kd.Q_reads' hQ).2.1
  have hc0 : W.cell? ⟨g, 0, none⟩ = some (.slice A n c) := by rw [blk_cell hblk 0]; rfl
  have hc1 : W.cell? ⟨g, 1, none⟩ = some (.bool bad) := by rw [blk_cell hblk 1]; rfl
  have hf0 : W.frozen? ⟨g, 0, none⟩ = false := blk_frozen hblk 0
  have hf1 : W.frozen? ⟨g, 1, none⟩ = false := blk_frozen hblk 1
  obtain ⟨i0, hi, hz1⟩ := words_info
  have hcut1 : ∀ W : World, (Instr.slice 22 (.slice A n c) none (some (.int .i64 (m : Int))) none).run Tryd.prog W = .ok (.slice A m c) W := fun W => by
    have := cut_to (P := Tryd.prog) 22 9 .i64 Tryd.underlying22 hi A n c (m : Int) (by omega) (by omega) hnc W
    rwa [Int.toNat_natCast] at this
  obtain ⟨A1, hA1⟩ : ∃ A1, (if c = m then A else A.map (·.add (m * 1))) = A1 := ⟨_, rfl⟩
  obtain ⟨nd, hnd⟩ : ∃ nd, n - m = nd := ⟨_, rfl⟩
  obtain ⟨cd, hcd⟩ : ∃ cd, c - m = cd := ⟨_, rfl⟩
  have hcut2 : ∀ W : World, (Instr.slice 22 (.slice A n c) (some (.int .i64 (m : Int))) none none).run Tryd.prog W = .ok (.slice A1 nd cd) W := fun W => by
    have := cut_from (P := Tryd.prog) 22 9 .i64 Tryd.underlying22 hi 1 hz1 A n c (m : Int) (by omega) (by omega) W
    rwa [Int.toNat_natCast, hA1, hnd, hcd] at this
  have hQ1 : ∀ w1, Below W.heap.size W w1 → Kd.C Kd.string w1 A (ws.take m).length (ws.take m) := fun w1 hB => (Kd.Q_reads' (Kd.Q_take (Kd.Q_below hQ hB) (by omega))).2.2
  have hQ2 : ∀ w1, Below W.heap.size W w1 → Kd.Q Kd.string 9 w1 w0.heap.size (fun _ => True) (.slice A1 nd cd) (ws.drop m) := fun w1 hB => by
    have := Kd.Q_drop (k := m) (Kd.Q_below hQ hB) (by omega)
    rwa [show (if c = m then A else A.map (·.add (m * (Kd.string).sz))) = A1 from hA1, show n - m = nd from hnd, show c - m = cd from hcd] at this
  have htl : m = (ws.take m).length := by rw [List.length_take]; omega
  have hdl : (ws.drop m).length = nd := by rw [List.length_drop]; omega
  have hnl : nd ≤ n := by omega
  have HT := Aside0.mk htl
  have HD := Aside0.mk hdl
  have HA := Aside0.mk hA1
  have HI := Aside0.mk hi
  have HZ := Aside0.mk hz1
  have HK := Aside0.mk hblk
  have HN := Aside0.mk hn
  clear htl hdl hA1 hi hz1 hblk hn hQ hnd hcd
  have fin : ∀ (w1 w2 : World) (vo : Value) (b : Bool), Below W.heap.size W w1 → Below w1.heap.size w1 w2 → Kd.R Kd.string 9 w2 w1.heap.size (fun _ => True) vo (ws.take m) → words_bad bad least m = b →
      Kd.R Kd.string 9 ((w2.setCell ⟨g, 0, none⟩ (.slice A1 nd cd)).setCell ⟨g, 1, none⟩ (.bool b)) W.heap.size (fun _ => True) vo (ws.take m) ∧ words_St w0 ((w2.setCell ⟨g, 0, none⟩ (.slice A1 nd cd)).setCell ⟨g, 1, none⟩ (.bool b)) g (ws.drop m) (words_bad bad least m) ∧ KeepBut W ((w2.setCell ⟨g, 0, none⟩ (.slice A1 nd cd)).setCell ⟨g, 1, none⟩ (.bool b)) g none := by
    intro w1 w2 vo b h1 h2 hR hb
    have h12 : Below W.heap.size W w2 := below_then h1 h1.size h2
    have b0 : w2.heap[g]? = some (.cells #[.slice A n c, .bool bad] 59 (0, 0)) := (h12.block g hg).trans HK.out
    have b1 := blk_set b0 0 (.slice A1 nd cd)
    have b2 := blk_set b1 1 (.bool b)
    refine ⟨Kd.R_set (Kd.R_set (Kd.R_lower hR h1.size) b0 words_types 0 _) b1 words_types 1 _, ⟨hbase, ⟨A1, cd, ?_, ?_⟩, ?_, by rw [HD.out]; omega⟩, ((KeepBut.of_below h12 g none).set_ 0 _).set_ 1 _⟩
    · rw [b2, HD.out, hb]; rfl
    · rw [HD.out]
      exact Kd.Q_set (Kd.Q_set (hQ2 w2 h12) b0 words_types 0 _) b1 words_types 1 _
    · exact ((hbel.trans (h12.mono hbel.size)).setCell (p := ⟨g, 0, none⟩) hbase _).setCell (p := ⟨g, 1, none⟩) hbase _
  have cl := fun w1 hB => words_clone.calls A m c (ws.take m) w1 HT.out (hQ1 w1 hB) (by rw [← HT.out]; omega)
  clear hQ1 hQ2 hbel
  have four : (bad = true) ∨ (bad = false ∧ m < least) ∨ (bad = false ∧ ¬ m < least ∧ 8 < m) ∨ (bad = false ∧ ¬ m < least ∧ ¬ 8 < m) := by
    cases bad
    · by_cases h1 : m < least
      · exact .inr (.inl ⟨rfl, h1⟩)
      · by_cases h2 : 8 < m
        · exact .inr (.inr (.inl ⟨rfl, h1, h2⟩))
        · exact .inr (.inr (.inr ⟨rfl, h1, h2⟩))
    · exact .inl rfl
  rcases hidx with ⟨rfl, rfl⟩ | ⟨rfl, hlt⟩
  all_goals
    rcases four with rfl | ⟨rfl, h1⟩ | ⟨rfl, h1, h2⟩ | ⟨rfl, h1, h2⟩
    all_goals
      have hm0 : ¬ ((m : Int) < 0) := by omega
      try (have d1 : decide ((m : Int) < (least : Int)) = true := by simp; omega)
      try (have d1 : decide ((m : Int) < (least : Int)) = false := by simp; omega)
      try (have d2 : decide ((8 : Int) < (m : Int)) = true := by simp; omega)
      try (have d2 : decide ((8 : Int) < (m : Int)) = false := by simp; omega)
      go_enter Tryd.func34, Tryd.ntmps34
      go_wp2_with (first
        | (go_at_call 52; refine c1.mono ?_; rintro e w1 ⟨rfl, hB1⟩; obtain ⟨hc2, hf2⟩ := words_bcell hB1)
        | (go_at_call 54; refine (cl _ hB1).mono ?_; rintro e w2 ⟨vo, rfl, hR, hB2⟩; obtain ⟨hc3, hf3⟩ := words_bcell hB2; have hg1 := Nat.lt_of_lt_of_le hg hB1.size))
      go_ret
      clear cl hcut1 hcut2
      refine ⟨vo, rfl, ?_⟩
      first
        | exact fin w1 w2 vo true hB1 hB2 hR rfl
        | exact fin w1 w2 vo false hB1 hB2 hR (words_bad4 h1 h2)
        | exact fin w1 w2 vo true hB1 hB2 hR (words_bad3 h2)
        | exact fin w1 w2 vo true hB1 hB2 hR (words_bad2 h1)
theorem words_names.calls (w0 W : World) (g : Nat) (ws : List ByteArray) (bad : Bool) (least : Nat) (hle : least ≤ 1) (h : words_St w0 W g ws bad) :
    Calls Tryd.prog 34 #[.pointer (some ⟨g, 0, none⟩), .int .i64 (least : Int)] W fun e w' => ∃ vo, e = .returned vo ∧ Kd.R Kd.string 9 w' W.heap.size (fun _ => True) vo (words_lead ws) ∧ words_St w0 w' g (words_rest ws) (words_bad bad least (words_lead ws).length) ∧ KeepBut W w' g none := by
  obtain ⟨A, c, hblk, hQ⟩ := h.blk
  have hm := words_lead_le ws
  have hi : (words_at ws = -1 ∧ (words_lead ws).length = ws.length) ∨ (words_at ws = ((words_lead ws).length : Int) ∧ (words_lead ws).length < ws.length) := by
    unfold words_at
    by_cases h1 : (words_lead ws).length < ws.length
    · rw [if_pos h1]; exact .inr ⟨rfl, h1⟩
    · rw [if_neg h1]; exact .inl ⟨rfl, by omega⟩
  have := words_names.core w0 W g A c ws.length (words_lead ws).length least ws bad (words_at ws) rfl hi hle h.base hblk hQ h.below h.len (words_idx.calls A c ws W (Kd.Q_reads' hQ).2.2 h.len)
  rw [words_lead_take, words_rest_drop] at this
  exact this
end Go.Proofs.YtncbloieejeifaaDoor.P
