/- Chapter 16: what May, Text and Load compute. -/
import Derived.Test.YtkplcmcmpdhigaaDoorDeprec
import Derived.Test.YtkplcmcmpdhigaaDoorP6
import Derived.Test.YtkplcmcmpdhigaaDoorP9
import Derived.Test.YtkplcmcmpdhigaaDoorP11
namespace Go.Proofs.YtkplcmcmpdhigaaDoor.Spec
open Go.RowKit Go.Proofs.YtkplcmcmpdhigaaDoorW.PrintWords Go.Proofs.YtkplcmcmpdhigaaDoorW.PrintMore Go.Proofs.YtkplcmcmpdhigaaDoor.P

def mayF (f : P.S41) : Bool := mayD f.f0 f.f1 f.f2
def txF (f : P.S41) : List UInt8 := foundL f.f0.data.toList f.f1.toNat (datas f.f2)
def fsText (fs : List (P.S41)) : List UInt8 := (fs.map txF).flatten
def sizeL (s : List UInt8) : Nat := 2 + tN 2 s
def gF (s : List UInt8) : P.S41 := ⟨(getF (str s)).1, (getF (str s)).2.1, (getF (str s)).2.2.1⟩
def cutL (s : List UInt8) : Nat := min (sizeL s) s.length
def loadD : Nat → List UInt8 → List (P.S41)
  | 0, _ => []
  | n + 1, s => if s = [] then [] else if (getF (str (s.take (cutL s)))).2.2.2 = 0 then gF (s.take (cutL s)) :: loadD n (s.drop (cutL s)) else []
theorem fsText_nil : fsText [] = [] := rfl
theorem fsText_cons (f : P.S41) (fs : List (P.S41)) : fsText (f :: fs) = txF f ++ fsText fs := by simp [fsText]
theorem fsText_app (a b : List (P.S41)) : fsText (a ++ b) = fsText a ++ fsText b := by simp [fsText]
theorem txF_len {f : P.S41} (h : mayF f = true) : 8 ≤ (txF f).length ∧ (txF f).length ≤ 160 := by
  obtain ⟨hs, h1, h2, _⟩ := mayD_small h
  rw [txF, foundL_len, size_data]
  omega
theorem fsText_len : ∀ (fs : List (P.S41)), (∀ f ∈ fs, mayF f = true) → (fsText fs).length ≤ 160 * fs.length
  | [], _ => by simp [fsText]
  | f :: fs, h => by
    have h1 := (txF_len (h f (by simp))).2
    have h2 := fsText_len fs (fun g hg => h g (by simp [hg]))
    rw [fsText_cons, List.length_append, List.length_cons]
    omega
theorem sizeL_tx {f : P.S41} (h : mayF f = true) (r : List UInt8) : sizeL (txF f ++ r) = (txF f).length := by
  obtain ⟨hs, h1, h2, _⟩ := mayD_small h
  have e := bodyL_len f.f0.data.toList f.f1.toNat (datas f.f2)
  rw [size_data] at e
  rw [sizeL, txF, foundL, List.append_assoc, tN_low 2 _ _ (by omega), List.length_append, lowL_len]
theorem cutL_tx {f : P.S41} (h : mayF f = true) (r : List UInt8) : cutL (txF f ++ r) = (txF f).length := by
  have hA : (txF f ++ r).length = (txF f).length + r.length := List.length_append
  rw [cutL, sizeL_tx h, Nat.min_eq_left (by omega)]
theorem getF_tx {f : P.S41} (h : mayF f = true) : getF (str (txF f)) = (f.f0, f.f1, f.f2, 0) := getF_found h
theorem gF_tx {f : P.S41} (h : mayF f = true) : gF (txF f) = f := by rw [gF, getF_tx h]
theorem load_cons {f : P.S41} (h : mayF f = true) (n : Nat) (r : List UInt8) : loadD (n + 1) (txF f ++ r) = f :: loadD n r := by
  have hl := txF_len h
  have hne : txF f ++ r ≠ [] := by intro e; have := congrArg List.length e; rw [List.length_append, List.length_nil] at this; omega
  rw [loadD, if_neg hne, cutL_tx h, List.take_left' rfl, List.drop_left' rfl, getF_tx h, gF_tx h, if_pos rfl]
theorem load_put : ∀ (fs : List (P.S41)) (n : Nat) (r : List UInt8), (∀ f ∈ fs, mayF f = true) → fs.length ≤ n → loadD n (fsText fs ++ r) = fs ++ loadD (n - fs.length) r
  | [], n, r, _, _ => by simp [fsText]
  | f :: fs, 0, r, _, h => by simp at h
  | f :: fs, n + 1, r, hm, h => by
    rw [fsText_cons, List.append_assoc, load_cons (hm f (by simp)), load_put fs n r (fun g hg => hm g (by simp [hg])) (by simpa using h), List.length_cons, Nat.add_sub_add_right]
    rfl
theorem load_nil (n : Nat) : loadD n [] = [] := by cases n <;> simp [loadD]
theorem load_all (fs : List (P.S41)) (n : Nat) (hm : ∀ f ∈ fs, mayF f = true) (h : fs.length ≤ n) : loadD n (fsText fs) = fs := by
  have := load_put fs n [] hm h
  rwa [List.append_nil, load_nil, List.append_nil] at this
/-- what was got of a text is told as it -/
theorem gF_is {s : List UInt8} (h : (getF (str s)).2.2.2 = 0) : mayF (gF s) = true ∧ txF (gF s) = s := by
  obtain ⟨o, t, ins, e, hm, hs⟩ := getF_ok h
  unfold gF
  rw [e]
  exact ⟨hm, (str_inj hs).symm⟩
theorem tx_inj {f g : P.S41} (hf : mayF f = true) (hg : mayF g = true) {r r' : List UInt8} (e : txF f ++ r = txF g ++ r') : txF f = txF g := by
  obtain ⟨e1, e2, e3⟩ := found_inj (mayD_small hf).1 (mayD_small hg).1 e
  rw [txF, txF, e1, e2, e3]
theorem load_cut {f : P.S41} (h : mayF f = true) (n : Nat) (r r' : List UInt8) (hr : r ++ r' = txF f) (hne : r' ≠ []) : loadD n r = [] := by
  cases n with
  | zero => rfl
  | succ n =>
    rw [loadD]
    split
    · rfl
    · split
      · rename_i hg
        obtain ⟨hm, ht⟩ := gF_is hg
        exfalso
        have e : txF (gF (r.take (cutL r))) ++ (r.drop (cutL r) ++ r') = txF f ++ [] := by rw [ht, ← List.append_assoc, List.take_append_drop, hr, List.append_nil]
        have e2 := tx_inj hm h e
        have e4 := congrArg List.length e
        have : 0 < r'.length := List.length_pos_iff.2 hne
        rw [e2] at e4
        simp only [List.length_append, List.length_nil] at e4
        omega
      · rfl
theorem load_is : ∀ (n : Nat) (s : List UInt8), (∀ f ∈ loadD n s, mayF f = true) ∧ (loadD n s).length ≤ n ∧ ∃ r, fsText (loadD n s) ++ r = s
  | 0, s => ⟨by simp [loadD], Nat.le_refl _, s, rfl⟩
  | n + 1, s => by
    rw [loadD]
    split
    · exact ⟨by simp, by simp, s, rfl⟩
    · split
      · rename_i hg
        obtain ⟨hm, ht⟩ := gF_is hg
        obtain ⟨h1, h2, r, h3⟩ := load_is n (s.drop (cutL s))
        refine ⟨fun f hf => ?_, by simpa using h2, r, ?_⟩
        · rcases List.mem_cons.1 hf with rfl | hf
          · exact hm
          · exact h1 f hf
        · rw [fsText_cons, ht, List.append_assoc, h3, List.take_append_drop]
      · exact ⟨by simp, by simp, s, rfl⟩
def mayFs (fs : List (P.S41)) : Bool := decide (fs.length ≤ 256) && fs.all mayF
theorem mayFs_all {fs : List (P.S41)} (h : mayFs fs = true) : fs.length ≤ 256 ∧ ∀ f ∈ fs, mayF f = true := by
  simp only [mayFs, Bool.and_eq_true, decide_eq_true_eq] at h
  exact ⟨h.1, List.all_eq_true.1 h.2⟩
theorem mayFs_of {fs : List (P.S41)} (h : fs.length ≤ 256) (h2 : ∀ f ∈ fs, mayF f = true) : mayFs fs = true := by
  simp only [mayFs, Bool.and_eq_true, decide_eq_true_eq]
  exact ⟨h, List.all_eq_true.2 h2⟩
theorem Fd_ext {x y : P.S41} (h0 : x.f0 = y.f0) (h1 : x.f1 = y.f1) (h2 : x.f2 = y.f2) : x = y := by
  obtain ⟨a, b, c⟩ := x
  obtain ⟨a', b', c'⟩ := y
  cases h0; cases h1; cases h2; rfl
instance : DecidableEq P.S41 := fun x y =>
  if h : x.f0 = y.f0 ∧ x.f1 = y.f1 ∧ x.f2 = y.f2 then isTrue (Fd_ext h.1 h.2.1 h.2.2) else isFalse (fun e => h (by subst e; exact ⟨rfl, rfl, rfl⟩))
theorem fd_sum {fs : List (P.S41)} {x : P.S41} (h : x ∈ fs) (g : P.S41 → Nat) : g x ≤ (fs.map g).sum := by
  induction fs with
  | nil => cases h
  | cons y ys ih =>
    rw [List.map_cons, List.sum_cons]
    rcases List.mem_cons.1 h with rfl | h
    · omega
    · have := ih h; omega
theorem fd_mem {fs : List (P.S41)} {x : P.S41} (h : x ∈ fs) : (x.f0.size + 1) + 1 + ((x.f2.map fun s => s.size + 1).sum + 1) ≤ (fs.map fun x : P.S41 => (x.f0.size + 1) + 1 + ((x.f2.map fun s => s.size + 1).sum + 1)).sum := fd_sum h (fun x : P.S41 => (x.f0.size + 1) + 1 + ((x.f2.map fun s => s.size + 1).sum + 1))
theorem fd_ins (x : P.S41) : x.f2.length ≤ (x.f2.map fun s => s.size + 1).sum := by
  induction x.f2 with
  | nil => simp
  | cons y ys ih => simp; omega
theorem fd_len (fs : List (P.S41)) : fs.length ≤ (fs.map fun x : P.S41 => (x.f0.size + 1) + 1 + ((x.f2.map fun s => s.size + 1).sum + 1)).sum := by
  induction fs with
  | nil => simp
  | cons y ys ih => rw [List.map_cons, List.sum_cons, List.length_cons]; omega
theorem ev_all16 : ∀ (l : List (P.S41)), (∀ x ∈ l, x.f2.length ≤ 4611686018427387904) → Ev (fun k => deplog_all k l) (l.all mayF)
  | [], _ => Ev.now _
  | x :: xs, h => by
    refine Ev.congr (fun k => by rw [deplog_all]) (ev_bind (ev_May x.f0 x.f1 x.f2 (h x (by simp))) ?_)
    rw [List.all_cons, show mayD x.f0 x.f1 x.f2 = mayF x from rfl]
    cases hm : mayF x with
    | true => exact ev_pos rfl (ev_all16 xs (fun y hy => h y (by simp [hy])))
    | false => exact ev_neg (by simp) (Ev.now _)
theorem ev_May16 (l : List (P.S41)) (h : ∀ x ∈ l, x.f2.length ≤ 4611686018427387904) : Ev (fun k => deplog_May.f k l) (mayFs l) := by
  refine Ev.congr (fun k => by rw [deplog_May.f]) ?_
  unfold mayFs
  by_cases hl : l.length ≤ 256
  · refine ev_pos hl (ev_eq (ev_all16 l h) ?_)
    simp [hl]
  · exact ev_neg hl (ev_const (by simp [hl]))
theorem ev_texts : ∀ (l : List (P.S41)), (∀ x ∈ l, mayF x = true) → Ev (fun k => deplog_texts k l) (fsText l)
  | [], _ => Ev.now _
  | x :: xs, h => by
    have hx := h x (by simp)
    have hp : putF x.f0 x.f1 x.f2 = (str (txF x), 0) := by unfold putF; rw [if_pos (show mayD x.f0 x.f1 x.f2 = true from hx)]; rfl
    have hl := (mayD_small hx).2.2.2.1
    refine Ev.congr (fun k => by rw [deplog_texts]) (ev_bind (ev_Put x.f0 x.f1 x.f2 (by omega)) (ev_bind (ev_texts xs (fun y hy => h y (by simp [hy]))) ?_))
    rw [hp]
    exact ev_const (by rw [fsText_cons, str_data])
def textF (l : List (P.S41)) : ByteArray × Int := if mayFs l = true then (str (fsText l), 0) else (str [], 1600)
theorem ev_Text16 (l : List (P.S41)) (h : ∀ x ∈ l, x.f2.length ≤ 4611686018427387904) : Ev (fun k => deplog_Text.f k l) (textF l) := by
  refine Ev.congr (fun k => by rw [deplog_Text.f]) (ev_bind (ev_May16 l h) ?_)
  unfold textF
  cases hm : mayFs l with
  | false => exact ev_neg (by simp) (Ev.now _)
  | true =>
    obtain ⟨h1, h2⟩ := mayFs_all hm
    have h3 := fsText_len l h2
    exact ev_pos rfl (ev_bind (ev_texts l h2) (ev_pos ⟨h1, by omega⟩ (Ev.now _)))
theorem size_is (s : List UInt8) : deprec_Size.f (str s) = some ((sizeL s : Nat) : Int) := by
  have hlt : tN 2 s < 65536 := by
    have := unlow_lt (s.take 2)
    have h2 : (s.take 2).length ≤ 2 := by rw [List.length_take]; omega
    have h3 : 256 ^ (s.take 2).length ≤ 256 ^ 2 := Nat.pow_le_pow_right (by decide) h2
    unfold tN; omega
  unfold deprec_Size.f
  rw [show (2 : Int) = ((2 : Nat) : Int) from rfl, number_is s 2 (by decide)]
  simp only [Option.bind_some]
  rw [wrap_id (by omega) (by omega), sizeL]
  congr 1
theorem str_take (s : List UInt8) (m : Nat) : (str s).extract 0 m = str (s.take m) := str_eq _ _ (by rw [extract_data, str_data, List.drop_zero])
theorem str_drop (s : List UInt8) (m : Nat) : (str s).extract m (str s).size = str (s.drop m) := str_eq _ _ (by rw [extract_data, str_data, str_size, List.take_length])
theorem ev_Load_loop : ∀ (n : Nat) (s : List UInt8) (pre : List (P.S41)), pre.length + n = 256 → Ev (fun k => deplog_Load.l0 k (str s) pre) (pre ++ loadD n s) := by
  intro n
  induction n with
  | zero =>
    intro s pre h
    refine Ev.step (fun k => by rw [deplog_Load.l0]) ?_
    rw [str_toList]
    by_cases hs : s = []
    · exact ev_pos hs (Ev.step (fun k => by rw [deplog_Load.j1]) (ev_neg (by simp) (ev_const (by simp [loadD]))))
    · exact ev_neg hs (Ev.step (fun k => by rw [deplog_Load.j1]) (ev_neg (by simp; omega) (ev_const (by simp [loadD]))))
  | succ n ih =>
    intro s pre h
    refine Ev.step (fun k => by rw [deplog_Load.l0]) ?_
    rw [str_toList, loadD]
    by_cases hs : s = []
    · rw [if_pos hs]
      exact ev_pos hs (Ev.step (fun k => by rw [deplog_Load.j1]) (ev_neg (by simp) (ev_const (by simp))))
    · rw [if_neg hs]
      refine ev_neg hs (Ev.step (fun k => by rw [deplog_Load.j1]) (ev_pos (by simp; omega) (ev_bindc (size_is s) ?_)))
      have hm : mn ((sizeL s : Nat) : Int) ((str s).size : Int) = ((cutL s : Nat) : Int) := by rw [str_size]; unfold mn cutL; omega
      have hle : cutL s ≤ s.length := Nat.min_le_right _ _
      have hsz : (str s).size = s.length := str_size s
      simp only [hm, Int.toNat_natCast, str_take]
      refine ev_pos (by omega) (ev_pos (by omega) (ev_bind (ev_Get _) ?_))
      rw [str_drop]
      by_cases hg : (getF (str (s.take (cutL s)))).2.2.2 = 0
      · rw [if_pos hg]
        have := ih (s.drop (cutL s)) (pre ++ [gF (s.take (cutL s))]) (by simp; omega)
        rw [List.append_assoc] at this
        exact ev_pos hg (ev_pos (show pre.length < 2932031007402 by omega) this)
      · rw [if_neg hg]
        exact ev_neg hg (ev_const (by simp))
theorem ev_Load (s : ByteArray) : Ev (fun k => deplog_Load.f k s) (loadD 256 s.data.toList) := by
  have := ev_Load_loop 256 s.data.toList [] rfl
  rw [str_of] at this
  exact Ev.congr (fun k => by rw [deplog_Load.f]) this
theorem rdT_pre (pre : List (P.S41)) (x : P.S41) (rest : List (P.S41)) : rd_T41 (pre ++ x :: rest) (pre.length : Int) = x := by simp [rd_T41]
theorem ev_SameFounds_loop (xs ys : List (P.S41)) (hl : xs.length = ys.length) (hx : xs.length ≤ 4611686018427387904) (hi : ∀ x ∈ xs, x.f2.length ≤ 4611686018427387904) : ∀ rest resty pre prey : List (P.S41), xs = pre ++ rest → ys = prey ++ resty → pre = prey →
    Ev (fun k => cruciblelaw0_SameFounds.l0 k xs ys (pre.length : Int)) (decide (xs = ys)) := by
  intro rest
  induction rest with
  | nil =>
    intro resty pre prey h hy e
    subst e
    have : resty = [] := by
      rw [h, hy] at hl
      simp at hl
      exact hl
    subst this
    refine Ev.step (fun k => by rw [cruciblelaw0_SameFounds.l0]) (ev_neg (by rw [h]; simp) (ev_const ?_))
    simp [h, hy]
  | cons x rest ih =>
    intro resty pre prey h hy e
    subst e
    cases resty with
    | nil => rw [h, hy] at hl; simp at hl
    | cons y resty =>
      have hlen : xs.length = pre.length + (rest.length + 1) := by rw [h]; simp
      have r1 : rd_T41 xs (pre.length : Int) = x := by rw [h]; exact rdT_pre _ _ _
      have r2 : rd_T41 ys (pre.length : Int) = y := by rw [hy]; exact rdT_pre _ _ _
      have hw : wrap64 ((pre.length : Int) + 1) = ((pre ++ [x]).length : Int) := wrap_len pre x (by omega)
      refine Ev.step (fun k => by rw [cruciblelaw0_SameFounds.l0]) ?_
      simp only [r1, r2, hw]
      refine ev_pos (by omega) (ev_pos (by omega) (ev_pos (by omega) (ev_bind (ev_SameFound _ _ _ _ _ _ (hi x (by rw [h]; simp))) ?_)))
      by_cases hxy : x = y
      · subst hxy
        exact ev_pos (by simp) (ih resty (pre ++ [x]) (pre ++ [x]) (by simp [h]) (by simp [hy]) rfl)
      · refine ev_neg ?_ (ev_const ?_)
        · intro hc
          obtain ⟨e0, e1, e2⟩ := of_decide_eq_true hc
          exact hxy (Fd_ext e0 e1 e2)
        · rw [h, hy]
          simp [hxy]
theorem ev_SameFounds (xs ys : List (P.S41)) (hx : xs.length ≤ 4611686018427387904) (hi : ∀ x ∈ xs, x.f2.length ≤ 4611686018427387904) : Ev (fun k => cruciblelaw0_SameFounds.f k xs ys) (decide (xs = ys)) := by
  refine Ev.congr (fun k => by rw [cruciblelaw0_SameFounds.f]) ?_
  by_cases hl : xs.length = ys.length
  · exact ev_pos (by omega) (ev_SameFounds_loop xs ys hl hx hi xs ys [] [] rfl rfl rfl)
  · refine ev_neg (by omega) (ev_const ?_)
    have : xs ≠ ys := fun e => hl (by rw [e])
    simp [this]
end Go.Proofs.YtkplcmcmpdhigaaDoor.Spec
