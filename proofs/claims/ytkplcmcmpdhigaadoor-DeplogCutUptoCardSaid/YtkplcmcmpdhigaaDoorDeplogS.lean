/- Chapter 16 without the program: founds' text, and what is loaded of a text. -/
import Derived.Test.YtkplcmcmpdhigaaDoorDeprecS
import Derived.Test.YtkplcmcmpdhigaaDoorP3
namespace Go.Proofs.YtkplcmcmpdhigaaDoor.Spec
open Go.RowKit

def mayF (f : P.S41) : Bool := mayD f.f0 f.f1 f.f2
def txF (f : P.S41) : List UInt8 := foundL f.f0.data.toList f.f1.toNat (datas f.f2)
def fsText (fs : List (P.S41)) : List UInt8 := (fs.map txF).flatten
def sizeL (s : List UInt8) : Nat := 2 + tN 2 s
def gF (s : List UInt8) : P.S41 := ⟨(getF (str s)).1, (getF (str s)).2.1, (getF (str s)).2.2.1⟩
def cutL (s : List UInt8) : Nat := min (sizeL s) s.length
def loadD : Nat → List UInt8 → List (P.S41)
  | 0, _ => []
  | n + 1, s => if s = [] then [] else if (getF (str (s.take (cutL s)))).2.2.2 = 0 then gF (s.take (cutL s)) :: loadD n (s.drop (cutL s)) else []
theorem fsText_nil : fsText [] = [] := rfl
theorem fsText_cons (f : P.S41) (fs : List (P.S41)) : fsText (f :: fs) = txF f ++ fsText fs := by simp [fsText]
theorem fsText_app (a b : List (P.S41)) : fsText (a ++ b) = fsText a ++ fsText b := by simp [fsText]
theorem txF_len {f : P.S41} (h : mayF f = true) : 8 ≤ (txF f).length ∧ (txF f).length ≤ 160 := by
  obtain ⟨hs, h1, h2, _⟩ := mayD_small h
  rw [txF, foundL_len, size_data]
  omega
theorem fsText_len : ∀ (fs : List (P.S41)), (∀ f ∈ fs, mayF f = true) → (fsText fs).length ≤ 160 * fs.length
  | [], _ => by simp [fsText]
  | f :: fs, h => by
    have h1 := (txF_len (h f (by simp))).2
    have h2 := fsText_len fs (fun g hg => h g (by simp [hg]))
    rw [fsText_cons, List.length_append, List.length_cons]
    omega
theorem sizeL_tx {f : P.S41} (h : mayF f = true) (r : List UInt8) : sizeL (txF f ++ r) = (txF f).length := by
  obtain ⟨hs, h1, h2, _⟩ := mayD_small h
  have e := bodyL_len f.f0.data.toList f.f1.toNat (datas f.f2)
  rw [size_data] at e
  rw [sizeL, txF, foundL, List.append_assoc, tN_low 2 _ _ (by omega), List.length_append, lowL_len]
theorem cutL_tx {f : P.S41} (h : mayF f = true) (r : List UInt8) : cutL (txF f ++ r) = (txF f).length := by
  have hA : (txF f ++ r).length = (txF f).length + r.length := List.length_append
  rw [cutL, sizeL_tx h, Nat.min_eq_left (by omega)]
theorem getF_tx {f : P.S41} (h : mayF f = true) : getF (str (txF f)) = (f.f0, f.f1, f.f2, 0) := getF_found h
theorem gF_tx {f : P.S41} (h : mayF f = true) : gF (txF f) = f := by rw [gF, getF_tx h]
theorem load_cons {f : P.S41} (h : mayF f = true) (n : Nat) (r : List UInt8) : loadD (n + 1) (txF f ++ r) = f :: loadD n r := by
  have hl := txF_len h
  have hne : txF f ++ r ≠ [] := by intro e; have := congrArg List.length e; rw [List.length_append, List.length_nil] at this; omega
  rw [loadD, if_neg hne, cutL_tx h, List.take_left' rfl, List.drop_left' rfl, getF_tx h, gF_tx h, if_pos rfl]
theorem load_put : ∀ (fs : List (P.S41)) (n : Nat) (r : List UInt8), (∀ f ∈ fs, mayF f = true) → fs.length ≤ n → loadD n (fsText fs ++ r) = fs ++ loadD (n - fs.length) r
  | [], n, r, _, _ => by simp [fsText]
  | f :: fs, 0, r, _, h => by simp at h
  | f :: fs, n + 1, r, hm, h => by
    rw [fsText_cons, List.append_assoc, load_cons (hm f (by simp)), load_put fs n r (fun g hg => hm g (by simp [hg])) (by simpa using h), List.length_cons, Nat.add_sub_add_right]
    rfl
theorem load_nil (n : Nat) : loadD n [] = [] := by cases n <;> simp [loadD]
theorem load_all (fs : List (P.S41)) (n : Nat) (hm : ∀ f ∈ fs, mayF f = true) (h : fs.length ≤ n) : loadD n (fsText fs) = fs := by
  have := load_put fs n [] hm h
  rwa [List.append_nil, load_nil, List.append_nil] at this
/-- what was got of a text is told as it -/
theorem gF_is {s : List UInt8} (h : (getF (str s)).2.2.2 = 0) : mayF (gF s) = true ∧ txF (gF s) = s := by
  obtain ⟨o, t, ins, e, hm, hs⟩ := getF_ok h
  unfold gF
  rw [e]
  exact ⟨hm, (str_inj hs).symm⟩
theorem tx_inj {f g : P.S41} (hf : mayF f = true) (hg : mayF g = true) {r r' : List UInt8} (e : txF f ++ r = txF g ++ r') : txF f = txF g := by
  obtain ⟨e1, e2, e3⟩ := found_inj (mayD_small hf).1 (mayD_small hg).1 e
  rw [txF, txF, e1, e2, e3]
theorem load_cut {f : P.S41} (h : mayF f = true) (n : Nat) (r r' : List UInt8) (hr : r ++ r' = txF f) (hne : r' ≠ []) : loadD n r = [] := by
  cases n with
  | zero => rfl
  | succ n =>
    rw [loadD]
    split
    · rfl
    · split
      · rename_i hg
        obtain ⟨hm, ht⟩ := gF_is hg
        exfalso
        have e : txF (gF (r.take (cutL r))) ++ (r.drop (cutL r) ++ r') = txF f ++ [] := by rw [ht, ← List.append_assoc, List.take_append_drop, hr, List.append_nil]
        have e2 := tx_inj hm h e
        have e4 := congrArg List.length e
        have : 0 < r'.length := List.length_pos_iff.2 hne
        rw [e2] at e4
        simp only [List.length_append, List.length_nil] at e4
        omega
      · rfl
theorem load_is : ∀ (n : Nat) (s : List UInt8), (∀ f ∈ loadD n s, mayF f = true) ∧ (loadD n s).length ≤ n ∧ ∃ r, fsText (loadD n s) ++ r = s
  | 0, s => ⟨by simp [loadD], Nat.le_refl _, s, rfl⟩
  | n + 1, s => by
    rw [loadD]
    split
    · exact ⟨by simp, by simp, s, rfl⟩
    · split
      · rename_i hg
        obtain ⟨hm, ht⟩ := gF_is hg
        obtain ⟨h1, h2, r, h3⟩ := load_is n (s.drop (cutL s))
        refine ⟨fun f hf => ?_, by simpa using h2, r, ?_⟩
        · rcases List.mem_cons.1 hf with rfl | hf
          · exact hm
          · exact h1 f hf
        · rw [fsText_cons, ht, List.append_assoc, h3, List.take_append_drop]
      · exact ⟨by simp, by simp, s, rfl⟩
def mayFs (fs : List (P.S41)) : Bool := decide (fs.length ≤ 256) && fs.all mayF
theorem mayFs_all {fs : List (P.S41)} (h : mayFs fs = true) : fs.length ≤ 256 ∧ ∀ f ∈ fs, mayF f = true := by
  simp only [mayFs, Bool.and_eq_true, decide_eq_true_eq] at h
  exact ⟨h.1, List.all_eq_true.1 h.2⟩
theorem mayFs_of {fs : List (P.S41)} (h : fs.length ≤ 256) (h2 : ∀ f ∈ fs, mayF f = true) : mayFs fs = true := by
  simp only [mayFs, Bool.and_eq_true, decide_eq_true_eq]
  exact ⟨h, List.all_eq_true.2 h2⟩
end Go.Proofs.YtkplcmcmpdhigaaDoor.Spec
