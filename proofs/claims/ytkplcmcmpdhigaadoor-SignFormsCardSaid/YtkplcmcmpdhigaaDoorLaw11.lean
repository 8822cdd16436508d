/- Chapter 11's laws without the program. -/
import Derived.Test.YtkplcmcmpdhigaaDoorSign
import Derived.Test.YtkplcmcmpdhigaaDoorP12
import Derived.Test.YtkplcmcmpdhigaaDoorP16
namespace Go.Proofs.YtkplcmcmpdhigaaDoor.Spec
open Go.RowKit Go.Proofs.YtkplcmcmpdhigaaDoorW.PrintWords Go.Proofs.YtkplcmcmpdhigaaDoor.P

theorem sign_bad {o i m r : List ByteArray} {cmd : ByteArray} {dep : Bool} {pool : ByteArray} (h : edgeOk o i m r cmd pool = false) : signD o i m r cmd dep pool = (str [], 1100) := by
  unfold signD
  rw [if_neg (by rw [h]; decide)]
theorem ev_awake11 : Ev (fun k => cruciblelaw11_awake.f k) true := by
  refine Ev.congr (fun k => by rw [cruciblelaw11_awake.f]) ?_
  have s1 : signD [(⟨#[120]⟩ : ByteArray)] [(⟨#[97]⟩ : ByteArray), (⟨#[98]⟩ : ByteArray)] [(⟨#[99]⟩ : ByteArray)] [(⟨#[100]⟩ : ByteArray)] (⟨#[99, 99, 32, 124, 32, 120]⟩ : ByteArray) true (⟨#[]⟩ : ByteArray) = (str [120, 124, 97, 32, 98, 124, 99, 124, 100, 124, 99, 99, 32, 124, 32, 120], 0) := by
    unfold signD
    rw [if_pos (by decide +kernel)]; rfl
  have s2 : signD [] [] [] [] (⟨#[]⟩ : ByteArray) false (⟨#[]⟩ : ByteArray) = (str [], 1100) := sign_bad (by decide +kernel)
  have e1 := ev_Of [(⟨#[120]⟩ : ByteArray)] [(⟨#[97]⟩ : ByteArray), (⟨#[98]⟩ : ByteArray)] [(⟨#[99]⟩ : ByteArray)] [(⟨#[100]⟩ : ByteArray)] (⟨#[99, 99, 32, 124, 32, 120]⟩ : ByteArray) true (⟨#[]⟩ : ByteArray) (by decide) (by decide) (by decide) (by decide) (by decide)
  have e2 := ev_Of [] [] [] [] (⟨#[]⟩ : ByteArray) false (⟨#[]⟩ : ByteArray) (by decide) (by decide) (by decide) (by decide) (by decide)
  rw [s1] at e1
  rw [s2] at e2
  refine ev_bind e1 (ev_bind e2 ?_)
  simp only [str_toList]
  exact ev_pos trivial (ev_bindc rfl (ev_pos rfl (ev_bindc rfl (ev_const rfl))))
theorem ev_bad {o i m r : List ByteArray} {cmd : ByteArray} {pool : ByteArray} (h : edgeOk o i m r cmd pool = false) (ho : o.length ≤ 10) (hi : i.length ≤ 10) (hm : m.length ≤ 10) (hr : r.length ≤ 10) (hc : cmd.size ≤ 1000) :
    Ev (fun k => (sign_Of.f k o i m r cmd false pool).bind fun bt => (if bt.1.toList = ([] : List UInt8) then ((cruciblelaw0_Num.f bt.2).bind fun t => (some (t == 1100))) else (some false))) true := by
  have e := ev_Of o i m r cmd false pool (by omega) (by omega) (by omega) (by omega) (by omega)
  rw [sign_bad h] at e
  refine ev_bind e ?_
  simp only [str_toList]
  exact ev_pos trivial (ev_bindc rfl (ev_const rfl))
/-! ### A sign is its parts -/
theorem ev_Parts1 (xs : List ByteArray) (dep : Bool) (text s : ByteArray) (hx : xs.length ≤ 100) (P0 : List UInt8) (hP : P0.length ≤ 2000) (hT : (joinS [32] (datas xs)).length ≤ 1000) (ht : text.size ≤ 1000)
    (hend : s = str (P0 ++ joinS [32] (datas xs) ++ (124 :: (if dep = true then 100 else 110) :: 124 :: text.data.toList))) : ∀ rest pre : List ByteArray, xs = pre ++ rest →
    Ev (fun k => cruciblelaw11_SignParts.l1 k xs dep text s (str (P0 ++ joinS [32] (datas pre))) (pre.length : Int)) true := by
  intro rest
  induction rest with
  | nil =>
    intro pre h
    rw [List.append_nil] at h
    subst h
    have hz : (str (P0 ++ joinS [32] (datas xs))).size ≤ 3000 := by rw [str_size, List.length_append]; omega
    refine Ev.step (fun k => by rw [cruciblelaw11_SignParts.l1]) (ev_neg (by omega) ?_)
    have k3 : (⟨#[124, 100, 124]⟩ : ByteArray).size = 3 := rfl
    have k4 : (⟨#[124, 110, 124]⟩ : ByteArray).size = 3 := rfl
    cases dep with
    | true =>
      refine ev_pos rfl (ev_pos (by omega) (ev_pos (by rw [append_size]; omega) (ev_const ?_)))
      rw [hend]
      simp [toList_data, str_data]
    | false =>
      refine ev_neg (by simp) (ev_pos (by omega) (ev_pos (by rw [append_size]; omega) (ev_const ?_)))
      rw [hend]
      simp [toList_data, str_data]
  | cons x rest ih =>
    intro pre h
    have hl : xs.length = pre.length + (rest.length + 1) := by rw [h]; simp
    have hr : rdOf ByteArray.empty xs (pre.length : Int) = x := by rw [h]; exact rdOf_pre _ _ _ _
    have hw : wrap64 ((pre.length : Int) + 1) = ((pre ++ [x]).length : Int) := wrap_len pre x (by omega)
    have ih' := ih (pre ++ [x]) (by simp [h])
    have hle : (joinS [32] (datas (pre ++ [x]))).length ≤ 1000 := by
      have := joinS_le [32] (datas (pre ++ [x])) (datas rest)
      have e : datas (pre ++ [x]) ++ datas rest = datas xs := by simp [datas, h]
      rw [e] at this
      omega
    have hz : (str (P0 ++ joinS [32] (datas (pre ++ [x])))).size ≤ 3000 := by rw [str_size, List.length_append]; omega
    refine Ev.step (fun k => by rw [cruciblelaw11_SignParts.l1]) ?_
    simp only [hr, hw]
    refine ev_pos (by omega) ?_
    by_cases hp : pre = []
    · subst hp
      have e : str (P0 ++ joinS [32] (datas [])) ++ x = str (P0 ++ joinS [32] (datas ([] ++ [x]))) := by
        rw [str_eq x _ rfl, str_append]; simp [joinS, datas, str_data]
      have hs : (str (P0 ++ joinS [32] (datas []))).size + x.size ≤ 9223372036854775807 := by rw [← append_size, e]; omega
      refine ev_neg (by simp) (ev_pos (by simp) (ev_pos hs ?_))
      rw [e]
      exact ih'
    · have hpl : 0 < pre.length := List.length_pos_iff.2 hp
      have e1 : datas (pre ++ [x]) = datas pre ++ [x.data.toList] := by simp [datas]
      have e0 := joinS_snoc [32] (datas pre) x.data.toList (by simpa [datas] using hp)
      have e : (str (P0 ++ joinS [32] (datas pre)) ++ (⟨#[32]⟩ : ByteArray)) ++ x = str (P0 ++ joinS [32] (datas (pre ++ [x]))) := by
        rw [e1, e0, str_eq x _ rfl, show (⟨#[32]⟩ : ByteArray) = str [32] from rfl, str_append, str_append]
        simp [str_data]
      have hs : (str (P0 ++ joinS [32] (datas pre)) ++ (⟨#[32]⟩ : ByteArray)).size + x.size ≤ 9223372036854775807 := by rw [← append_size, e]; omega
      have hs1 : (str (P0 ++ joinS [32] (datas pre))).size + 1 ≤ 9223372036854775807 := by
        rw [append_size] at hs
        have : (⟨#[32]⟩ : ByteArray).size = 1 := rfl
        omega
      refine ev_pos (by omega) (ev_pos hs1 (ev_pos (by omega) (ev_pos hs ?_)))
      rw [e]
      exact ih'
theorem ev_Parts0 (xs ys : List ByteArray) (dep : Bool) (text s : ByteArray) (hx : xs.length ≤ 100) (hy : ys.length ≤ 100) (P0 : List UInt8) (hP : P0.length ≤ 900) (hT : (joinS [32] (datas xs)).length ≤ 1000) (hT2 : (joinS [32] (datas ys)).length ≤ 1000) (ht : text.size ≤ 1000)
    (hend : s = str ((P0 ++ joinS [32] (datas xs) ++ [124]) ++ joinS [32] (datas ys) ++ (124 :: (if dep = true then 100 else 110) :: 124 :: text.data.toList))) : ∀ rest pre : List ByteArray, xs = pre ++ rest →
    Ev (fun k => cruciblelaw11_SignParts.l0 k xs ys dep text s (str (P0 ++ joinS [32] (datas pre))) (pre.length : Int)) true := by
  intro rest
  induction rest with
  | nil =>
    intro pre h
    rw [List.append_nil] at h
    subst h
    have hz : (str (P0 ++ joinS [32] (datas xs))).size ≤ 3000 := by rw [str_size, List.length_append]; omega
    refine Ev.step (fun k => by rw [cruciblelaw11_SignParts.l0]) (ev_neg (by omega) ?_)
    refine ev_pos (by omega) ?_
    have e : str (P0 ++ joinS [32] (datas xs)) ++ (⟨#[124]⟩ : ByteArray) = str ((P0 ++ joinS [32] (datas xs) ++ [124]) ++ joinS [32] (datas [])) := by
      rw [show (⟨#[124]⟩ : ByteArray) = str [124] from rfl, str_append]; simp [joinS]
    rw [e]
    exact ev_Parts1 ys dep text s hy _ (by simp; omega) hT2 ht hend ys [] rfl
  | cons x rest ih =>
    intro pre h
    have hl : xs.length = pre.length + (rest.length + 1) := by rw [h]; simp
    have hr : rdOf ByteArray.empty xs (pre.length : Int) = x := by rw [h]; exact rdOf_pre _ _ _ _
    have hw : wrap64 ((pre.length : Int) + 1) = ((pre ++ [x]).length : Int) := wrap_len pre x (by omega)
    have ih' := ih (pre ++ [x]) (by simp [h])
    have hle : (joinS [32] (datas (pre ++ [x]))).length ≤ 1000 := by
      have := joinS_le [32] (datas (pre ++ [x])) (datas rest)
      have e : datas (pre ++ [x]) ++ datas rest = datas xs := by simp [datas, h]
      rw [e] at this
      omega
    have hz : (str (P0 ++ joinS [32] (datas (pre ++ [x])))).size ≤ 3000 := by rw [str_size, List.length_append]; omega
    refine Ev.step (fun k => by rw [cruciblelaw11_SignParts.l0]) ?_
    simp only [hr, hw]
    refine ev_pos (by omega) ?_
    by_cases hp : pre = []
    · subst hp
      have e : str (P0 ++ joinS [32] (datas [])) ++ x = str (P0 ++ joinS [32] (datas ([] ++ [x]))) := by
        rw [str_eq x _ rfl, str_append]; simp [joinS, datas, str_data]
      have hs : (str (P0 ++ joinS [32] (datas []))).size + x.size ≤ 9223372036854775807 := by rw [← append_size, e]; omega
      refine ev_neg (by simp) (ev_pos (by simp) (ev_pos hs ?_))
      rw [e]
      exact ih'
    · have hpl : 0 < pre.length := List.length_pos_iff.2 hp
      have e1 : datas (pre ++ [x]) = datas pre ++ [x.data.toList] := by simp [datas]
      have e0 := joinS_snoc [32] (datas pre) x.data.toList (by simpa [datas] using hp)
      have e : (str (P0 ++ joinS [32] (datas pre)) ++ (⟨#[32]⟩ : ByteArray)) ++ x = str (P0 ++ joinS [32] (datas (pre ++ [x]))) := by
        rw [e1, e0, str_eq x _ rfl, show (⟨#[32]⟩ : ByteArray) = str [32] from rfl, str_append, str_append]
        simp [str_data]
      have hs : (str (P0 ++ joinS [32] (datas pre)) ++ (⟨#[32]⟩ : ByteArray)).size + x.size ≤ 9223372036854775807 := by rw [← append_size, e]; omega
      have hs1 : (str (P0 ++ joinS [32] (datas pre))).size + 1 ≤ 9223372036854775807 := by
        rw [append_size] at hs
        have : (⟨#[32]⟩ : ByteArray).size = 1 := rfl
        omega
      refine ev_pos (by omega) (ev_pos hs1 (ev_pos (by omega) (ev_pos hs ?_)))
      rw [e]
      exact ih'
theorem SignParts (us vs : List ByteArray) (dep : Bool) (text : ByteArray)
    (hb : ((us.map fun s => s.size + 1).sum + 1) + (((vs.map fun s => s.size + 1).sum + 1) + (1 + (text.size + 1))) ≤ 1048576)
    (_ : ∀ x ∈ us, x.size ≤ maxLen) (_ : ∀ x ∈ vs, x.size ≤ maxLen) (_ : text.size ≤ 140737488351232) : ∃ k, cruciblelaw11_SignParts.f k us vs dep text = some true := by
  have hla := sum_len (fun s : ByteArray => s.size) us
  have hlb := sum_len (fun s : ByteArray => s.size) vs
  refine Ev.rounds ?_
  refine Ev.congr (fun k => by rw [cruciblelaw11_SignParts.f]) (ev_bind ev_awake11 (ev_pos rfl (ev_bind (ev_Of [(⟨#[111]⟩ : ByteArray)] us vs [] text dep ⟨#[]⟩ (by simp) (by omega) (by omega) (by simp) (by omega)) ?_)))
  unfold signD
  cases he : edgeOk [(⟨#[111]⟩ : ByteArray)] us vs [] text ⟨#[]⟩ with
  | false =>
    rw [if_neg (by simp)]
    refine ev_bindc rfl (ev_neg (by decide) (ev_const ?_))
    simp only [str_toList]; rfl
  | true =>
    obtain ⟨eo, ei, em, er, e1, ec, ep⟩ := edgeOk_is he
    have ji := join_paths ei
    have jm := join_paths em
    have c256 := cmd_len ec
    have lu := (allP_all ei).2
    have lv := (allP_all em).2
    rw [if_pos rfl]
    refine ev_bindc rfl (ev_pos rfl ?_)
    have := ev_Parts0 us vs dep text (str (signL [(⟨#[111]⟩ : ByteArray)] us vs text dep)) (by omega) (by omega) [111, 124] (by decide) (by omega) (by omega) (by omega) (by simp [signL, joinS, datas]) us [] rfl
    exact this
end Go.Proofs.YtkplcmcmpdhigaaDoor.Spec
