/- Chapter 11: what every program answers that is one; an edge that may not be. Without the program. -/
import Derived.Test.YtkplcmcmpdhigaaDoorSign
import Derived.Test.YtkplcmcmpdhigaaDoorP12
namespace Go.Proofs.YtkplcmcmpdhigaaDoor.Spec
open Go.RowKit Go.Proofs.YtkplcmcmpdhigaaDoorW.PrintWords Go.Proofs.YtkplcmcmpdhigaaDoor.P

theorem sign_bad {o i m r : List ByteArray} {cmd : ByteArray} {dep : Bool} {pool : ByteArray} (h : edgeOk o i m r cmd pool = false) : signD o i m r cmd dep pool = (str [], 1100) := by
  unfold signD
  rw [if_neg (by rw [h]; decide)]
theorem ev_awake11 : Ev (fun k => cruciblelaw11_awake.f k) true := by
  refine Ev.congr (fun k => by rw [cruciblelaw11_awake.f]) ?_
  have s1 : signD [(⟨#[120]⟩ : ByteArray)] [(⟨#[97]⟩ : ByteArray), (⟨#[98]⟩ : ByteArray)] [(⟨#[99]⟩ : ByteArray)] [(⟨#[100]⟩ : ByteArray)] (⟨#[99, 99, 32, 124, 32, 120]⟩ : ByteArray) true (⟨#[]⟩ : ByteArray) = (str [120, 124, 97, 32, 98, 124, 99, 124, 100, 124, 99, 99, 32, 124, 32, 120], 0) := by
    unfold signD
    rw [if_pos (by decide +kernel)]; rfl
  have s2 : signD [] [] [] [] (⟨#[]⟩ : ByteArray) false (⟨#[]⟩ : ByteArray) = (str [], 1100) := sign_bad (by decide +kernel)
  have e1 := ev_Of [(⟨#[120]⟩ : ByteArray)] [(⟨#[97]⟩ : ByteArray), (⟨#[98]⟩ : ByteArray)] [(⟨#[99]⟩ : ByteArray)] [(⟨#[100]⟩ : ByteArray)] (⟨#[99, 99, 32, 124, 32, 120]⟩ : ByteArray) true (⟨#[]⟩ : ByteArray) (by decide) (by decide) (by decide) (by decide) (by decide)
  have e2 := ev_Of [] [] [] [] (⟨#[]⟩ : ByteArray) false (⟨#[]⟩ : ByteArray) (by decide) (by decide) (by decide) (by decide) (by decide)
  rw [s1] at e1
  rw [s2] at e2
  refine ev_bind e1 (ev_bind e2 ?_)
  simp only [str_toList]
  exact ev_pos trivial (ev_bindc rfl (ev_pos rfl (ev_bindc rfl (ev_const rfl))))
theorem ev_bad {o i m r : List ByteArray} {cmd : ByteArray} {pool : ByteArray} (h : edgeOk o i m r cmd pool = false) (ho : o.length ≤ 10) (hi : i.length ≤ 10) (hm : m.length ≤ 10) (hr : r.length ≤ 10) (hc : cmd.size ≤ 1000) :
    Ev (fun k => (sign_Of.f k o i m r cmd false pool).bind fun bt => (if bt.1.toList = ([] : List UInt8) then ((cruciblelaw0_Num.f bt.2).bind fun t => (some (t == 1100))) else (some false))) true := by
  have e := ev_Of o i m r cmd false pool (by omega) (by omega) (by omega) (by omega) (by omega)
  rw [sign_bad h] at e
  refine ev_bind e ?_
  simp only [str_toList]
  exact ev_pos trivial (ev_bindc rfl (ev_const rfl))
end Go.Proofs.YtkplcmcmpdhigaaDoor.Spec
