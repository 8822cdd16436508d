/- Chapter 13: the awake call, and lines that are none. -/
import Derived.Test.YtdaddlplpkmkmaaDoorLogline
import Derived.Test.YtdaddlplpkmkmaaDoorP14
namespace Go.Proofs.YtdaddlplpkmkmaaDoor.Spec
open Go.RowKit Go.Proofs.YtdaddlplpkmkmaaDoorW.PrintWords Go.Proofs.YtdaddlplpkmkmaaDoorW.PrintMore Go.Proofs.YtdaddlplpkmkmaaDoor.P

def noR : ByteArray × Int × ByteArray × Int := (str [], 0, str [], 1300)
theorem getR_may {s : ByteArray} (h : mayR (str (pO s.data.toList)) (pT s.data.toList) (str (pG s.data.toList)) = false) : getR s = noR := by
  unfold getR backR
  rw [if_neg (by rw [h]; simp)]
  rfl
theorem getR_tx {s : ByteArray} (h : txR (str (pO s.data.toList)) (pT s.data.toList) (str (pG s.data.toList)) ≠ s.data.toList) : getR s = noR := by
  unfold getR backR
  rw [if_neg (fun e => h e.2)]
  rfl
theorem putR_no {o : ByteArray} {t : Int} {g : ByteArray} (h : mayR o t g = false) : putR o t g = (str [], 1300) := by
  unfold putR
  rw [if_neg (by rw [h]; simp)]
theorem putR_ok {o : ByteArray} {t : Int} {g : ByteArray} (h : mayR o t g = true) : putR o t g = (str (txR o t g), 0) := by
  unfold putR
  rw [if_pos h]
theorem dec258 : Lib.decDigits 258 = [50, 53, 56] := by
  rw [Lib.decDigits, dif_neg (by decide), Lib.decDigits_two (by decide) (by decide)]
  rfl
theorem ev_awake13 : Ev (fun k => cruciblelaw13_awake.f k) true := by
  have m1 : mayR (⟨#[97, 46, 111]⟩ : ByteArray) 258 (⟨#[97, 46, 99, 124, 124, 110, 124, 99, 99, 32, 97]⟩ : ByteArray) = true := by decide +kernel
  have t1 : txR (⟨#[97, 46, 111]⟩ : ByteArray) 258 (⟨#[97, 46, 99, 124, 124, 110, 124, 99, 99, 32, 97]⟩ : ByteArray) = [97, 46, 111, 9, 50, 53, 56, 9, 97, 46, 99, 124, 124, 110, 124, 99, 99, 32, 97, 10] := by
    unfold txR lineL
    rw [show ((258 : Int).toNat) = 258 from rfl, dec258]
    rfl
  have g1 := get_put m1
  have p1 := putR_ok m1
  rw [t1] at g1 p1
  have p2 : putR (⟨#[]⟩ : ByteArray) 0 (⟨#[]⟩ : ByteArray) = (str [], 1300) := putR_no (by decide +kernel)
  have g2 : getR (⟨#[97, 46, 111, 9, 50]⟩ : ByteArray) = noR := getR_may (by decide +kernel)
  have e1 := ev_LPut (⟨#[97, 46, 111]⟩ : ByteArray) 258 (⟨#[97, 46, 99, 124, 124, 110, 124, 99, 99, 32, 97]⟩ : ByteArray) (by decide)
  have e2 := ev_LGet (str [97, 46, 111, 9, 50, 53, 56, 9, 97, 46, 99, 124, 124, 110, 124, 99, 99, 32, 97, 10]) (by decide)
  have e3 := ev_LPut (⟨#[]⟩ : ByteArray) 0 (⟨#[]⟩ : ByteArray) (by decide)
  have e4 := ev_LGet (⟨#[97, 46, 111, 9, 50]⟩ : ByteArray) (by decide)
  rw [p1] at e1
  rw [g1] at e2
  rw [p2] at e3
  rw [g2] at e4
  refine Ev.congr (fun k => by rw [cruciblelaw13_awake.f]) (ev_bind e1 (ev_bind e2 (ev_bind e3 (ev_bind e4 ?_))))
  exact ev_const (by decide +kernel)
end Go.Proofs.YtdaddlplpkmkmaaDoor.Spec
