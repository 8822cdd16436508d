-- Made by a program of this work's own (wip/myprint.py) over the kit's print; leaves by hand.
import Derived.Test.YtkplcmcmpdhigaaDoorP0
import Derived.Test.YtkplcmcmpdhigaaDoorWRepsOne
import Derived.Test.YtkplcmcmpdhigaaDoorPlus
import Derived.Test.YtkplcmcmpdhigaaDoorP1
import Derived.Test.YtkplcmcmpdhigaaDoorP8
import Derived.Test.YtkplcmcmpdhigaaDoorP11
import Derived.Test.YtkplcmcmpdhigaaDoorP12
namespace Go.Proofs.YtkplcmcmpdhigaaDoor.P
open Go.Proofs.YtkplcmcmpdhigaaDoor.Plus
open Go.RowKit Go.Proofs.YtkplcmcmpdhigaaDoorW.PrintWords Go.Proofs.YtkplcmcmpdhigaaDoorW.PrintLast Go.Proofs.YtkplcmcmpdhigaaDoorW.PrintMore
attribute [local go_sem] max2_int min2_int max_two min_two max_three min_three max_four min_four   -- for this text's walks alone
set_option linter.unusedVariables false
set_option linter.unusedSimpArgs false

/-! ### cruciblelaw11_Signs: function 3 -/
mutual
def cruciblelaw11_Signs.j0 : Nat → ByteArray → Int → ByteArray → Int → Bool → List ByteArray → List ByteArray → List ByteArray → List ByteArray → ByteArray → Bool → ByteArray → List ByteArray → List ByteArray → List ByteArray → List ByteArray → ByteArray → Bool → ByteArray → Option (Bool)
  | 0, _, _, _, _, _, _, _, _, _, _, _, _, _, _, _, _, _, _, _ => none
  | k + 1, x6, x7, x10, x11, x44, x212000, x212001, x212002, x212003, x212004, x212005, x212006, x213000, x213001, x213002, x213003, x213004, x213005, x213006 => if x44 = true then (some false) else ((cruciblelaw0_Num.f x7).bind fun t237 => (if t237 = 0 then ((cruciblelaw0_Num.f x11).bind fun t238 => (cruciblelaw11_Signs.j1 k x6 x10 (t238 != 0) x212000 x212001 x212002 x212003 x212004 x212005 x212006 x213000 x213001 x213002 x213003 x213004 x213005 x213006)) else (cruciblelaw11_Signs.j1 k x6 x10 true x212000 x212001 x212002 x212003 x212004 x212005 x212006 x213000 x213001 x213002 x213003 x213004 x213005 x213006)))
def cruciblelaw11_Signs.j1 : Nat → ByteArray → ByteArray → Bool → List ByteArray → List ByteArray → List ByteArray → List ByteArray → ByteArray → Bool → ByteArray → List ByteArray → List ByteArray → List ByteArray → List ByteArray → ByteArray → Bool → ByteArray → Option (Bool)
  | 0, _, _, _, _, _, _, _, _, _, _, _, _, _, _, _, _, _ => none
  | k + 1, x6, x10, x52, x212000, x212001, x212002, x212003, x212004, x212005, x212006, x213000, x213001, x213002, x213003, x213004, x213005, x213006 => if x52 = true then ((cruciblelaw11_awake.f k).bind fun t239 => (some t239)) else ((cruciblelaw0_SameTexts.f k x212000 x213000).bind fun t240 => (if t240 = true then ((cruciblelaw0_SameTexts.f k x212001 x213001).bind fun t241 => (if t241 = true then ((cruciblelaw0_SameTexts.f k x212002 x213002).bind fun t242 => (if t242 = true then (if (x212005 == x213005) = true then (if ((x6.toList == x10.toList) == (x212004.toList == x213004.toList)) = true then ((cruciblelaw11_awake.f k).bind fun t243 => (some t243)) else (some false)) else (if ((x6.toList == x10.toList) == false) = true then ((cruciblelaw11_awake.f k).bind fun t244 => (some t244)) else (some false))) else (if ((x6.toList == x10.toList) == false) = true then ((cruciblelaw11_awake.f k).bind fun t245 => (some t245)) else (some false)))) else (if ((x6.toList == x10.toList) == false) = true then ((cruciblelaw11_awake.f k).bind fun t246 => (some t246)) else (some false)))) else (if ((x6.toList == x10.toList) == false) = true then ((cruciblelaw11_awake.f k).bind fun t247 => (some t247)) else (some false))))
end
def cruciblelaw11_Signs.f (k : Nat) (l0_0 : List ByteArray) (l0_1 : List ByteArray) (l0_2 : List ByteArray) (l0_3 : List ByteArray) (a0_4 : ByteArray) (a0_5 : Bool) (a0_6 : ByteArray) (l1_0 : List ByteArray) (l1_1 : List ByteArray) (l1_2 : List ByteArray) (l1_3 : List ByteArray) (a1_4 : ByteArray) (a1_5 : Bool) (a1_6 : ByteArray) : Option (Bool) := (cruciblelaw0_CopyEdge.f l0_0 l0_1 l0_2 l0_3 a0_4 a0_5 a0_6).bind fun bt213 => ((sign_Of.f k bt213.1 bt213.2.1 bt213.2.2.1 bt213.2.2.2.1 bt213.2.2.2.2.1 bt213.2.2.2.2.2.1 bt213.2.2.2.2.2.2).bind fun bt229 => ((crucibleref1_Sign.f k l0_0 l0_1 l0_2 l0_3 a0_4 a0_5 a0_6).bind fun bt231 => ((sign_Of.f k l1_0 l1_1 l1_2 l1_3 a1_4 a1_5 a1_6).bind fun bt233 => (if bt229.1.toList = bt231.1.toList then ((cruciblelaw0_Num.f bt229.2).bind fun t235 => (if t235 = bt231.2 then ((cruciblelaw0_SameEdge.f k bt213.1 bt213.2.1 bt213.2.2.1 bt213.2.2.2.1 bt213.2.2.2.2.1 bt213.2.2.2.2.2.1 bt213.2.2.2.2.2.2 l0_0 l0_1 l0_2 l0_3 a0_4 a0_5 a0_6).bind fun t236 => (cruciblelaw11_Signs.j0 k bt229.1 bt229.2 bt233.1 bt233.2 (!t236) l0_0 l0_1 l0_2 l0_3 a0_4 a0_5 a0_6 l1_0 l1_1 l1_2 l1_3 a1_4 a1_5 a1_6)) else (cruciblelaw11_Signs.j0 k bt229.1 bt229.2 bt233.1 bt233.2 true l0_0 l0_1 l0_2 l0_3 a0_4 a0_5 a0_6 l1_0 l1_1 l1_2 l1_3 a1_4 a1_5 a1_6))) else (cruciblelaw11_Signs.j0 k bt229.1 bt229.2 bt233.1 bt233.2 true l0_0 l0_1 l0_2 l0_3 a0_4 a0_5 a0_6 l1_0 l1_1 l1_2 l1_3 a1_4 a1_5 a1_6)))))
theorem cruciblelaw11_Signs.mono_l : ∀ k, (∀ y0 y1 y2 y3 y4 y5 y6 y7 y8 y9 y10 y11 y12 y13 y14 y15 y16 y17 y18, LeO (cruciblelaw11_Signs.j0 k y0 y1 y2 y3 y4 y5 y6 y7 y8 y9 y10 y11 y12 y13 y14 y15 y16 y17 y18) (cruciblelaw11_Signs.j0 (k + 1) y0 y1 y2 y3 y4 y5 y6 y7 y8 y9 y10 y11 y12 y13 y14 y15 y16 y17 y18)) ∧ (∀ y0 y1 y2 y3 y4 y5 y6 y7 y8 y9 y10 y11 y12 y13 y14 y15 y16, LeO (cruciblelaw11_Signs.j1 k y0 y1 y2 y3 y4 y5 y6 y7 y8 y9 y10 y11 y12 y13 y14 y15 y16) (cruciblelaw11_Signs.j1 (k + 1) y0 y1 y2 y3 y4 y5 y6 y7 y8 y9 y10 y11 y12 y13 y14 y15 y16))
  | 0 => ⟨fun _ _ _ _ _ _ _ _ _ _ _ _ _ _ _ _ _ _ _ r h => by simp [cruciblelaw11_Signs.j0] at h, fun _ _ _ _ _ _ _ _ _ _ _ _ _ _ _ _ _ r h => by simp [cruciblelaw11_Signs.j1] at h⟩
  | k + 1 => by
    obtain ⟨ih0, ih1⟩ := cruciblelaw11_Signs.mono_l k
    refine ⟨?_, ?_⟩
    · intro y0 y1 y2 y3 y4 y5 y6 y7 y8 y9 y10 y11 y12 y13 y14 y15 y16 y17 y18
      unfold cruciblelaw11_Signs.j0
      repeat' first
      | (with_reducible exact ih0 _ _ _ _ _ _ _ _ _ _ _ _ _ _ _ _ _ _ _)
      | (with_reducible exact ih1 _ _ _ _ _ _ _ _ _ _ _ _ _ _ _ _ _)
      | (with_reducible exact cruciblelaw0_SameEdge.mono _ _ _ _ _ _ _ _ _ _ _ _ _ _ _)
      | (with_reducible exact cruciblelaw0_SameTexts.mono _ _ _)
      | (with_reducible exact cruciblelaw11_awake.mono _)
      | (with_reducible exact crucibleref1_Sign.mono _ _ _ _ _ _ _ _)
      | (with_reducible exact sign_Of.mono _ _ _ _ _ _ _ _)
      | (with_reducible exact LeO.refl _)
      | (with_reducible exact LeO.none _)
      | (with_reducible refine LeO.ite ?_ ?_)
      | (with_reducible refine LeO.bind ?_ (fun _ => ?_))
      | exact ih0 _ _ _ _ _ _ _ _ _ _ _ _ _ _ _ _ _ _ _
      | exact ih1 _ _ _ _ _ _ _ _ _ _ _ _ _ _ _ _ _
      | exact cruciblelaw0_SameEdge.mono _ _ _ _ _ _ _ _ _ _ _ _ _ _ _
      | exact cruciblelaw0_SameTexts.mono _ _ _
      | exact cruciblelaw11_awake.mono _
      | exact crucibleref1_Sign.mono _ _ _ _ _ _ _ _
      | exact sign_Of.mono _ _ _ _ _ _ _ _
      | exact LeO.none _
      | refine LeO.ite ?_ ?_
      | refine LeO.bind ?_ (fun _ => ?_)
    · intro y0 y1 y2 y3 y4 y5 y6 y7 y8 y9 y10 y11 y12 y13 y14 y15 y16
      unfold cruciblelaw11_Signs.j1
      repeat' first
      | (with_reducible exact ih0 _ _ _ _ _ _ _ _ _ _ _ _ _ _ _ _ _ _ _)
      | (with_reducible exact ih1 _ _ _ _ _ _ _ _ _ _ _ _ _ _ _ _ _)
      | (with_reducible exact cruciblelaw0_SameEdge.mono _ _ _ _ _ _ _ _ _ _ _ _ _ _ _)
      | (with_reducible exact cruciblelaw0_SameTexts.mono _ _ _)
      | (with_reducible exact cruciblelaw11_awake.mono _)
      | (with_reducible exact crucibleref1_Sign.mono _ _ _ _ _ _ _ _)
      | (with_reducible exact sign_Of.mono _ _ _ _ _ _ _ _)
      | (with_reducible exact LeO.refl _)
      | (with_reducible exact LeO.none _)
      | (with_reducible refine LeO.ite ?_ ?_)
      | (with_reducible refine LeO.bind ?_ (fun _ => ?_))
      | exact ih0 _ _ _ _ _ _ _ _ _ _ _ _ _ _ _ _ _ _ _
      | exact ih1 _ _ _ _ _ _ _ _ _ _ _ _ _ _ _ _ _
      | exact cruciblelaw0_SameEdge.mono _ _ _ _ _ _ _ _ _ _ _ _ _ _ _
      | exact cruciblelaw0_SameTexts.mono _ _ _
      | exact cruciblelaw11_awake.mono _
      | exact crucibleref1_Sign.mono _ _ _ _ _ _ _ _
      | exact sign_Of.mono _ _ _ _ _ _ _ _
      | exact LeO.none _
      | refine LeO.ite ?_ ?_
      | refine LeO.bind ?_ (fun _ => ?_)
theorem cruciblelaw11_Signs.mono : ∀ a0 a1 a2 a3 a4 a5 a6 a7 a8 a9 a10 a11 a12 a13 k, LeO (cruciblelaw11_Signs.f k a0 a1 a2 a3 a4 a5 a6 a7 a8 a9 a10 a11 a12 a13) (cruciblelaw11_Signs.f (k + 1) a0 a1 a2 a3 a4 a5 a6 a7 a8 a9 a10 a11 a12 a13) := by
  intro a0 a1 a2 a3 a4 a5 a6 a7 a8 a9 a10 a11 a12 a13 k
  obtain ⟨ih0, ih1⟩ := cruciblelaw11_Signs.mono_l k
  unfold cruciblelaw11_Signs.f
  repeat' first
      | (with_reducible exact ih0 _ _ _ _ _ _ _ _ _ _ _ _ _ _ _ _ _ _ _)
      | (with_reducible exact ih1 _ _ _ _ _ _ _ _ _ _ _ _ _ _ _ _ _)
      | (with_reducible exact cruciblelaw0_SameEdge.mono _ _ _ _ _ _ _ _ _ _ _ _ _ _ _)
      | (with_reducible exact cruciblelaw0_SameTexts.mono _ _ _)
      | (with_reducible exact cruciblelaw11_awake.mono _)
      | (with_reducible exact crucibleref1_Sign.mono _ _ _ _ _ _ _ _)
      | (with_reducible exact sign_Of.mono _ _ _ _ _ _ _ _)
      | (with_reducible exact LeO.refl _)
      | (with_reducible exact LeO.none _)
      | (with_reducible refine LeO.ite ?_ ?_)
      | (with_reducible refine LeO.bind ?_ (fun _ => ?_))
      | exact ih0 _ _ _ _ _ _ _ _ _ _ _ _ _ _ _ _ _ _ _
      | exact ih1 _ _ _ _ _ _ _ _ _ _ _ _ _ _ _ _ _
      | exact cruciblelaw0_SameEdge.mono _ _ _ _ _ _ _ _ _ _ _ _ _ _ _
      | exact cruciblelaw0_SameTexts.mono _ _ _
      | exact cruciblelaw11_awake.mono _
      | exact crucibleref1_Sign.mono _ _ _ _ _ _ _ _
      | exact sign_Of.mono _ _ _ _ _ _ _ _
      | exact LeO.none _
      | refine LeO.ite ?_ ?_
      | refine LeO.bind ?_ (fun _ => ?_)
set_option maxHeartbeats 8000000 in
set_option maxRecDepth 100000 in
theorem cruciblelaw11_Signs.calls (k : Nat) (A0_0 : Option Addr) (c0_0 : Nat) (l0_0 : List ByteArray) (A0_1 : Option Addr) (c0_1 : Nat) (l0_1 : List ByteArray) (A0_2 : Option Addr) (c0_2 : Nat) (l0_2 : List ByteArray) (A0_3 : Option Addr) (c0_3 : Nat) (l0_3 : List ByteArray) (a0_4 : ByteArray) (a0_5 : Bool) (a0_6 : ByteArray) (A1_0 : Option Addr) (c1_0 : Nat) (l1_0 : List ByteArray) (A1_1 : Option Addr) (c1_1 : Nat) (l1_1 : List ByteArray) (A1_2 : Option Addr) (c1_2 : Nat) (l1_2 : List ByteArray) (A1_3 : Option Addr) (c1_3 : Nat) (l1_3 : List ByteArray) (a1_4 : ByteArray) (a1_5 : Bool) (a1_6 : ByteArray) (r : Bool) (w : World) (hr0_0 : Kd.C Kd.string w A0_0 l0_0.length l0_0) (hc0_0 : l0_0.length ≤ c0_0) (hr0_1 : Kd.C Kd.string w A0_1 l0_1.length l0_1) (hc0_1 : l0_1.length ≤ c0_1) (hr0_2 : Kd.C Kd.string w A0_2 l0_2.length l0_2) (hc0_2 : l0_2.length ≤ c0_2) (hr0_3 : Kd.C Kd.string w A0_3 l0_3.length l0_3) (hc0_3 : l0_3.length ≤ c0_3) (hr1_0 : Kd.C Kd.string w A1_0 l1_0.length l1_0) (hc1_0 : l1_0.length ≤ c1_0) (hr1_1 : Kd.C Kd.string w A1_1 l1_1.length l1_1) (hc1_1 : l1_1.length ≤ c1_1) (hr1_2 : Kd.C Kd.string w A1_2 l1_2.length l1_2) (hc1_2 : l1_2.length ≤ c1_2) (hr1_3 : Kd.C Kd.string w A1_3 l1_3.length l1_3) (hc1_3 : l1_3.length ≤ c1_3) (h : cruciblelaw11_Signs.f k l0_0 l0_1 l0_2 l0_3 a0_4 a0_5 a0_6 l1_0 l1_1 l1_2 l1_3 a1_4 a1_5 a1_6 = some r) :
    Calls Tryd.prog 3 #[.agg #[.slice A0_0 l0_0.length c0_0, .slice A0_1 l0_1.length c0_1, .slice A0_2 l0_2.length c0_2, .slice A0_3 l0_3.length c0_3, .string a0_4, .bool a0_5, .string a0_6], .agg #[.slice A1_0 l1_0.length c1_0, .slice A1_1 l1_1.length c1_1, .slice A1_2 l1_2.length c1_2, .slice A1_3 l1_3.length c1_3, .string a1_4, .bool a1_5, .string a1_6]] w fun e w' => e = .returned (.bool r) ∧ Below w.heap.size w w' := by
  have hu24 := Tryd.underlying24
  have HR0_0 := Aside0.mk hr0_0
  have HC0_0 := Aside0.mk hc0_0
  clear hr0_0 hc0_0
  have HR0_1 := Aside0.mk hr0_1
  have HC0_1 := Aside0.mk hc0_1
  clear hr0_1 hc0_1
  have HR0_2 := Aside0.mk hr0_2
  have HC0_2 := Aside0.mk hc0_2
  clear hr0_2 hc0_2
  have HR0_3 := Aside0.mk hr0_3
  have HC0_3 := Aside0.mk hc0_3
  clear hr0_3 hc0_3
  have HR1_0 := Aside0.mk hr1_0
  have HC1_0 := Aside0.mk hc1_0
  clear hr1_0 hc1_0
  have HR1_1 := Aside0.mk hr1_1
  have HC1_1 := Aside0.mk hc1_1
  clear hr1_1 hc1_1
  have HR1_2 := Aside0.mk hr1_2
  have HC1_2 := Aside0.mk hc1_2
  clear hr1_2 hc1_2
  have HR1_3 := Aside0.mk hr1_3
  have HC1_3 := Aside0.mk hc1_3
  clear hr1_3 hc1_3
  have HB := Aside0.mk (Below.refl w.heap.size w)
  have H : ((cruciblelaw0_CopyEdge.f l0_0 l0_1 l0_2 l0_3 a0_4 a0_5 a0_6).bind fun bt213 => ((sign_Of.f k bt213.1 bt213.2.1 bt213.2.2.1 bt213.2.2.2.1 bt213.2.2.2.2.1 bt213.2.2.2.2.2.1 bt213.2.2.2.2.2.2).bind fun bt229 => ((crucibleref1_Sign.f k l0_0 l0_1 l0_2 l0_3 a0_4 a0_5 a0_6).bind fun bt231 => ((sign_Of.f k l1_0 l1_1 l1_2 l1_3 a1_4 a1_5 a1_6).bind fun bt233 => (if bt229.1.toList = bt231.1.toList then ((cruciblelaw0_Num.f bt229.2).bind fun t235 => (if t235 = bt231.2 then ((cruciblelaw0_SameEdge.f k bt213.1 bt213.2.1 bt213.2.2.1 bt213.2.2.2.1 bt213.2.2.2.2.1 bt213.2.2.2.2.2.1 bt213.2.2.2.2.2.2 l0_0 l0_1 l0_2 l0_3 a0_4 a0_5 a0_6).bind fun t236 => (cruciblelaw11_Signs.j0 k bt229.1 bt229.2 bt233.1 bt233.2 (!t236) l0_0 l0_1 l0_2 l0_3 a0_4 a0_5 a0_6 l1_0 l1_1 l1_2 l1_3 a1_4 a1_5 a1_6)) else (cruciblelaw11_Signs.j0 k bt229.1 bt229.2 bt233.1 bt233.2 true l0_0 l0_1 l0_2 l0_3 a0_4 a0_5 a0_6 l1_0 l1_1 l1_2 l1_3 a1_4 a1_5 a1_6))) else (cruciblelaw11_Signs.j0 k bt229.1 bt229.2 bt233.1 bt233.2 true l0_0 l0_1 l0_2 l0_3 a0_4 a0_5 a0_6 l1_0 l1_1 l1_2 l1_3 a1_4 a1_5 a1_6)))))) = some r := h
  clear h
  replace H := Option.bind_eq_some_iff.mp H
  obtain ⟨⟨t213, t216, t219, t222, t225, t226, t227⟩, A30, H⟩ := H
  replace H : ((sign_Of.f k t213 t216 t219 t222 t225 t226 t227).bind fun bt229 => ((crucibleref1_Sign.f k l0_0 l0_1 l0_2 l0_3 a0_4 a0_5 a0_6).bind fun bt231 => ((sign_Of.f k l1_0 l1_1 l1_2 l1_3 a1_4 a1_5 a1_6).bind fun bt233 => (if bt229.1.toList = bt231.1.toList then ((cruciblelaw0_Num.f bt229.2).bind fun t235 => (if t235 = bt231.2 then ((cruciblelaw0_SameEdge.f k t213 t216 t219 t222 t225 t226 t227 l0_0 l0_1 l0_2 l0_3 a0_4 a0_5 a0_6).bind fun t236 => (cruciblelaw11_Signs.j0 k bt229.1 bt229.2 bt233.1 bt233.2 (!t236) l0_0 l0_1 l0_2 l0_3 a0_4 a0_5 a0_6 l1_0 l1_1 l1_2 l1_3 a1_4 a1_5 a1_6)) else (cruciblelaw11_Signs.j0 k bt229.1 bt229.2 bt233.1 bt233.2 true l0_0 l0_1 l0_2 l0_3 a0_4 a0_5 a0_6 l1_0 l1_1 l1_2 l1_3 a1_4 a1_5 a1_6))) else (cruciblelaw11_Signs.j0 k bt229.1 bt229.2 bt233.1 bt233.2 true l0_0 l0_1 l0_2 l0_3 a0_4 a0_5 a0_6 l1_0 l1_1 l1_2 l1_3 a1_4 a1_5 a1_6))))) = some r := H
  have A3 := Aside0.mk A30
  clear A30
  replace H := Option.bind_eq_some_iff.mp H
  obtain ⟨⟨t229, t230⟩, A40, H⟩ := H
  replace H : ((crucibleref1_Sign.f k l0_0 l0_1 l0_2 l0_3 a0_4 a0_5 a0_6).bind fun bt231 => ((sign_Of.f k l1_0 l1_1 l1_2 l1_3 a1_4 a1_5 a1_6).bind fun bt233 => (if t229.toList = bt231.1.toList then ((cruciblelaw0_Num.f t230).bind fun t235 => (if t235 = bt231.2 then ((cruciblelaw0_SameEdge.f k t213 t216 t219 t222 t225 t226 t227 l0_0 l0_1 l0_2 l0_3 a0_4 a0_5 a0_6).bind fun t236 => (cruciblelaw11_Signs.j0 k t229 t230 bt233.1 bt233.2 (!t236) l0_0 l0_1 l0_2 l0_3 a0_4 a0_5 a0_6 l1_0 l1_1 l1_2 l1_3 a1_4 a1_5 a1_6)) else (cruciblelaw11_Signs.j0 k t229 t230 bt233.1 bt233.2 true l0_0 l0_1 l0_2 l0_3 a0_4 a0_5 a0_6 l1_0 l1_1 l1_2 l1_3 a1_4 a1_5 a1_6))) else (cruciblelaw11_Signs.j0 k t229 t230 bt233.1 bt233.2 true l0_0 l0_1 l0_2 l0_3 a0_4 a0_5 a0_6 l1_0 l1_1 l1_2 l1_3 a1_4 a1_5 a1_6)))) = some r := H
  have A4 := Aside0.mk A40
  clear A40
  replace H := Option.bind_eq_some_iff.mp H
  obtain ⟨⟨t231, t232⟩, A50, H⟩ := H
  replace H : ((sign_Of.f k l1_0 l1_1 l1_2 l1_3 a1_4 a1_5 a1_6).bind fun bt233 => (if t229.toList = t231.toList then ((cruciblelaw0_Num.f t230).bind fun t235 => (if t235 = t232 then ((cruciblelaw0_SameEdge.f k t213 t216 t219 t222 t225 t226 t227 l0_0 l0_1 l0_2 l0_3 a0_4 a0_5 a0_6).bind fun t236 => (cruciblelaw11_Signs.j0 k t229 t230 bt233.1 bt233.2 (!t236) l0_0 l0_1 l0_2 l0_3 a0_4 a0_5 a0_6 l1_0 l1_1 l1_2 l1_3 a1_4 a1_5 a1_6)) else (cruciblelaw11_Signs.j0 k t229 t230 bt233.1 bt233.2 true l0_0 l0_1 l0_2 l0_3 a0_4 a0_5 a0_6 l1_0 l1_1 l1_2 l1_3 a1_4 a1_5 a1_6))) else (cruciblelaw11_Signs.j0 k t229 t230 bt233.1 bt233.2 true l0_0 l0_1 l0_2 l0_3 a0_4 a0_5 a0_6 l1_0 l1_1 l1_2 l1_3 a1_4 a1_5 a1_6))) = some r := H
  have A5 := Aside0.mk A50
  clear A50
  replace H := Option.bind_eq_some_iff.mp H
  obtain ⟨⟨t233, t234⟩, A60, H⟩ := H
  replace H : (if t229.toList = t231.toList then ((cruciblelaw0_Num.f t230).bind fun t235 => (if t235 = t232 then ((cruciblelaw0_SameEdge.f k t213 t216 t219 t222 t225 t226 t227 l0_0 l0_1 l0_2 l0_3 a0_4 a0_5 a0_6).bind fun t236 => (cruciblelaw11_Signs.j0 k t229 t230 t233 t234 (!t236) l0_0 l0_1 l0_2 l0_3 a0_4 a0_5 a0_6 l1_0 l1_1 l1_2 l1_3 a1_4 a1_5 a1_6)) else (cruciblelaw11_Signs.j0 k t229 t230 t233 t234 true l0_0 l0_1 l0_2 l0_3 a0_4 a0_5 a0_6 l1_0 l1_1 l1_2 l1_3 a1_4 a1_5 a1_6))) else (cruciblelaw11_Signs.j0 k t229 t230 t233 t234 true l0_0 l0_1 l0_2 l0_3 a0_4 a0_5 a0_6 l1_0 l1_1 l1_2 l1_3 a1_4 a1_5 a1_6)) = some r := H
  have A6 := Aside0.mk A60
  clear A60
  have HC7 := Aside0.mk H
  clear H
  go_enter Tryd.func3, Tryd.ntmps3
  go_upto_region 5 with (first | ((with_reducible refine gate_dst (N := 2) rfl ?_); refine box_event ?hg (N := 2) ?hd (cs := #[.slice A0_0 l0_0.length c0_0, .slice A0_1 l0_1.length c0_1, .slice A0_2 l0_2.length c0_2, .slice A0_3 l0_3.length c0_3, .string a0_4, .bool a0_5, .string a0_6]) (t := 24) ?hr ?_; (case hd => rfl); (case hg => rfl); (case hr => first | (go_simp; done) | (go_simp; rfl)); intro gb211 hg w8 hbox hb; have n0_ := Aside0.mk (below_step (by repeat (first | (with_reducible first | exact HB.out | apply below_alloc | apply pw_below_drewN | apply below_drew1) | exact HB.out)) hb); have n1_ := Aside0.mk (hbox); have n2_ := Aside0.mk ((by rw [hg]; exact (below_size (by repeat (first | (with_reducible first | exact HB.out | apply below_alloc | apply pw_below_drewN | apply below_drew1) | exact HB.out))) : w.heap.size ≤ gb211)); have n3_ := Aside0.mk ((by rw [hg]; exact (below_size (by repeat (first | (with_reducible first | exact HB.out | apply below_alloc | apply pw_below_drewN | apply below_drew1) | exact HB.out))) : w.heap.size ≤ gb211)); clear HB; have HB := n0_; have BK211 := n1_; have GW211 := n2_; have GE211 := n3_; clear n0_ n1_ n2_ n3_; clear hb hbox hg) | ((with_reducible refine gate_dst (N := 3) rfl ?_); refine box_event ?hg (N := 3) ?hd (cs := #[.slice A1_0 l1_0.length c1_0, .slice A1_1 l1_1.length c1_1, .slice A1_2 l1_2.length c1_2, .slice A1_3 l1_3.length c1_3, .string a1_4, .bool a1_5, .string a1_6]) (t := 24) ?hr ?_; (case hd => rfl); (case hg => rfl); (case hr => first | (go_simp; done) | (go_simp; rfl)); intro gb212 hg w9 hbox hb; have n0_ := Aside0.mk (blk_below (g := gb211) (o := .cells #[.slice A0_0 l0_0.length c0_0, .slice A0_1 l0_1.length c0_1, .slice A0_2 l0_2.length c0_2, .slice A0_3 l0_3.length c0_3, .string a0_4, .bool a0_5, .string a0_6] 24 (0, 0)) (by (with_reducible repeat (first | refine blk_drewN ?_ _ | refine blk_drew ?_ | refine blk_alloc ?_ _)); exact BK211.out) hb); have n1_ := Aside0.mk (below_step (by repeat (first | (with_reducible first | exact HB.out | apply below_alloc | apply pw_below_drewN | apply below_drew1 | refine below_set ?_ GE211.out) | exact HB.out)) hb); have n2_ := Aside0.mk (hbox); have n3_ := Aside0.mk ((by rw [hg]; exact (below_size (by repeat (first | (with_reducible first | exact HB.out | apply below_alloc | apply pw_below_drewN | apply below_drew1 | refine below_set ?_ GE211.out) | exact HB.out))) : w.heap.size ≤ gb212)); have n4_ := Aside0.mk ((by rw [hg]; exact (below_size (by repeat (first | (with_reducible first | exact HB.out | apply below_alloc | apply pw_below_drewN | apply below_drew1 | refine below_set ?_ GE211.out) | exact HB.out))) : w.heap.size ≤ gb212)); have n5_ := Aside0.mk ((by rw [hg]; exact Nat.ne_of_lt (blk_lt (g := gb211) (o := .cells #[.slice A0_0 l0_0.length c0_0, .slice A0_1 l0_1.length c0_1, .slice A0_2 l0_2.length c0_2, .slice A0_3 l0_3.length c0_3, .string a0_4, .bool a0_5, .string a0_6] 24 (0, 0)) (by (with_reducible repeat (first | refine blk_drewN ?_ _ | refine blk_drew ?_ | refine blk_alloc ?_ _)); exact BK211.out)) : gb211 ≠ gb212)); have n6_ := Aside0.mk ((by rw [hg]; exact Nat.ne_of_gt (blk_lt (g := gb211) (o := .cells #[.slice A0_0 l0_0.length c0_0, .slice A0_1 l0_1.length c0_1, .slice A0_2 l0_2.length c0_2, .slice A0_3 l0_3.length c0_3, .string a0_4, .bool a0_5, .string a0_6] 24 (0, 0)) (by (with_reducible repeat (first | refine blk_drewN ?_ _ | refine blk_drew ?_ | refine blk_alloc ?_ _)); exact BK211.out)) : gb212 ≠ gb211)); clear BK211; clear HB; have BK211 := n0_; have HB := n1_; have BK212 := n2_; have GW212 := n3_; have GE212 := n4_; have NB211_212 := n5_; have NB212_211 := n6_; clear n0_ n1_ n2_ n3_ n4_ n5_ n6_; clear hb hbox hg; have hnb10 := NB211_212.out; have hnc10 := NB212_211.out; have hcz11_0 : w9.cell? ⟨gb211, 0, none⟩ = some (.slice A0_0 l0_0.length c0_0) := (blk_cell BK211.out 0).trans rfl; have hcz11_1 : w9.cell? ⟨gb211, 1, none⟩ = some (.slice A0_1 l0_1.length c0_1) := (blk_cell BK211.out 1).trans rfl; have hcz11_2 : w9.cell? ⟨gb211, 2, none⟩ = some (.slice A0_2 l0_2.length c0_2) := (blk_cell BK211.out 2).trans rfl; have hcz11_3 : w9.cell? ⟨gb211, 3, none⟩ = some (.slice A0_3 l0_3.length c0_3) := (blk_cell BK211.out 3).trans rfl; have hcz11_4 : w9.cell? ⟨gb211, 4, none⟩ = some (.string a0_4) := (blk_cell BK211.out 4).trans rfl; have hcz11_5 : w9.cell? ⟨gb211, 5, none⟩ = some (.bool a0_5) := (blk_cell BK211.out 5).trans rfl; have hcz11_6 : w9.cell? ⟨gb211, 6, none⟩ = some (.string a0_6) := (blk_cell BK211.out 6).trans rfl; have hfz11_0 := blk_frozen BK211.out 0; have hfz11_1 := blk_frozen BK211.out 1; have hfz11_2 := blk_frozen BK211.out 2; have hfz11_3 := blk_frozen BK211.out 3; have hfz11_4 := blk_frozen BK211.out 4; have hfz11_5 := blk_frozen BK211.out 5; have hfz11_6 := blk_frozen BK211.out 6) | ((with_reducible refine gate_callee (f := 19) rfl ?_); refine goesL_ (some 14) rfl rfl Tryd.func19 (by kernel_rfl) rfl #[.agg #[.slice A0_0 l0_0.length c0_0, .slice A0_1 l0_1.length c0_1, .slice A0_2 l0_2.length c0_2, .slice A0_3 l0_3.length c0_3, .string a0_4, .bool a0_5, .string a0_6]] rfl (by (try simp only [List.map_toArray, List.map_cons, List.map_nil]); first | done | rfl | (simp only [List.length_drop, List.length_take]; rfl)) ?_; (with_reducible refine (cruciblelaw0_CopyEdge.calls _ _ l0_0 _ _ l0_1 _ _ l0_2 _ _ l0_3 a0_4 a0_5 a0_6 t213 t216 t219 t222 t225 t226 t227 _ ?side1 ?side2 ?side3 ?side4 ?side5 ?side6 ?side7 ?side8 A3.out).mono ?_); (case side1 => repeat (first | exact (Kd.C_below HR0_0.out HB.out) | (with_reducible refine Kd.C_alloc ?_ _) | (with_reducible refine Kd.C_drewN ?_ _) | (with_reducible refine Kd.C_drew ?_))); (case side2 => exact HC0_0.out); (case side3 => repeat (first | exact (Kd.C_below HR0_1.out HB.out) | (with_reducible refine Kd.C_alloc ?_ _) | (with_reducible refine Kd.C_drewN ?_ _) | (with_reducible refine Kd.C_drew ?_))); (case side4 => exact HC0_1.out); (case side5 => repeat (first | exact (Kd.C_below HR0_2.out HB.out) | (with_reducible refine Kd.C_alloc ?_ _) | (with_reducible refine Kd.C_drewN ?_ _) | (with_reducible refine Kd.C_drew ?_))); (case side6 => exact HC0_2.out); (case side7 => repeat (first | exact (Kd.C_below HR0_3.out HB.out) | (with_reducible refine Kd.C_alloc ?_ _) | (with_reducible refine Kd.C_drewN ?_ _) | (with_reducible refine Kd.C_drew ?_))); (case side8 => exact HC0_3.out); rintro e w12 ⟨v214, v217, v220, v223, rfl, ho0, ho1, ho2, ho3, hb⟩; refine ⟨_, rfl, ?_⟩; have n0_ := Aside0.mk (Kd.R_lower ho0 (below_size (by repeat (first | (with_reducible first | exact HB.out | apply below_alloc | apply pw_below_drewN | apply below_drew1 | refine below_set ?_ GE211.out | refine below_set ?_ GE212.out) | exact HB.out)))); have n1_ := Aside0.mk (Kd.R_lower ho1 (below_size (by repeat (first | (with_reducible first | exact HB.out | apply below_alloc | apply pw_below_drewN | apply below_drew1 | refine below_set ?_ GE211.out | refine below_set ?_ GE212.out) | exact HB.out)))); have n2_ := Aside0.mk (Kd.R_lower ho2 (below_size (by repeat (first | (with_reducible first | exact HB.out | apply below_alloc | apply pw_below_drewN | apply below_drew1 | refine below_set ?_ GE211.out | refine below_set ?_ GE212.out) | exact HB.out)))); have n3_ := Aside0.mk (Kd.R_lower ho3 (below_size (by repeat (first | (with_reducible first | exact HB.out | apply below_alloc | apply pw_below_drewN | apply below_drew1 | refine below_set ?_ GE211.out | refine below_set ?_ GE212.out) | exact HB.out)))); have n4_ := Aside0.mk (blk_below (g := gb211) (o := .cells #[.slice A0_0 l0_0.length c0_0, .slice A0_1 l0_1.length c0_1, .slice A0_2 l0_2.length c0_2, .slice A0_3 l0_3.length c0_3, .string a0_4, .bool a0_5, .string a0_6] 24 (0, 0)) (by (with_reducible repeat (first | refine blk_drewN ?_ _ | refine blk_drew ?_ | refine blk_alloc ?_ _)); exact BK211.out) hb); have n5_ := Aside0.mk (blk_below (g := gb212) (o := .cells #[.slice A1_0 l1_0.length c1_0, .slice A1_1 l1_1.length c1_1, .slice A1_2 l1_2.length c1_2, .slice A1_3 l1_3.length c1_3, .string a1_4, .bool a1_5, .string a1_6] 24 (0, 0)) (by (with_reducible repeat (first | refine blk_drewN ?_ _ | refine blk_drew ?_ | refine blk_alloc ?_ _)); exact BK212.out) hb); have n6_ := Aside0.mk (below_step (by repeat (first | (with_reducible first | exact HB.out | apply below_alloc | apply pw_below_drewN | apply below_drew1 | refine below_set ?_ GE211.out | refine below_set ?_ GE212.out) | exact HB.out)) hb); clear BK211; clear BK212; clear HB; have HO215 := n0_; have HO218 := n1_; have HO221 := n2_; have HO224 := n3_; have BK211 := n4_; have BK212 := n5_; have HB := n6_; clear n0_ n1_ n2_ n3_ n4_ n5_ n6_; (try clear hb); (try clear hb2); (try clear hk); (try clear hi); (try clear ho0); (try clear ho1); (try clear ho2); (try clear ho3)) | ((with_reducible refine gate_dst (N := 5) rfl ?_); refine box_event ?hg (N := 5) ?hd (cs := #[.slice none 0 0, .slice none 0 0, .slice none 0 0, .slice none 0 0, .string (⟨#[]⟩ : ByteArray), .bool false, .string (⟨#[]⟩ : ByteArray)]) (t := 24) ?hr ?_; (case hd => rfl); (case hg => rfl); (case hr => first | (go_simp; done) | (go_simp; rfl)); intro gb228 hg w13 hbox hb; have n0_ := Aside0.mk (Kd.R_below (by (with_reducible repeat (first | apply Kd.R_alloc | apply Kd.R_drewN | apply Kd.R_drew)); exact HO215.out) hb); have n1_ := Aside0.mk (Kd.R_below (by (with_reducible repeat (first | apply Kd.R_alloc | apply Kd.R_drewN | apply Kd.R_drew)); exact HO218.out) hb); have n2_ := Aside0.mk (Kd.R_below (by (with_reducible repeat (first | apply Kd.R_alloc | apply Kd.R_drewN | apply Kd.R_drew)); exact HO221.out) hb); have n3_ := Aside0.mk (Kd.R_below (by (with_reducible repeat (first | apply Kd.R_alloc | apply Kd.R_drewN | apply Kd.R_drew)); exact HO224.out) hb); have n4_ := Aside0.mk (blk_below (g := gb211) (o := .cells #[.slice A0_0 l0_0.length c0_0, .slice A0_1 l0_1.length c0_1, .slice A0_2 l0_2.length c0_2, .slice A0_3 l0_3.length c0_3, .string a0_4, .bool a0_5, .string a0_6] 24 (0, 0)) (by (with_reducible repeat (first | refine blk_drewN ?_ _ | refine blk_drew ?_ | refine blk_alloc ?_ _)); exact BK211.out) hb); have n5_ := Aside0.mk (blk_below (g := gb212) (o := .cells #[.slice A1_0 l1_0.length c1_0, .slice A1_1 l1_1.length c1_1, .slice A1_2 l1_2.length c1_2, .slice A1_3 l1_3.length c1_3, .string a1_4, .bool a1_5, .string a1_6] 24 (0, 0)) (by (with_reducible repeat (first | refine blk_drewN ?_ _ | refine blk_drew ?_ | refine blk_alloc ?_ _)); exact BK212.out) hb); have n6_ := Aside0.mk (below_step (by repeat (first | (with_reducible first | exact HB.out | apply below_alloc | apply pw_below_drewN | apply below_drew1 | refine below_set ?_ GE211.out | refine below_set ?_ GE212.out) | exact HB.out)) hb); have n7_ := Aside0.mk (hbox); have n8_ := Aside0.mk ((by rw [hg]; exact (below_size (by repeat (first | (with_reducible first | exact HB.out | apply below_alloc | apply pw_below_drewN | apply below_drew1 | refine below_set ?_ GE211.out | refine below_set ?_ GE212.out) | exact HB.out))) : w.heap.size ≤ gb228)); have n9_ := Aside0.mk ((by rw [hg]; exact (below_size (by repeat (first | (with_reducible first | exact HB.out | apply below_alloc | apply pw_below_drewN | apply below_drew1 | refine below_set ?_ GE211.out | refine below_set ?_ GE212.out) | exact HB.out))) : w.heap.size ≤ gb228)); have n10_ := Aside0.mk ((by rw [hg]; exact Nat.ne_of_lt (blk_lt (g := gb211) (o := .cells #[.slice A0_0 l0_0.length c0_0, .slice A0_1 l0_1.length c0_1, .slice A0_2 l0_2.length c0_2, .slice A0_3 l0_3.length c0_3, .string a0_4, .bool a0_5, .string a0_6] 24 (0, 0)) (by (with_reducible repeat (first | refine blk_drewN ?_ _ | refine blk_drew ?_ | refine blk_alloc ?_ _)); exact BK211.out)) : gb211 ≠ gb228)); have n11_ := Aside0.mk ((by rw [hg]; exact Nat.ne_of_gt (blk_lt (g := gb211) (o := .cells #[.slice A0_0 l0_0.length c0_0, .slice A0_1 l0_1.length c0_1, .slice A0_2 l0_2.length c0_2, .slice A0_3 l0_3.length c0_3, .string a0_4, .bool a0_5, .string a0_6] 24 (0, 0)) (by (with_reducible repeat (first | refine blk_drewN ?_ _ | refine blk_drew ?_ | refine blk_alloc ?_ _)); exact BK211.out)) : gb228 ≠ gb211)); have n12_ := Aside0.mk ((by rw [hg]; exact Nat.ne_of_lt (blk_lt (g := gb212) (o := .cells #[.slice A1_0 l1_0.length c1_0, .slice A1_1 l1_1.length c1_1, .slice A1_2 l1_2.length c1_2, .slice A1_3 l1_3.length c1_3, .string a1_4, .bool a1_5, .string a1_6] 24 (0, 0)) (by (with_reducible repeat (first | refine blk_drewN ?_ _ | refine blk_drew ?_ | refine blk_alloc ?_ _)); exact BK212.out)) : gb212 ≠ gb228)); have n13_ := Aside0.mk ((by rw [hg]; exact Nat.ne_of_gt (blk_lt (g := gb212) (o := .cells #[.slice A1_0 l1_0.length c1_0, .slice A1_1 l1_1.length c1_1, .slice A1_2 l1_2.length c1_2, .slice A1_3 l1_3.length c1_3, .string a1_4, .bool a1_5, .string a1_6] 24 (0, 0)) (by (with_reducible repeat (first | refine blk_drewN ?_ _ | refine blk_drew ?_ | refine blk_alloc ?_ _)); exact BK212.out)) : gb228 ≠ gb212)); clear HO215; clear HO218; clear HO221; clear HO224; clear BK211; clear BK212; clear HB; have HO215 := n0_; have HO218 := n1_; have HO221 := n2_; have HO224 := n3_; have BK211 := n4_; have BK212 := n5_; have HB := n6_; have BK228 := n7_; have GW228 := n8_; have GE228 := n9_; have NB211_228 := n10_; have NB228_211 := n11_; have NB212_228 := n12_; have NB228_212 := n13_; clear n0_ n1_ n2_ n3_ n4_ n5_ n6_ n7_ n8_ n9_ n10_ n11_ n12_ n13_; clear hb hbox hg; obtain ⟨Ao14, co14, eo14⟩ := Kd.R_slice HO215.out; subst eo14; have hnb15 := NB228_211.out; have hnc15 := NB211_228.out; have hnb16 := NB228_212.out; have hnc16 := NB212_228.out; have hcz17_0 : w13.cell? ⟨gb228, 0, none⟩ = some (.slice none 0 0) := (blk_cell BK228.out 0).trans rfl; have hcz17_1 : w13.cell? ⟨gb228, 1, none⟩ = some (.slice none 0 0) := (blk_cell BK228.out 1).trans rfl; have hcz17_2 : w13.cell? ⟨gb228, 2, none⟩ = some (.slice none 0 0) := (blk_cell BK228.out 2).trans rfl; have hcz17_3 : w13.cell? ⟨gb228, 3, none⟩ = some (.slice none 0 0) := (blk_cell BK228.out 3).trans rfl; have hcz17_4 : w13.cell? ⟨gb228, 4, none⟩ = some (.string (⟨#[]⟩ : ByteArray)) := (blk_cell BK228.out 4).trans rfl; have hcz17_5 : w13.cell? ⟨gb228, 5, none⟩ = some (.bool false) := (blk_cell BK228.out 5).trans rfl; have hcz17_6 : w13.cell? ⟨gb228, 6, none⟩ = some (.string (⟨#[]⟩ : ByteArray)) := (blk_cell BK228.out 6).trans rfl; have hfz17_0 := blk_frozen BK228.out 0; have hfz17_1 := blk_frozen BK228.out 1; have hfz17_2 := blk_frozen BK228.out 2; have hfz17_3 := blk_frozen BK228.out 3; have hfz17_4 := blk_frozen BK228.out 4; have hfz17_5 := blk_frozen BK228.out 5; have hfz17_6 := blk_frozen BK228.out 6; obtain ⟨Ao18, co18, eo18⟩ := Kd.R_slice HO218.out; subst eo18; obtain ⟨Ao19, co19, eo19⟩ := Kd.R_slice HO221.out; subst eo19; obtain ⟨Ao20, co20, eo20⟩ := Kd.R_slice HO224.out; subst eo20) | ((with_reducible refine gate_callee (f := 20) rfl ?_); refine goesL_ (some 17) rfl rfl Tryd.func20 (by kernel_rfl) rfl #[.agg #[.slice Ao14 t213.length co14, .slice Ao18 t216.length co18, .slice Ao19 t219.length co19, .slice Ao20 t222.length co20, .string t225, .bool t226, .string t227]] rfl (by (try simp only [List.map_toArray, List.map_cons, List.map_nil]); first | done | rfl | (simp only [List.length_drop, List.length_take]; rfl)) ?_; (with_reducible refine (sign_Of.calls k _ _ t213 _ _ t216 _ _ t219 _ _ t222 t225 t226 t227 t229 t230 _ ?side1 ?side2 ?side3 ?side4 ?side5 ?side6 ?side7 ?side8 A4.out).mono ?_); (case side1 => refine (Kd.R_reads' (e := 9) (base := w.heap.size) (ok := fun k_ => (some k_ ≠ (.slice Ao18 t216.length co18 : Value).ownBlock ∧ (some k_ ≠ (.slice Ao19 t219.length co19 : Value).ownBlock ∧ some k_ ≠ (.slice Ao20 t222.length co20 : Value).ownBlock))) (n := t213.length) (c := co14) ?_).2.2; exact (by (with_reducible repeat (first | apply Kd.R_alloc | apply Kd.R_drewN | apply Kd.R_drew)); exact (Kd.R_mono (Kd.R_far (p := ⟨gb228, 6, none⟩) (Kd.R_far (p := ⟨gb228, 5, none⟩) (Kd.R_far (p := ⟨gb228, 4, none⟩) (Kd.R_far (p := ⟨gb228, 3, none⟩) (Kd.R_far (p := ⟨gb228, 2, none⟩) (Kd.R_far (p := ⟨gb228, 1, none⟩) (Kd.R_far (p := ⟨gb228, 0, none⟩) (Kd.R_types HO215.out BK228.out (by decide)) (fun _ hk => hk.2) (.slice Ao14 t213.length co14)) (fun _ hk => hk.2) (.slice Ao18 t216.length co18)) (fun _ hk => hk.2) (.slice Ao19 t219.length co19)) (fun _ hk => hk.2) (.slice Ao20 t222.length co20)) (fun _ hk => hk.2) (.string t225)) (fun _ hk => hk.2) (.bool t226)) (fun _ hk => hk.2) (.string t227)) (fun _ h_ => h_.1)))); (case side2 => exact (Kd.R_reads' HO215.out).2.1); (case side3 => refine (Kd.R_reads' (e := 9) (base := w.heap.size) (ok := fun k_ => (some k_ ≠ (.slice Ao14 t213.length co14 : Value).ownBlock ∧ (some k_ ≠ (.slice Ao19 t219.length co19 : Value).ownBlock ∧ some k_ ≠ (.slice Ao20 t222.length co20 : Value).ownBlock))) (n := t216.length) (c := co18) ?_).2.2; exact (by (with_reducible repeat (first | apply Kd.R_alloc | apply Kd.R_drewN | apply Kd.R_drew)); exact (Kd.R_mono (Kd.R_far (p := ⟨gb228, 6, none⟩) (Kd.R_far (p := ⟨gb228, 5, none⟩) (Kd.R_far (p := ⟨gb228, 4, none⟩) (Kd.R_far (p := ⟨gb228, 3, none⟩) (Kd.R_far (p := ⟨gb228, 2, none⟩) (Kd.R_far (p := ⟨gb228, 1, none⟩) (Kd.R_far (p := ⟨gb228, 0, none⟩) (Kd.R_types HO218.out BK228.out (by decide)) (fun _ hk => hk.2) (.slice Ao14 t213.length co14)) (fun _ hk => hk.2) (.slice Ao18 t216.length co18)) (fun _ hk => hk.2) (.slice Ao19 t219.length co19)) (fun _ hk => hk.2) (.slice Ao20 t222.length co20)) (fun _ hk => hk.2) (.string t225)) (fun _ hk => hk.2) (.bool t226)) (fun _ hk => hk.2) (.string t227)) (fun _ h_ => h_.1)))); (case side4 => exact (Kd.R_reads' HO218.out).2.1); (case side5 => refine (Kd.R_reads' (e := 9) (base := w.heap.size) (ok := fun k_ => (some k_ ≠ (.slice Ao14 t213.length co14 : Value).ownBlock ∧ (some k_ ≠ (.slice Ao18 t216.length co18 : Value).ownBlock ∧ some k_ ≠ (.slice Ao20 t222.length co20 : Value).ownBlock))) (n := t219.length) (c := co19) ?_).2.2; exact (by (with_reducible repeat (first | apply Kd.R_alloc | apply Kd.R_drewN | apply Kd.R_drew)); exact (Kd.R_mono (Kd.R_far (p := ⟨gb228, 6, none⟩) (Kd.R_far (p := ⟨gb228, 5, none⟩) (Kd.R_far (p := ⟨gb228, 4, none⟩) (Kd.R_far (p := ⟨gb228, 3, none⟩) (Kd.R_far (p := ⟨gb228, 2, none⟩) (Kd.R_far (p := ⟨gb228, 1, none⟩) (Kd.R_far (p := ⟨gb228, 0, none⟩) (Kd.R_types HO221.out BK228.out (by decide)) (fun _ hk => hk.2) (.slice Ao14 t213.length co14)) (fun _ hk => hk.2) (.slice Ao18 t216.length co18)) (fun _ hk => hk.2) (.slice Ao19 t219.length co19)) (fun _ hk => hk.2) (.slice Ao20 t222.length co20)) (fun _ hk => hk.2) (.string t225)) (fun _ hk => hk.2) (.bool t226)) (fun _ hk => hk.2) (.string t227)) (fun _ h_ => h_.1)))); (case side6 => exact (Kd.R_reads' HO221.out).2.1); (case side7 => refine (Kd.R_reads' (e := 9) (base := w.heap.size) (ok := fun k_ => (some k_ ≠ (.slice Ao14 t213.length co14 : Value).ownBlock ∧ (some k_ ≠ (.slice Ao18 t216.length co18 : Value).ownBlock ∧ some k_ ≠ (.slice Ao19 t219.length co19 : Value).ownBlock))) (n := t222.length) (c := co20) ?_).2.2; exact (by (with_reducible repeat (first | apply Kd.R_alloc | apply Kd.R_drewN | apply Kd.R_drew)); exact (Kd.R_mono (Kd.R_far (p := ⟨gb228, 6, none⟩) (Kd.R_far (p := ⟨gb228, 5, none⟩) (Kd.R_far (p := ⟨gb228, 4, none⟩) (Kd.R_far (p := ⟨gb228, 3, none⟩) (Kd.R_far (p := ⟨gb228, 2, none⟩) (Kd.R_far (p := ⟨gb228, 1, none⟩) (Kd.R_far (p := ⟨gb228, 0, none⟩) (Kd.R_types HO224.out BK228.out (by decide)) (fun _ hk => hk.2) (.slice Ao14 t213.length co14)) (fun _ hk => hk.2) (.slice Ao18 t216.length co18)) (fun _ hk => hk.2) (.slice Ao19 t219.length co19)) (fun _ hk => hk.2) (.slice Ao20 t222.length co20)) (fun _ hk => hk.2) (.string t225)) (fun _ hk => hk.2) (.bool t226)) (fun _ hk => hk.2) (.string t227)) (fun _ h_ => h_.1)))); (case side8 => exact (Kd.R_reads' HO224.out).2.1); rintro e w21 ⟨rfl, hb⟩; refine ⟨_, rfl, ?_⟩; have n0_ := Aside0.mk (Kd.R_below (by (with_reducible repeat (first | apply Kd.R_alloc | apply Kd.R_drewN | apply Kd.R_drew)); exact (Kd.R_mono (Kd.R_far (p := ⟨gb228, 6, none⟩) (Kd.R_far (p := ⟨gb228, 5, none⟩) (Kd.R_far (p := ⟨gb228, 4, none⟩) (Kd.R_far (p := ⟨gb228, 3, none⟩) (Kd.R_far (p := ⟨gb228, 2, none⟩) (Kd.R_far (p := ⟨gb228, 1, none⟩) (Kd.R_far (p := ⟨gb228, 0, none⟩) (Kd.R_types HO215.out BK228.out (by decide)) (fun _ hk => hk.2) (.slice Ao14 t213.length co14)) (fun _ hk => hk.2) (.slice Ao18 t216.length co18)) (fun _ hk => hk.2) (.slice Ao19 t219.length co19)) (fun _ hk => hk.2) (.slice Ao20 t222.length co20)) (fun _ hk => hk.2) (.string t225)) (fun _ hk => hk.2) (.bool t226)) (fun _ hk => hk.2) (.string t227)) (fun _ h_ => h_.1))) hb); have n1_ := Aside0.mk (Kd.R_below (by (with_reducible repeat (first | apply Kd.R_alloc | apply Kd.R_drewN | apply Kd.R_drew)); exact (Kd.R_mono (Kd.R_far (p := ⟨gb228, 6, none⟩) (Kd.R_far (p := ⟨gb228, 5, none⟩) (Kd.R_far (p := ⟨gb228, 4, none⟩) (Kd.R_far (p := ⟨gb228, 3, none⟩) (Kd.R_far (p := ⟨gb228, 2, none⟩) (Kd.R_far (p := ⟨gb228, 1, none⟩) (Kd.R_far (p := ⟨gb228, 0, none⟩) (Kd.R_types HO218.out BK228.out (by decide)) (fun _ hk => hk.2) (.slice Ao14 t213.length co14)) (fun _ hk => hk.2) (.slice Ao18 t216.length co18)) (fun _ hk => hk.2) (.slice Ao19 t219.length co19)) (fun _ hk => hk.2) (.slice Ao20 t222.length co20)) (fun _ hk => hk.2) (.string t225)) (fun _ hk => hk.2) (.bool t226)) (fun _ hk => hk.2) (.string t227)) (fun _ h_ => h_.1))) hb); have n2_ := Aside0.mk (Kd.R_below (by (with_reducible repeat (first | apply Kd.R_alloc | apply Kd.R_drewN | apply Kd.R_drew)); exact (Kd.R_mono (Kd.R_far (p := ⟨gb228, 6, none⟩) (Kd.R_far (p := ⟨gb228, 5, none⟩) (Kd.R_far (p := ⟨gb228, 4, none⟩) (Kd.R_far (p := ⟨gb228, 3, none⟩) (Kd.R_far (p := ⟨gb228, 2, none⟩) (Kd.R_far (p := ⟨gb228, 1, none⟩) (Kd.R_far (p := ⟨gb228, 0, none⟩) (Kd.R_types HO221.out BK228.out (by decide)) (fun _ hk => hk.2) (.slice Ao14 t213.length co14)) (fun _ hk => hk.2) (.slice Ao18 t216.length co18)) (fun _ hk => hk.2) (.slice Ao19 t219.length co19)) (fun _ hk => hk.2) (.slice Ao20 t222.length co20)) (fun _ hk => hk.2) (.string t225)) (fun _ hk => hk.2) (.bool t226)) (fun _ hk => hk.2) (.string t227)) (fun _ h_ => h_.1))) hb); have n3_ := Aside0.mk (Kd.R_below (by (with_reducible repeat (first | apply Kd.R_alloc | apply Kd.R_drewN | apply Kd.R_drew)); exact (Kd.R_mono (Kd.R_far (p := ⟨gb228, 6, none⟩) (Kd.R_far (p := ⟨gb228, 5, none⟩) (Kd.R_far (p := ⟨gb228, 4, none⟩) (Kd.R_far (p := ⟨gb228, 3, none⟩) (Kd.R_far (p := ⟨gb228, 2, none⟩) (Kd.R_far (p := ⟨gb228, 1, none⟩) (Kd.R_far (p := ⟨gb228, 0, none⟩) (Kd.R_types HO224.out BK228.out (by decide)) (fun _ hk => hk.2) (.slice Ao14 t213.length co14)) (fun _ hk => hk.2) (.slice Ao18 t216.length co18)) (fun _ hk => hk.2) (.slice Ao19 t219.length co19)) (fun _ hk => hk.2) (.slice Ao20 t222.length co20)) (fun _ hk => hk.2) (.string t225)) (fun _ hk => hk.2) (.bool t226)) (fun _ hk => hk.2) (.string t227)) (fun _ h_ => h_.1))) hb); have n4_ := Aside0.mk (blk_below (g := gb211) (o := .cells #[.slice A0_0 l0_0.length c0_0, .slice A0_1 l0_1.length c0_1, .slice A0_2 l0_2.length c0_2, .slice A0_3 l0_3.length c0_3, .string a0_4, .bool a0_5, .string a0_6] 24 (0, 0)) (by (with_reducible repeat (first | refine blk_drewN ?_ _ | refine blk_drew ?_ | refine blk_alloc ?_ _)); refine blk_far ?_ NB211_228.out _; (with_reducible repeat (first | refine blk_drewN ?_ _ | refine blk_drew ?_ | refine blk_alloc ?_ _)); refine blk_far ?_ NB211_228.out _; (with_reducible repeat (first | refine blk_drewN ?_ _ | refine blk_drew ?_ | refine blk_alloc ?_ _)); refine blk_far ?_ NB211_228.out _; (with_reducible repeat (first | refine blk_drewN ?_ _ | refine blk_drew ?_ | refine blk_alloc ?_ _)); refine blk_far ?_ NB211_228.out _; (with_reducible repeat (first | refine blk_drewN ?_ _ | refine blk_drew ?_ | refine blk_alloc ?_ _)); refine blk_far ?_ NB211_228.out _; (with_reducible repeat (first | refine blk_drewN ?_ _ | refine blk_drew ?_ | refine blk_alloc ?_ _)); refine blk_far ?_ NB211_228.out _; (with_reducible repeat (first | refine blk_drewN ?_ _ | refine blk_drew ?_ | refine blk_alloc ?_ _)); refine blk_far ?_ NB211_228.out _; (with_reducible repeat (first | refine blk_drewN ?_ _ | refine blk_drew ?_ | refine blk_alloc ?_ _)); exact BK211.out) hb); have n5_ := Aside0.mk (blk_below (g := gb212) (o := .cells #[.slice A1_0 l1_0.length c1_0, .slice A1_1 l1_1.length c1_1, .slice A1_2 l1_2.length c1_2, .slice A1_3 l1_3.length c1_3, .string a1_4, .bool a1_5, .string a1_6] 24 (0, 0)) (by (with_reducible repeat (first | refine blk_drewN ?_ _ | refine blk_drew ?_ | refine blk_alloc ?_ _)); refine blk_far ?_ NB212_228.out _; (with_reducible repeat (first | refine blk_drewN ?_ _ | refine blk_drew ?_ | refine blk_alloc ?_ _)); refine blk_far ?_ NB212_228.out _; (with_reducible repeat (first | refine blk_drewN ?_ _ | refine blk_drew ?_ | refine blk_alloc ?_ _)); refine blk_far ?_ NB212_228.out _; (with_reducible repeat (first | refine blk_drewN ?_ _ | refine blk_drew ?_ | refine blk_alloc ?_ _)); refine blk_far ?_ NB212_228.out _; (with_reducible repeat (first | refine blk_drewN ?_ _ | refine blk_drew ?_ | refine blk_alloc ?_ _)); refine blk_far ?_ NB212_228.out _; (with_reducible repeat (first | refine blk_drewN ?_ _ | refine blk_drew ?_ | refine blk_alloc ?_ _)); refine blk_far ?_ NB212_228.out _; (with_reducible repeat (first | refine blk_drewN ?_ _ | refine blk_drew ?_ | refine blk_alloc ?_ _)); refine blk_far ?_ NB212_228.out _; (with_reducible repeat (first | refine blk_drewN ?_ _ | refine blk_drew ?_ | refine blk_alloc ?_ _)); exact BK212.out) hb); have n6_ := Aside0.mk (blk_below (g := gb228) (o := .cells #[.slice Ao14 t213.length co14, .slice Ao18 t216.length co18, .slice Ao19 t219.length co19, .slice Ao20 t222.length co20, .string t225, .bool t226, .string t227] 24 (0, 0)) (by (with_reducible repeat (first | refine blk_drewN ?_ _ | refine blk_drew ?_ | refine blk_alloc ?_ _)); refine blk_put (cs := #[.slice Ao14 t213.length co14, .slice Ao18 t216.length co18, .slice Ao19 t219.length co19, .slice Ao20 t222.length co20, .string t225, .bool t226, .string (⟨#[]⟩ : ByteArray)]) ?_ 6 _ rfl; (with_reducible repeat (first | refine blk_drewN ?_ _ | refine blk_drew ?_ | refine blk_alloc ?_ _)); refine blk_put (cs := #[.slice Ao14 t213.length co14, .slice Ao18 t216.length co18, .slice Ao19 t219.length co19, .slice Ao20 t222.length co20, .string t225, .bool false, .string (⟨#[]⟩ : ByteArray)]) ?_ 5 _ rfl; (with_reducible repeat (first | refine blk_drewN ?_ _ | refine blk_drew ?_ | refine blk_alloc ?_ _)); refine blk_put (cs := #[.slice Ao14 t213.length co14, .slice Ao18 t216.length co18, .slice Ao19 t219.length co19, .slice Ao20 t222.length co20, .string (⟨#[]⟩ : ByteArray), .bool false, .string (⟨#[]⟩ : ByteArray)]) ?_ 4 _ rfl; (with_reducible repeat (first | refine blk_drewN ?_ _ | refine blk_drew ?_ | refine blk_alloc ?_ _)); refine blk_put (cs := #[.slice Ao14 t213.length co14, .slice Ao18 t216.length co18, .slice Ao19 t219.length co19, .slice none 0 0, .string (⟨#[]⟩ : ByteArray), .bool false, .string (⟨#[]⟩ : ByteArray)]) ?_ 3 _ rfl; (with_reducible repeat (first | refine blk_drewN ?_ _ | refine blk_drew ?_ | refine blk_alloc ?_ _)); refine blk_put (cs := #[.slice Ao14 t213.length co14, .slice Ao18 t216.length co18, .slice none 0 0, .slice none 0 0, .string (⟨#[]⟩ : ByteArray), .bool false, .string (⟨#[]⟩ : ByteArray)]) ?_ 2 _ rfl; (with_reducible repeat (first | refine blk_drewN ?_ _ | refine blk_drew ?_ | refine blk_alloc ?_ _)); refine blk_put (cs := #[.slice Ao14 t213.length co14, .slice none 0 0, .slice none 0 0, .slice none 0 0, .string (⟨#[]⟩ : ByteArray), .bool false, .string (⟨#[]⟩ : ByteArray)]) ?_ 1 _ rfl; (with_reducible repeat (first | refine blk_drewN ?_ _ | refine blk_drew ?_ | refine blk_alloc ?_ _)); refine blk_put (cs := #[.slice none 0 0, .slice none 0 0, .slice none 0 0, .slice none 0 0, .string (⟨#[]⟩ : ByteArray), .bool false, .string (⟨#[]⟩ : ByteArray)]) ?_ 0 _ rfl; (with_reducible repeat (first | refine blk_drewN ?_ _ | refine blk_drew ?_ | refine blk_alloc ?_ _)); exact BK228.out) hb); have n7_ := Aside0.mk (below_step (by repeat (first | (with_reducible first | exact HB.out | apply below_alloc | apply pw_below_drewN | apply below_drew1 | refine below_set ?_ GE211.out | refine below_set ?_ GE212.out | refine below_set ?_ GE228.out) | exact HB.out)) hb); clear HO215; clear HO218; clear HO221; clear HO224; clear BK211; clear BK212; clear BK228; clear HB; have HO215 := n0_; have HO218 := n1_; have HO221 := n2_; have HO224 := n3_; have BK211 := n4_; have BK212 := n5_; have BK228 := n6_; have HB := n7_; clear n0_ n1_ n2_ n3_ n4_ n5_ n6_ n7_; (try clear hb); (try clear hb2); (try clear hk); (try clear hi); have hcz22_0 : w21.cell? ⟨gb211, 0, none⟩ = some (.slice A0_0 l0_0.length c0_0) := (blk_cell BK211.out 0).trans rfl; have hcz22_1 : w21.cell? ⟨gb211, 1, none⟩ = some (.slice A0_1 l0_1.length c0_1) := (blk_cell BK211.out 1).trans rfl; have hcz22_2 : w21.cell? ⟨gb211, 2, none⟩ = some (.slice A0_2 l0_2.length c0_2) := (blk_cell BK211.out 2).trans rfl; have hcz22_3 : w21.cell? ⟨gb211, 3, none⟩ = some (.slice A0_3 l0_3.length c0_3) := (blk_cell BK211.out 3).trans rfl; have hcz22_4 : w21.cell? ⟨gb211, 4, none⟩ = some (.string a0_4) := (blk_cell BK211.out 4).trans rfl; have hcz22_5 : w21.cell? ⟨gb211, 5, none⟩ = some (.bool a0_5) := (blk_cell BK211.out 5).trans rfl; have hcz22_6 : w21.cell? ⟨gb211, 6, none⟩ = some (.string a0_6) := (blk_cell BK211.out 6).trans rfl; have hfz22_0 := blk_frozen BK211.out 0; have hfz22_1 := blk_frozen BK211.out 1; have hfz22_2 := blk_frozen BK211.out 2; have hfz22_3 := blk_frozen BK211.out 3; have hfz22_4 := blk_frozen BK211.out 4; have hfz22_5 := blk_frozen BK211.out 5; have hfz22_6 := blk_frozen BK211.out 6) | ((with_reducible refine gate_callee (f := 21) rfl ?_); refine goesL_ (some 22) rfl rfl Tryd.func21 (by kernel_rfl) rfl #[.agg #[.slice A0_0 l0_0.length c0_0, .slice A0_1 l0_1.length c0_1, .slice A0_2 l0_2.length c0_2, .slice A0_3 l0_3.length c0_3, .string a0_4, .bool a0_5, .string a0_6]] rfl (by (try simp only [List.map_toArray, List.map_cons, List.map_nil]); first | done | rfl | (simp only [List.length_drop, List.length_take]; rfl)) ?_; (with_reducible refine (crucibleref1_Sign.calls k _ _ l0_0 _ _ l0_1 _ _ l0_2 _ _ l0_3 a0_4 a0_5 a0_6 t231 t232 _ ?side1 ?side2 ?side3 ?side4 ?side5 ?side6 ?side7 ?side8 A5.out).mono ?_); (case side1 => repeat (first | exact (Kd.C_below HR0_0.out HB.out) | (with_reducible refine Kd.C_alloc ?_ _) | (with_reducible refine Kd.C_drewN ?_ _) | (with_reducible refine Kd.C_drew ?_))); (case side2 => exact HC0_0.out); (case side3 => repeat (first | exact (Kd.C_below HR0_1.out HB.out) | (with_reducible refine Kd.C_alloc ?_ _) | (with_reducible refine Kd.C_drewN ?_ _) | (with_reducible refine Kd.C_drew ?_))); (case side4 => exact HC0_1.out); (case side5 => repeat (first | exact (Kd.C_below HR0_2.out HB.out) | (with_reducible refine Kd.C_alloc ?_ _) | (with_reducible refine Kd.C_drewN ?_ _) | (with_reducible refine Kd.C_drew ?_))); (case side6 => exact HC0_2.out); (case side7 => repeat (first | exact (Kd.C_below HR0_3.out HB.out) | (with_reducible refine Kd.C_alloc ?_ _) | (with_reducible refine Kd.C_drewN ?_ _) | (with_reducible refine Kd.C_drew ?_))); (case side8 => exact HC0_3.out); rintro e w23 ⟨rfl, hb⟩; refine ⟨_, rfl, ?_⟩; have n0_ := Aside0.mk (Kd.R_below (by (with_reducible repeat (first | apply Kd.R_alloc | apply Kd.R_drewN | apply Kd.R_drew)); exact HO215.out) hb); have n1_ := Aside0.mk (Kd.R_below (by (with_reducible repeat (first | apply Kd.R_alloc | apply Kd.R_drewN | apply Kd.R_drew)); exact HO218.out) hb); have n2_ := Aside0.mk (Kd.R_below (by (with_reducible repeat (first | apply Kd.R_alloc | apply Kd.R_drewN | apply Kd.R_drew)); exact HO221.out) hb); have n3_ := Aside0.mk (Kd.R_below (by (with_reducible repeat (first | apply Kd.R_alloc | apply Kd.R_drewN | apply Kd.R_drew)); exact HO224.out) hb); have n4_ := Aside0.mk (blk_below (g := gb211) (o := .cells #[.slice A0_0 l0_0.length c0_0, .slice A0_1 l0_1.length c0_1, .slice A0_2 l0_2.length c0_2, .slice A0_3 l0_3.length c0_3, .string a0_4, .bool a0_5, .string a0_6] 24 (0, 0)) (by (with_reducible repeat (first | refine blk_drewN ?_ _ | refine blk_drew ?_ | refine blk_alloc ?_ _)); exact BK211.out) hb); have n5_ := Aside0.mk (blk_below (g := gb212) (o := .cells #[.slice A1_0 l1_0.length c1_0, .slice A1_1 l1_1.length c1_1, .slice A1_2 l1_2.length c1_2, .slice A1_3 l1_3.length c1_3, .string a1_4, .bool a1_5, .string a1_6] 24 (0, 0)) (by (with_reducible repeat (first | refine blk_drewN ?_ _ | refine blk_drew ?_ | refine blk_alloc ?_ _)); exact BK212.out) hb); have n6_ := Aside0.mk (blk_below (g := gb228) (o := .cells #[.slice Ao14 t213.length co14, .slice Ao18 t216.length co18, .slice Ao19 t219.length co19, .slice Ao20 t222.length co20, .string t225, .bool t226, .string t227] 24 (0, 0)) (by (with_reducible repeat (first | refine blk_drewN ?_ _ | refine blk_drew ?_ | refine blk_alloc ?_ _)); exact BK228.out) hb); have n7_ := Aside0.mk (below_step (by repeat (first | (with_reducible first | exact HB.out | apply below_alloc | apply pw_below_drewN | apply below_drew1 | refine below_set ?_ GE211.out | refine below_set ?_ GE212.out | refine below_set ?_ GE228.out) | exact HB.out)) hb); clear HO215; clear HO218; clear HO221; clear HO224; clear BK211; clear BK212; clear BK228; clear HB; have HO215 := n0_; have HO218 := n1_; have HO221 := n2_; have HO224 := n3_; have BK211 := n4_; have BK212 := n5_; have BK228 := n6_; have HB := n7_; clear n0_ n1_ n2_ n3_ n4_ n5_ n6_ n7_; (try clear hb); (try clear hb2); (try clear hk); (try clear hi); have hcz24_0 : w23.cell? ⟨gb212, 0, none⟩ = some (.slice A1_0 l1_0.length c1_0) := (blk_cell BK212.out 0).trans rfl; have hcz24_1 : w23.cell? ⟨gb212, 1, none⟩ = some (.slice A1_1 l1_1.length c1_1) := (blk_cell BK212.out 1).trans rfl; have hcz24_2 : w23.cell? ⟨gb212, 2, none⟩ = some (.slice A1_2 l1_2.length c1_2) := (blk_cell BK212.out 2).trans rfl; have hcz24_3 : w23.cell? ⟨gb212, 3, none⟩ = some (.slice A1_3 l1_3.length c1_3) := (blk_cell BK212.out 3).trans rfl; have hcz24_4 : w23.cell? ⟨gb212, 4, none⟩ = some (.string a1_4) := (blk_cell BK212.out 4).trans rfl; have hcz24_5 : w23.cell? ⟨gb212, 5, none⟩ = some (.bool a1_5) := (blk_cell BK212.out 5).trans rfl; have hcz24_6 : w23.cell? ⟨gb212, 6, none⟩ = some (.string a1_6) := (blk_cell BK212.out 6).trans rfl; have hfz24_0 := blk_frozen BK212.out 0; have hfz24_1 := blk_frozen BK212.out 1; have hfz24_2 := blk_frozen BK212.out 2; have hfz24_3 := blk_frozen BK212.out 3; have hfz24_4 := blk_frozen BK212.out 4; have hfz24_5 := blk_frozen BK212.out 5; have hfz24_6 := blk_frozen BK212.out 6) | ((with_reducible refine gate_callee (f := 20) rfl ?_); refine goesL_ (some 27) rfl rfl Tryd.func20 (by kernel_rfl) rfl #[.agg #[.slice A1_0 l1_0.length c1_0, .slice A1_1 l1_1.length c1_1, .slice A1_2 l1_2.length c1_2, .slice A1_3 l1_3.length c1_3, .string a1_4, .bool a1_5, .string a1_6]] rfl (by (try simp only [List.map_toArray, List.map_cons, List.map_nil]); first | done | rfl | (simp only [List.length_drop, List.length_take]; rfl)) ?_; (with_reducible refine (sign_Of.calls k _ _ l1_0 _ _ l1_1 _ _ l1_2 _ _ l1_3 a1_4 a1_5 a1_6 t233 t234 _ ?side1 ?side2 ?side3 ?side4 ?side5 ?side6 ?side7 ?side8 A6.out).mono ?_); (case side1 => repeat (first | exact (Kd.C_below HR1_0.out HB.out) | (with_reducible refine Kd.C_alloc ?_ _) | (with_reducible refine Kd.C_drewN ?_ _) | (with_reducible refine Kd.C_drew ?_))); (case side2 => exact HC1_0.out); (case side3 => repeat (first | exact (Kd.C_below HR1_1.out HB.out) | (with_reducible refine Kd.C_alloc ?_ _) | (with_reducible refine Kd.C_drewN ?_ _) | (with_reducible refine Kd.C_drew ?_))); (case side4 => exact HC1_1.out); (case side5 => repeat (first | exact (Kd.C_below HR1_2.out HB.out) | (with_reducible refine Kd.C_alloc ?_ _) | (with_reducible refine Kd.C_drewN ?_ _) | (with_reducible refine Kd.C_drew ?_))); (case side6 => exact HC1_2.out); (case side7 => repeat (first | exact (Kd.C_below HR1_3.out HB.out) | (with_reducible refine Kd.C_alloc ?_ _) | (with_reducible refine Kd.C_drewN ?_ _) | (with_reducible refine Kd.C_drew ?_))); (case side8 => exact HC1_3.out); rintro e w25 ⟨rfl, hb⟩; refine ⟨_, rfl, ?_⟩; have n0_ := Aside0.mk (Kd.R_below (by (with_reducible repeat (first | apply Kd.R_alloc | apply Kd.R_drewN | apply Kd.R_drew)); exact HO215.out) hb); have n1_ := Aside0.mk (Kd.R_below (by (with_reducible repeat (first | apply Kd.R_alloc | apply Kd.R_drewN | apply Kd.R_drew)); exact HO218.out) hb); have n2_ := Aside0.mk (Kd.R_below (by (with_reducible repeat (first | apply Kd.R_alloc | apply Kd.R_drewN | apply Kd.R_drew)); exact HO221.out) hb); have n3_ := Aside0.mk (Kd.R_below (by (with_reducible repeat (first | apply Kd.R_alloc | apply Kd.R_drewN | apply Kd.R_drew)); exact HO224.out) hb); have n4_ := Aside0.mk (blk_below (g := gb211) (o := .cells #[.slice A0_0 l0_0.length c0_0, .slice A0_1 l0_1.length c0_1, .slice A0_2 l0_2.length c0_2, .slice A0_3 l0_3.length c0_3, .string a0_4, .bool a0_5, .string a0_6] 24 (0, 0)) (by (with_reducible repeat (first | refine blk_drewN ?_ _ | refine blk_drew ?_ | refine blk_alloc ?_ _)); exact BK211.out) hb); have n5_ := Aside0.mk (blk_below (g := gb212) (o := .cells #[.slice A1_0 l1_0.length c1_0, .slice A1_1 l1_1.length c1_1, .slice A1_2 l1_2.length c1_2, .slice A1_3 l1_3.length c1_3, .string a1_4, .bool a1_5, .string a1_6] 24 (0, 0)) (by (with_reducible repeat (first | refine blk_drewN ?_ _ | refine blk_drew ?_ | refine blk_alloc ?_ _)); exact BK212.out) hb); have n6_ := Aside0.mk (blk_below (g := gb228) (o := .cells #[.slice Ao14 t213.length co14, .slice Ao18 t216.length co18, .slice Ao19 t219.length co19, .slice Ao20 t222.length co20, .string t225, .bool t226, .string t227] 24 (0, 0)) (by (with_reducible repeat (first | refine blk_drewN ?_ _ | refine blk_drew ?_ | refine blk_alloc ?_ _)); exact BK228.out) hb); have n7_ := Aside0.mk (below_step (by repeat (first | (with_reducible first | exact HB.out | apply below_alloc | apply pw_below_drewN | apply below_drew1 | refine below_set ?_ GE211.out | refine below_set ?_ GE212.out | refine below_set ?_ GE228.out) | exact HB.out)) hb); clear HO215; clear HO218; clear HO221; clear HO224; clear BK211; clear BK212; clear BK228; clear HB; have HO215 := n0_; have HO218 := n1_; have HO221 := n2_; have HO224 := n3_; have BK211 := n4_; have BK212 := n5_; have BK228 := n6_; have HB := n7_; clear n0_ n1_ n2_ n3_ n4_ n5_ n6_ n7_; (try clear hb); (try clear hb2); (try clear hk); (try clear hi)))
  (try simp only [Act.put, List.setIfInBounds_toArray, List.set_cons_zero, List.set_cons_succ])
  go_cut [44] (fun v44 wc => ∃ (kq : Nat) (x44_6 : Bool), v44 = .bool x44_6 ∧ Aside0 (cruciblelaw11_Signs.j0 kq t229 t230 t233 t234 x44_6 l0_0 l0_1 l0_2 l0_3 a0_4 a0_5 a0_6 l1_0 l1_1 l1_2 l1_3 a1_4 a1_5 a1_6 = some r) ∧ Aside0 (kq ≤ k) ∧ Aside0 (Kd.R Kd.string 9 wc w.heap.size (fun k_ => some k_ ≠ ((.slice Ao18 t216.length co18) : Value).ownBlock ∧ some k_ ≠ ((.slice Ao19 t219.length co19) : Value).ownBlock ∧ some k_ ≠ ((.slice Ao20 t222.length co20) : Value).ownBlock) (.slice Ao14 t213.length co14) t213) ∧ Aside0 (Kd.R Kd.string 9 wc w.heap.size (fun k_ => some k_ ≠ ((.slice Ao14 t213.length co14) : Value).ownBlock ∧ some k_ ≠ ((.slice Ao19 t219.length co19) : Value).ownBlock ∧ some k_ ≠ ((.slice Ao20 t222.length co20) : Value).ownBlock) (.slice Ao18 t216.length co18) t216) ∧ Aside0 (Kd.R Kd.string 9 wc w.heap.size (fun k_ => some k_ ≠ ((.slice Ao14 t213.length co14) : Value).ownBlock ∧ some k_ ≠ ((.slice Ao18 t216.length co18) : Value).ownBlock ∧ some k_ ≠ ((.slice Ao20 t222.length co20) : Value).ownBlock) (.slice Ao19 t219.length co19) t219) ∧ Aside0 (Kd.R Kd.string 9 wc w.heap.size (fun k_ => some k_ ≠ ((.slice Ao14 t213.length co14) : Value).ownBlock ∧ some k_ ≠ ((.slice Ao18 t216.length co18) : Value).ownBlock ∧ some k_ ≠ ((.slice Ao19 t219.length co19) : Value).ownBlock) (.slice Ao20 t222.length co20) t222) ∧ Aside0 (wc.heap[gb211]? = some (.cells #[(.slice A0_0 l0_0.length c0_0), (.slice A0_1 l0_1.length c0_1), (.slice A0_2 l0_2.length c0_2), (.slice A0_3 l0_3.length c0_3), .string a0_4, .bool a0_5, .string a0_6] 24 (0, 0))) ∧ Aside0 (wc.heap[gb212]? = some (.cells #[(.slice A1_0 l1_0.length c1_0), (.slice A1_1 l1_1.length c1_1), (.slice A1_2 l1_2.length c1_2), (.slice A1_3 l1_3.length c1_3), .string a1_4, .bool a1_5, .string a1_6] 24 (0, 0))) ∧ Aside0 (wc.heap[gb228]? = some (.cells #[(.slice Ao14 t213.length co14), (.slice Ao18 t216.length co18), (.slice Ao19 t219.length co19), (.slice Ao20 t222.length co20), .string t225, .bool t226, .string t227] 24 (0, 0))) ∧ Aside0 (Below w.heap.size w wc))
  case first =>
    have H := HC7.out
    clear HC7
    by_cases c26 : t229.toList = t231.toList
    · rw [if_pos c26] at H
      have c26b0 : (t229.toList == t231.toList) = true := beq_iff_eq.mpr c26
      have c26b1 : (t229.toList != t231.toList) = false := bne_eq_false_iff_eq.mpr c26
      clear c26
      (first | rw [c26b0] | (simp only [i64_w, i32_w]; rw [c26b0]) | rw [c26b2] | skip)
      replace H := Option.bind_eq_some_iff.mp H
      obtain ⟨t235, A270, H⟩ := H
      replace H : (if t235 = t232 then ((cruciblelaw0_SameEdge.f k t213 t216 t219 t222 t225 t226 t227 l0_0 l0_1 l0_2 l0_3 a0_4 a0_5 a0_6).bind fun t236 => (cruciblelaw11_Signs.j0 k t229 t230 t233 t234 (!t236) l0_0 l0_1 l0_2 l0_3 a0_4 a0_5 a0_6 l1_0 l1_1 l1_2 l1_3 a1_4 a1_5 a1_6)) else (cruciblelaw11_Signs.j0 k t229 t230 t233 t234 true l0_0 l0_1 l0_2 l0_3 a0_4 a0_5 a0_6 l1_0 l1_1 l1_2 l1_3 a1_4 a1_5 a1_6)) = some r := H
      have A27 := Aside0.mk A270
      clear A270
      by_cases c28 : t235 = t232
      · rw [if_pos c28] at H
        have c28b0 : (t235 == t232) = true := beq_iff_eq.mpr c28
        have c28b1 : (t235 != t232) = false := bne_eq_false_iff_eq.mpr c28
        clear c28
        replace H := Option.bind_eq_some_iff.mp H
        obtain ⟨t236, A290, H⟩ := H
        replace H : (cruciblelaw11_Signs.j0 k t229 t230 t233 t234 (!t236) l0_0 l0_1 l0_2 l0_3 a0_4 a0_5 a0_6 l1_0 l1_1 l1_2 l1_3 a1_4 a1_5 a1_6) = some r := H
        have A29 := Aside0.mk A290
        clear A290
        have H' := Aside0.mk H
        clear H
        go_wp2_with (first | (go_at_call 22; (with_reducible refine (cruciblelaw0_Num.calls t230 t235 _ A27.out).mono ?_); rintro e w' ⟨rfl, ⟨nd, rfl⟩⟩; have hnb30 := NB228_211.out; have hnc30 := NB211_228.out; have hnb31 := NB228_212.out; have hnc31 := NB212_228.out; have hcz32_0 : w25.cell? ⟨gb228, 0, none⟩ = some (.slice Ao14 t213.length co14) := (blk_cell BK228.out 0).trans rfl; have hcz32_1 : w25.cell? ⟨gb228, 1, none⟩ = some (.slice Ao18 t216.length co18) := (blk_cell BK228.out 1).trans rfl; have hcz32_2 : w25.cell? ⟨gb228, 2, none⟩ = some (.slice Ao19 t219.length co19) := (blk_cell BK228.out 2).trans rfl; have hcz32_3 : w25.cell? ⟨gb228, 3, none⟩ = some (.slice Ao20 t222.length co20) := (blk_cell BK228.out 3).trans rfl; have hcz32_4 : w25.cell? ⟨gb228, 4, none⟩ = some (.string t225) := (blk_cell BK228.out 4).trans rfl; have hcz32_5 : w25.cell? ⟨gb228, 5, none⟩ = some (.bool t226) := (blk_cell BK228.out 5).trans rfl; have hcz32_6 : w25.cell? ⟨gb228, 6, none⟩ = some (.string t227) := (blk_cell BK228.out 6).trans rfl; have hfz32_0 := blk_frozen BK228.out 0; have hfz32_1 := blk_frozen BK228.out 1; have hfz32_2 := blk_frozen BK228.out 2; have hfz32_3 := blk_frozen BK228.out 3; have hfz32_4 := blk_frozen BK228.out 4; have hfz32_5 := blk_frozen BK228.out 5; have hfz32_6 := blk_frozen BK228.out 6; have hnb33 := NB211_212.out; have hnc33 := NB212_211.out; have hcz34_0 : w25.cell? ⟨gb211, 0, none⟩ = some (.slice A0_0 l0_0.length c0_0) := (blk_cell BK211.out 0).trans rfl; have hcz34_1 : w25.cell? ⟨gb211, 1, none⟩ = some (.slice A0_1 l0_1.length c0_1) := (blk_cell BK211.out 1).trans rfl; have hcz34_2 : w25.cell? ⟨gb211, 2, none⟩ = some (.slice A0_2 l0_2.length c0_2) := (blk_cell BK211.out 2).trans rfl; have hcz34_3 : w25.cell? ⟨gb211, 3, none⟩ = some (.slice A0_3 l0_3.length c0_3) := (blk_cell BK211.out 3).trans rfl; have hcz34_4 : w25.cell? ⟨gb211, 4, none⟩ = some (.string a0_4) := (blk_cell BK211.out 4).trans rfl; have hcz34_5 : w25.cell? ⟨gb211, 5, none⟩ = some (.bool a0_5) := (blk_cell BK211.out 5).trans rfl; have hcz34_6 : w25.cell? ⟨gb211, 6, none⟩ = some (.string a0_6) := (blk_cell BK211.out 6).trans rfl; have hfz34_0 := blk_frozen BK211.out 0; have hfz34_1 := blk_frozen BK211.out 1; have hfz34_2 := blk_frozen BK211.out 2; have hfz34_3 := blk_frozen BK211.out 3; have hfz34_4 := blk_frozen BK211.out 4; have hfz34_5 := blk_frozen BK211.out 5; have hfz34_6 := blk_frozen BK211.out 6) | (go_at_call 23; (with_reducible refine (cruciblelaw0_SameEdge.calls k _ _ t213 _ _ t216 _ _ t219 _ _ t222 t225 t226 t227 _ _ l0_0 _ _ l0_1 _ _ l0_2 _ _ l0_3 a0_4 a0_5 a0_6 t236 _ ?side1 ?side2 ?side3 ?side4 ?side5 ?side6 ?side7 ?side8 ?side9 ?side10 ?side11 ?side12 ?side13 ?side14 ?side15 ?side16 A29.out).mono ?_); (case side1 => repeat (first | exact (Kd.R_reads' HO215.out).2.2 | (with_reducible refine Kd.C_alloc ?_ _) | (with_reducible refine Kd.C_drewN ?_ _) | (with_reducible refine Kd.C_drew ?_))); (case side2 => exact (Kd.R_reads' HO215.out).2.1); (case side3 => repeat (first | exact (Kd.R_reads' HO218.out).2.2 | (with_reducible refine Kd.C_alloc ?_ _) | (with_reducible refine Kd.C_drewN ?_ _) | (with_reducible refine Kd.C_drew ?_))); (case side4 => exact (Kd.R_reads' HO218.out).2.1); (case side5 => repeat (first | exact (Kd.R_reads' HO221.out).2.2 | (with_reducible refine Kd.C_alloc ?_ _) | (with_reducible refine Kd.C_drewN ?_ _) | (with_reducible refine Kd.C_drew ?_))); (case side6 => exact (Kd.R_reads' HO221.out).2.1); (case side7 => repeat (first | exact (Kd.R_reads' HO224.out).2.2 | (with_reducible refine Kd.C_alloc ?_ _) | (with_reducible refine Kd.C_drewN ?_ _) | (with_reducible refine Kd.C_drew ?_))); (case side8 => exact (Kd.R_reads' HO224.out).2.1); (case side9 => repeat (first | exact (Kd.C_below HR0_0.out (by repeat (first | (with_reducible first | exact HB.out | apply below_alloc | apply pw_below_drewN | apply below_drew1 | refine below_set ?_ GE211.out | refine below_set ?_ GE212.out | refine below_set ?_ GE228.out) | exact HB.out))) | (with_reducible refine Kd.C_alloc ?_ _) | (with_reducible refine Kd.C_drewN ?_ _) | (with_reducible refine Kd.C_drew ?_))); (case side10 => exact HC0_0.out); (case side11 => repeat (first | exact (Kd.C_below HR0_1.out (by repeat (first | (with_reducible first | exact HB.out | apply below_alloc | apply pw_below_drewN | apply below_drew1 | refine below_set ?_ GE211.out | refine below_set ?_ GE212.out | refine below_set ?_ GE228.out) | exact HB.out))) | (with_reducible refine Kd.C_alloc ?_ _) | (with_reducible refine Kd.C_drewN ?_ _) | (with_reducible refine Kd.C_drew ?_))); (case side12 => exact HC0_1.out); (case side13 => repeat (first | exact (Kd.C_below HR0_2.out (by repeat (first | (with_reducible first | exact HB.out | apply below_alloc | apply pw_below_drewN | apply below_drew1 | refine below_set ?_ GE211.out | refine below_set ?_ GE212.out | refine below_set ?_ GE228.out) | exact HB.out))) | (with_reducible refine Kd.C_alloc ?_ _) | (with_reducible refine Kd.C_drewN ?_ _) | (with_reducible refine Kd.C_drew ?_))); (case side14 => exact HC0_2.out); (case side15 => repeat (first | exact (Kd.C_below HR0_3.out (by repeat (first | (with_reducible first | exact HB.out | apply below_alloc | apply pw_below_drewN | apply below_drew1 | refine below_set ?_ GE211.out | refine below_set ?_ GE212.out | refine below_set ?_ GE228.out) | exact HB.out))) | (with_reducible refine Kd.C_alloc ?_ _) | (with_reducible refine Kd.C_drewN ?_ _) | (with_reducible refine Kd.C_drew ?_))); (case side16 => exact HC0_3.out); rintro e w35 ⟨rfl, hb⟩; have n0_ := Aside0.mk (Kd.R_below (by (with_reducible repeat (first | apply Kd.R_alloc | apply Kd.R_drewN | apply Kd.R_drew)); exact HO215.out) hb); have n1_ := Aside0.mk (Kd.R_below (by (with_reducible repeat (first | apply Kd.R_alloc | apply Kd.R_drewN | apply Kd.R_drew)); exact HO218.out) hb); have n2_ := Aside0.mk (Kd.R_below (by (with_reducible repeat (first | apply Kd.R_alloc | apply Kd.R_drewN | apply Kd.R_drew)); exact HO221.out) hb); have n3_ := Aside0.mk (Kd.R_below (by (with_reducible repeat (first | apply Kd.R_alloc | apply Kd.R_drewN | apply Kd.R_drew)); exact HO224.out) hb); have n4_ := Aside0.mk (blk_below (g := gb211) (o := .cells #[.slice A0_0 l0_0.length c0_0, .slice A0_1 l0_1.length c0_1, .slice A0_2 l0_2.length c0_2, .slice A0_3 l0_3.length c0_3, .string a0_4, .bool a0_5, .string a0_6] 24 (0, 0)) (by (with_reducible repeat (first | refine blk_drewN ?_ _ | refine blk_drew ?_ | refine blk_alloc ?_ _)); exact BK211.out) hb); have n5_ := Aside0.mk (blk_below (g := gb212) (o := .cells #[.slice A1_0 l1_0.length c1_0, .slice A1_1 l1_1.length c1_1, .slice A1_2 l1_2.length c1_2, .slice A1_3 l1_3.length c1_3, .string a1_4, .bool a1_5, .string a1_6] 24 (0, 0)) (by (with_reducible repeat (first | refine blk_drewN ?_ _ | refine blk_drew ?_ | refine blk_alloc ?_ _)); exact BK212.out) hb); have n6_ := Aside0.mk (blk_below (g := gb228) (o := .cells #[.slice Ao14 t213.length co14, .slice Ao18 t216.length co18, .slice Ao19 t219.length co19, .slice Ao20 t222.length co20, .string t225, .bool t226, .string t227] 24 (0, 0)) (by (with_reducible repeat (first | refine blk_drewN ?_ _ | refine blk_drew ?_ | refine blk_alloc ?_ _)); exact BK228.out) hb); have n7_ := Aside0.mk (below_step (by repeat (first | (with_reducible first | exact HB.out | apply below_alloc | apply pw_below_drewN | apply below_drew1 | refine below_set ?_ GE211.out | refine below_set ?_ GE212.out | refine below_set ?_ GE228.out) | exact HB.out)) hb); clear HO215; clear HO218; clear HO221; clear HO224; clear BK211; clear BK212; clear BK228; clear HB; have HO215 := n0_; have HO218 := n1_; have HO221 := n2_; have HO224 := n3_; have BK211 := n4_; have BK212 := n5_; have BK228 := n6_; have HB := n7_; clear n0_ n1_ n2_ n3_ n4_ n5_ n6_ n7_; (try clear hb); (try clear hb2); (try clear hk); (try clear hi)))
        go_meet
        case rel => exact ⟨_, (!t236), (by first | rfl | (simp; done) | (simp [*]; done)), H', ⟨by first | omega | exact Nat.le_refl _⟩, ⟨by (with_reducible repeat (first | apply Kd.R_alloc | apply Kd.R_drewN | apply Kd.R_drew)); first | exact HO215.out | exact own_len HO215.out⟩, ⟨by (with_reducible repeat (first | apply Kd.R_alloc | apply Kd.R_drewN | apply Kd.R_drew)); first | exact HO218.out | exact own_len HO218.out⟩, ⟨by (with_reducible repeat (first | apply Kd.R_alloc | apply Kd.R_drewN | apply Kd.R_drew)); first | exact HO221.out | exact own_len HO221.out⟩, ⟨by (with_reducible repeat (first | apply Kd.R_alloc | apply Kd.R_drewN | apply Kd.R_drew)); first | exact HO224.out | exact own_len HO224.out⟩, ⟨by (with_reducible repeat (first | refine blk_drewN ?_ _ | refine blk_drew ?_ | refine blk_alloc ?_ _)); exact BK211.out⟩, ⟨by (with_reducible repeat (first | refine blk_drewN ?_ _ | refine blk_drew ?_ | refine blk_alloc ?_ _)); exact BK212.out⟩, ⟨by (with_reducible repeat (first | refine blk_drewN ?_ _ | refine blk_drew ?_ | refine blk_alloc ?_ _)); exact BK228.out⟩, ⟨by repeat (first | (with_reducible first | exact HB.out | apply below_alloc | apply pw_below_drewN | apply below_drew1 | refine below_set ?_ GE211.out | refine below_set ?_ GE212.out | refine below_set ?_ GE228.out) | exact HB.out)⟩⟩
      · rw [if_neg c28] at H
        have c28b0 : (t235 == t232) = false := beq_eq_false_iff_ne.mpr c28
        have c28b1 : (t235 != t232) = true := bne_iff_ne.mpr c28
        have H' := Aside0.mk H
        clear H
        go_wp2_with (first | (go_at_call 22; (with_reducible refine (cruciblelaw0_Num.calls t230 t235 _ A27.out).mono ?_); rintro e w' ⟨rfl, ⟨nd, rfl⟩⟩))
        go_meet
        case rel => exact ⟨_, (true), (by first | rfl | (simp; done) | (simp [*]; done)), H', ⟨by first | omega | exact Nat.le_refl _⟩, ⟨by (with_reducible repeat (first | apply Kd.R_alloc | apply Kd.R_drewN | apply Kd.R_drew)); first | exact HO215.out | exact own_len HO215.out⟩, ⟨by (with_reducible repeat (first | apply Kd.R_alloc | apply Kd.R_drewN | apply Kd.R_drew)); first | exact HO218.out | exact own_len HO218.out⟩, ⟨by (with_reducible repeat (first | apply Kd.R_alloc | apply Kd.R_drewN | apply Kd.R_drew)); first | exact HO221.out | exact own_len HO221.out⟩, ⟨by (with_reducible repeat (first | apply Kd.R_alloc | apply Kd.R_drewN | apply Kd.R_drew)); first | exact HO224.out | exact own_len HO224.out⟩, ⟨by (with_reducible repeat (first | refine blk_drewN ?_ _ | refine blk_drew ?_ | refine blk_alloc ?_ _)); exact BK211.out⟩, ⟨by (with_reducible repeat (first | refine blk_drewN ?_ _ | refine blk_drew ?_ | refine blk_alloc ?_ _)); exact BK212.out⟩, ⟨by (with_reducible repeat (first | refine blk_drewN ?_ _ | refine blk_drew ?_ | refine blk_alloc ?_ _)); exact BK228.out⟩, ⟨by repeat (first | (with_reducible first | exact HB.out | apply below_alloc | apply pw_below_drewN | apply below_drew1 | refine below_set ?_ GE211.out | refine below_set ?_ GE212.out | refine below_set ?_ GE228.out) | exact HB.out)⟩⟩
    · rw [if_neg c26] at H
      have c26b0 : (t229.toList == t231.toList) = false := beq_eq_false_iff_ne.mpr c26
      have c26b1 : (t229.toList != t231.toList) = true := bne_iff_ne.mpr c26
      (first | rw [c26b0] | (simp only [i64_w, i32_w]; rw [c26b0]) | rw [c26b2] | skip)
      have H' := Aside0.mk H
      clear H
      go_wp2
      go_meet
      case rel => exact ⟨_, (true), (by first | rfl | (simp; done) | (simp [*]; done)), H', ⟨by first | omega | exact Nat.le_refl _⟩, ⟨by (with_reducible repeat (first | apply Kd.R_alloc | apply Kd.R_drewN | apply Kd.R_drew)); first | exact HO215.out | exact own_len HO215.out⟩, ⟨by (with_reducible repeat (first | apply Kd.R_alloc | apply Kd.R_drewN | apply Kd.R_drew)); first | exact HO218.out | exact own_len HO218.out⟩, ⟨by (with_reducible repeat (first | apply Kd.R_alloc | apply Kd.R_drewN | apply Kd.R_drew)); first | exact HO221.out | exact own_len HO221.out⟩, ⟨by (with_reducible repeat (first | apply Kd.R_alloc | apply Kd.R_drewN | apply Kd.R_drew)); first | exact HO224.out | exact own_len HO224.out⟩, ⟨by (with_reducible repeat (first | refine blk_drewN ?_ _ | refine blk_drew ?_ | refine blk_alloc ?_ _)); exact BK211.out⟩, ⟨by (with_reducible repeat (first | refine blk_drewN ?_ _ | refine blk_drew ?_ | refine blk_alloc ?_ _)); exact BK212.out⟩, ⟨by (with_reducible repeat (first | refine blk_drewN ?_ _ | refine blk_drew ?_ | refine blk_alloc ?_ _)); exact BK228.out⟩, ⟨by repeat (first | (with_reducible first | exact HB.out | apply below_alloc | apply pw_below_drewN | apply below_drew1 | refine below_set ?_ GE211.out | refine below_set ?_ GE212.out | refine below_set ?_ GE228.out) | exact HB.out)⟩⟩
  case rest =>
    clear HC7
    try clear c1
    try clear c2
    try clear p2
    try clear c3
    try clear c10
    try clear c15
    try clear c16
    try clear c19
    try clear c20
    try clear c21
    try clear c26
    try clear c26b0
    try clear c26b1
    try clear c26b2
    try clear c28
    try clear c28b0
    try clear c28b1
    try clear c30
    try clear c31
    try clear c33
    try clear hcz11_0
    try clear hcz11_1
    try clear hcz11_2
    try clear hcz11_3
    try clear hcz11_4
    try clear hcz11_5
    try clear hcz11_6
    try clear hcz17_0
    try clear hcz17_1
    try clear hcz17_2
    try clear hcz17_3
    try clear hcz17_4
    try clear hcz17_5
    try clear hcz17_6
    try clear hcz22_0
    try clear hcz22_1
    try clear hcz22_2
    try clear hcz22_3
    try clear hcz22_4
    try clear hcz22_5
    try clear hcz22_6
    try clear hcz24_0
    try clear hcz24_1
    try clear hcz24_2
    try clear hcz24_3
    try clear hcz24_4
    try clear hcz24_5
    try clear hcz24_6
    try clear hcz32_0
    try clear hcz32_1
    try clear hcz32_2
    try clear hcz32_3
    try clear hcz32_4
    try clear hcz32_5
    try clear hcz32_6
    try clear hcz34_0
    try clear hcz34_1
    try clear hcz34_2
    try clear hcz34_3
    try clear hcz34_4
    try clear hcz34_5
    try clear hcz34_6
    try clear hfz11_0
    try clear hfz11_1
    try clear hfz11_2
    try clear hfz11_3
    try clear hfz11_4
    try clear hfz11_5
    try clear hfz11_6
    try clear hfz17_0
    try clear hfz17_1
    try clear hfz17_2
    try clear hfz17_3
    try clear hfz17_4
    try clear hfz17_5
    try clear hfz17_6
    try clear hfz22_0
    try clear hfz22_1
    try clear hfz22_2
    try clear hfz22_3
    try clear hfz22_4
    try clear hfz22_5
    try clear hfz22_6
    try clear hfz24_0
    try clear hfz24_1
    try clear hfz24_2
    try clear hfz24_3
    try clear hfz24_4
    try clear hfz24_5
    try clear hfz24_6
    try clear hfz32_0
    try clear hfz32_1
    try clear hfz32_2
    try clear hfz32_3
    try clear hfz32_4
    try clear hfz32_5
    try clear hfz32_6
    try clear hfz34_0
    try clear hfz34_1
    try clear hfz34_2
    try clear hfz34_3
    try clear hfz34_4
    try clear hfz34_5
    try clear hfz34_6
    obtain ⟨kq, x44_6, rfl, HA, HJ6, HO_229000, HO_229001, HO_229002, HO_229003, BK211, BK212, BK228, HB⟩ := hcut
    cases kq with
    | zero => exact absurd HA.out (by simp [cruciblelaw11_Signs.j0])
    | succ kj6 =>
      have H := HA.out
      clear HA
      simp only [cruciblelaw11_Signs.j0] at H
      by_cases c36 : x44_6 = true
      · subst c36
        have H1 : (some false) = some r := by rw [if_pos rfl] at H; exact H
        clear H
        have H := H1
        clear H1
        obtain rfl := Option.some.inj H
        go_wp2
        go_ret
        exact ⟨by first | rfl | (simp [errW_none, errW_some] <;> rfl) | (simp [*, errW_none, errW_some] <;> rfl), by repeat (first | (with_reducible first | exact HB.out | apply below_alloc | apply pw_below_drewN | apply below_drew1 | refine below_set ?_ GE211.out | refine below_set ?_ GE212.out | refine below_set ?_ GE228.out) | exact HB.out)⟩
      · replace c36 := Bool.eq_false_iff.mpr c36
        subst c36
        have H1 : ((cruciblelaw0_Num.f t230).bind fun t237 => (if t237 = 0 then ((cruciblelaw0_Num.f t234).bind fun t238 => (cruciblelaw11_Signs.j1 kj6 t229 t233 (t238 != 0) l0_0 l0_1 l0_2 l0_3 a0_4 a0_5 a0_6 l1_0 l1_1 l1_2 l1_3 a1_4 a1_5 a1_6)) else (cruciblelaw11_Signs.j1 kj6 t229 t233 true l0_0 l0_1 l0_2 l0_3 a0_4 a0_5 a0_6 l1_0 l1_1 l1_2 l1_3 a1_4 a1_5 a1_6))) = some r := by rw [if_neg (show ¬ (false = true) by decide)] at H; exact H
        clear H
        have H := H1
        clear H1
        have HC37 := Aside0.mk H
        clear H
        go_upto_region 7 with (fail)
        go_cut [52] (fun v52 wc => ∃ (kq : Nat) (x52_36 : Bool), v52 = .bool x52_36 ∧ Aside0 (cruciblelaw11_Signs.j1 kq t229 t233 x52_36 l0_0 l0_1 l0_2 l0_3 a0_4 a0_5 a0_6 l1_0 l1_1 l1_2 l1_3 a1_4 a1_5 a1_6 = some r) ∧ Aside0 (kq ≤ kj6) ∧ Aside0 (Kd.R Kd.string 9 wc w.heap.size (fun k_ => some k_ ≠ ((.slice Ao18 t216.length co18) : Value).ownBlock ∧ some k_ ≠ ((.slice Ao19 t219.length co19) : Value).ownBlock ∧ some k_ ≠ ((.slice Ao20 t222.length co20) : Value).ownBlock) (.slice Ao14 t213.length co14) t213) ∧ Aside0 (Kd.R Kd.string 9 wc w.heap.size (fun k_ => some k_ ≠ ((.slice Ao14 t213.length co14) : Value).ownBlock ∧ some k_ ≠ ((.slice Ao19 t219.length co19) : Value).ownBlock ∧ some k_ ≠ ((.slice Ao20 t222.length co20) : Value).ownBlock) (.slice Ao18 t216.length co18) t216) ∧ Aside0 (Kd.R Kd.string 9 wc w.heap.size (fun k_ => some k_ ≠ ((.slice Ao14 t213.length co14) : Value).ownBlock ∧ some k_ ≠ ((.slice Ao18 t216.length co18) : Value).ownBlock ∧ some k_ ≠ ((.slice Ao20 t222.length co20) : Value).ownBlock) (.slice Ao19 t219.length co19) t219) ∧ Aside0 (Kd.R Kd.string 9 wc w.heap.size (fun k_ => some k_ ≠ ((.slice Ao14 t213.length co14) : Value).ownBlock ∧ some k_ ≠ ((.slice Ao18 t216.length co18) : Value).ownBlock ∧ some k_ ≠ ((.slice Ao19 t219.length co19) : Value).ownBlock) (.slice Ao20 t222.length co20) t222) ∧ Aside0 (wc.heap[gb211]? = some (.cells #[(.slice A0_0 l0_0.length c0_0), (.slice A0_1 l0_1.length c0_1), (.slice A0_2 l0_2.length c0_2), (.slice A0_3 l0_3.length c0_3), .string a0_4, .bool a0_5, .string a0_6] 24 (0, 0))) ∧ Aside0 (wc.heap[gb212]? = some (.cells #[(.slice A1_0 l1_0.length c1_0), (.slice A1_1 l1_1.length c1_1), (.slice A1_2 l1_2.length c1_2), (.slice A1_3 l1_3.length c1_3), .string a1_4, .bool a1_5, .string a1_6] 24 (0, 0))) ∧ Aside0 (wc.heap[gb228]? = some (.cells #[(.slice Ao14 t213.length co14), (.slice Ao18 t216.length co18), (.slice Ao19 t219.length co19), (.slice Ao20 t222.length co20), .string t225, .bool t226, .string t227] 24 (0, 0))) ∧ Aside0 (Below w.heap.size w wc))
        case first =>
          have H := HC37.out
          clear HC37
          replace H := Option.bind_eq_some_iff.mp H
          obtain ⟨t237, A380, H⟩ := H
          replace H : (if t237 = 0 then ((cruciblelaw0_Num.f t234).bind fun t238 => (cruciblelaw11_Signs.j1 kj6 t229 t233 (t238 != 0) l0_0 l0_1 l0_2 l0_3 a0_4 a0_5 a0_6 l1_0 l1_1 l1_2 l1_3 a1_4 a1_5 a1_6)) else (cruciblelaw11_Signs.j1 kj6 t229 t233 true l0_0 l0_1 l0_2 l0_3 a0_4 a0_5 a0_6 l1_0 l1_1 l1_2 l1_3 a1_4 a1_5 a1_6)) = some r := H
          have A38 := Aside0.mk A380
          clear A380
          by_cases c39 : t237 = 0
          · rw [if_pos c39] at H
            have c39b0 : (t237 == 0) = true := beq_iff_eq.mpr c39
            have c39b1 : (t237 != 0) = false := bne_eq_false_iff_eq.mpr c39
            clear c39
            (first | rw [c39b0] | (simp only [i64_w, i32_w]; rw [c39b0]) | rw [c39b2] | skip)
            replace H := Option.bind_eq_some_iff.mp H
            obtain ⟨t238, A400, H⟩ := H
            replace H : (cruciblelaw11_Signs.j1 kj6 t229 t233 (t238 != 0) l0_0 l0_1 l0_2 l0_3 a0_4 a0_5 a0_6 l1_0 l1_1 l1_2 l1_3 a1_4 a1_5 a1_6) = some r := H
            have A40 := Aside0.mk A400
            clear A400
            have H' := Aside0.mk H
            clear H
            go_wp2_with (first | ((with_reducible refine gate_callee (f := 22) rfl ?_); refine goesL_ (some 46) rfl rfl Tryd.func22 (by kernel_rfl) rfl #[.int .i64 t230] rfl (by (try simp only [List.map_toArray, List.map_cons, List.map_nil]); first | done | rfl | (simp only [List.length_drop, List.length_take]; rfl)) ?_; (with_reducible refine (cruciblelaw0_Num.calls t230 t237 _ A38.out).mono ?_); rintro e w' ⟨rfl, ⟨nd, rfl⟩⟩; refine ⟨_, rfl, ?_⟩) | (go_at_call 22; (with_reducible refine (cruciblelaw0_Num.calls t234 t238 _ A40.out).mono ?_); rintro e w' ⟨rfl, ⟨nd, rfl⟩⟩))
            go_meet
            case rel => exact ⟨_, ((t238 != 0)), (by first | rfl | (simp; done) | (simp [*]; done)), H', ⟨by have := HJ6.out; first | omega | exact Nat.le_refl _⟩, ⟨by (with_reducible repeat (first | apply Kd.R_alloc | apply Kd.R_drewN | apply Kd.R_drew)); first | exact HO_229000.out | exact own_len HO_229000.out⟩, ⟨by (with_reducible repeat (first | apply Kd.R_alloc | apply Kd.R_drewN | apply Kd.R_drew)); first | exact HO_229001.out | exact own_len HO_229001.out⟩, ⟨by (with_reducible repeat (first | apply Kd.R_alloc | apply Kd.R_drewN | apply Kd.R_drew)); first | exact HO_229002.out | exact own_len HO_229002.out⟩, ⟨by (with_reducible repeat (first | apply Kd.R_alloc | apply Kd.R_drewN | apply Kd.R_drew)); first | exact HO_229003.out | exact own_len HO_229003.out⟩, ⟨by (with_reducible repeat (first | refine blk_drewN ?_ _ | refine blk_drew ?_ | refine blk_alloc ?_ _)); exact BK211.out⟩, ⟨by (with_reducible repeat (first | refine blk_drewN ?_ _ | refine blk_drew ?_ | refine blk_alloc ?_ _)); exact BK212.out⟩, ⟨by (with_reducible repeat (first | refine blk_drewN ?_ _ | refine blk_drew ?_ | refine blk_alloc ?_ _)); exact BK228.out⟩, ⟨by repeat (first | (with_reducible first | exact HB.out | apply below_alloc | apply pw_below_drewN | apply below_drew1 | refine below_set ?_ GE211.out | refine below_set ?_ GE212.out | refine below_set ?_ GE228.out) | exact HB.out)⟩⟩
          · rw [if_neg c39] at H
            have c39b0 : (t237 == 0) = false := beq_eq_false_iff_ne.mpr c39
            have c39b1 : (t237 != 0) = true := bne_iff_ne.mpr c39
            (first | rw [c39b0] | (simp only [i64_w, i32_w]; rw [c39b0]) | rw [c39b2] | skip)
            have H' := Aside0.mk H
            clear H
            go_wp2_with (first | ((with_reducible refine gate_callee (f := 22) rfl ?_); refine goesL_ (some 46) rfl rfl Tryd.func22 (by kernel_rfl) rfl #[.int .i64 t230] rfl (by (try simp only [List.map_toArray, List.map_cons, List.map_nil]); first | done | rfl | (simp only [List.length_drop, List.length_take]; rfl)) ?_; (with_reducible refine (cruciblelaw0_Num.calls t230 t237 _ A38.out).mono ?_); rintro e w' ⟨rfl, ⟨nd, rfl⟩⟩; refine ⟨_, rfl, ?_⟩))
            go_meet
            case rel => exact ⟨_, (true), (by first | rfl | (simp; done) | (simp [*]; done)), H', ⟨by have := HJ6.out; first | omega | exact Nat.le_refl _⟩, ⟨by (with_reducible repeat (first | apply Kd.R_alloc | apply Kd.R_drewN | apply Kd.R_drew)); first | exact HO_229000.out | exact own_len HO_229000.out⟩, ⟨by (with_reducible repeat (first | apply Kd.R_alloc | apply Kd.R_drewN | apply Kd.R_drew)); first | exact HO_229001.out | exact own_len HO_229001.out⟩, ⟨by (with_reducible repeat (first | apply Kd.R_alloc | apply Kd.R_drewN | apply Kd.R_drew)); first | exact HO_229002.out | exact own_len HO_229002.out⟩, ⟨by (with_reducible repeat (first | apply Kd.R_alloc | apply Kd.R_drewN | apply Kd.R_drew)); first | exact HO_229003.out | exact own_len HO_229003.out⟩, ⟨by (with_reducible repeat (first | refine blk_drewN ?_ _ | refine blk_drew ?_ | refine blk_alloc ?_ _)); exact BK211.out⟩, ⟨by (with_reducible repeat (first | refine blk_drewN ?_ _ | refine blk_drew ?_ | refine blk_alloc ?_ _)); exact BK212.out⟩, ⟨by (with_reducible repeat (first | refine blk_drewN ?_ _ | refine blk_drew ?_ | refine blk_alloc ?_ _)); exact BK228.out⟩, ⟨by repeat (first | (with_reducible first | exact HB.out | apply below_alloc | apply pw_below_drewN | apply below_drew1 | refine below_set ?_ GE211.out | refine below_set ?_ GE212.out | refine below_set ?_ GE228.out) | exact HB.out)⟩⟩
        case rest =>
          clear HC37
          try clear c1
          try clear c2
          try clear p2
          try clear c3
          try clear c10
          try clear c15
          try clear c16
          try clear c19
          try clear c20
          try clear c21
          try clear c22
          try clear c26
          try clear c26b0
          try clear c26b1
          try clear c26b2
          try clear c28
          try clear c28b0
          try clear c28b1
          try clear c30
          try clear c31
          try clear c33
          try clear c36
          try clear c39
          try clear c39b0
          try clear c39b1
          try clear c39b2
          try clear hcz11_0
          try clear hcz11_1
          try clear hcz11_2
          try clear hcz11_3
          try clear hcz11_4
          try clear hcz11_5
          try clear hcz11_6
          try clear hcz17_0
          try clear hcz17_1
          try clear hcz17_2
          try clear hcz17_3
          try clear hcz17_4
          try clear hcz17_5
          try clear hcz17_6
          try clear hcz22_0
          try clear hcz22_1
          try clear hcz22_2
          try clear hcz22_3
          try clear hcz22_4
          try clear hcz22_5
          try clear hcz22_6
          try clear hcz24_0
          try clear hcz24_1
          try clear hcz24_2
          try clear hcz24_3
          try clear hcz24_4
          try clear hcz24_5
          try clear hcz24_6
          try clear hcz32_0
          try clear hcz32_1
          try clear hcz32_2
          try clear hcz32_3
          try clear hcz32_4
          try clear hcz32_5
          try clear hcz32_6
          try clear hcz34_0
          try clear hcz34_1
          try clear hcz34_2
          try clear hcz34_3
          try clear hcz34_4
          try clear hcz34_5
          try clear hcz34_6
          try clear hfz11_0
          try clear hfz11_1
          try clear hfz11_2
          try clear hfz11_3
          try clear hfz11_4
          try clear hfz11_5
          try clear hfz11_6
          try clear hfz17_0
          try clear hfz17_1
          try clear hfz17_2
          try clear hfz17_3
          try clear hfz17_4
          try clear hfz17_5
          try clear hfz17_6
          try clear hfz22_0
          try clear hfz22_1
          try clear hfz22_2
          try clear hfz22_3
          try clear hfz22_4
          try clear hfz22_5
          try clear hfz22_6
          try clear hfz24_0
          try clear hfz24_1
          try clear hfz24_2
          try clear hfz24_3
          try clear hfz24_4
          try clear hfz24_5
          try clear hfz24_6
          try clear hfz32_0
          try clear hfz32_1
          try clear hfz32_2
          try clear hfz32_3
          try clear hfz32_4
          try clear hfz32_5
          try clear hfz32_6
          try clear hfz34_0
          try clear hfz34_1
          try clear hfz34_2
          try clear hfz34_3
          try clear hfz34_4
          try clear hfz34_5
          try clear hfz34_6
          try clear p2
          obtain ⟨kq, x52_36, rfl, HA, HJ36, HO_229000, HO_229001, HO_229002, HO_229003, BK211, BK212, BK228, HB⟩ := hcut
          cases kq with
          | zero => exact absurd HA.out (by simp [cruciblelaw11_Signs.j1])
          | succ kj36 =>
            have H := HA.out
            clear HA
            simp only [cruciblelaw11_Signs.j1] at H
            by_cases c41 : x52_36 = true
            · subst c41
              have H1 : ((cruciblelaw11_awake.f kj36).bind fun t239 => (some t239)) = some r := by rw [if_pos rfl] at H; exact H
              clear H
              have H := H1
              clear H1
              replace H := Option.bind_eq_some_iff.mp H
              obtain ⟨t239, A420, H⟩ := H
              replace H : (some t239) = some r := H
              have A42 := Aside0.mk A420
              clear A420
              obtain rfl := Option.some.inj H
              go_wp2_with (first | ((with_reducible refine gate_callee (f := 24) rfl ?_); refine goesL_ (some 53) rfl rfl Tryd.func24 (by kernel_rfl) rfl #[] rfl (by (try simp only [List.map_toArray, List.map_cons, List.map_nil]); first | done | rfl | (simp only [List.length_drop, List.length_take]; rfl)) ?_; (with_reducible refine (cruciblelaw11_awake.calls kj36  t239 _ A42.out).mono ?_); rintro e w43 ⟨rfl, hb⟩; refine ⟨_, rfl, ?_⟩; have n0_ := Aside0.mk (Kd.R_below (by (with_reducible repeat (first | apply Kd.R_alloc | apply Kd.R_drewN | apply Kd.R_drew)); exact HO_229000.out) hb); have n1_ := Aside0.mk (Kd.R_below (by (with_reducible repeat (first | apply Kd.R_alloc | apply Kd.R_drewN | apply Kd.R_drew)); exact HO_229001.out) hb); have n2_ := Aside0.mk (Kd.R_below (by (with_reducible repeat (first | apply Kd.R_alloc | apply Kd.R_drewN | apply Kd.R_drew)); exact HO_229002.out) hb); have n3_ := Aside0.mk (Kd.R_below (by (with_reducible repeat (first | apply Kd.R_alloc | apply Kd.R_drewN | apply Kd.R_drew)); exact HO_229003.out) hb); have n4_ := Aside0.mk (blk_below (g := gb211) (o := .cells #[.slice A0_0 l0_0.length c0_0, .slice A0_1 l0_1.length c0_1, .slice A0_2 l0_2.length c0_2, .slice A0_3 l0_3.length c0_3, .string a0_4, .bool a0_5, .string a0_6] 24 (0, 0)) (by (with_reducible repeat (first | refine blk_drewN ?_ _ | refine blk_drew ?_ | refine blk_alloc ?_ _)); exact BK211.out) hb); have n5_ := Aside0.mk (blk_below (g := gb212) (o := .cells #[.slice A1_0 l1_0.length c1_0, .slice A1_1 l1_1.length c1_1, .slice A1_2 l1_2.length c1_2, .slice A1_3 l1_3.length c1_3, .string a1_4, .bool a1_5, .string a1_6] 24 (0, 0)) (by (with_reducible repeat (first | refine blk_drewN ?_ _ | refine blk_drew ?_ | refine blk_alloc ?_ _)); exact BK212.out) hb); have n6_ := Aside0.mk (blk_below (g := gb228) (o := .cells #[.slice Ao14 t213.length co14, .slice Ao18 t216.length co18, .slice Ao19 t219.length co19, .slice Ao20 t222.length co20, .string t225, .bool t226, .string t227] 24 (0, 0)) (by (with_reducible repeat (first | refine blk_drewN ?_ _ | refine blk_drew ?_ | refine blk_alloc ?_ _)); exact BK228.out) hb); have n7_ := Aside0.mk (below_step (by repeat (first | (with_reducible first | exact HB.out | apply below_alloc | apply pw_below_drewN | apply below_drew1 | refine below_set ?_ GE211.out | refine below_set ?_ GE212.out | refine below_set ?_ GE228.out) | exact HB.out)) hb); clear HO_229000; clear HO_229001; clear HO_229002; clear HO_229003; clear BK211; clear BK212; clear BK228; clear HB; have HO_229000 := n0_; have HO_229001 := n1_; have HO_229002 := n2_; have HO_229003 := n3_; have BK211 := n4_; have BK212 := n5_; have BK228 := n6_; have HB := n7_; clear n0_ n1_ n2_ n3_ n4_ n5_ n6_ n7_; (try clear hb); (try clear hb2); (try clear hk); (try clear hi)))
              go_ret
              exact ⟨by first | rfl | (simp [errW_none, errW_some] <;> rfl) | (simp [*, errW_none, errW_some] <;> rfl), by repeat (first | (with_reducible first | exact HB.out | apply below_alloc | apply pw_below_drewN | apply below_drew1 | refine below_set ?_ GE211.out | refine below_set ?_ GE212.out | refine below_set ?_ GE228.out) | exact HB.out)⟩
            · replace c41 := Bool.eq_false_iff.mpr c41
              subst c41
              have H1 : ((cruciblelaw0_SameTexts.f kj36 l0_0 l1_0).bind fun t240 => (if t240 = true then ((cruciblelaw0_SameTexts.f kj36 l0_1 l1_1).bind fun t241 => (if t241 = true then ((cruciblelaw0_SameTexts.f kj36 l0_2 l1_2).bind fun t242 => (if t242 = true then (if (a0_5 == a1_5) = true then (if ((t229.toList == t233.toList) == (a0_4.toList == a1_4.toList)) = true then ((cruciblelaw11_awake.f kj36).bind fun t243 => (some t243)) else (some false)) else (if ((t229.toList == t233.toList) == false) = true then ((cruciblelaw11_awake.f kj36).bind fun t244 => (some t244)) else (some false))) else (if ((t229.toList == t233.toList) == false) = true then ((cruciblelaw11_awake.f kj36).bind fun t245 => (some t245)) else (some false)))) else (if ((t229.toList == t233.toList) == false) = true then ((cruciblelaw11_awake.f kj36).bind fun t246 => (some t246)) else (some false)))) else (if ((t229.toList == t233.toList) == false) = true then ((cruciblelaw11_awake.f kj36).bind fun t247 => (some t247)) else (some false)))) = some r := by rw [if_neg (show ¬ (false = true) by decide)] at H; exact H
              clear H
              have H := H1
              clear H1
              replace H := Option.bind_eq_some_iff.mp H
              obtain ⟨t240, A440, H⟩ := H
              replace H : (if t240 = true then ((cruciblelaw0_SameTexts.f kj36 l0_1 l1_1).bind fun t241 => (if t241 = true then ((cruciblelaw0_SameTexts.f kj36 l0_2 l1_2).bind fun t242 => (if t242 = true then (if (a0_5 == a1_5) = true then (if ((t229.toList == t233.toList) == (a0_4.toList == a1_4.toList)) = true then ((cruciblelaw11_awake.f kj36).bind fun t243 => (some t243)) else (some false)) else (if ((t229.toList == t233.toList) == false) = true then ((cruciblelaw11_awake.f kj36).bind fun t244 => (some t244)) else (some false))) else (if ((t229.toList == t233.toList) == false) = true then ((cruciblelaw11_awake.f kj36).bind fun t245 => (some t245)) else (some false)))) else (if ((t229.toList == t233.toList) == false) = true then ((cruciblelaw11_awake.f kj36).bind fun t246 => (some t246)) else (some false)))) else (if ((t229.toList == t233.toList) == false) = true then ((cruciblelaw11_awake.f kj36).bind fun t247 => (some t247)) else (some false))) = some r := H
              have A44 := Aside0.mk A440
              clear A440
              by_cases c45 : t240 = true
              · subst c45
                have H1 : ((cruciblelaw0_SameTexts.f kj36 l0_1 l1_1).bind fun t241 => (if t241 = true then ((cruciblelaw0_SameTexts.f kj36 l0_2 l1_2).bind fun t242 => (if t242 = true then (if (a0_5 == a1_5) = true then (if ((t229.toList == t233.toList) == (a0_4.toList == a1_4.toList)) = true then ((cruciblelaw11_awake.f kj36).bind fun t243 => (some t243)) else (some false)) else (if ((t229.toList == t233.toList) == false) = true then ((cruciblelaw11_awake.f kj36).bind fun t244 => (some t244)) else (some false))) else (if ((t229.toList == t233.toList) == false) = true then ((cruciblelaw11_awake.f kj36).bind fun t245 => (some t245)) else (some false)))) else (if ((t229.toList == t233.toList) == false) = true then ((cruciblelaw11_awake.f kj36).bind fun t246 => (some t246)) else (some false)))) = some r := by rw [if_pos rfl] at H; exact H
                clear H
                have H := H1
                clear H1
                replace H := Option.bind_eq_some_iff.mp H
                obtain ⟨t241, A460, H⟩ := H
                replace H : (if t241 = true then ((cruciblelaw0_SameTexts.f kj36 l0_2 l1_2).bind fun t242 => (if t242 = true then (if (a0_5 == a1_5) = true then (if ((t229.toList == t233.toList) == (a0_4.toList == a1_4.toList)) = true then ((cruciblelaw11_awake.f kj36).bind fun t243 => (some t243)) else (some false)) else (if ((t229.toList == t233.toList) == false) = true then ((cruciblelaw11_awake.f kj36).bind fun t244 => (some t244)) else (some false))) else (if ((t229.toList == t233.toList) == false) = true then ((cruciblelaw11_awake.f kj36).bind fun t245 => (some t245)) else (some false)))) else (if ((t229.toList == t233.toList) == false) = true then ((cruciblelaw11_awake.f kj36).bind fun t246 => (some t246)) else (some false))) = some r := H
                have A46 := Aside0.mk A460
                clear A460
                by_cases c47 : t241 = true
                · subst c47
                  have H1 : ((cruciblelaw0_SameTexts.f kj36 l0_2 l1_2).bind fun t242 => (if t242 = true then (if (a0_5 == a1_5) = true then (if ((t229.toList == t233.toList) == (a0_4.toList == a1_4.toList)) = true then ((cruciblelaw11_awake.f kj36).bind fun t243 => (some t243)) else (some false)) else (if ((t229.toList == t233.toList) == false) = true then ((cruciblelaw11_awake.f kj36).bind fun t244 => (some t244)) else (some false))) else (if ((t229.toList == t233.toList) == false) = true then ((cruciblelaw11_awake.f kj36).bind fun t245 => (some t245)) else (some false)))) = some r := by rw [if_pos rfl] at H; exact H
                  clear H
                  have H := H1
                  clear H1
                  replace H := Option.bind_eq_some_iff.mp H
                  obtain ⟨t242, A480, H⟩ := H
                  replace H : (if t242 = true then (if (a0_5 == a1_5) = true then (if ((t229.toList == t233.toList) == (a0_4.toList == a1_4.toList)) = true then ((cruciblelaw11_awake.f kj36).bind fun t243 => (some t243)) else (some false)) else (if ((t229.toList == t233.toList) == false) = true then ((cruciblelaw11_awake.f kj36).bind fun t244 => (some t244)) else (some false))) else (if ((t229.toList == t233.toList) == false) = true then ((cruciblelaw11_awake.f kj36).bind fun t245 => (some t245)) else (some false))) = some r := H
                  have A48 := Aside0.mk A480
                  clear A480
                  by_cases c49 : t242 = true
                  · subst c49
                    have H1 : (if (a0_5 == a1_5) = true then (if ((t229.toList == t233.toList) == (a0_4.toList == a1_4.toList)) = true then ((cruciblelaw11_awake.f kj36).bind fun t243 => (some t243)) else (some false)) else (if ((t229.toList == t233.toList) == false) = true then ((cruciblelaw11_awake.f kj36).bind fun t244 => (some t244)) else (some false))) = some r := by rw [if_pos rfl] at H; exact H
                    clear H
                    have H := H1
                    clear H1
                    by_cases c50 : (a0_5 == a1_5) = true
                    · rw [if_pos c50] at H
                      have c50b0 : (a0_5 == a1_5) = true := c50
                      (try (have c50b1 : decide (a0_5 = a1_5) = true := by simpa using c50))
                      (try (have c50b2 : (a0_5 == a1_5) = true := by simpa using c50))
                      clear c50
                      by_cases c51 : ((t229.toList == t233.toList) == (a0_4.toList == a1_4.toList)) = true
                      · rw [if_pos c51] at H
                        have c51b0 : ((t229.toList == t233.toList) == (a0_4.toList == a1_4.toList)) = true := c51
                        (try (have c51b1 : decide ((t229.toList == t233.toList) = (a0_4.toList == a1_4.toList)) = true := by simpa using c51))
                        (try (have c51b2 : ((t229.toList == t233.toList) == (a0_4.toList == a1_4.toList)) = true := by simpa using c51))
                        clear c51
                        replace H := Option.bind_eq_some_iff.mp H
                        obtain ⟨t243, A520, H⟩ := H
                        replace H : (some t243) = some r := H
                        have A52 := Aside0.mk A520
                        clear A520
                        obtain rfl := Option.some.inj H
                        have hnb53 := NB211_212.out
                        have hnc53 := NB212_211.out
                        have hnb54 := NB211_228.out
                        have hnc54 := NB228_211.out
                        have hcz55_0 : wc.cell? ⟨gb211, 0, none⟩ = some (.slice A0_0 l0_0.length c0_0) := (blk_cell BK211.out 0).trans rfl
                        have hcz55_1 : wc.cell? ⟨gb211, 1, none⟩ = some (.slice A0_1 l0_1.length c0_1) := (blk_cell BK211.out 1).trans rfl
                        have hcz55_2 : wc.cell? ⟨gb211, 2, none⟩ = some (.slice A0_2 l0_2.length c0_2) := (blk_cell BK211.out 2).trans rfl
                        have hcz55_3 : wc.cell? ⟨gb211, 3, none⟩ = some (.slice A0_3 l0_3.length c0_3) := (blk_cell BK211.out 3).trans rfl
                        have hcz55_4 : wc.cell? ⟨gb211, 4, none⟩ = some (.string a0_4) := (blk_cell BK211.out 4).trans rfl
                        have hcz55_5 : wc.cell? ⟨gb211, 5, none⟩ = some (.bool a0_5) := (blk_cell BK211.out 5).trans rfl
                        have hcz55_6 : wc.cell? ⟨gb211, 6, none⟩ = some (.string a0_6) := (blk_cell BK211.out 6).trans rfl
                        have hfz55_0 := blk_frozen BK211.out 0
                        have hfz55_1 := blk_frozen BK211.out 1
                        have hfz55_2 := blk_frozen BK211.out 2
                        have hfz55_3 := blk_frozen BK211.out 3
                        have hfz55_4 := blk_frozen BK211.out 4
                        have hfz55_5 := blk_frozen BK211.out 5
                        have hfz55_6 := blk_frozen BK211.out 6
                        have hnb56 := NB212_228.out
                        have hnc56 := NB228_212.out
                        have hcz57_0 : wc.cell? ⟨gb212, 0, none⟩ = some (.slice A1_0 l1_0.length c1_0) := (blk_cell BK212.out 0).trans rfl
                        have hcz57_1 : wc.cell? ⟨gb212, 1, none⟩ = some (.slice A1_1 l1_1.length c1_1) := (blk_cell BK212.out 1).trans rfl
                        have hcz57_2 : wc.cell? ⟨gb212, 2, none⟩ = some (.slice A1_2 l1_2.length c1_2) := (blk_cell BK212.out 2).trans rfl
                        have hcz57_3 : wc.cell? ⟨gb212, 3, none⟩ = some (.slice A1_3 l1_3.length c1_3) := (blk_cell BK212.out 3).trans rfl
                        have hcz57_4 : wc.cell? ⟨gb212, 4, none⟩ = some (.string a1_4) := (blk_cell BK212.out 4).trans rfl
                        have hcz57_5 : wc.cell? ⟨gb212, 5, none⟩ = some (.bool a1_5) := (blk_cell BK212.out 5).trans rfl
                        have hcz57_6 : wc.cell? ⟨gb212, 6, none⟩ = some (.string a1_6) := (blk_cell BK212.out 6).trans rfl
                        have hfz57_0 := blk_frozen BK212.out 0
                        have hfz57_1 := blk_frozen BK212.out 1
                        have hfz57_2 := blk_frozen BK212.out 2
                        have hfz57_3 := blk_frozen BK212.out 3
                        have hfz57_4 := blk_frozen BK212.out 4
                        have hfz57_5 := blk_frozen BK212.out 5
                        have hfz57_6 := blk_frozen BK212.out 6
                        go_wp2_with (first | ((with_reducible refine gate_callee (f := 25) rfl ?_); refine goesL_ (some 58) rfl rfl Tryd.func25 (by kernel_rfl) rfl #[.slice A0_0 l0_0.length c0_0, .slice A1_0 l1_0.length c1_0] rfl (by (try simp only [List.map_toArray, List.map_cons, List.map_nil]); first | done | rfl | (simp only [List.length_drop, List.length_take]; rfl)) ?_; (with_reducible refine (cruciblelaw0_SameTexts.calls kj36 _ _ l0_0 _ _ l1_0 true _ ?side1 ?side2 ?side3 ?side4 A44.out).mono ?_); (case side1 => repeat (first | exact (Kd.C_below HR0_0.out HB.out) | (with_reducible refine Kd.C_alloc ?_ _) | (with_reducible refine Kd.C_drewN ?_ _) | (with_reducible refine Kd.C_drew ?_))); (case side2 => exact HC0_0.out); (case side3 => repeat (first | exact (Kd.C_below HR1_0.out HB.out) | (with_reducible refine Kd.C_alloc ?_ _) | (with_reducible refine Kd.C_drewN ?_ _) | (with_reducible refine Kd.C_drew ?_))); (case side4 => exact HC1_0.out); rintro e w' ⟨rfl, ⟨nd, rfl⟩⟩; refine ⟨_, rfl, ?_⟩) | (go_at_call 25; (with_reducible refine (cruciblelaw0_SameTexts.calls kj36 _ _ l0_1 _ _ l1_1 true _ ?side1 ?side2 ?side3 ?side4 A46.out).mono ?_); (case side1 => repeat (first | exact (Kd.C_below HR0_1.out (by repeat (first | (with_reducible first | exact HB.out | apply below_alloc | apply pw_below_drewN | apply below_drew1 | refine below_set ?_ GE211.out | refine below_set ?_ GE212.out | refine below_set ?_ GE228.out) | exact HB.out))) | (with_reducible refine Kd.C_alloc ?_ _) | (with_reducible refine Kd.C_drewN ?_ _) | (with_reducible refine Kd.C_drew ?_))); (case side2 => exact HC0_1.out); (case side3 => repeat (first | exact (Kd.C_below HR1_1.out (by repeat (first | (with_reducible first | exact HB.out | apply below_alloc | apply pw_below_drewN | apply below_drew1 | refine below_set ?_ GE211.out | refine below_set ?_ GE212.out | refine below_set ?_ GE228.out) | exact HB.out))) | (with_reducible refine Kd.C_alloc ?_ _) | (with_reducible refine Kd.C_drewN ?_ _) | (with_reducible refine Kd.C_drew ?_))); (case side4 => exact HC1_1.out); rintro e w' ⟨rfl, ⟨nd, rfl⟩⟩) | (go_at_call 25; (with_reducible refine (cruciblelaw0_SameTexts.calls kj36 _ _ l0_2 _ _ l1_2 true _ ?side1 ?side2 ?side3 ?side4 A48.out).mono ?_); (case side1 => repeat (first | exact (Kd.C_below HR0_2.out (by repeat (first | (with_reducible first | exact HB.out | apply below_alloc | apply pw_below_drewN | apply below_drew1 | refine below_set ?_ GE211.out | refine below_set ?_ GE212.out | refine below_set ?_ GE228.out) | exact HB.out))) | (with_reducible refine Kd.C_alloc ?_ _) | (with_reducible refine Kd.C_drewN ?_ _) | (with_reducible refine Kd.C_drew ?_))); (case side2 => exact HC0_2.out); (case side3 => repeat (first | exact (Kd.C_below HR1_2.out (by repeat (first | (with_reducible first | exact HB.out | apply below_alloc | apply pw_below_drewN | apply below_drew1 | refine below_set ?_ GE211.out | refine below_set ?_ GE212.out | refine below_set ?_ GE228.out) | exact HB.out))) | (with_reducible refine Kd.C_alloc ?_ _) | (with_reducible refine Kd.C_drewN ?_ _) | (with_reducible refine Kd.C_drew ?_))); (case side4 => exact HC1_2.out); rintro e w' ⟨rfl, ⟨nd, rfl⟩⟩) | (go_at_call 24; (with_reducible refine (cruciblelaw11_awake.calls kj36  t243 _ A52.out).mono ?_); rintro e w58 ⟨rfl, hb⟩; have n0_ := Aside0.mk (Kd.R_below (by (with_reducible repeat (first | apply Kd.R_alloc | apply Kd.R_drewN | apply Kd.R_drew)); exact HO_229000.out) hb); have n1_ := Aside0.mk (Kd.R_below (by (with_reducible repeat (first | apply Kd.R_alloc | apply Kd.R_drewN | apply Kd.R_drew)); exact HO_229001.out) hb); have n2_ := Aside0.mk (Kd.R_below (by (with_reducible repeat (first | apply Kd.R_alloc | apply Kd.R_drewN | apply Kd.R_drew)); exact HO_229002.out) hb); have n3_ := Aside0.mk (Kd.R_below (by (with_reducible repeat (first | apply Kd.R_alloc | apply Kd.R_drewN | apply Kd.R_drew)); exact HO_229003.out) hb); have n4_ := Aside0.mk (blk_below (g := gb211) (o := .cells #[.slice A0_0 l0_0.length c0_0, .slice A0_1 l0_1.length c0_1, .slice A0_2 l0_2.length c0_2, .slice A0_3 l0_3.length c0_3, .string a0_4, .bool a0_5, .string a0_6] 24 (0, 0)) (by (with_reducible repeat (first | refine blk_drewN ?_ _ | refine blk_drew ?_ | refine blk_alloc ?_ _)); exact BK211.out) hb); have n5_ := Aside0.mk (blk_below (g := gb212) (o := .cells #[.slice A1_0 l1_0.length c1_0, .slice A1_1 l1_1.length c1_1, .slice A1_2 l1_2.length c1_2, .slice A1_3 l1_3.length c1_3, .string a1_4, .bool a1_5, .string a1_6] 24 (0, 0)) (by (with_reducible repeat (first | refine blk_drewN ?_ _ | refine blk_drew ?_ | refine blk_alloc ?_ _)); exact BK212.out) hb); have n6_ := Aside0.mk (blk_below (g := gb228) (o := .cells #[.slice Ao14 t213.length co14, .slice Ao18 t216.length co18, .slice Ao19 t219.length co19, .slice Ao20 t222.length co20, .string t225, .bool t226, .string t227] 24 (0, 0)) (by (with_reducible repeat (first | refine blk_drewN ?_ _ | refine blk_drew ?_ | refine blk_alloc ?_ _)); exact BK228.out) hb); have n7_ := Aside0.mk (below_step (by repeat (first | (with_reducible first | exact HB.out | apply below_alloc | apply pw_below_drewN | apply below_drew1 | refine below_set ?_ GE211.out | refine below_set ?_ GE212.out | refine below_set ?_ GE228.out) | exact HB.out)) hb); clear HO_229000; clear HO_229001; clear HO_229002; clear HO_229003; clear BK211; clear BK212; clear BK228; clear HB; have HO_229000 := n0_; have HO_229001 := n1_; have HO_229002 := n2_; have HO_229003 := n3_; have BK211 := n4_; have BK212 := n5_; have BK228 := n6_; have HB := n7_; clear n0_ n1_ n2_ n3_ n4_ n5_ n6_ n7_; (try clear hb); (try clear hb2); (try clear hk); (try clear hi)))
                        go_ret
                        exact ⟨by first | rfl | (simp [errW_none, errW_some] <;> rfl) | (simp [*, errW_none, errW_some] <;> rfl), by repeat (first | (with_reducible first | exact HB.out | apply below_alloc | apply pw_below_drewN | apply below_drew1 | refine below_set ?_ GE211.out | refine below_set ?_ GE212.out | refine below_set ?_ GE228.out) | exact HB.out)⟩
                      · rw [if_neg c51] at H
                        have c51b0 : ((t229.toList == t233.toList) == (a0_4.toList == a1_4.toList)) = false := by simpa using c51
                        (try (have c51b1 : decide ((t229.toList == t233.toList) = (a0_4.toList == a1_4.toList)) = false := by simpa using c51))
                        (try (have c51b2 : ((t229.toList == t233.toList) == (a0_4.toList == a1_4.toList)) = false := by simpa using c51))
                        (try (have c51b3 : ¬ ((t229.toList == t233.toList) = (a0_4.toList == a1_4.toList)) := by simpa using c51))
                        clear c51
                        obtain rfl := Option.some.inj H
                        have hnb59 := NB211_212.out
                        have hnc59 := NB212_211.out
                        have hnb60 := NB211_228.out
                        have hnc60 := NB228_211.out
                        have hcz61_0 : wc.cell? ⟨gb211, 0, none⟩ = some (.slice A0_0 l0_0.length c0_0) := (blk_cell BK211.out 0).trans rfl
                        have hcz61_1 : wc.cell? ⟨gb211, 1, none⟩ = some (.slice A0_1 l0_1.length c0_1) := (blk_cell BK211.out 1).trans rfl
                        have hcz61_2 : wc.cell? ⟨gb211, 2, none⟩ = some (.slice A0_2 l0_2.length c0_2) := (blk_cell BK211.out 2).trans rfl
                        have hcz61_3 : wc.cell? ⟨gb211, 3, none⟩ = some (.slice A0_3 l0_3.length c0_3) := (blk_cell BK211.out 3).trans rfl
                        have hcz61_4 : wc.cell? ⟨gb211, 4, none⟩ = some (.string a0_4) := (blk_cell BK211.out 4).trans rfl
                        have hcz61_5 : wc.cell? ⟨gb211, 5, none⟩ = some (.bool a0_5) := (blk_cell BK211.out 5).trans rfl
                        have hcz61_6 : wc.cell? ⟨gb211, 6, none⟩ = some (.string a0_6) := (blk_cell BK211.out 6).trans rfl
                        have hfz61_0 := blk_frozen BK211.out 0
                        have hfz61_1 := blk_frozen BK211.out 1
                        have hfz61_2 := blk_frozen BK211.out 2
                        have hfz61_3 := blk_frozen BK211.out 3
                        have hfz61_4 := blk_frozen BK211.out 4
                        have hfz61_5 := blk_frozen BK211.out 5
                        have hfz61_6 := blk_frozen BK211.out 6
                        have hnb62 := NB212_228.out
                        have hnc62 := NB228_212.out
                        have hcz63_0 : wc.cell? ⟨gb212, 0, none⟩ = some (.slice A1_0 l1_0.length c1_0) := (blk_cell BK212.out 0).trans rfl
                        have hcz63_1 : wc.cell? ⟨gb212, 1, none⟩ = some (.slice A1_1 l1_1.length c1_1) := (blk_cell BK212.out 1).trans rfl
                        have hcz63_2 : wc.cell? ⟨gb212, 2, none⟩ = some (.slice A1_2 l1_2.length c1_2) := (blk_cell BK212.out 2).trans rfl
                        have hcz63_3 : wc.cell? ⟨gb212, 3, none⟩ = some (.slice A1_3 l1_3.length c1_3) := (blk_cell BK212.out 3).trans rfl
                        have hcz63_4 : wc.cell? ⟨gb212, 4, none⟩ = some (.string a1_4) := (blk_cell BK212.out 4).trans rfl
                        have hcz63_5 : wc.cell? ⟨gb212, 5, none⟩ = some (.bool a1_5) := (blk_cell BK212.out 5).trans rfl
                        have hcz63_6 : wc.cell? ⟨gb212, 6, none⟩ = some (.string a1_6) := (blk_cell BK212.out 6).trans rfl
                        have hfz63_0 := blk_frozen BK212.out 0
                        have hfz63_1 := blk_frozen BK212.out 1
                        have hfz63_2 := blk_frozen BK212.out 2
                        have hfz63_3 := blk_frozen BK212.out 3
                        have hfz63_4 := blk_frozen BK212.out 4
                        have hfz63_5 := blk_frozen BK212.out 5
                        have hfz63_6 := blk_frozen BK212.out 6
                        go_wp2_with (first | ((with_reducible refine gate_callee (f := 25) rfl ?_); refine goesL_ (some 58) rfl rfl Tryd.func25 (by kernel_rfl) rfl #[.slice A0_0 l0_0.length c0_0, .slice A1_0 l1_0.length c1_0] rfl (by (try simp only [List.map_toArray, List.map_cons, List.map_nil]); first | done | rfl | (simp only [List.length_drop, List.length_take]; rfl)) ?_; (with_reducible refine (cruciblelaw0_SameTexts.calls kj36 _ _ l0_0 _ _ l1_0 true _ ?side1 ?side2 ?side3 ?side4 A44.out).mono ?_); (case side1 => repeat (first | exact (Kd.C_below HR0_0.out HB.out) | (with_reducible refine Kd.C_alloc ?_ _) | (with_reducible refine Kd.C_drewN ?_ _) | (with_reducible refine Kd.C_drew ?_))); (case side2 => exact HC0_0.out); (case side3 => repeat (first | exact (Kd.C_below HR1_0.out HB.out) | (with_reducible refine Kd.C_alloc ?_ _) | (with_reducible refine Kd.C_drewN ?_ _) | (with_reducible refine Kd.C_drew ?_))); (case side4 => exact HC1_0.out); rintro e w' ⟨rfl, ⟨nd, rfl⟩⟩; refine ⟨_, rfl, ?_⟩) | (go_at_call 25; (with_reducible refine (cruciblelaw0_SameTexts.calls kj36 _ _ l0_1 _ _ l1_1 true _ ?side1 ?side2 ?side3 ?side4 A46.out).mono ?_); (case side1 => repeat (first | exact (Kd.C_below HR0_1.out (by repeat (first | (with_reducible first | exact HB.out | apply below_alloc | apply pw_below_drewN | apply below_drew1 | refine below_set ?_ GE211.out | refine below_set ?_ GE212.out | refine below_set ?_ GE228.out) | exact HB.out))) | (with_reducible refine Kd.C_alloc ?_ _) | (with_reducible refine Kd.C_drewN ?_ _) | (with_reducible refine Kd.C_drew ?_))); (case side2 => exact HC0_1.out); (case side3 => repeat (first | exact (Kd.C_below HR1_1.out (by repeat (first | (with_reducible first | exact HB.out | apply below_alloc | apply pw_below_drewN | apply below_drew1 | refine below_set ?_ GE211.out | refine below_set ?_ GE212.out | refine below_set ?_ GE228.out) | exact HB.out))) | (with_reducible refine Kd.C_alloc ?_ _) | (with_reducible refine Kd.C_drewN ?_ _) | (with_reducible refine Kd.C_drew ?_))); (case side4 => exact HC1_1.out); rintro e w' ⟨rfl, ⟨nd, rfl⟩⟩) | (go_at_call 25; (with_reducible refine (cruciblelaw0_SameTexts.calls kj36 _ _ l0_2 _ _ l1_2 true _ ?side1 ?side2 ?side3 ?side4 A48.out).mono ?_); (case side1 => repeat (first | exact (Kd.C_below HR0_2.out (by repeat (first | (with_reducible first | exact HB.out | apply below_alloc | apply pw_below_drewN | apply below_drew1 | refine below_set ?_ GE211.out | refine below_set ?_ GE212.out | refine below_set ?_ GE228.out) | exact HB.out))) | (with_reducible refine Kd.C_alloc ?_ _) | (with_reducible refine Kd.C_drewN ?_ _) | (with_reducible refine Kd.C_drew ?_))); (case side2 => exact HC0_2.out); (case side3 => repeat (first | exact (Kd.C_below HR1_2.out (by repeat (first | (with_reducible first | exact HB.out | apply below_alloc | apply pw_below_drewN | apply below_drew1 | refine below_set ?_ GE211.out | refine below_set ?_ GE212.out | refine below_set ?_ GE228.out) | exact HB.out))) | (with_reducible refine Kd.C_alloc ?_ _) | (with_reducible refine Kd.C_drewN ?_ _) | (with_reducible refine Kd.C_drew ?_))); (case side4 => exact HC1_2.out); rintro e w' ⟨rfl, ⟨nd, rfl⟩⟩))
                        go_ret
                        exact ⟨by first | rfl | (simp [errW_none, errW_some] <;> rfl) | (simp [*, errW_none, errW_some] <;> rfl), by repeat (first | (with_reducible first | exact HB.out | apply below_alloc | apply pw_below_drewN | apply below_drew1 | refine below_set ?_ GE211.out | refine below_set ?_ GE212.out | refine below_set ?_ GE228.out) | exact HB.out)⟩
                    · rw [if_neg c50] at H
                      have c50b0 : (a0_5 == a1_5) = false := by simpa using c50
                      (try (have c50b1 : decide (a0_5 = a1_5) = false := by simpa using c50))
                      (try (have c50b2 : (a0_5 == a1_5) = false := by simpa using c50))
                      (try (have c50b3 : ¬ (a0_5 = a1_5) := by simpa using c50))
                      clear c50
                      by_cases c64 : ((t229.toList == t233.toList) == false) = true
                      · rw [if_pos c64] at H
                        have c64b0 : ((t229.toList == t233.toList) == false) = true := c64
                        (try (have c64b1 : decide ((t229.toList == t233.toList) = false) = true := by simpa using c64))
                        (try (have c64b2 : ((t229.toList == t233.toList) == false) = true := by simpa using c64))
                        clear c64
                        replace H := Option.bind_eq_some_iff.mp H
                        obtain ⟨t244, A650, H⟩ := H
                        replace H : (some t244) = some r := H
                        have A65 := Aside0.mk A650
                        clear A650
                        obtain rfl := Option.some.inj H
                        have hnb66 := NB211_212.out
                        have hnc66 := NB212_211.out
                        have hnb67 := NB211_228.out
                        have hnc67 := NB228_211.out
                        have hcz68_0 : wc.cell? ⟨gb211, 0, none⟩ = some (.slice A0_0 l0_0.length c0_0) := (blk_cell BK211.out 0).trans rfl
                        have hcz68_1 : wc.cell? ⟨gb211, 1, none⟩ = some (.slice A0_1 l0_1.length c0_1) := (blk_cell BK211.out 1).trans rfl
                        have hcz68_2 : wc.cell? ⟨gb211, 2, none⟩ = some (.slice A0_2 l0_2.length c0_2) := (blk_cell BK211.out 2).trans rfl
                        have hcz68_3 : wc.cell? ⟨gb211, 3, none⟩ = some (.slice A0_3 l0_3.length c0_3) := (blk_cell BK211.out 3).trans rfl
                        have hcz68_4 : wc.cell? ⟨gb211, 4, none⟩ = some (.string a0_4) := (blk_cell BK211.out 4).trans rfl
                        have hcz68_5 : wc.cell? ⟨gb211, 5, none⟩ = some (.bool a0_5) := (blk_cell BK211.out 5).trans rfl
                        have hcz68_6 : wc.cell? ⟨gb211, 6, none⟩ = some (.string a0_6) := (blk_cell BK211.out 6).trans rfl
                        have hfz68_0 := blk_frozen BK211.out 0
                        have hfz68_1 := blk_frozen BK211.out 1
                        have hfz68_2 := blk_frozen BK211.out 2
                        have hfz68_3 := blk_frozen BK211.out 3
                        have hfz68_4 := blk_frozen BK211.out 4
                        have hfz68_5 := blk_frozen BK211.out 5
                        have hfz68_6 := blk_frozen BK211.out 6
                        have hnb69 := NB212_228.out
                        have hnc69 := NB228_212.out
                        have hcz70_0 : wc.cell? ⟨gb212, 0, none⟩ = some (.slice A1_0 l1_0.length c1_0) := (blk_cell BK212.out 0).trans rfl
                        have hcz70_1 : wc.cell? ⟨gb212, 1, none⟩ = some (.slice A1_1 l1_1.length c1_1) := (blk_cell BK212.out 1).trans rfl
                        have hcz70_2 : wc.cell? ⟨gb212, 2, none⟩ = some (.slice A1_2 l1_2.length c1_2) := (blk_cell BK212.out 2).trans rfl
                        have hcz70_3 : wc.cell? ⟨gb212, 3, none⟩ = some (.slice A1_3 l1_3.length c1_3) := (blk_cell BK212.out 3).trans rfl
                        have hcz70_4 : wc.cell? ⟨gb212, 4, none⟩ = some (.string a1_4) := (blk_cell BK212.out 4).trans rfl
                        have hcz70_5 : wc.cell? ⟨gb212, 5, none⟩ = some (.bool a1_5) := (blk_cell BK212.out 5).trans rfl
                        have hcz70_6 : wc.cell? ⟨gb212, 6, none⟩ = some (.string a1_6) := (blk_cell BK212.out 6).trans rfl
                        have hfz70_0 := blk_frozen BK212.out 0
                        have hfz70_1 := blk_frozen BK212.out 1
                        have hfz70_2 := blk_frozen BK212.out 2
                        have hfz70_3 := blk_frozen BK212.out 3
                        have hfz70_4 := blk_frozen BK212.out 4
                        have hfz70_5 := blk_frozen BK212.out 5
                        have hfz70_6 := blk_frozen BK212.out 6
                        go_wp2_with (first | ((with_reducible refine gate_callee (f := 25) rfl ?_); refine goesL_ (some 58) rfl rfl Tryd.func25 (by kernel_rfl) rfl #[.slice A0_0 l0_0.length c0_0, .slice A1_0 l1_0.length c1_0] rfl (by (try simp only [List.map_toArray, List.map_cons, List.map_nil]); first | done | rfl | (simp only [List.length_drop, List.length_take]; rfl)) ?_; (with_reducible refine (cruciblelaw0_SameTexts.calls kj36 _ _ l0_0 _ _ l1_0 true _ ?side1 ?side2 ?side3 ?side4 A44.out).mono ?_); (case side1 => repeat (first | exact (Kd.C_below HR0_0.out HB.out) | (with_reducible refine Kd.C_alloc ?_ _) | (with_reducible refine Kd.C_drewN ?_ _) | (with_reducible refine Kd.C_drew ?_))); (case side2 => exact HC0_0.out); (case side3 => repeat (first | exact (Kd.C_below HR1_0.out HB.out) | (with_reducible refine Kd.C_alloc ?_ _) | (with_reducible refine Kd.C_drewN ?_ _) | (with_reducible refine Kd.C_drew ?_))); (case side4 => exact HC1_0.out); rintro e w' ⟨rfl, ⟨nd, rfl⟩⟩; refine ⟨_, rfl, ?_⟩) | (go_at_call 25; (with_reducible refine (cruciblelaw0_SameTexts.calls kj36 _ _ l0_1 _ _ l1_1 true _ ?side1 ?side2 ?side3 ?side4 A46.out).mono ?_); (case side1 => repeat (first | exact (Kd.C_below HR0_1.out (by repeat (first | (with_reducible first | exact HB.out | apply below_alloc | apply pw_below_drewN | apply below_drew1 | refine below_set ?_ GE211.out | refine below_set ?_ GE212.out | refine below_set ?_ GE228.out) | exact HB.out))) | (with_reducible refine Kd.C_alloc ?_ _) | (with_reducible refine Kd.C_drewN ?_ _) | (with_reducible refine Kd.C_drew ?_))); (case side2 => exact HC0_1.out); (case side3 => repeat (first | exact (Kd.C_below HR1_1.out (by repeat (first | (with_reducible first | exact HB.out | apply below_alloc | apply pw_below_drewN | apply below_drew1 | refine below_set ?_ GE211.out | refine below_set ?_ GE212.out | refine below_set ?_ GE228.out) | exact HB.out))) | (with_reducible refine Kd.C_alloc ?_ _) | (with_reducible refine Kd.C_drewN ?_ _) | (with_reducible refine Kd.C_drew ?_))); (case side4 => exact HC1_1.out); rintro e w' ⟨rfl, ⟨nd, rfl⟩⟩) | (go_at_call 25; (with_reducible refine (cruciblelaw0_SameTexts.calls kj36 _ _ l0_2 _ _ l1_2 true _ ?side1 ?side2 ?side3 ?side4 A48.out).mono ?_); (case side1 => repeat (first | exact (Kd.C_below HR0_2.out (by repeat (first | (with_reducible first | exact HB.out | apply below_alloc | apply pw_below_drewN | apply below_drew1 | refine below_set ?_ GE211.out | refine below_set ?_ GE212.out | refine below_set ?_ GE228.out) | exact HB.out))) | (with_reducible refine Kd.C_alloc ?_ _) | (with_reducible refine Kd.C_drewN ?_ _) | (with_reducible refine Kd.C_drew ?_))); (case side2 => exact HC0_2.out); (case side3 => repeat (first | exact (Kd.C_below HR1_2.out (by repeat (first | (with_reducible first | exact HB.out | apply below_alloc | apply pw_below_drewN | apply below_drew1 | refine below_set ?_ GE211.out | refine below_set ?_ GE212.out | refine below_set ?_ GE228.out) | exact HB.out))) | (with_reducible refine Kd.C_alloc ?_ _) | (with_reducible refine Kd.C_drewN ?_ _) | (with_reducible refine Kd.C_drew ?_))); (case side4 => exact HC1_2.out); rintro e w' ⟨rfl, ⟨nd, rfl⟩⟩) | (go_at_call 24; (with_reducible refine (cruciblelaw11_awake.calls kj36  t244 _ A65.out).mono ?_); rintro e w71 ⟨rfl, hb⟩; have n0_ := Aside0.mk (Kd.R_below (by (with_reducible repeat (first | apply Kd.R_alloc | apply Kd.R_drewN | apply Kd.R_drew)); exact HO_229000.out) hb); have n1_ := Aside0.mk (Kd.R_below (by (with_reducible repeat (first | apply Kd.R_alloc | apply Kd.R_drewN | apply Kd.R_drew)); exact HO_229001.out) hb); have n2_ := Aside0.mk (Kd.R_below (by (with_reducible repeat (first | apply Kd.R_alloc | apply Kd.R_drewN | apply Kd.R_drew)); exact HO_229002.out) hb); have n3_ := Aside0.mk (Kd.R_below (by (with_reducible repeat (first | apply Kd.R_alloc | apply Kd.R_drewN | apply Kd.R_drew)); exact HO_229003.out) hb); have n4_ := Aside0.mk (blk_below (g := gb211) (o := .cells #[.slice A0_0 l0_0.length c0_0, .slice A0_1 l0_1.length c0_1, .slice A0_2 l0_2.length c0_2, .slice A0_3 l0_3.length c0_3, .string a0_4, .bool a0_5, .string a0_6] 24 (0, 0)) (by (with_reducible repeat (first | refine blk_drewN ?_ _ | refine blk_drew ?_ | refine blk_alloc ?_ _)); exact BK211.out) hb); have n5_ := Aside0.mk (blk_below (g := gb212) (o := .cells #[.slice A1_0 l1_0.length c1_0, .slice A1_1 l1_1.length c1_1, .slice A1_2 l1_2.length c1_2, .slice A1_3 l1_3.length c1_3, .string a1_4, .bool a1_5, .string a1_6] 24 (0, 0)) (by (with_reducible repeat (first | refine blk_drewN ?_ _ | refine blk_drew ?_ | refine blk_alloc ?_ _)); exact BK212.out) hb); have n6_ := Aside0.mk (blk_below (g := gb228) (o := .cells #[.slice Ao14 t213.length co14, .slice Ao18 t216.length co18, .slice Ao19 t219.length co19, .slice Ao20 t222.length co20, .string t225, .bool t226, .string t227] 24 (0, 0)) (by (with_reducible repeat (first | refine blk_drewN ?_ _ | refine blk_drew ?_ | refine blk_alloc ?_ _)); exact BK228.out) hb); have n7_ := Aside0.mk (below_step (by repeat (first | (with_reducible first | exact HB.out | apply below_alloc | apply pw_below_drewN | apply below_drew1 | refine below_set ?_ GE211.out | refine below_set ?_ GE212.out | refine below_set ?_ GE228.out) | exact HB.out)) hb); clear HO_229000; clear HO_229001; clear HO_229002; clear HO_229003; clear BK211; clear BK212; clear BK228; clear HB; have HO_229000 := n0_; have HO_229001 := n1_; have HO_229002 := n2_; have HO_229003 := n3_; have BK211 := n4_; have BK212 := n5_; have BK228 := n6_; have HB := n7_; clear n0_ n1_ n2_ n3_ n4_ n5_ n6_ n7_; (try clear hb); (try clear hb2); (try clear hk); (try clear hi)))
                        go_ret
                        exact ⟨by first | rfl | (simp [errW_none, errW_some] <;> rfl) | (simp [*, errW_none, errW_some] <;> rfl), by repeat (first | (with_reducible first | exact HB.out | apply below_alloc | apply pw_below_drewN | apply below_drew1 | refine below_set ?_ GE211.out | refine below_set ?_ GE212.out | refine below_set ?_ GE228.out) | exact HB.out)⟩
                      · rw [if_neg c64] at H
                        have c64b0 : ((t229.toList == t233.toList) == false) = false := by simpa using c64
                        (try (have c64b1 : decide ((t229.toList == t233.toList) = false) = false := by simpa using c64))
                        (try (have c64b2 : ((t229.toList == t233.toList) == false) = false := by simpa using c64))
                        (try (have c64b3 : ¬ ((t229.toList == t233.toList) = false) := by simpa using c64))
                        clear c64
                        obtain rfl := Option.some.inj H
                        have hnb72 := NB211_212.out
                        have hnc72 := NB212_211.out
                        have hnb73 := NB211_228.out
                        have hnc73 := NB228_211.out
                        have hcz74_0 : wc.cell? ⟨gb211, 0, none⟩ = some (.slice A0_0 l0_0.length c0_0) := (blk_cell BK211.out 0).trans rfl
                        have hcz74_1 : wc.cell? ⟨gb211, 1, none⟩ = some (.slice A0_1 l0_1.length c0_1) := (blk_cell BK211.out 1).trans rfl
                        have hcz74_2 : wc.cell? ⟨gb211, 2, none⟩ = some (.slice A0_2 l0_2.length c0_2) := (blk_cell BK211.out 2).trans rfl
                        have hcz74_3 : wc.cell? ⟨gb211, 3, none⟩ = some (.slice A0_3 l0_3.length c0_3) := (blk_cell BK211.out 3).trans rfl
                        have hcz74_4 : wc.cell? ⟨gb211, 4, none⟩ = some (.string a0_4) := (blk_cell BK211.out 4).trans rfl
                        have hcz74_5 : wc.cell? ⟨gb211, 5, none⟩ = some (.bool a0_5) := (blk_cell BK211.out 5).trans rfl
                        have hcz74_6 : wc.cell? ⟨gb211, 6, none⟩ = some (.string a0_6) := (blk_cell BK211.out 6).trans rfl
                        have hfz74_0 := blk_frozen BK211.out 0
                        have hfz74_1 := blk_frozen BK211.out 1
                        have hfz74_2 := blk_frozen BK211.out 2
                        have hfz74_3 := blk_frozen BK211.out 3
                        have hfz74_4 := blk_frozen BK211.out 4
                        have hfz74_5 := blk_frozen BK211.out 5
                        have hfz74_6 := blk_frozen BK211.out 6
                        have hnb75 := NB212_228.out
                        have hnc75 := NB228_212.out
                        have hcz76_0 : wc.cell? ⟨gb212, 0, none⟩ = some (.slice A1_0 l1_0.length c1_0) := (blk_cell BK212.out 0).trans rfl
                        have hcz76_1 : wc.cell? ⟨gb212, 1, none⟩ = some (.slice A1_1 l1_1.length c1_1) := (blk_cell BK212.out 1).trans rfl
                        have hcz76_2 : wc.cell? ⟨gb212, 2, none⟩ = some (.slice A1_2 l1_2.length c1_2) := (blk_cell BK212.out 2).trans rfl
                        have hcz76_3 : wc.cell? ⟨gb212, 3, none⟩ = some (.slice A1_3 l1_3.length c1_3) := (blk_cell BK212.out 3).trans rfl
                        have hcz76_4 : wc.cell? ⟨gb212, 4, none⟩ = some (.string a1_4) := (blk_cell BK212.out 4).trans rfl
                        have hcz76_5 : wc.cell? ⟨gb212, 5, none⟩ = some (.bool a1_5) := (blk_cell BK212.out 5).trans rfl
                        have hcz76_6 : wc.cell? ⟨gb212, 6, none⟩ = some (.string a1_6) := (blk_cell BK212.out 6).trans rfl
                        have hfz76_0 := blk_frozen BK212.out 0
                        have hfz76_1 := blk_frozen BK212.out 1
                        have hfz76_2 := blk_frozen BK212.out 2
                        have hfz76_3 := blk_frozen BK212.out 3
                        have hfz76_4 := blk_frozen BK212.out 4
                        have hfz76_5 := blk_frozen BK212.out 5
                        have hfz76_6 := blk_frozen BK212.out 6
                        go_wp2_with (first | ((with_reducible refine gate_callee (f := 25) rfl ?_); refine goesL_ (some 58) rfl rfl Tryd.func25 (by kernel_rfl) rfl #[.slice A0_0 l0_0.length c0_0, .slice A1_0 l1_0.length c1_0] rfl (by (try simp only [List.map_toArray, List.map_cons, List.map_nil]); first | done | rfl | (simp only [List.length_drop, List.length_take]; rfl)) ?_; (with_reducible refine (cruciblelaw0_SameTexts.calls kj36 _ _ l0_0 _ _ l1_0 true _ ?side1 ?side2 ?side3 ?side4 A44.out).mono ?_); (case side1 => repeat (first | exact (Kd.C_below HR0_0.out HB.out) | (with_reducible refine Kd.C_alloc ?_ _) | (with_reducible refine Kd.C_drewN ?_ _) | (with_reducible refine Kd.C_drew ?_))); (case side2 => exact HC0_0.out); (case side3 => repeat (first | exact (Kd.C_below HR1_0.out HB.out) | (with_reducible refine Kd.C_alloc ?_ _) | (with_reducible refine Kd.C_drewN ?_ _) | (with_reducible refine Kd.C_drew ?_))); (case side4 => exact HC1_0.out); rintro e w' ⟨rfl, ⟨nd, rfl⟩⟩; refine ⟨_, rfl, ?_⟩) | (go_at_call 25; (with_reducible refine (cruciblelaw0_SameTexts.calls kj36 _ _ l0_1 _ _ l1_1 true _ ?side1 ?side2 ?side3 ?side4 A46.out).mono ?_); (case side1 => repeat (first | exact (Kd.C_below HR0_1.out (by repeat (first | (with_reducible first | exact HB.out | apply below_alloc | apply pw_below_drewN | apply below_drew1 | refine below_set ?_ GE211.out | refine below_set ?_ GE212.out | refine below_set ?_ GE228.out) | exact HB.out))) | (with_reducible refine Kd.C_alloc ?_ _) | (with_reducible refine Kd.C_drewN ?_ _) | (with_reducible refine Kd.C_drew ?_))); (case side2 => exact HC0_1.out); (case side3 => repeat (first | exact (Kd.C_below HR1_1.out (by repeat (first | (with_reducible first | exact HB.out | apply below_alloc | apply pw_below_drewN | apply below_drew1 | refine below_set ?_ GE211.out | refine below_set ?_ GE212.out | refine below_set ?_ GE228.out) | exact HB.out))) | (with_reducible refine Kd.C_alloc ?_ _) | (with_reducible refine Kd.C_drewN ?_ _) | (with_reducible refine Kd.C_drew ?_))); (case side4 => exact HC1_1.out); rintro e w' ⟨rfl, ⟨nd, rfl⟩⟩) | (go_at_call 25; (with_reducible refine (cruciblelaw0_SameTexts.calls kj36 _ _ l0_2 _ _ l1_2 true _ ?side1 ?side2 ?side3 ?side4 A48.out).mono ?_); (case side1 => repeat (first | exact (Kd.C_below HR0_2.out (by repeat (first | (with_reducible first | exact HB.out | apply below_alloc | apply pw_below_drewN | apply below_drew1 | refine below_set ?_ GE211.out | refine below_set ?_ GE212.out | refine below_set ?_ GE228.out) | exact HB.out))) | (with_reducible refine Kd.C_alloc ?_ _) | (with_reducible refine Kd.C_drewN ?_ _) | (with_reducible refine Kd.C_drew ?_))); (case side2 => exact HC0_2.out); (case side3 => repeat (first | exact (Kd.C_below HR1_2.out (by repeat (first | (with_reducible first | exact HB.out | apply below_alloc | apply pw_below_drewN | apply below_drew1 | refine below_set ?_ GE211.out | refine below_set ?_ GE212.out | refine below_set ?_ GE228.out) | exact HB.out))) | (with_reducible refine Kd.C_alloc ?_ _) | (with_reducible refine Kd.C_drewN ?_ _) | (with_reducible refine Kd.C_drew ?_))); (case side4 => exact HC1_2.out); rintro e w' ⟨rfl, ⟨nd, rfl⟩⟩))
                        go_ret
                        exact ⟨by first | rfl | (simp [errW_none, errW_some] <;> rfl) | (simp [*, errW_none, errW_some] <;> rfl), by repeat (first | (with_reducible first | exact HB.out | apply below_alloc | apply pw_below_drewN | apply below_drew1 | refine below_set ?_ GE211.out | refine below_set ?_ GE212.out | refine below_set ?_ GE228.out) | exact HB.out)⟩
                  · replace c49 := Bool.eq_false_iff.mpr c49
                    subst c49
                    have H1 : (if ((t229.toList == t233.toList) == false) = true then ((cruciblelaw11_awake.f kj36).bind fun t245 => (some t245)) else (some false)) = some r := by rw [if_neg (show ¬ (false = true) by decide)] at H; exact H
                    clear H
                    have H := H1
                    clear H1
                    by_cases c77 : ((t229.toList == t233.toList) == false) = true
                    · rw [if_pos c77] at H
                      have c77b0 : ((t229.toList == t233.toList) == false) = true := c77
                      (try (have c77b1 : decide ((t229.toList == t233.toList) = false) = true := by simpa using c77))
                      (try (have c77b2 : ((t229.toList == t233.toList) == false) = true := by simpa using c77))
                      clear c77
                      replace H := Option.bind_eq_some_iff.mp H
                      obtain ⟨t245, A780, H⟩ := H
                      replace H : (some t245) = some r := H
                      have A78 := Aside0.mk A780
                      clear A780
                      obtain rfl := Option.some.inj H
                      have hnb79 := NB211_212.out
                      have hnc79 := NB212_211.out
                      have hnb80 := NB211_228.out
                      have hnc80 := NB228_211.out
                      have hcz81_0 : wc.cell? ⟨gb211, 0, none⟩ = some (.slice A0_0 l0_0.length c0_0) := (blk_cell BK211.out 0).trans rfl
                      have hcz81_1 : wc.cell? ⟨gb211, 1, none⟩ = some (.slice A0_1 l0_1.length c0_1) := (blk_cell BK211.out 1).trans rfl
                      have hcz81_2 : wc.cell? ⟨gb211, 2, none⟩ = some (.slice A0_2 l0_2.length c0_2) := (blk_cell BK211.out 2).trans rfl
                      have hcz81_3 : wc.cell? ⟨gb211, 3, none⟩ = some (.slice A0_3 l0_3.length c0_3) := (blk_cell BK211.out 3).trans rfl
                      have hcz81_4 : wc.cell? ⟨gb211, 4, none⟩ = some (.string a0_4) := (blk_cell BK211.out 4).trans rfl
                      have hcz81_5 : wc.cell? ⟨gb211, 5, none⟩ = some (.bool a0_5) := (blk_cell BK211.out 5).trans rfl
                      have hcz81_6 : wc.cell? ⟨gb211, 6, none⟩ = some (.string a0_6) := (blk_cell BK211.out 6).trans rfl
                      have hfz81_0 := blk_frozen BK211.out 0
                      have hfz81_1 := blk_frozen BK211.out 1
                      have hfz81_2 := blk_frozen BK211.out 2
                      have hfz81_3 := blk_frozen BK211.out 3
                      have hfz81_4 := blk_frozen BK211.out 4
                      have hfz81_5 := blk_frozen BK211.out 5
                      have hfz81_6 := blk_frozen BK211.out 6
                      have hnb82 := NB212_228.out
                      have hnc82 := NB228_212.out
                      have hcz83_0 : wc.cell? ⟨gb212, 0, none⟩ = some (.slice A1_0 l1_0.length c1_0) := (blk_cell BK212.out 0).trans rfl
                      have hcz83_1 : wc.cell? ⟨gb212, 1, none⟩ = some (.slice A1_1 l1_1.length c1_1) := (blk_cell BK212.out 1).trans rfl
                      have hcz83_2 : wc.cell? ⟨gb212, 2, none⟩ = some (.slice A1_2 l1_2.length c1_2) := (blk_cell BK212.out 2).trans rfl
                      have hcz83_3 : wc.cell? ⟨gb212, 3, none⟩ = some (.slice A1_3 l1_3.length c1_3) := (blk_cell BK212.out 3).trans rfl
                      have hcz83_4 : wc.cell? ⟨gb212, 4, none⟩ = some (.string a1_4) := (blk_cell BK212.out 4).trans rfl
                      have hcz83_5 : wc.cell? ⟨gb212, 5, none⟩ = some (.bool a1_5) := (blk_cell BK212.out 5).trans rfl
                      have hcz83_6 : wc.cell? ⟨gb212, 6, none⟩ = some (.string a1_6) := (blk_cell BK212.out 6).trans rfl
                      have hfz83_0 := blk_frozen BK212.out 0
                      have hfz83_1 := blk_frozen BK212.out 1
                      have hfz83_2 := blk_frozen BK212.out 2
                      have hfz83_3 := blk_frozen BK212.out 3
                      have hfz83_4 := blk_frozen BK212.out 4
                      have hfz83_5 := blk_frozen BK212.out 5
                      have hfz83_6 := blk_frozen BK212.out 6
                      go_wp2_with (first | ((with_reducible refine gate_callee (f := 25) rfl ?_); refine goesL_ (some 58) rfl rfl Tryd.func25 (by kernel_rfl) rfl #[.slice A0_0 l0_0.length c0_0, .slice A1_0 l1_0.length c1_0] rfl (by (try simp only [List.map_toArray, List.map_cons, List.map_nil]); first | done | rfl | (simp only [List.length_drop, List.length_take]; rfl)) ?_; (with_reducible refine (cruciblelaw0_SameTexts.calls kj36 _ _ l0_0 _ _ l1_0 true _ ?side1 ?side2 ?side3 ?side4 A44.out).mono ?_); (case side1 => repeat (first | exact (Kd.C_below HR0_0.out HB.out) | (with_reducible refine Kd.C_alloc ?_ _) | (with_reducible refine Kd.C_drewN ?_ _) | (with_reducible refine Kd.C_drew ?_))); (case side2 => exact HC0_0.out); (case side3 => repeat (first | exact (Kd.C_below HR1_0.out HB.out) | (with_reducible refine Kd.C_alloc ?_ _) | (with_reducible refine Kd.C_drewN ?_ _) | (with_reducible refine Kd.C_drew ?_))); (case side4 => exact HC1_0.out); rintro e w' ⟨rfl, ⟨nd, rfl⟩⟩; refine ⟨_, rfl, ?_⟩) | (go_at_call 25; (with_reducible refine (cruciblelaw0_SameTexts.calls kj36 _ _ l0_1 _ _ l1_1 true _ ?side1 ?side2 ?side3 ?side4 A46.out).mono ?_); (case side1 => repeat (first | exact (Kd.C_below HR0_1.out (by repeat (first | (with_reducible first | exact HB.out | apply below_alloc | apply pw_below_drewN | apply below_drew1 | refine below_set ?_ GE211.out | refine below_set ?_ GE212.out | refine below_set ?_ GE228.out) | exact HB.out))) | (with_reducible refine Kd.C_alloc ?_ _) | (with_reducible refine Kd.C_drewN ?_ _) | (with_reducible refine Kd.C_drew ?_))); (case side2 => exact HC0_1.out); (case side3 => repeat (first | exact (Kd.C_below HR1_1.out (by repeat (first | (with_reducible first | exact HB.out | apply below_alloc | apply pw_below_drewN | apply below_drew1 | refine below_set ?_ GE211.out | refine below_set ?_ GE212.out | refine below_set ?_ GE228.out) | exact HB.out))) | (with_reducible refine Kd.C_alloc ?_ _) | (with_reducible refine Kd.C_drewN ?_ _) | (with_reducible refine Kd.C_drew ?_))); (case side4 => exact HC1_1.out); rintro e w' ⟨rfl, ⟨nd, rfl⟩⟩) | (go_at_call 25; (with_reducible refine (cruciblelaw0_SameTexts.calls kj36 _ _ l0_2 _ _ l1_2 false _ ?side1 ?side2 ?side3 ?side4 A48.out).mono ?_); (case side1 => repeat (first | exact (Kd.C_below HR0_2.out (by repeat (first | (with_reducible first | exact HB.out | apply below_alloc | apply pw_below_drewN | apply below_drew1 | refine below_set ?_ GE211.out | refine below_set ?_ GE212.out | refine below_set ?_ GE228.out) | exact HB.out))) | (with_reducible refine Kd.C_alloc ?_ _) | (with_reducible refine Kd.C_drewN ?_ _) | (with_reducible refine Kd.C_drew ?_))); (case side2 => exact HC0_2.out); (case side3 => repeat (first | exact (Kd.C_below HR1_2.out (by repeat (first | (with_reducible first | exact HB.out | apply below_alloc | apply pw_below_drewN | apply below_drew1 | refine below_set ?_ GE211.out | refine below_set ?_ GE212.out | refine below_set ?_ GE228.out) | exact HB.out))) | (with_reducible refine Kd.C_alloc ?_ _) | (with_reducible refine Kd.C_drewN ?_ _) | (with_reducible refine Kd.C_drew ?_))); (case side4 => exact HC1_2.out); rintro e w' ⟨rfl, ⟨nd, rfl⟩⟩) | (go_at_call 24; (with_reducible refine (cruciblelaw11_awake.calls kj36  t245 _ A78.out).mono ?_); rintro e w84 ⟨rfl, hb⟩; have n0_ := Aside0.mk (Kd.R_below (by (with_reducible repeat (first | apply Kd.R_alloc | apply Kd.R_drewN | apply Kd.R_drew)); exact HO_229000.out) hb); have n1_ := Aside0.mk (Kd.R_below (by (with_reducible repeat (first | apply Kd.R_alloc | apply Kd.R_drewN | apply Kd.R_drew)); exact HO_229001.out) hb); have n2_ := Aside0.mk (Kd.R_below (by (with_reducible repeat (first | apply Kd.R_alloc | apply Kd.R_drewN | apply Kd.R_drew)); exact HO_229002.out) hb); have n3_ := Aside0.mk (Kd.R_below (by (with_reducible repeat (first | apply Kd.R_alloc | apply Kd.R_drewN | apply Kd.R_drew)); exact HO_229003.out) hb); have n4_ := Aside0.mk (blk_below (g := gb211) (o := .cells #[.slice A0_0 l0_0.length c0_0, .slice A0_1 l0_1.length c0_1, .slice A0_2 l0_2.length c0_2, .slice A0_3 l0_3.length c0_3, .string a0_4, .bool a0_5, .string a0_6] 24 (0, 0)) (by (with_reducible repeat (first | refine blk_drewN ?_ _ | refine blk_drew ?_ | refine blk_alloc ?_ _)); exact BK211.out) hb); have n5_ := Aside0.mk (blk_below (g := gb212) (o := .cells #[.slice A1_0 l1_0.length c1_0, .slice A1_1 l1_1.length c1_1, .slice A1_2 l1_2.length c1_2, .slice A1_3 l1_3.length c1_3, .string a1_4, .bool a1_5, .string a1_6] 24 (0, 0)) (by (with_reducible repeat (first | refine blk_drewN ?_ _ | refine blk_drew ?_ | refine blk_alloc ?_ _)); exact BK212.out) hb); have n6_ := Aside0.mk (blk_below (g := gb228) (o := .cells #[.slice Ao14 t213.length co14, .slice Ao18 t216.length co18, .slice Ao19 t219.length co19, .slice Ao20 t222.length co20, .string t225, .bool t226, .string t227] 24 (0, 0)) (by (with_reducible repeat (first | refine blk_drewN ?_ _ | refine blk_drew ?_ | refine blk_alloc ?_ _)); exact BK228.out) hb); have n7_ := Aside0.mk (below_step (by repeat (first | (with_reducible first | exact HB.out | apply below_alloc | apply pw_below_drewN | apply below_drew1 | refine below_set ?_ GE211.out | refine below_set ?_ GE212.out | refine below_set ?_ GE228.out) | exact HB.out)) hb); clear HO_229000; clear HO_229001; clear HO_229002; clear HO_229003; clear BK211; clear BK212; clear BK228; clear HB; have HO_229000 := n0_; have HO_229001 := n1_; have HO_229002 := n2_; have HO_229003 := n3_; have BK211 := n4_; have BK212 := n5_; have BK228 := n6_; have HB := n7_; clear n0_ n1_ n2_ n3_ n4_ n5_ n6_ n7_; (try clear hb); (try clear hb2); (try clear hk); (try clear hi)))
                      go_ret
                      exact ⟨by first | rfl | (simp [errW_none, errW_some] <;> rfl) | (simp [*, errW_none, errW_some] <;> rfl), by repeat (first | (with_reducible first | exact HB.out | apply below_alloc | apply pw_below_drewN | apply below_drew1 | refine below_set ?_ GE211.out | refine below_set ?_ GE212.out | refine below_set ?_ GE228.out) | exact HB.out)⟩
                    · rw [if_neg c77] at H
                      have c77b0 : ((t229.toList == t233.toList) == false) = false := by simpa using c77
                      (try (have c77b1 : decide ((t229.toList == t233.toList) = false) = false := by simpa using c77))
                      (try (have c77b2 : ((t229.toList == t233.toList) == false) = false := by simpa using c77))
                      (try (have c77b3 : ¬ ((t229.toList == t233.toList) = false) := by simpa using c77))
                      clear c77
                      obtain rfl := Option.some.inj H
                      have hnb85 := NB211_212.out
                      have hnc85 := NB212_211.out
                      have hnb86 := NB211_228.out
                      have hnc86 := NB228_211.out
                      have hcz87_0 : wc.cell? ⟨gb211, 0, none⟩ = some (.slice A0_0 l0_0.length c0_0) := (blk_cell BK211.out 0).trans rfl
                      have hcz87_1 : wc.cell? ⟨gb211, 1, none⟩ = some (.slice A0_1 l0_1.length c0_1) := (blk_cell BK211.out 1).trans rfl
                      have hcz87_2 : wc.cell? ⟨gb211, 2, none⟩ = some (.slice A0_2 l0_2.length c0_2) := (blk_cell BK211.out 2).trans rfl
                      have hcz87_3 : wc.cell? ⟨gb211, 3, none⟩ = some (.slice A0_3 l0_3.length c0_3) := (blk_cell BK211.out 3).trans rfl
                      have hcz87_4 : wc.cell? ⟨gb211, 4, none⟩ = some (.string a0_4) := (blk_cell BK211.out 4).trans rfl
                      have hcz87_5 : wc.cell? ⟨gb211, 5, none⟩ = some (.bool a0_5) := (blk_cell BK211.out 5).trans rfl
                      have hcz87_6 : wc.cell? ⟨gb211, 6, none⟩ = some (.string a0_6) := (blk_cell BK211.out 6).trans rfl
                      have hfz87_0 := blk_frozen BK211.out 0
                      have hfz87_1 := blk_frozen BK211.out 1
                      have hfz87_2 := blk_frozen BK211.out 2
                      have hfz87_3 := blk_frozen BK211.out 3
                      have hfz87_4 := blk_frozen BK211.out 4
                      have hfz87_5 := blk_frozen BK211.out 5
                      have hfz87_6 := blk_frozen BK211.out 6
                      have hnb88 := NB212_228.out
                      have hnc88 := NB228_212.out
                      have hcz89_0 : wc.cell? ⟨gb212, 0, none⟩ = some (.slice A1_0 l1_0.length c1_0) := (blk_cell BK212.out 0).trans rfl
                      have hcz89_1 : wc.cell? ⟨gb212, 1, none⟩ = some (.slice A1_1 l1_1.length c1_1) := (blk_cell BK212.out 1).trans rfl
                      have hcz89_2 : wc.cell? ⟨gb212, 2, none⟩ = some (.slice A1_2 l1_2.length c1_2) := (blk_cell BK212.out 2).trans rfl
                      have hcz89_3 : wc.cell? ⟨gb212, 3, none⟩ = some (.slice A1_3 l1_3.length c1_3) := (blk_cell BK212.out 3).trans rfl
                      have hcz89_4 : wc.cell? ⟨gb212, 4, none⟩ = some (.string a1_4) := (blk_cell BK212.out 4).trans rfl
                      have hcz89_5 : wc.cell? ⟨gb212, 5, none⟩ = some (.bool a1_5) := (blk_cell BK212.out 5).trans rfl
                      have hcz89_6 : wc.cell? ⟨gb212, 6, none⟩ = some (.string a1_6) := (blk_cell BK212.out 6).trans rfl
                      have hfz89_0 := blk_frozen BK212.out 0
                      have hfz89_1 := blk_frozen BK212.out 1
                      have hfz89_2 := blk_frozen BK212.out 2
                      have hfz89_3 := blk_frozen BK212.out 3
                      have hfz89_4 := blk_frozen BK212.out 4
                      have hfz89_5 := blk_frozen BK212.out 5
                      have hfz89_6 := blk_frozen BK212.out 6
                      go_wp2_with (first | ((with_reducible refine gate_callee (f := 25) rfl ?_); refine goesL_ (some 58) rfl rfl Tryd.func25 (by kernel_rfl) rfl #[.slice A0_0 l0_0.length c0_0, .slice A1_0 l1_0.length c1_0] rfl (by (try simp only [List.map_toArray, List.map_cons, List.map_nil]); first | done | rfl | (simp only [List.length_drop, List.length_take]; rfl)) ?_; (with_reducible refine (cruciblelaw0_SameTexts.calls kj36 _ _ l0_0 _ _ l1_0 true _ ?side1 ?side2 ?side3 ?side4 A44.out).mono ?_); (case side1 => repeat (first | exact (Kd.C_below HR0_0.out HB.out) | (with_reducible refine Kd.C_alloc ?_ _) | (with_reducible refine Kd.C_drewN ?_ _) | (with_reducible refine Kd.C_drew ?_))); (case side2 => exact HC0_0.out); (case side3 => repeat (first | exact (Kd.C_below HR1_0.out HB.out) | (with_reducible refine Kd.C_alloc ?_ _) | (with_reducible refine Kd.C_drewN ?_ _) | (with_reducible refine Kd.C_drew ?_))); (case side4 => exact HC1_0.out); rintro e w' ⟨rfl, ⟨nd, rfl⟩⟩; refine ⟨_, rfl, ?_⟩) | (go_at_call 25; (with_reducible refine (cruciblelaw0_SameTexts.calls kj36 _ _ l0_1 _ _ l1_1 true _ ?side1 ?side2 ?side3 ?side4 A46.out).mono ?_); (case side1 => repeat (first | exact (Kd.C_below HR0_1.out (by repeat (first | (with_reducible first | exact HB.out | apply below_alloc | apply pw_below_drewN | apply below_drew1 | refine below_set ?_ GE211.out | refine below_set ?_ GE212.out | refine below_set ?_ GE228.out) | exact HB.out))) | (with_reducible refine Kd.C_alloc ?_ _) | (with_reducible refine Kd.C_drewN ?_ _) | (with_reducible refine Kd.C_drew ?_))); (case side2 => exact HC0_1.out); (case side3 => repeat (first | exact (Kd.C_below HR1_1.out (by repeat (first | (with_reducible first | exact HB.out | apply below_alloc | apply pw_below_drewN | apply below_drew1 | refine below_set ?_ GE211.out | refine below_set ?_ GE212.out | refine below_set ?_ GE228.out) | exact HB.out))) | (with_reducible refine Kd.C_alloc ?_ _) | (with_reducible refine Kd.C_drewN ?_ _) | (with_reducible refine Kd.C_drew ?_))); (case side4 => exact HC1_1.out); rintro e w' ⟨rfl, ⟨nd, rfl⟩⟩) | (go_at_call 25; (with_reducible refine (cruciblelaw0_SameTexts.calls kj36 _ _ l0_2 _ _ l1_2 false _ ?side1 ?side2 ?side3 ?side4 A48.out).mono ?_); (case side1 => repeat (first | exact (Kd.C_below HR0_2.out (by repeat (first | (with_reducible first | exact HB.out | apply below_alloc | apply pw_below_drewN | apply below_drew1 | refine below_set ?_ GE211.out | refine below_set ?_ GE212.out | refine below_set ?_ GE228.out) | exact HB.out))) | (with_reducible refine Kd.C_alloc ?_ _) | (with_reducible refine Kd.C_drewN ?_ _) | (with_reducible refine Kd.C_drew ?_))); (case side2 => exact HC0_2.out); (case side3 => repeat (first | exact (Kd.C_below HR1_2.out (by repeat (first | (with_reducible first | exact HB.out | apply below_alloc | apply pw_below_drewN | apply below_drew1 | refine below_set ?_ GE211.out | refine below_set ?_ GE212.out | refine below_set ?_ GE228.out) | exact HB.out))) | (with_reducible refine Kd.C_alloc ?_ _) | (with_reducible refine Kd.C_drewN ?_ _) | (with_reducible refine Kd.C_drew ?_))); (case side4 => exact HC1_2.out); rintro e w' ⟨rfl, ⟨nd, rfl⟩⟩))
                      go_ret
                      exact ⟨by first | rfl | (simp [errW_none, errW_some] <;> rfl) | (simp [*, errW_none, errW_some] <;> rfl), by repeat (first | (with_reducible first | exact HB.out | apply below_alloc | apply pw_below_drewN | apply below_drew1 | refine below_set ?_ GE211.out | refine below_set ?_ GE212.out | refine below_set ?_ GE228.out) | exact HB.out)⟩
                · replace c47 := Bool.eq_false_iff.mpr c47
                  subst c47
                  have H1 : (if ((t229.toList == t233.toList) == false) = true then ((cruciblelaw11_awake.f kj36).bind fun t246 => (some t246)) else (some false)) = some r := by rw [if_neg (show ¬ (false = true) by decide)] at H; exact H
                  clear H
                  have H := H1
                  clear H1
                  by_cases c90 : ((t229.toList == t233.toList) == false) = true
                  · rw [if_pos c90] at H
                    have c90b0 : ((t229.toList == t233.toList) == false) = true := c90
                    (try (have c90b1 : decide ((t229.toList == t233.toList) = false) = true := by simpa using c90))
                    (try (have c90b2 : ((t229.toList == t233.toList) == false) = true := by simpa using c90))
                    clear c90
                    replace H := Option.bind_eq_some_iff.mp H
                    obtain ⟨t246, A910, H⟩ := H
                    replace H : (some t246) = some r := H
                    have A91 := Aside0.mk A910
                    clear A910
                    obtain rfl := Option.some.inj H
                    have hnb92 := NB211_212.out
                    have hnc92 := NB212_211.out
                    have hnb93 := NB211_228.out
                    have hnc93 := NB228_211.out
                    have hcz94_0 : wc.cell? ⟨gb211, 0, none⟩ = some (.slice A0_0 l0_0.length c0_0) := (blk_cell BK211.out 0).trans rfl
                    have hcz94_1 : wc.cell? ⟨gb211, 1, none⟩ = some (.slice A0_1 l0_1.length c0_1) := (blk_cell BK211.out 1).trans rfl
                    have hcz94_2 : wc.cell? ⟨gb211, 2, none⟩ = some (.slice A0_2 l0_2.length c0_2) := (blk_cell BK211.out 2).trans rfl
                    have hcz94_3 : wc.cell? ⟨gb211, 3, none⟩ = some (.slice A0_3 l0_3.length c0_3) := (blk_cell BK211.out 3).trans rfl
                    have hcz94_4 : wc.cell? ⟨gb211, 4, none⟩ = some (.string a0_4) := (blk_cell BK211.out 4).trans rfl
                    have hcz94_5 : wc.cell? ⟨gb211, 5, none⟩ = some (.bool a0_5) := (blk_cell BK211.out 5).trans rfl
                    have hcz94_6 : wc.cell? ⟨gb211, 6, none⟩ = some (.string a0_6) := (blk_cell BK211.out 6).trans rfl
                    have hfz94_0 := blk_frozen BK211.out 0
                    have hfz94_1 := blk_frozen BK211.out 1
                    have hfz94_2 := blk_frozen BK211.out 2
                    have hfz94_3 := blk_frozen BK211.out 3
                    have hfz94_4 := blk_frozen BK211.out 4
                    have hfz94_5 := blk_frozen BK211.out 5
                    have hfz94_6 := blk_frozen BK211.out 6
                    have hnb95 := NB212_228.out
                    have hnc95 := NB228_212.out
                    have hcz96_0 : wc.cell? ⟨gb212, 0, none⟩ = some (.slice A1_0 l1_0.length c1_0) := (blk_cell BK212.out 0).trans rfl
                    have hcz96_1 : wc.cell? ⟨gb212, 1, none⟩ = some (.slice A1_1 l1_1.length c1_1) := (blk_cell BK212.out 1).trans rfl
                    have hcz96_2 : wc.cell? ⟨gb212, 2, none⟩ = some (.slice A1_2 l1_2.length c1_2) := (blk_cell BK212.out 2).trans rfl
                    have hcz96_3 : wc.cell? ⟨gb212, 3, none⟩ = some (.slice A1_3 l1_3.length c1_3) := (blk_cell BK212.out 3).trans rfl
                    have hcz96_4 : wc.cell? ⟨gb212, 4, none⟩ = some (.string a1_4) := (blk_cell BK212.out 4).trans rfl
                    have hcz96_5 : wc.cell? ⟨gb212, 5, none⟩ = some (.bool a1_5) := (blk_cell BK212.out 5).trans rfl
                    have hcz96_6 : wc.cell? ⟨gb212, 6, none⟩ = some (.string a1_6) := (blk_cell BK212.out 6).trans rfl
                    have hfz96_0 := blk_frozen BK212.out 0
                    have hfz96_1 := blk_frozen BK212.out 1
                    have hfz96_2 := blk_frozen BK212.out 2
                    have hfz96_3 := blk_frozen BK212.out 3
                    have hfz96_4 := blk_frozen BK212.out 4
                    have hfz96_5 := blk_frozen BK212.out 5
                    have hfz96_6 := blk_frozen BK212.out 6
                    go_wp2_with (first | ((with_reducible refine gate_callee (f := 25) rfl ?_); refine goesL_ (some 58) rfl rfl Tryd.func25 (by kernel_rfl) rfl #[.slice A0_0 l0_0.length c0_0, .slice A1_0 l1_0.length c1_0] rfl (by (try simp only [List.map_toArray, List.map_cons, List.map_nil]); first | done | rfl | (simp only [List.length_drop, List.length_take]; rfl)) ?_; (with_reducible refine (cruciblelaw0_SameTexts.calls kj36 _ _ l0_0 _ _ l1_0 true _ ?side1 ?side2 ?side3 ?side4 A44.out).mono ?_); (case side1 => repeat (first | exact (Kd.C_below HR0_0.out HB.out) | (with_reducible refine Kd.C_alloc ?_ _) | (with_reducible refine Kd.C_drewN ?_ _) | (with_reducible refine Kd.C_drew ?_))); (case side2 => exact HC0_0.out); (case side3 => repeat (first | exact (Kd.C_below HR1_0.out HB.out) | (with_reducible refine Kd.C_alloc ?_ _) | (with_reducible refine Kd.C_drewN ?_ _) | (with_reducible refine Kd.C_drew ?_))); (case side4 => exact HC1_0.out); rintro e w' ⟨rfl, ⟨nd, rfl⟩⟩; refine ⟨_, rfl, ?_⟩) | (go_at_call 25; (with_reducible refine (cruciblelaw0_SameTexts.calls kj36 _ _ l0_1 _ _ l1_1 false _ ?side1 ?side2 ?side3 ?side4 A46.out).mono ?_); (case side1 => repeat (first | exact (Kd.C_below HR0_1.out (by repeat (first | (with_reducible first | exact HB.out | apply below_alloc | apply pw_below_drewN | apply below_drew1 | refine below_set ?_ GE211.out | refine below_set ?_ GE212.out | refine below_set ?_ GE228.out) | exact HB.out))) | (with_reducible refine Kd.C_alloc ?_ _) | (with_reducible refine Kd.C_drewN ?_ _) | (with_reducible refine Kd.C_drew ?_))); (case side2 => exact HC0_1.out); (case side3 => repeat (first | exact (Kd.C_below HR1_1.out (by repeat (first | (with_reducible first | exact HB.out | apply below_alloc | apply pw_below_drewN | apply below_drew1 | refine below_set ?_ GE211.out | refine below_set ?_ GE212.out | refine below_set ?_ GE228.out) | exact HB.out))) | (with_reducible refine Kd.C_alloc ?_ _) | (with_reducible refine Kd.C_drewN ?_ _) | (with_reducible refine Kd.C_drew ?_))); (case side4 => exact HC1_1.out); rintro e w' ⟨rfl, ⟨nd, rfl⟩⟩) | (go_at_call 24; (with_reducible refine (cruciblelaw11_awake.calls kj36  t246 _ A91.out).mono ?_); rintro e w97 ⟨rfl, hb⟩; have n0_ := Aside0.mk (Kd.R_below (by (with_reducible repeat (first | apply Kd.R_alloc | apply Kd.R_drewN | apply Kd.R_drew)); exact HO_229000.out) hb); have n1_ := Aside0.mk (Kd.R_below (by (with_reducible repeat (first | apply Kd.R_alloc | apply Kd.R_drewN | apply Kd.R_drew)); exact HO_229001.out) hb); have n2_ := Aside0.mk (Kd.R_below (by (with_reducible repeat (first | apply Kd.R_alloc | apply Kd.R_drewN | apply Kd.R_drew)); exact HO_229002.out) hb); have n3_ := Aside0.mk (Kd.R_below (by (with_reducible repeat (first | apply Kd.R_alloc | apply Kd.R_drewN | apply Kd.R_drew)); exact HO_229003.out) hb); have n4_ := Aside0.mk (blk_below (g := gb211) (o := .cells #[.slice A0_0 l0_0.length c0_0, .slice A0_1 l0_1.length c0_1, .slice A0_2 l0_2.length c0_2, .slice A0_3 l0_3.length c0_3, .string a0_4, .bool a0_5, .string a0_6] 24 (0, 0)) (by (with_reducible repeat (first | refine blk_drewN ?_ _ | refine blk_drew ?_ | refine blk_alloc ?_ _)); exact BK211.out) hb); have n5_ := Aside0.mk (blk_below (g := gb212) (o := .cells #[.slice A1_0 l1_0.length c1_0, .slice A1_1 l1_1.length c1_1, .slice A1_2 l1_2.length c1_2, .slice A1_3 l1_3.length c1_3, .string a1_4, .bool a1_5, .string a1_6] 24 (0, 0)) (by (with_reducible repeat (first | refine blk_drewN ?_ _ | refine blk_drew ?_ | refine blk_alloc ?_ _)); exact BK212.out) hb); have n6_ := Aside0.mk (blk_below (g := gb228) (o := .cells #[.slice Ao14 t213.length co14, .slice Ao18 t216.length co18, .slice Ao19 t219.length co19, .slice Ao20 t222.length co20, .string t225, .bool t226, .string t227] 24 (0, 0)) (by (with_reducible repeat (first | refine blk_drewN ?_ _ | refine blk_drew ?_ | refine blk_alloc ?_ _)); exact BK228.out) hb); have n7_ := Aside0.mk (below_step (by repeat (first | (with_reducible first | exact HB.out | apply below_alloc | apply pw_below_drewN | apply below_drew1 | refine below_set ?_ GE211.out | refine below_set ?_ GE212.out | refine below_set ?_ GE228.out) | exact HB.out)) hb); clear HO_229000; clear HO_229001; clear HO_229002; clear HO_229003; clear BK211; clear BK212; clear BK228; clear HB; have HO_229000 := n0_; have HO_229001 := n1_; have HO_229002 := n2_; have HO_229003 := n3_; have BK211 := n4_; have BK212 := n5_; have BK228 := n6_; have HB := n7_; clear n0_ n1_ n2_ n3_ n4_ n5_ n6_ n7_; (try clear hb); (try clear hb2); (try clear hk); (try clear hi)))
                    go_ret
                    exact ⟨by first | rfl | (simp [errW_none, errW_some] <;> rfl) | (simp [*, errW_none, errW_some] <;> rfl), by repeat (first | (with_reducible first | exact HB.out | apply below_alloc | apply pw_below_drewN | apply below_drew1 | refine below_set ?_ GE211.out | refine below_set ?_ GE212.out | refine below_set ?_ GE228.out) | exact HB.out)⟩
                  · rw [if_neg c90] at H
                    have c90b0 : ((t229.toList == t233.toList) == false) = false := by simpa using c90
                    (try (have c90b1 : decide ((t229.toList == t233.toList) = false) = false := by simpa using c90))
                    (try (have c90b2 : ((t229.toList == t233.toList) == false) = false := by simpa using c90))
                    (try (have c90b3 : ¬ ((t229.toList == t233.toList) = false) := by simpa using c90))
                    clear c90
                    obtain rfl := Option.some.inj H
                    have hnb98 := NB211_212.out
                    have hnc98 := NB212_211.out
                    have hnb99 := NB211_228.out
                    have hnc99 := NB228_211.out
                    have hcz100_0 : wc.cell? ⟨gb211, 0, none⟩ = some (.slice A0_0 l0_0.length c0_0) := (blk_cell BK211.out 0).trans rfl
                    have hcz100_1 : wc.cell? ⟨gb211, 1, none⟩ = some (.slice A0_1 l0_1.length c0_1) := (blk_cell BK211.out 1).trans rfl
                    have hcz100_2 : wc.cell? ⟨gb211, 2, none⟩ = some (.slice A0_2 l0_2.length c0_2) := (blk_cell BK211.out 2).trans rfl
                    have hcz100_3 : wc.cell? ⟨gb211, 3, none⟩ = some (.slice A0_3 l0_3.length c0_3) := (blk_cell BK211.out 3).trans rfl
                    have hcz100_4 : wc.cell? ⟨gb211, 4, none⟩ = some (.string a0_4) := (blk_cell BK211.out 4).trans rfl
                    have hcz100_5 : wc.cell? ⟨gb211, 5, none⟩ = some (.bool a0_5) := (blk_cell BK211.out 5).trans rfl
                    have hcz100_6 : wc.cell? ⟨gb211, 6, none⟩ = some (.string a0_6) := (blk_cell BK211.out 6).trans rfl
                    have hfz100_0 := blk_frozen BK211.out 0
                    have hfz100_1 := blk_frozen BK211.out 1
                    have hfz100_2 := blk_frozen BK211.out 2
                    have hfz100_3 := blk_frozen BK211.out 3
                    have hfz100_4 := blk_frozen BK211.out 4
                    have hfz100_5 := blk_frozen BK211.out 5
                    have hfz100_6 := blk_frozen BK211.out 6
                    have hnb101 := NB212_228.out
                    have hnc101 := NB228_212.out
                    have hcz102_0 : wc.cell? ⟨gb212, 0, none⟩ = some (.slice A1_0 l1_0.length c1_0) := (blk_cell BK212.out 0).trans rfl
                    have hcz102_1 : wc.cell? ⟨gb212, 1, none⟩ = some (.slice A1_1 l1_1.length c1_1) := (blk_cell BK212.out 1).trans rfl
                    have hcz102_2 : wc.cell? ⟨gb212, 2, none⟩ = some (.slice A1_2 l1_2.length c1_2) := (blk_cell BK212.out 2).trans rfl
                    have hcz102_3 : wc.cell? ⟨gb212, 3, none⟩ = some (.slice A1_3 l1_3.length c1_3) := (blk_cell BK212.out 3).trans rfl
                    have hcz102_4 : wc.cell? ⟨gb212, 4, none⟩ = some (.string a1_4) := (blk_cell BK212.out 4).trans rfl
                    have hcz102_5 : wc.cell? ⟨gb212, 5, none⟩ = some (.bool a1_5) := (blk_cell BK212.out 5).trans rfl
                    have hcz102_6 : wc.cell? ⟨gb212, 6, none⟩ = some (.string a1_6) := (blk_cell BK212.out 6).trans rfl
                    have hfz102_0 := blk_frozen BK212.out 0
                    have hfz102_1 := blk_frozen BK212.out 1
                    have hfz102_2 := blk_frozen BK212.out 2
                    have hfz102_3 := blk_frozen BK212.out 3
                    have hfz102_4 := blk_frozen BK212.out 4
                    have hfz102_5 := blk_frozen BK212.out 5
                    have hfz102_6 := blk_frozen BK212.out 6
                    go_wp2_with (first | ((with_reducible refine gate_callee (f := 25) rfl ?_); refine goesL_ (some 58) rfl rfl Tryd.func25 (by kernel_rfl) rfl #[.slice A0_0 l0_0.length c0_0, .slice A1_0 l1_0.length c1_0] rfl (by (try simp only [List.map_toArray, List.map_cons, List.map_nil]); first | done | rfl | (simp only [List.length_drop, List.length_take]; rfl)) ?_; (with_reducible refine (cruciblelaw0_SameTexts.calls kj36 _ _ l0_0 _ _ l1_0 true _ ?side1 ?side2 ?side3 ?side4 A44.out).mono ?_); (case side1 => repeat (first | exact (Kd.C_below HR0_0.out HB.out) | (with_reducible refine Kd.C_alloc ?_ _) | (with_reducible refine Kd.C_drewN ?_ _) | (with_reducible refine Kd.C_drew ?_))); (case side2 => exact HC0_0.out); (case side3 => repeat (first | exact (Kd.C_below HR1_0.out HB.out) | (with_reducible refine Kd.C_alloc ?_ _) | (with_reducible refine Kd.C_drewN ?_ _) | (with_reducible refine Kd.C_drew ?_))); (case side4 => exact HC1_0.out); rintro e w' ⟨rfl, ⟨nd, rfl⟩⟩; refine ⟨_, rfl, ?_⟩) | (go_at_call 25; (with_reducible refine (cruciblelaw0_SameTexts.calls kj36 _ _ l0_1 _ _ l1_1 false _ ?side1 ?side2 ?side3 ?side4 A46.out).mono ?_); (case side1 => repeat (first | exact (Kd.C_below HR0_1.out (by repeat (first | (with_reducible first | exact HB.out | apply below_alloc | apply pw_below_drewN | apply below_drew1 | refine below_set ?_ GE211.out | refine below_set ?_ GE212.out | refine below_set ?_ GE228.out) | exact HB.out))) | (with_reducible refine Kd.C_alloc ?_ _) | (with_reducible refine Kd.C_drewN ?_ _) | (with_reducible refine Kd.C_drew ?_))); (case side2 => exact HC0_1.out); (case side3 => repeat (first | exact (Kd.C_below HR1_1.out (by repeat (first | (with_reducible first | exact HB.out | apply below_alloc | apply pw_below_drewN | apply below_drew1 | refine below_set ?_ GE211.out | refine below_set ?_ GE212.out | refine below_set ?_ GE228.out) | exact HB.out))) | (with_reducible refine Kd.C_alloc ?_ _) | (with_reducible refine Kd.C_drewN ?_ _) | (with_reducible refine Kd.C_drew ?_))); (case side4 => exact HC1_1.out); rintro e w' ⟨rfl, ⟨nd, rfl⟩⟩))
                    go_ret
                    exact ⟨by first | rfl | (simp [errW_none, errW_some] <;> rfl) | (simp [*, errW_none, errW_some] <;> rfl), by repeat (first | (with_reducible first | exact HB.out | apply below_alloc | apply pw_below_drewN | apply below_drew1 | refine below_set ?_ GE211.out | refine below_set ?_ GE212.out | refine below_set ?_ GE228.out) | exact HB.out)⟩
              · replace c45 := Bool.eq_false_iff.mpr c45
                subst c45
                have H1 : (if ((t229.toList == t233.toList) == false) = true then ((cruciblelaw11_awake.f kj36).bind fun t247 => (some t247)) else (some false)) = some r := by rw [if_neg (show ¬ (false = true) by decide)] at H; exact H
                clear H
                have H := H1
                clear H1
                by_cases c103 : ((t229.toList == t233.toList) == false) = true
                · rw [if_pos c103] at H
                  have c103b0 : ((t229.toList == t233.toList) == false) = true := c103
                  (try (have c103b1 : decide ((t229.toList == t233.toList) = false) = true := by simpa using c103))
                  (try (have c103b2 : ((t229.toList == t233.toList) == false) = true := by simpa using c103))
                  clear c103
                  replace H := Option.bind_eq_some_iff.mp H
                  obtain ⟨t247, A1040, H⟩ := H
                  replace H : (some t247) = some r := H
                  have A104 := Aside0.mk A1040
                  clear A1040
                  obtain rfl := Option.some.inj H
                  have hnb105 := NB211_212.out
                  have hnc105 := NB212_211.out
                  have hnb106 := NB211_228.out
                  have hnc106 := NB228_211.out
                  have hcz107_0 : wc.cell? ⟨gb211, 0, none⟩ = some (.slice A0_0 l0_0.length c0_0) := (blk_cell BK211.out 0).trans rfl
                  have hcz107_1 : wc.cell? ⟨gb211, 1, none⟩ = some (.slice A0_1 l0_1.length c0_1) := (blk_cell BK211.out 1).trans rfl
                  have hcz107_2 : wc.cell? ⟨gb211, 2, none⟩ = some (.slice A0_2 l0_2.length c0_2) := (blk_cell BK211.out 2).trans rfl
                  have hcz107_3 : wc.cell? ⟨gb211, 3, none⟩ = some (.slice A0_3 l0_3.length c0_3) := (blk_cell BK211.out 3).trans rfl
                  have hcz107_4 : wc.cell? ⟨gb211, 4, none⟩ = some (.string a0_4) := (blk_cell BK211.out 4).trans rfl
                  have hcz107_5 : wc.cell? ⟨gb211, 5, none⟩ = some (.bool a0_5) := (blk_cell BK211.out 5).trans rfl
                  have hcz107_6 : wc.cell? ⟨gb211, 6, none⟩ = some (.string a0_6) := (blk_cell BK211.out 6).trans rfl
                  have hfz107_0 := blk_frozen BK211.out 0
                  have hfz107_1 := blk_frozen BK211.out 1
                  have hfz107_2 := blk_frozen BK211.out 2
                  have hfz107_3 := blk_frozen BK211.out 3
                  have hfz107_4 := blk_frozen BK211.out 4
                  have hfz107_5 := blk_frozen BK211.out 5
                  have hfz107_6 := blk_frozen BK211.out 6
                  have hnb108 := NB212_228.out
                  have hnc108 := NB228_212.out
                  have hcz109_0 : wc.cell? ⟨gb212, 0, none⟩ = some (.slice A1_0 l1_0.length c1_0) := (blk_cell BK212.out 0).trans rfl
                  have hcz109_1 : wc.cell? ⟨gb212, 1, none⟩ = some (.slice A1_1 l1_1.length c1_1) := (blk_cell BK212.out 1).trans rfl
                  have hcz109_2 : wc.cell? ⟨gb212, 2, none⟩ = some (.slice A1_2 l1_2.length c1_2) := (blk_cell BK212.out 2).trans rfl
                  have hcz109_3 : wc.cell? ⟨gb212, 3, none⟩ = some (.slice A1_3 l1_3.length c1_3) := (blk_cell BK212.out 3).trans rfl
                  have hcz109_4 : wc.cell? ⟨gb212, 4, none⟩ = some (.string a1_4) := (blk_cell BK212.out 4).trans rfl
                  have hcz109_5 : wc.cell? ⟨gb212, 5, none⟩ = some (.bool a1_5) := (blk_cell BK212.out 5).trans rfl
                  have hcz109_6 : wc.cell? ⟨gb212, 6, none⟩ = some (.string a1_6) := (blk_cell BK212.out 6).trans rfl
                  have hfz109_0 := blk_frozen BK212.out 0
                  have hfz109_1 := blk_frozen BK212.out 1
                  have hfz109_2 := blk_frozen BK212.out 2
                  have hfz109_3 := blk_frozen BK212.out 3
                  have hfz109_4 := blk_frozen BK212.out 4
                  have hfz109_5 := blk_frozen BK212.out 5
                  have hfz109_6 := blk_frozen BK212.out 6
                  go_wp2_with (first | ((with_reducible refine gate_callee (f := 25) rfl ?_); refine goesL_ (some 58) rfl rfl Tryd.func25 (by kernel_rfl) rfl #[.slice A0_0 l0_0.length c0_0, .slice A1_0 l1_0.length c1_0] rfl (by (try simp only [List.map_toArray, List.map_cons, List.map_nil]); first | done | rfl | (simp only [List.length_drop, List.length_take]; rfl)) ?_; (with_reducible refine (cruciblelaw0_SameTexts.calls kj36 _ _ l0_0 _ _ l1_0 false _ ?side1 ?side2 ?side3 ?side4 A44.out).mono ?_); (case side1 => repeat (first | exact (Kd.C_below HR0_0.out HB.out) | (with_reducible refine Kd.C_alloc ?_ _) | (with_reducible refine Kd.C_drewN ?_ _) | (with_reducible refine Kd.C_drew ?_))); (case side2 => exact HC0_0.out); (case side3 => repeat (first | exact (Kd.C_below HR1_0.out HB.out) | (with_reducible refine Kd.C_alloc ?_ _) | (with_reducible refine Kd.C_drewN ?_ _) | (with_reducible refine Kd.C_drew ?_))); (case side4 => exact HC1_0.out); rintro e w' ⟨rfl, ⟨nd, rfl⟩⟩; refine ⟨_, rfl, ?_⟩) | (go_at_call 24; (with_reducible refine (cruciblelaw11_awake.calls kj36  t247 _ A104.out).mono ?_); rintro e w110 ⟨rfl, hb⟩; have n0_ := Aside0.mk (Kd.R_below (by (with_reducible repeat (first | apply Kd.R_alloc | apply Kd.R_drewN | apply Kd.R_drew)); exact HO_229000.out) hb); have n1_ := Aside0.mk (Kd.R_below (by (with_reducible repeat (first | apply Kd.R_alloc | apply Kd.R_drewN | apply Kd.R_drew)); exact HO_229001.out) hb); have n2_ := Aside0.mk (Kd.R_below (by (with_reducible repeat (first | apply Kd.R_alloc | apply Kd.R_drewN | apply Kd.R_drew)); exact HO_229002.out) hb); have n3_ := Aside0.mk (Kd.R_below (by (with_reducible repeat (first | apply Kd.R_alloc | apply Kd.R_drewN | apply Kd.R_drew)); exact HO_229003.out) hb); have n4_ := Aside0.mk (blk_below (g := gb211) (o := .cells #[.slice A0_0 l0_0.length c0_0, .slice A0_1 l0_1.length c0_1, .slice A0_2 l0_2.length c0_2, .slice A0_3 l0_3.length c0_3, .string a0_4, .bool a0_5, .string a0_6] 24 (0, 0)) (by (with_reducible repeat (first | refine blk_drewN ?_ _ | refine blk_drew ?_ | refine blk_alloc ?_ _)); exact BK211.out) hb); have n5_ := Aside0.mk (blk_below (g := gb212) (o := .cells #[.slice A1_0 l1_0.length c1_0, .slice A1_1 l1_1.length c1_1, .slice A1_2 l1_2.length c1_2, .slice A1_3 l1_3.length c1_3, .string a1_4, .bool a1_5, .string a1_6] 24 (0, 0)) (by (with_reducible repeat (first | refine blk_drewN ?_ _ | refine blk_drew ?_ | refine blk_alloc ?_ _)); exact BK212.out) hb); have n6_ := Aside0.mk (blk_below (g := gb228) (o := .cells #[.slice Ao14 t213.length co14, .slice Ao18 t216.length co18, .slice Ao19 t219.length co19, .slice Ao20 t222.length co20, .string t225, .bool t226, .string t227] 24 (0, 0)) (by (with_reducible repeat (first | refine blk_drewN ?_ _ | refine blk_drew ?_ | refine blk_alloc ?_ _)); exact BK228.out) hb); have n7_ := Aside0.mk (below_step (by repeat (first | (with_reducible first | exact HB.out | apply below_alloc | apply pw_below_drewN | apply below_drew1 | refine below_set ?_ GE211.out | refine below_set ?_ GE212.out | refine below_set ?_ GE228.out) | exact HB.out)) hb); clear HO_229000; clear HO_229001; clear HO_229002; clear HO_229003; clear BK211; clear BK212; clear BK228; clear HB; have HO_229000 := n0_; have HO_229001 := n1_; have HO_229002 := n2_; have HO_229003 := n3_; have BK211 := n4_; have BK212 := n5_; have BK228 := n6_; have HB := n7_; clear n0_ n1_ n2_ n3_ n4_ n5_ n6_ n7_; (try clear hb); (try clear hb2); (try clear hk); (try clear hi)))
                  go_ret
                  exact ⟨by first | rfl | (simp [errW_none, errW_some] <;> rfl) | (simp [*, errW_none, errW_some] <;> rfl), by repeat (first | (with_reducible first | exact HB.out | apply below_alloc | apply pw_below_drewN | apply below_drew1 | refine below_set ?_ GE211.out | refine below_set ?_ GE212.out | refine below_set ?_ GE228.out) | exact HB.out)⟩
                · rw [if_neg c103] at H
                  have c103b0 : ((t229.toList == t233.toList) == false) = false := by simpa using c103
                  (try (have c103b1 : decide ((t229.toList == t233.toList) = false) = false := by simpa using c103))
                  (try (have c103b2 : ((t229.toList == t233.toList) == false) = false := by simpa using c103))
                  (try (have c103b3 : ¬ ((t229.toList == t233.toList) = false) := by simpa using c103))
                  clear c103
                  obtain rfl := Option.some.inj H
                  have hnb111 := NB211_212.out
                  have hnc111 := NB212_211.out
                  have hnb112 := NB211_228.out
                  have hnc112 := NB228_211.out
                  have hcz113_0 : wc.cell? ⟨gb211, 0, none⟩ = some (.slice A0_0 l0_0.length c0_0) := (blk_cell BK211.out 0).trans rfl
                  have hcz113_1 : wc.cell? ⟨gb211, 1, none⟩ = some (.slice A0_1 l0_1.length c0_1) := (blk_cell BK211.out 1).trans rfl
                  have hcz113_2 : wc.cell? ⟨gb211, 2, none⟩ = some (.slice A0_2 l0_2.length c0_2) := (blk_cell BK211.out 2).trans rfl
                  have hcz113_3 : wc.cell? ⟨gb211, 3, none⟩ = some (.slice A0_3 l0_3.length c0_3) := (blk_cell BK211.out 3).trans rfl
                  have hcz113_4 : wc.cell? ⟨gb211, 4, none⟩ = some (.string a0_4) := (blk_cell BK211.out 4).trans rfl
                  have hcz113_5 : wc.cell? ⟨gb211, 5, none⟩ = some (.bool a0_5) := (blk_cell BK211.out 5).trans rfl
                  have hcz113_6 : wc.cell? ⟨gb211, 6, none⟩ = some (.string a0_6) := (blk_cell BK211.out 6).trans rfl
                  have hfz113_0 := blk_frozen BK211.out 0
                  have hfz113_1 := blk_frozen BK211.out 1
                  have hfz113_2 := blk_frozen BK211.out 2
                  have hfz113_3 := blk_frozen BK211.out 3
                  have hfz113_4 := blk_frozen BK211.out 4
                  have hfz113_5 := blk_frozen BK211.out 5
                  have hfz113_6 := blk_frozen BK211.out 6
                  have hnb114 := NB212_228.out
                  have hnc114 := NB228_212.out
                  have hcz115_0 : wc.cell? ⟨gb212, 0, none⟩ = some (.slice A1_0 l1_0.length c1_0) := (blk_cell BK212.out 0).trans rfl
                  have hcz115_1 : wc.cell? ⟨gb212, 1, none⟩ = some (.slice A1_1 l1_1.length c1_1) := (blk_cell BK212.out 1).trans rfl
                  have hcz115_2 : wc.cell? ⟨gb212, 2, none⟩ = some (.slice A1_2 l1_2.length c1_2) := (blk_cell BK212.out 2).trans rfl
                  have hcz115_3 : wc.cell? ⟨gb212, 3, none⟩ = some (.slice A1_3 l1_3.length c1_3) := (blk_cell BK212.out 3).trans rfl
                  have hcz115_4 : wc.cell? ⟨gb212, 4, none⟩ = some (.string a1_4) := (blk_cell BK212.out 4).trans rfl
                  have hcz115_5 : wc.cell? ⟨gb212, 5, none⟩ = some (.bool a1_5) := (blk_cell BK212.out 5).trans rfl
                  have hcz115_6 : wc.cell? ⟨gb212, 6, none⟩ = some (.string a1_6) := (blk_cell BK212.out 6).trans rfl
                  have hfz115_0 := blk_frozen BK212.out 0
                  have hfz115_1 := blk_frozen BK212.out 1
                  have hfz115_2 := blk_frozen BK212.out 2
                  have hfz115_3 := blk_frozen BK212.out 3
                  have hfz115_4 := blk_frozen BK212.out 4
                  have hfz115_5 := blk_frozen BK212.out 5
                  have hfz115_6 := blk_frozen BK212.out 6
                  go_wp2_with (first | ((with_reducible refine gate_callee (f := 25) rfl ?_); refine goesL_ (some 58) rfl rfl Tryd.func25 (by kernel_rfl) rfl #[.slice A0_0 l0_0.length c0_0, .slice A1_0 l1_0.length c1_0] rfl (by (try simp only [List.map_toArray, List.map_cons, List.map_nil]); first | done | rfl | (simp only [List.length_drop, List.length_take]; rfl)) ?_; (with_reducible refine (cruciblelaw0_SameTexts.calls kj36 _ _ l0_0 _ _ l1_0 false _ ?side1 ?side2 ?side3 ?side4 A44.out).mono ?_); (case side1 => repeat (first | exact (Kd.C_below HR0_0.out HB.out) | (with_reducible refine Kd.C_alloc ?_ _) | (with_reducible refine Kd.C_drewN ?_ _) | (with_reducible refine Kd.C_drew ?_))); (case side2 => exact HC0_0.out); (case side3 => repeat (first | exact (Kd.C_below HR1_0.out HB.out) | (with_reducible refine Kd.C_alloc ?_ _) | (with_reducible refine Kd.C_drewN ?_ _) | (with_reducible refine Kd.C_drew ?_))); (case side4 => exact HC1_0.out); rintro e w' ⟨rfl, ⟨nd, rfl⟩⟩; refine ⟨_, rfl, ?_⟩))
                  go_ret
                  exact ⟨by first | rfl | (simp [errW_none, errW_some] <;> rfl) | (simp [*, errW_none, errW_some] <;> rfl), by repeat (first | (with_reducible first | exact HB.out | apply below_alloc | apply pw_below_drewN | apply below_drew1 | refine below_set ?_ GE211.out | refine below_set ?_ GE212.out | refine below_set ?_ GE228.out) | exact HB.out)⟩

end Go.Proofs.YtkplcmcmpdhigaaDoor.P
