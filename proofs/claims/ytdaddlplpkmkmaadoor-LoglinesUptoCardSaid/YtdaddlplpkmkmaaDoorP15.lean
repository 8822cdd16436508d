-- Made by a program of this work's own (wip/myprint.py) over the kit's print; leaves by hand.
import Derived.Test.YtdaddlplpkmkmaaDoorTb
import Derived.Test.YtdaddlplpkmkmaaDoorP0
import Derived.Test.YtdaddlplpkmkmaaDoorP1
import Derived.Test.YtdaddlplpkmkmaaDoorP5
import Derived.Test.YtdaddlplpkmkmaaDoorP11
import Derived.Test.YtdaddlplpkmkmaaDoorP12
import Derived.Test.YtdaddlplpkmkmaaDoorP13
import Derived.Test.YtdaddlplpkmkmaaDoorP14
namespace Go.Proofs.YtdaddlplpkmkmaaDoor.P
open Go.RowKit Go.Proofs.YtdaddlplpkmkmaaDoorW.PrintWords Go.Proofs.YtdaddlplpkmkmaaDoorW.PrintLast Go.Proofs.YtdaddlplpkmkmaaDoorW.PrintMore
attribute [local go_sem] max2_int min2_int max_two min_two max_three min_three max_four min_four   -- for this text's walks alone
set_option linter.unusedVariables false
set_option linter.unusedSimpArgs false

attribute [local go_sem high] eqA23
/-! ### cruciblelaw13_Loglines: function 3 -/
def cruciblelaw13_Loglines.j0 : Nat → ByteArray → Int → Int → Int → ByteArray → Int → Bool → ByteArray → Int → ByteArray → ByteArray → Int → ByteArray → Option (Bool)
  | 0, _, _, _, _, _, _, _, _, _, _, _, _, _ => none
  | k + 1, x1, x6, x10, x14, x15, x16, x66, x195000, x195001, x195002, x214000, x214001, x214002 => if x66 = true then (some false) else ((cruciblelaw0_Num.f x6).bind fun t218 => (if t218 = 0 then (if (x214000.toList == x195000.toList && (x214001 == x195001 && (x214002.toList == x195002.toList))) = true then ((cruciblelaw0_Num.f x14).bind fun t219 => (if t219 = 0 then ((cruciblelaw0_Num.f x10).bind fun t220 => (if t220 = 0 then (if x15.toList = x1.toList then ((cruciblelaw0_Num.f x16).bind fun t221 => (if t221 = 0 then ((cruciblelaw13_awake.f k).bind fun t222 => (some t222)) else (some false))) else (some false)) else ((cruciblelaw13_awake.f k).bind fun t223 => (some t223)))) else (some false))) else (some false)) else ((cruciblelaw0_Num.f x10).bind fun t224 => (if t224 = 0 then (if x15.toList = x1.toList then ((cruciblelaw0_Num.f x16).bind fun t225 => (if t225 = 0 then ((cruciblelaw13_awake.f k).bind fun t226 => (some t226)) else (some false))) else (some false)) else ((cruciblelaw13_awake.f k).bind fun t227 => (some t227))))))
def cruciblelaw13_Loglines.f (k : Nat) (a0_0 : ByteArray) (a0_1 : Int) (a0_2 : ByteArray) (a1 : ByteArray) : Option (Bool) := (logline_Put.f k a0_0 a0_1 a0_2).bind fun bt195 => ((crucibleref12_PutLine.f k a0_0 a0_1 a0_2).bind fun bt197 => ((logline_Get.f k a1).bind fun bt199 => ((crucibleref12_GetLine.f k a1).bind fun bt204 => ((logline_Get.f k bt195.1).bind fun bt209 => ((logline_Put.f k bt199.1 bt199.2.1 bt199.2.2.1).bind fun bt214 => (if bt195.1.toList = bt197.1.toList then ((cruciblelaw0_Num.f bt195.2).bind fun t216 => (if t216 = bt197.2 then (if (!(bt199.1.toList == bt204.1.toList) || (!(bt199.2.1 == bt204.2.1) || (!(bt199.2.2.1.toList == bt204.2.2.1.toList)))) = true then (cruciblelaw13_Loglines.j0 k a1 bt195.2 bt199.2.2.2 bt209.2.2.2 bt214.1 bt214.2 true a0_0 a0_1 a0_2 bt209.1 bt209.2.1 bt209.2.2.1) else ((cruciblelaw0_Num.f bt199.2.2.2).bind fun t217 => (cruciblelaw13_Loglines.j0 k a1 bt195.2 bt199.2.2.2 bt209.2.2.2 bt214.1 bt214.2 (t217 != bt204.2.2.2) a0_0 a0_1 a0_2 bt209.1 bt209.2.1 bt209.2.2.1))) else (cruciblelaw13_Loglines.j0 k a1 bt195.2 bt199.2.2.2 bt209.2.2.2 bt214.1 bt214.2 true a0_0 a0_1 a0_2 bt209.1 bt209.2.1 bt209.2.2.1))) else (cruciblelaw13_Loglines.j0 k a1 bt195.2 bt199.2.2.2 bt209.2.2.2 bt214.1 bt214.2 true a0_0 a0_1 a0_2 bt209.1 bt209.2.1 bt209.2.2.1)))))))
set_option maxRecDepth 100000 in
theorem cruciblelaw13_Loglines.mono_l : ∀ k, (∀ y0 y1 y2 y3 y4 y5 y6 y7 y8 y9 y10 y11 y12, LeO (cruciblelaw13_Loglines.j0 k y0 y1 y2 y3 y4 y5 y6 y7 y8 y9 y10 y11 y12) (cruciblelaw13_Loglines.j0 (k + 1) y0 y1 y2 y3 y4 y5 y6 y7 y8 y9 y10 y11 y12))
  | 0 => fun _ _ _ _ _ _ _ _ _ _ _ _ _ r h => by simp [cruciblelaw13_Loglines.j0] at h
  | k + 1 => by
    have ih0 := cruciblelaw13_Loglines.mono_l k
    · intro y0 y1 y2 y3 y4 y5 y6 y7 y8 y9 y10 y11 y12
      unfold cruciblelaw13_Loglines.j0
      repeat' first
      | (with_reducible exact ih0 _ _ _ _ _ _ _ _ _ _ _ _ _)
      | (with_reducible exact cruciblelaw13_awake.mono _)
      | (with_reducible exact crucibleref12_GetLine.mono _ _)
      | (with_reducible exact crucibleref12_PutLine.mono _ _ _ _)
      | (with_reducible exact logline_Get.mono _ _)
      | (with_reducible exact logline_Put.mono _ _ _ _)
      | (with_reducible exact LeO.refl _)
      | (with_reducible exact LeO.none _)
      | (with_reducible refine LeO.ite ?_ ?_)
      | (with_reducible refine LeO.bind ?_ (fun _ => ?_))
      | exact ih0 _ _ _ _ _ _ _ _ _ _ _ _ _
      | exact cruciblelaw13_awake.mono _
      | exact crucibleref12_GetLine.mono _ _
      | exact crucibleref12_PutLine.mono _ _ _ _
      | exact logline_Get.mono _ _
      | exact logline_Put.mono _ _ _ _
      | exact LeO.none _
      | refine LeO.ite ?_ ?_
      | refine LeO.bind ?_ (fun _ => ?_)
theorem cruciblelaw13_Loglines.mono : ∀ a0 a1 a2 a3 k, LeO (cruciblelaw13_Loglines.f k a0 a1 a2 a3) (cruciblelaw13_Loglines.f (k + 1) a0 a1 a2 a3) := by
  intro a0 a1 a2 a3 k
  have ih0 := cruciblelaw13_Loglines.mono_l k
  unfold cruciblelaw13_Loglines.f
  repeat' first
      | (with_reducible exact ih0 _ _ _ _ _ _ _ _ _ _ _ _ _)
      | (with_reducible exact cruciblelaw13_awake.mono _)
      | (with_reducible exact crucibleref12_GetLine.mono _ _)
      | (with_reducible exact crucibleref12_PutLine.mono _ _ _ _)
      | (with_reducible exact logline_Get.mono _ _)
      | (with_reducible exact logline_Put.mono _ _ _ _)
      | (with_reducible exact LeO.refl _)
      | (with_reducible exact LeO.none _)
      | (with_reducible refine LeO.ite ?_ ?_)
      | (with_reducible refine LeO.bind ?_ (fun _ => ?_))
      | exact ih0 _ _ _ _ _ _ _ _ _ _ _ _ _
      | exact cruciblelaw13_awake.mono _
      | exact crucibleref12_GetLine.mono _ _
      | exact crucibleref12_PutLine.mono _ _ _ _
      | exact logline_Get.mono _ _
      | exact logline_Put.mono _ _ _ _
      | exact LeO.none _
      | refine LeO.ite ?_ ?_
      | refine LeO.bind ?_ (fun _ => ?_)
set_option maxHeartbeats 8000000 in
set_option maxRecDepth 100000 in
theorem cruciblelaw13_Loglines.calls (k : Nat) (a0_0 : ByteArray) (a0_1 : Int) (a0_2 : ByteArray) (a1 : ByteArray) (r : Bool) (w : World) (h : cruciblelaw13_Loglines.f k a0_0 a0_1 a0_2 a1 = some r) (hT : Tb w) :
    Calls Tryd.prog 3 #[.agg #[.string a0_0, .int .i64 a0_1, .string a0_2], .string a1] w fun e w' => e = .returned (.bool r) ∧ Below w.heap.size w w' := by
  have hu23 := Tryd.underlying23
  have HB := Aside0.mk (Below.refl w.heap.size w)
  have HT0 := Aside0.mk hT
  clear hT
  have H : ((logline_Put.f k a0_0 a0_1 a0_2).bind fun bt195 => ((crucibleref12_PutLine.f k a0_0 a0_1 a0_2).bind fun bt197 => ((logline_Get.f k a1).bind fun bt199 => ((crucibleref12_GetLine.f k a1).bind fun bt204 => ((logline_Get.f k bt195.1).bind fun bt209 => ((logline_Put.f k bt199.1 bt199.2.1 bt199.2.2.1).bind fun bt214 => (if bt195.1.toList = bt197.1.toList then ((cruciblelaw0_Num.f bt195.2).bind fun t216 => (if t216 = bt197.2 then (if (!(bt199.1.toList == bt204.1.toList) || (!(bt199.2.1 == bt204.2.1) || (!(bt199.2.2.1.toList == bt204.2.2.1.toList)))) = true then (cruciblelaw13_Loglines.j0 k a1 bt195.2 bt199.2.2.2 bt209.2.2.2 bt214.1 bt214.2 true a0_0 a0_1 a0_2 bt209.1 bt209.2.1 bt209.2.2.1) else ((cruciblelaw0_Num.f bt199.2.2.2).bind fun t217 => (cruciblelaw13_Loglines.j0 k a1 bt195.2 bt199.2.2.2 bt209.2.2.2 bt214.1 bt214.2 (t217 != bt204.2.2.2) a0_0 a0_1 a0_2 bt209.1 bt209.2.1 bt209.2.2.1))) else (cruciblelaw13_Loglines.j0 k a1 bt195.2 bt199.2.2.2 bt209.2.2.2 bt214.1 bt214.2 true a0_0 a0_1 a0_2 bt209.1 bt209.2.1 bt209.2.2.1))) else (cruciblelaw13_Loglines.j0 k a1 bt195.2 bt199.2.2.2 bt209.2.2.2 bt214.1 bt214.2 true a0_0 a0_1 a0_2 bt209.1 bt209.2.1 bt209.2.2.1)))))))) = some r := h
  clear h
  replace H := Option.bind_eq_some_iff.mp H
  obtain ⟨⟨t195, t196⟩, A30, H⟩ := H
  replace H : ((crucibleref12_PutLine.f k a0_0 a0_1 a0_2).bind fun bt197 => ((logline_Get.f k a1).bind fun bt199 => ((crucibleref12_GetLine.f k a1).bind fun bt204 => ((logline_Get.f k t195).bind fun bt209 => ((logline_Put.f k bt199.1 bt199.2.1 bt199.2.2.1).bind fun bt214 => (if t195.toList = bt197.1.toList then ((cruciblelaw0_Num.f t196).bind fun t216 => (if t216 = bt197.2 then (if (!(bt199.1.toList == bt204.1.toList) || (!(bt199.2.1 == bt204.2.1) || (!(bt199.2.2.1.toList == bt204.2.2.1.toList)))) = true then (cruciblelaw13_Loglines.j0 k a1 t196 bt199.2.2.2 bt209.2.2.2 bt214.1 bt214.2 true a0_0 a0_1 a0_2 bt209.1 bt209.2.1 bt209.2.2.1) else ((cruciblelaw0_Num.f bt199.2.2.2).bind fun t217 => (cruciblelaw13_Loglines.j0 k a1 t196 bt199.2.2.2 bt209.2.2.2 bt214.1 bt214.2 (t217 != bt204.2.2.2) a0_0 a0_1 a0_2 bt209.1 bt209.2.1 bt209.2.2.1))) else (cruciblelaw13_Loglines.j0 k a1 t196 bt199.2.2.2 bt209.2.2.2 bt214.1 bt214.2 true a0_0 a0_1 a0_2 bt209.1 bt209.2.1 bt209.2.2.1))) else (cruciblelaw13_Loglines.j0 k a1 t196 bt199.2.2.2 bt209.2.2.2 bt214.1 bt214.2 true a0_0 a0_1 a0_2 bt209.1 bt209.2.1 bt209.2.2.1))))))) = some r := H
  have A3 := Aside0.mk A30
  clear A30
  replace H := Option.bind_eq_some_iff.mp H
  obtain ⟨⟨t197, t198⟩, A40, H⟩ := H
  replace H : ((logline_Get.f k a1).bind fun bt199 => ((crucibleref12_GetLine.f k a1).bind fun bt204 => ((logline_Get.f k t195).bind fun bt209 => ((logline_Put.f k bt199.1 bt199.2.1 bt199.2.2.1).bind fun bt214 => (if t195.toList = t197.toList then ((cruciblelaw0_Num.f t196).bind fun t216 => (if t216 = t198 then (if (!(bt199.1.toList == bt204.1.toList) || (!(bt199.2.1 == bt204.2.1) || (!(bt199.2.2.1.toList == bt204.2.2.1.toList)))) = true then (cruciblelaw13_Loglines.j0 k a1 t196 bt199.2.2.2 bt209.2.2.2 bt214.1 bt214.2 true a0_0 a0_1 a0_2 bt209.1 bt209.2.1 bt209.2.2.1) else ((cruciblelaw0_Num.f bt199.2.2.2).bind fun t217 => (cruciblelaw13_Loglines.j0 k a1 t196 bt199.2.2.2 bt209.2.2.2 bt214.1 bt214.2 (t217 != bt204.2.2.2) a0_0 a0_1 a0_2 bt209.1 bt209.2.1 bt209.2.2.1))) else (cruciblelaw13_Loglines.j0 k a1 t196 bt199.2.2.2 bt209.2.2.2 bt214.1 bt214.2 true a0_0 a0_1 a0_2 bt209.1 bt209.2.1 bt209.2.2.1))) else (cruciblelaw13_Loglines.j0 k a1 t196 bt199.2.2.2 bt209.2.2.2 bt214.1 bt214.2 true a0_0 a0_1 a0_2 bt209.1 bt209.2.1 bt209.2.2.1)))))) = some r := H
  have A4 := Aside0.mk A40
  clear A40
  replace H := Option.bind_eq_some_iff.mp H
  obtain ⟨⟨t199, t200, t201, t202⟩, A50, H⟩ := H
  replace H : ((crucibleref12_GetLine.f k a1).bind fun bt204 => ((logline_Get.f k t195).bind fun bt209 => ((logline_Put.f k t199 t200 t201).bind fun bt214 => (if t195.toList = t197.toList then ((cruciblelaw0_Num.f t196).bind fun t216 => (if t216 = t198 then (if (!(t199.toList == bt204.1.toList) || (!(t200 == bt204.2.1) || (!(t201.toList == bt204.2.2.1.toList)))) = true then (cruciblelaw13_Loglines.j0 k a1 t196 t202 bt209.2.2.2 bt214.1 bt214.2 true a0_0 a0_1 a0_2 bt209.1 bt209.2.1 bt209.2.2.1) else ((cruciblelaw0_Num.f t202).bind fun t217 => (cruciblelaw13_Loglines.j0 k a1 t196 t202 bt209.2.2.2 bt214.1 bt214.2 (t217 != bt204.2.2.2) a0_0 a0_1 a0_2 bt209.1 bt209.2.1 bt209.2.2.1))) else (cruciblelaw13_Loglines.j0 k a1 t196 t202 bt209.2.2.2 bt214.1 bt214.2 true a0_0 a0_1 a0_2 bt209.1 bt209.2.1 bt209.2.2.1))) else (cruciblelaw13_Loglines.j0 k a1 t196 t202 bt209.2.2.2 bt214.1 bt214.2 true a0_0 a0_1 a0_2 bt209.1 bt209.2.1 bt209.2.2.1))))) = some r := H
  have A5 := Aside0.mk A50
  clear A50
  replace H := Option.bind_eq_some_iff.mp H
  obtain ⟨⟨t204, t205, t206, t207⟩, A60, H⟩ := H
  replace H : ((logline_Get.f k t195).bind fun bt209 => ((logline_Put.f k t199 t200 t201).bind fun bt214 => (if t195.toList = t197.toList then ((cruciblelaw0_Num.f t196).bind fun t216 => (if t216 = t198 then (if (!(t199.toList == t204.toList) || (!(t200 == t205) || (!(t201.toList == t206.toList)))) = true then (cruciblelaw13_Loglines.j0 k a1 t196 t202 bt209.2.2.2 bt214.1 bt214.2 true a0_0 a0_1 a0_2 bt209.1 bt209.2.1 bt209.2.2.1) else ((cruciblelaw0_Num.f t202).bind fun t217 => (cruciblelaw13_Loglines.j0 k a1 t196 t202 bt209.2.2.2 bt214.1 bt214.2 (t217 != t207) a0_0 a0_1 a0_2 bt209.1 bt209.2.1 bt209.2.2.1))) else (cruciblelaw13_Loglines.j0 k a1 t196 t202 bt209.2.2.2 bt214.1 bt214.2 true a0_0 a0_1 a0_2 bt209.1 bt209.2.1 bt209.2.2.1))) else (cruciblelaw13_Loglines.j0 k a1 t196 t202 bt209.2.2.2 bt214.1 bt214.2 true a0_0 a0_1 a0_2 bt209.1 bt209.2.1 bt209.2.2.1)))) = some r := H
  have A6 := Aside0.mk A60
  clear A60
  replace H := Option.bind_eq_some_iff.mp H
  obtain ⟨⟨t209, t210, t211, t212⟩, A70, H⟩ := H
  replace H : ((logline_Put.f k t199 t200 t201).bind fun bt214 => (if t195.toList = t197.toList then ((cruciblelaw0_Num.f t196).bind fun t216 => (if t216 = t198 then (if (!(t199.toList == t204.toList) || (!(t200 == t205) || (!(t201.toList == t206.toList)))) = true then (cruciblelaw13_Loglines.j0 k a1 t196 t202 t212 bt214.1 bt214.2 true a0_0 a0_1 a0_2 t209 t210 t211) else ((cruciblelaw0_Num.f t202).bind fun t217 => (cruciblelaw13_Loglines.j0 k a1 t196 t202 t212 bt214.1 bt214.2 (t217 != t207) a0_0 a0_1 a0_2 t209 t210 t211))) else (cruciblelaw13_Loglines.j0 k a1 t196 t202 t212 bt214.1 bt214.2 true a0_0 a0_1 a0_2 t209 t210 t211))) else (cruciblelaw13_Loglines.j0 k a1 t196 t202 t212 bt214.1 bt214.2 true a0_0 a0_1 a0_2 t209 t210 t211))) = some r := H
  have A7 := Aside0.mk A70
  clear A70
  replace H := Option.bind_eq_some_iff.mp H
  obtain ⟨⟨t214, t215⟩, A80, H⟩ := H
  replace H : (if t195.toList = t197.toList then ((cruciblelaw0_Num.f t196).bind fun t216 => (if t216 = t198 then (if (!(t199.toList == t204.toList) || (!(t200 == t205) || (!(t201.toList == t206.toList)))) = true then (cruciblelaw13_Loglines.j0 k a1 t196 t202 t212 t214 t215 true a0_0 a0_1 a0_2 t209 t210 t211) else ((cruciblelaw0_Num.f t202).bind fun t217 => (cruciblelaw13_Loglines.j0 k a1 t196 t202 t212 t214 t215 (t217 != t207) a0_0 a0_1 a0_2 t209 t210 t211))) else (cruciblelaw13_Loglines.j0 k a1 t196 t202 t212 t214 t215 true a0_0 a0_1 a0_2 t209 t210 t211))) else (cruciblelaw13_Loglines.j0 k a1 t196 t202 t212 t214 t215 true a0_0 a0_1 a0_2 t209 t210 t211)) = some r := H
  have A8 := Aside0.mk A80
  clear A80
  have HC9 := Aside0.mk H
  clear H
  go_enter Tryd.func3, Tryd.ntmps3
  go_upto_region 7 with (first | ((with_reducible refine gate_dst (N := 2) rfl ?_); refine box_event ?hg (N := 2) ?hd (cs := #[.string a0_0, .int .i64 a0_1, .string a0_2]) (t := 23) ?hr ?_; (case hd => rfl); (case hg => rfl); (case hr => first | (go_simp; done) | (go_simp; rfl)); intro gb194 hg w10 hbox hb; have n0_ := Aside0.mk (below_step (by repeat (first | (with_reducible first | exact HB.out | apply below_alloc | apply pw_below_drewN | apply below_drew1) | exact HB.out)) hb); have n1_ := Aside0.mk (hbox); have n2_ := Aside0.mk ((by rw [hg]; exact (below_size (by repeat (first | (with_reducible first | exact HB.out | apply below_alloc | apply pw_below_drewN | apply below_drew1) | exact HB.out))) : w.heap.size ≤ gb194)); have n3_ := Aside0.mk ((by rw [hg]; exact (below_size (by repeat (first | (with_reducible first | exact HB.out | apply below_alloc | apply pw_below_drewN | apply below_drew1) | exact HB.out))) : w.heap.size ≤ gb194)); clear HB; have HB := n0_; have BK194 := n1_; have GW194 := n2_; have GE194 := n3_; clear n0_ n1_ n2_ n3_; clear hb hbox hg; have hcz11_0 : w10.cell? ⟨gb194, 0, none⟩ = some (.string a0_0) := (blk_cell BK194.out 0).trans rfl; have hcz11_1 : w10.cell? ⟨gb194, 1, none⟩ = some (.int .i64 a0_1) := (blk_cell BK194.out 1).trans rfl; have hcz11_2 : w10.cell? ⟨gb194, 2, none⟩ = some (.string a0_2) := (blk_cell BK194.out 2).trans rfl; have hfz11_0 := blk_frozen BK194.out 0; have hfz11_1 := blk_frozen BK194.out 1; have hfz11_2 := blk_frozen BK194.out 2) | ((with_reducible refine gate_callee (f := 12) rfl ?_); refine goesL_ (some 19) rfl rfl Tryd.func12 (by kernel_rfl) rfl #[.agg #[.string a0_0, .int .i64 a0_1, .string a0_2]] rfl (by (try simp only [List.map_toArray, List.map_cons, List.map_nil]); first | done | rfl | (simp only [List.length_drop, List.length_take]; rfl)) ?_; (with_reducible refine (logline_Put.calls k a0_0 a0_1 a0_2 t195 t196 _ A3.out (Tb.below HT0.out (by repeat (first | (with_reducible first | exact HB.out | apply below_alloc | apply pw_below_drewN | apply below_drew1 | refine below_set ?_ GE194.out) | exact HB.out)))).mono ?_); rintro e w12 ⟨rfl, hb⟩; refine ⟨_, rfl, ?_⟩; have n0_ := Aside0.mk (blk_below (g := gb194) (o := .cells #[.string a0_0, .int .i64 a0_1, .string a0_2] 23 (0, 0)) (by (with_reducible repeat (first | refine blk_drewN ?_ _ | refine blk_drew ?_ | refine blk_alloc ?_ _)); exact BK194.out) hb); have n1_ := Aside0.mk (below_step (by repeat (first | (with_reducible first | exact HB.out | apply below_alloc | apply pw_below_drewN | apply below_drew1 | refine below_set ?_ GE194.out) | exact HB.out)) hb); clear BK194; clear HB; have BK194 := n0_; have HB := n1_; clear n0_ n1_; (try clear hb); (try clear hb2); (try clear hk); (try clear hi); have hcz13_0 : w12.cell? ⟨gb194, 0, none⟩ = some (.string a0_0) := (blk_cell BK194.out 0).trans rfl; have hcz13_1 : w12.cell? ⟨gb194, 1, none⟩ = some (.int .i64 a0_1) := (blk_cell BK194.out 1).trans rfl; have hcz13_2 : w12.cell? ⟨gb194, 2, none⟩ = some (.string a0_2) := (blk_cell BK194.out 2).trans rfl; have hfz13_0 := blk_frozen BK194.out 0; have hfz13_1 := blk_frozen BK194.out 1; have hfz13_2 := blk_frozen BK194.out 2) | ((with_reducible refine gate_callee (f := 13) rfl ?_); refine goesL_ (some 24) rfl rfl Tryd.func13 (by kernel_rfl) rfl #[.agg #[.string a0_0, .int .i64 a0_1, .string a0_2]] rfl (by (try simp only [List.map_toArray, List.map_cons, List.map_nil]); first | done | rfl | (simp only [List.length_drop, List.length_take]; rfl)) ?_; (with_reducible refine (crucibleref12_PutLine.calls k a0_0 a0_1 a0_2 t197 t198 _ A4.out).mono ?_); rintro e w14 ⟨rfl, hb⟩; refine ⟨_, rfl, ?_⟩; have n0_ := Aside0.mk (blk_below (g := gb194) (o := .cells #[.string a0_0, .int .i64 a0_1, .string a0_2] 23 (0, 0)) (by (with_reducible repeat (first | refine blk_drewN ?_ _ | refine blk_drew ?_ | refine blk_alloc ?_ _)); exact BK194.out) hb); have n1_ := Aside0.mk (below_step (by repeat (first | (with_reducible first | exact HB.out | apply below_alloc | apply pw_below_drewN | apply below_drew1 | refine below_set ?_ GE194.out) | exact HB.out)) hb); clear BK194; clear HB; have BK194 := n0_; have HB := n1_; clear n0_ n1_; (try clear hb); (try clear hb2); (try clear hk); (try clear hi)) | ((with_reducible refine gate_callee (f := 14) rfl ?_); refine goesL_ (some 29) rfl rfl Tryd.func14 (by kernel_rfl) rfl #[.string a1] rfl (by (try simp only [List.map_toArray, List.map_cons, List.map_nil]); first | done | rfl | (simp only [List.length_drop, List.length_take]; rfl)) ?_; (with_reducible refine (logline_Get.calls k a1 t199 t200 t201 t202 _ A5.out (Tb.below HT0.out (by repeat (first | (with_reducible first | exact HB.out | apply below_alloc | apply pw_below_drewN | apply below_drew1 | refine below_set ?_ GE194.out) | exact HB.out)))).mono ?_); rintro e w15 ⟨rfl, hb⟩; refine ⟨_, rfl, ?_⟩; have n0_ := Aside0.mk (blk_below (g := gb194) (o := .cells #[.string a0_0, .int .i64 a0_1, .string a0_2] 23 (0, 0)) (by (with_reducible repeat (first | refine blk_drewN ?_ _ | refine blk_drew ?_ | refine blk_alloc ?_ _)); exact BK194.out) hb); have n1_ := Aside0.mk (below_step (by repeat (first | (with_reducible first | exact HB.out | apply below_alloc | apply pw_below_drewN | apply below_drew1 | refine below_set ?_ GE194.out) | exact HB.out)) hb); clear BK194; clear HB; have BK194 := n0_; have HB := n1_; clear n0_ n1_; (try clear hb); (try clear hb2); (try clear hk); (try clear hi)) | ((with_reducible refine gate_dst (N := 9) rfl ?_); refine box_event ?hg (N := 9) ?hd (cs := #[.string (⟨#[]⟩ : ByteArray), .int .i64 0, .string (⟨#[]⟩ : ByteArray)]) (t := 23) ?hr ?_; (case hd => rfl); (case hg => rfl); (case hr => first | (go_simp; done) | (go_simp; rfl)); intro gb203 hg w16 hbox hb; have n0_ := Aside0.mk (blk_below (g := gb194) (o := .cells #[.string a0_0, .int .i64 a0_1, .string a0_2] 23 (0, 0)) (by (with_reducible repeat (first | refine blk_drewN ?_ _ | refine blk_drew ?_ | refine blk_alloc ?_ _)); exact BK194.out) hb); have n1_ := Aside0.mk (below_step (by repeat (first | (with_reducible first | exact HB.out | apply below_alloc | apply pw_below_drewN | apply below_drew1 | refine below_set ?_ GE194.out) | exact HB.out)) hb); have n2_ := Aside0.mk (hbox); have n3_ := Aside0.mk ((by rw [hg]; exact (below_size (by repeat (first | (with_reducible first | exact HB.out | apply below_alloc | apply pw_below_drewN | apply below_drew1 | refine below_set ?_ GE194.out) | exact HB.out))) : w.heap.size ≤ gb203)); have n4_ := Aside0.mk ((by rw [hg]; exact (below_size (by repeat (first | (with_reducible first | exact HB.out | apply below_alloc | apply pw_below_drewN | apply below_drew1 | refine below_set ?_ GE194.out) | exact HB.out))) : w.heap.size ≤ gb203)); have n5_ := Aside0.mk ((by rw [hg]; exact Nat.ne_of_lt (blk_lt (g := gb194) (o := .cells #[.string a0_0, .int .i64 a0_1, .string a0_2] 23 (0, 0)) (by (with_reducible repeat (first | refine blk_drewN ?_ _ | refine blk_drew ?_ | refine blk_alloc ?_ _)); exact BK194.out)) : gb194 ≠ gb203)); have n6_ := Aside0.mk ((by rw [hg]; exact Nat.ne_of_gt (blk_lt (g := gb194) (o := .cells #[.string a0_0, .int .i64 a0_1, .string a0_2] 23 (0, 0)) (by (with_reducible repeat (first | refine blk_drewN ?_ _ | refine blk_drew ?_ | refine blk_alloc ?_ _)); exact BK194.out)) : gb203 ≠ gb194)); clear BK194; clear HB; have BK194 := n0_; have HB := n1_; have BK203 := n2_; have GW203 := n3_; have GE203 := n4_; have NB194_203 := n5_; have NB203_194 := n6_; clear n0_ n1_ n2_ n3_ n4_ n5_ n6_; clear hb hbox hg; have hnb17 := NB203_194.out; have hnc17 := NB194_203.out; have hcz18_0 : w16.cell? ⟨gb203, 0, none⟩ = some (.string (⟨#[]⟩ : ByteArray)) := (blk_cell BK203.out 0).trans rfl; have hcz18_1 : w16.cell? ⟨gb203, 1, none⟩ = some (.int .i64 0) := (blk_cell BK203.out 1).trans rfl; have hcz18_2 : w16.cell? ⟨gb203, 2, none⟩ = some (.string (⟨#[]⟩ : ByteArray)) := (blk_cell BK203.out 2).trans rfl; have hfz18_0 := blk_frozen BK203.out 0; have hfz18_1 := blk_frozen BK203.out 1; have hfz18_2 := blk_frozen BK203.out 2) | ((with_reducible refine gate_callee (f := 15) rfl ?_); refine goesL_ (some 34) rfl rfl Tryd.func15 (by kernel_rfl) rfl #[.string a1] rfl (by (try simp only [List.map_toArray, List.map_cons, List.map_nil]); first | done | rfl | (simp only [List.length_drop, List.length_take]; rfl)) ?_; (with_reducible refine (crucibleref12_GetLine.calls k a1 t204 t205 t206 t207 _ A6.out).mono ?_); rintro e w19 ⟨rfl, hb⟩; refine ⟨_, rfl, ?_⟩; have n0_ := Aside0.mk (blk_below (g := gb194) (o := .cells #[.string a0_0, .int .i64 a0_1, .string a0_2] 23 (0, 0)) (by (with_reducible repeat (first | refine blk_drewN ?_ _ | refine blk_drew ?_ | refine blk_alloc ?_ _)); refine blk_far ?_ NB194_203.out _; (with_reducible repeat (first | refine blk_drewN ?_ _ | refine blk_drew ?_ | refine blk_alloc ?_ _)); refine blk_far ?_ NB194_203.out _; (with_reducible repeat (first | refine blk_drewN ?_ _ | refine blk_drew ?_ | refine blk_alloc ?_ _)); refine blk_far ?_ NB194_203.out _; (with_reducible repeat (first | refine blk_drewN ?_ _ | refine blk_drew ?_ | refine blk_alloc ?_ _)); exact BK194.out) hb); have n1_ := Aside0.mk (blk_below (g := gb203) (o := .cells #[.string t199, .int .i64 t200, .string t201] 23 (0, 0)) (by (with_reducible repeat (first | refine blk_drewN ?_ _ | refine blk_drew ?_ | refine blk_alloc ?_ _)); refine blk_put (cs := #[.string t199, .int .i64 t200, .string (⟨#[]⟩ : ByteArray)]) ?_ 2 _ rfl; (with_reducible repeat (first | refine blk_drewN ?_ _ | refine blk_drew ?_ | refine blk_alloc ?_ _)); refine blk_put (cs := #[.string t199, .int .i64 0, .string (⟨#[]⟩ : ByteArray)]) ?_ 1 _ rfl; (with_reducible repeat (first | refine blk_drewN ?_ _ | refine blk_drew ?_ | refine blk_alloc ?_ _)); refine blk_put (cs := #[.string (⟨#[]⟩ : ByteArray), .int .i64 0, .string (⟨#[]⟩ : ByteArray)]) ?_ 0 _ rfl; (with_reducible repeat (first | refine blk_drewN ?_ _ | refine blk_drew ?_ | refine blk_alloc ?_ _)); exact BK203.out) hb); have n2_ := Aside0.mk (below_step (by repeat (first | (with_reducible first | exact HB.out | apply below_alloc | apply pw_below_drewN | apply below_drew1 | refine below_set ?_ GE194.out | refine below_set ?_ GE203.out) | exact HB.out)) hb); clear BK194; clear BK203; clear HB; have BK194 := n0_; have BK203 := n1_; have HB := n2_; clear n0_ n1_ n2_; (try clear hb); (try clear hb2); (try clear hk); (try clear hi)) | ((with_reducible refine gate_dst (N := 11) rfl ?_); refine box_event ?hg (N := 11) ?hd (cs := #[.string (⟨#[]⟩ : ByteArray), .int .i64 0, .string (⟨#[]⟩ : ByteArray)]) (t := 23) ?hr ?_; (case hd => rfl); (case hg => rfl); (case hr => first | (go_simp; done) | (go_simp; rfl)); intro gb208 hg w20 hbox hb; have n0_ := Aside0.mk (blk_below (g := gb194) (o := .cells #[.string a0_0, .int .i64 a0_1, .string a0_2] 23 (0, 0)) (by (with_reducible repeat (first | refine blk_drewN ?_ _ | refine blk_drew ?_ | refine blk_alloc ?_ _)); exact BK194.out) hb); have n1_ := Aside0.mk (blk_below (g := gb203) (o := .cells #[.string t199, .int .i64 t200, .string t201] 23 (0, 0)) (by (with_reducible repeat (first | refine blk_drewN ?_ _ | refine blk_drew ?_ | refine blk_alloc ?_ _)); exact BK203.out) hb); have n2_ := Aside0.mk (below_step (by repeat (first | (with_reducible first | exact HB.out | apply below_alloc | apply pw_below_drewN | apply below_drew1 | refine below_set ?_ GE194.out | refine below_set ?_ GE203.out) | exact HB.out)) hb); have n3_ := Aside0.mk (hbox); have n4_ := Aside0.mk ((by rw [hg]; exact (below_size (by repeat (first | (with_reducible first | exact HB.out | apply below_alloc | apply pw_below_drewN | apply below_drew1 | refine below_set ?_ GE194.out | refine below_set ?_ GE203.out) | exact HB.out))) : w.heap.size ≤ gb208)); have n5_ := Aside0.mk ((by rw [hg]; exact (below_size (by repeat (first | (with_reducible first | exact HB.out | apply below_alloc | apply pw_below_drewN | apply below_drew1 | refine below_set ?_ GE194.out | refine below_set ?_ GE203.out) | exact HB.out))) : w.heap.size ≤ gb208)); have n6_ := Aside0.mk ((by rw [hg]; exact Nat.ne_of_lt (blk_lt (g := gb194) (o := .cells #[.string a0_0, .int .i64 a0_1, .string a0_2] 23 (0, 0)) (by (with_reducible repeat (first | refine blk_drewN ?_ _ | refine blk_drew ?_ | refine blk_alloc ?_ _)); exact BK194.out)) : gb194 ≠ gb208)); have n7_ := Aside0.mk ((by rw [hg]; exact Nat.ne_of_gt (blk_lt (g := gb194) (o := .cells #[.string a0_0, .int .i64 a0_1, .string a0_2] 23 (0, 0)) (by (with_reducible repeat (first | refine blk_drewN ?_ _ | refine blk_drew ?_ | refine blk_alloc ?_ _)); exact BK194.out)) : gb208 ≠ gb194)); have n8_ := Aside0.mk ((by rw [hg]; exact Nat.ne_of_lt (blk_lt (g := gb203) (o := .cells #[.string t199, .int .i64 t200, .string t201] 23 (0, 0)) (by (with_reducible repeat (first | refine blk_drewN ?_ _ | refine blk_drew ?_ | refine blk_alloc ?_ _)); exact BK203.out)) : gb203 ≠ gb208)); have n9_ := Aside0.mk ((by rw [hg]; exact Nat.ne_of_gt (blk_lt (g := gb203) (o := .cells #[.string t199, .int .i64 t200, .string t201] 23 (0, 0)) (by (with_reducible repeat (first | refine blk_drewN ?_ _ | refine blk_drew ?_ | refine blk_alloc ?_ _)); exact BK203.out)) : gb208 ≠ gb203)); clear BK194; clear BK203; clear HB; have BK194 := n0_; have BK203 := n1_; have HB := n2_; have BK208 := n3_; have GW208 := n4_; have GE208 := n5_; have NB194_208 := n6_; have NB208_194 := n7_; have NB203_208 := n8_; have NB208_203 := n9_; clear n0_ n1_ n2_ n3_ n4_ n5_ n6_ n7_ n8_ n9_; clear hb hbox hg; have hnb21 := NB208_194.out; have hnc21 := NB194_208.out; have hnb22 := NB208_203.out; have hnc22 := NB203_208.out; have hcz23_0 : w20.cell? ⟨gb208, 0, none⟩ = some (.string (⟨#[]⟩ : ByteArray)) := (blk_cell BK208.out 0).trans rfl; have hcz23_1 : w20.cell? ⟨gb208, 1, none⟩ = some (.int .i64 0) := (blk_cell BK208.out 1).trans rfl; have hcz23_2 : w20.cell? ⟨gb208, 2, none⟩ = some (.string (⟨#[]⟩ : ByteArray)) := (blk_cell BK208.out 2).trans rfl; have hfz23_0 := blk_frozen BK208.out 0; have hfz23_1 := blk_frozen BK208.out 1; have hfz23_2 := blk_frozen BK208.out 2) | ((with_reducible refine gate_callee (f := 14) rfl ?_); refine goesL_ (some 39) rfl rfl Tryd.func14 (by kernel_rfl) rfl #[.string t195] rfl (by (try simp only [List.map_toArray, List.map_cons, List.map_nil]); first | done | rfl | (simp only [List.length_drop, List.length_take]; rfl)) ?_; (with_reducible refine (logline_Get.calls k t195 t209 t210 t211 t212 _ A7.out (Tb.below HT0.out (by repeat (first | (with_reducible first | exact HB.out | apply below_alloc | apply pw_below_drewN | apply below_drew1 | refine below_set ?_ GE194.out | refine below_set ?_ GE203.out | refine below_set ?_ GE208.out) | exact HB.out)))).mono ?_); rintro e w24 ⟨rfl, hb⟩; refine ⟨_, rfl, ?_⟩; have n0_ := Aside0.mk (blk_below (g := gb194) (o := .cells #[.string a0_0, .int .i64 a0_1, .string a0_2] 23 (0, 0)) (by (with_reducible repeat (first | refine blk_drewN ?_ _ | refine blk_drew ?_ | refine blk_alloc ?_ _)); refine blk_far ?_ NB194_208.out _; (with_reducible repeat (first | refine blk_drewN ?_ _ | refine blk_drew ?_ | refine blk_alloc ?_ _)); refine blk_far ?_ NB194_208.out _; (with_reducible repeat (first | refine blk_drewN ?_ _ | refine blk_drew ?_ | refine blk_alloc ?_ _)); refine blk_far ?_ NB194_208.out _; (with_reducible repeat (first | refine blk_drewN ?_ _ | refine blk_drew ?_ | refine blk_alloc ?_ _)); exact BK194.out) hb); have n1_ := Aside0.mk (blk_below (g := gb203) (o := .cells #[.string t199, .int .i64 t200, .string t201] 23 (0, 0)) (by (with_reducible repeat (first | refine blk_drewN ?_ _ | refine blk_drew ?_ | refine blk_alloc ?_ _)); refine blk_far ?_ NB203_208.out _; (with_reducible repeat (first | refine blk_drewN ?_ _ | refine blk_drew ?_ | refine blk_alloc ?_ _)); refine blk_far ?_ NB203_208.out _; (with_reducible repeat (first | refine blk_drewN ?_ _ | refine blk_drew ?_ | refine blk_alloc ?_ _)); refine blk_far ?_ NB203_208.out _; (with_reducible repeat (first | refine blk_drewN ?_ _ | refine blk_drew ?_ | refine blk_alloc ?_ _)); exact BK203.out) hb); have n2_ := Aside0.mk (blk_below (g := gb208) (o := .cells #[.string t204, .int .i64 t205, .string t206] 23 (0, 0)) (by (with_reducible repeat (first | refine blk_drewN ?_ _ | refine blk_drew ?_ | refine blk_alloc ?_ _)); refine blk_put (cs := #[.string t204, .int .i64 t205, .string (⟨#[]⟩ : ByteArray)]) ?_ 2 _ rfl; (with_reducible repeat (first | refine blk_drewN ?_ _ | refine blk_drew ?_ | refine blk_alloc ?_ _)); refine blk_put (cs := #[.string t204, .int .i64 0, .string (⟨#[]⟩ : ByteArray)]) ?_ 1 _ rfl; (with_reducible repeat (first | refine blk_drewN ?_ _ | refine blk_drew ?_ | refine blk_alloc ?_ _)); refine blk_put (cs := #[.string (⟨#[]⟩ : ByteArray), .int .i64 0, .string (⟨#[]⟩ : ByteArray)]) ?_ 0 _ rfl; (with_reducible repeat (first | refine blk_drewN ?_ _ | refine blk_drew ?_ | refine blk_alloc ?_ _)); exact BK208.out) hb); have n3_ := Aside0.mk (below_step (by repeat (first | (with_reducible first | exact HB.out | apply below_alloc | apply pw_below_drewN | apply below_drew1 | refine below_set ?_ GE194.out | refine below_set ?_ GE203.out | refine below_set ?_ GE208.out) | exact HB.out)) hb); clear BK194; clear BK203; clear BK208; clear HB; have BK194 := n0_; have BK203 := n1_; have BK208 := n2_; have HB := n3_; clear n0_ n1_ n2_ n3_; (try clear hb); (try clear hb2); (try clear hk); (try clear hi)) | ((with_reducible refine gate_dst (N := 13) rfl ?_); refine box_event ?hg (N := 13) ?hd (cs := #[.string (⟨#[]⟩ : ByteArray), .int .i64 0, .string (⟨#[]⟩ : ByteArray)]) (t := 23) ?hr ?_; (case hd => rfl); (case hg => rfl); (case hr => first | (go_simp; done) | (go_simp; rfl)); intro gb213 hg w25 hbox hb; have n0_ := Aside0.mk (blk_below (g := gb194) (o := .cells #[.string a0_0, .int .i64 a0_1, .string a0_2] 23 (0, 0)) (by (with_reducible repeat (first | refine blk_drewN ?_ _ | refine blk_drew ?_ | refine blk_alloc ?_ _)); exact BK194.out) hb); have n1_ := Aside0.mk (blk_below (g := gb203) (o := .cells #[.string t199, .int .i64 t200, .string t201] 23 (0, 0)) (by (with_reducible repeat (first | refine blk_drewN ?_ _ | refine blk_drew ?_ | refine blk_alloc ?_ _)); exact BK203.out) hb); have n2_ := Aside0.mk (blk_below (g := gb208) (o := .cells #[.string t204, .int .i64 t205, .string t206] 23 (0, 0)) (by (with_reducible repeat (first | refine blk_drewN ?_ _ | refine blk_drew ?_ | refine blk_alloc ?_ _)); exact BK208.out) hb); have n3_ := Aside0.mk (below_step (by repeat (first | (with_reducible first | exact HB.out | apply below_alloc | apply pw_below_drewN | apply below_drew1 | refine below_set ?_ GE194.out | refine below_set ?_ GE203.out | refine below_set ?_ GE208.out) | exact HB.out)) hb); have n4_ := Aside0.mk (hbox); have n5_ := Aside0.mk ((by rw [hg]; exact (below_size (by repeat (first | (with_reducible first | exact HB.out | apply below_alloc | apply pw_below_drewN | apply below_drew1 | refine below_set ?_ GE194.out | refine below_set ?_ GE203.out | refine below_set ?_ GE208.out) | exact HB.out))) : w.heap.size ≤ gb213)); have n6_ := Aside0.mk ((by rw [hg]; exact (below_size (by repeat (first | (with_reducible first | exact HB.out | apply below_alloc | apply pw_below_drewN | apply below_drew1 | refine below_set ?_ GE194.out | refine below_set ?_ GE203.out | refine below_set ?_ GE208.out) | exact HB.out))) : w.heap.size ≤ gb213)); have n7_ := Aside0.mk ((by rw [hg]; exact Nat.ne_of_lt (blk_lt (g := gb194) (o := .cells #[.string a0_0, .int .i64 a0_1, .string a0_2] 23 (0, 0)) (by (with_reducible repeat (first | refine blk_drewN ?_ _ | refine blk_drew ?_ | refine blk_alloc ?_ _)); exact BK194.out)) : gb194 ≠ gb213)); have n8_ := Aside0.mk ((by rw [hg]; exact Nat.ne_of_gt (blk_lt (g := gb194) (o := .cells #[.string a0_0, .int .i64 a0_1, .string a0_2] 23 (0, 0)) (by (with_reducible repeat (first | refine blk_drewN ?_ _ | refine blk_drew ?_ | refine blk_alloc ?_ _)); exact BK194.out)) : gb213 ≠ gb194)); have n9_ := Aside0.mk ((by rw [hg]; exact Nat.ne_of_lt (blk_lt (g := gb203) (o := .cells #[.string t199, .int .i64 t200, .string t201] 23 (0, 0)) (by (with_reducible repeat (first | refine blk_drewN ?_ _ | refine blk_drew ?_ | refine blk_alloc ?_ _)); exact BK203.out)) : gb203 ≠ gb213)); have n10_ := Aside0.mk ((by rw [hg]; exact Nat.ne_of_gt (blk_lt (g := gb203) (o := .cells #[.string t199, .int .i64 t200, .string t201] 23 (0, 0)) (by (with_reducible repeat (first | refine blk_drewN ?_ _ | refine blk_drew ?_ | refine blk_alloc ?_ _)); exact BK203.out)) : gb213 ≠ gb203)); have n11_ := Aside0.mk ((by rw [hg]; exact Nat.ne_of_lt (blk_lt (g := gb208) (o := .cells #[.string t204, .int .i64 t205, .string t206] 23 (0, 0)) (by (with_reducible repeat (first | refine blk_drewN ?_ _ | refine blk_drew ?_ | refine blk_alloc ?_ _)); exact BK208.out)) : gb208 ≠ gb213)); have n12_ := Aside0.mk ((by rw [hg]; exact Nat.ne_of_gt (blk_lt (g := gb208) (o := .cells #[.string t204, .int .i64 t205, .string t206] 23 (0, 0)) (by (with_reducible repeat (first | refine blk_drewN ?_ _ | refine blk_drew ?_ | refine blk_alloc ?_ _)); exact BK208.out)) : gb213 ≠ gb208)); clear BK194; clear BK203; clear BK208; clear HB; have BK194 := n0_; have BK203 := n1_; have BK208 := n2_; have HB := n3_; have BK213 := n4_; have GW213 := n5_; have GE213 := n6_; have NB194_213 := n7_; have NB213_194 := n8_; have NB203_213 := n9_; have NB213_203 := n10_; have NB208_213 := n11_; have NB213_208 := n12_; clear n0_ n1_ n2_ n3_ n4_ n5_ n6_ n7_ n8_ n9_ n10_ n11_ n12_; clear hb hbox hg; have hnb26 := NB213_194.out; have hnc26 := NB194_213.out; have hnb27 := NB213_203.out; have hnc27 := NB203_213.out; have hnb28 := NB213_208.out; have hnc28 := NB208_213.out; have hcz29_0 : w25.cell? ⟨gb213, 0, none⟩ = some (.string (⟨#[]⟩ : ByteArray)) := (blk_cell BK213.out 0).trans rfl; have hcz29_1 : w25.cell? ⟨gb213, 1, none⟩ = some (.int .i64 0) := (blk_cell BK213.out 1).trans rfl; have hcz29_2 : w25.cell? ⟨gb213, 2, none⟩ = some (.string (⟨#[]⟩ : ByteArray)) := (blk_cell BK213.out 2).trans rfl; have hfz29_0 := blk_frozen BK213.out 0; have hfz29_1 := blk_frozen BK213.out 1; have hfz29_2 := blk_frozen BK213.out 2; have hcz30_0 : w25.cell? ⟨gb203, 0, none⟩ = some (.string t199) := (blk_cell BK203.out 0).trans rfl; have hcz30_1 : w25.cell? ⟨gb203, 1, none⟩ = some (.int .i64 t200) := (blk_cell BK203.out 1).trans rfl; have hcz30_2 : w25.cell? ⟨gb203, 2, none⟩ = some (.string t201) := (blk_cell BK203.out 2).trans rfl; have hfz30_0 := blk_frozen BK203.out 0; have hfz30_1 := blk_frozen BK203.out 1; have hfz30_2 := blk_frozen BK203.out 2) | ((with_reducible refine gate_callee (f := 12) rfl ?_); refine goesL_ (some 44) rfl rfl Tryd.func12 (by kernel_rfl) rfl #[.agg #[.string t199, .int .i64 t200, .string t201]] rfl (by (try simp only [List.map_toArray, List.map_cons, List.map_nil]); first | done | rfl | (simp only [List.length_drop, List.length_take]; rfl)) ?_; (with_reducible refine (logline_Put.calls k t199 t200 t201 t214 t215 _ A8.out (Tb.below HT0.out (by repeat (first | (with_reducible first | exact HB.out | apply below_alloc | apply pw_below_drewN | apply below_drew1 | refine below_set ?_ GE194.out | refine below_set ?_ GE203.out | refine below_set ?_ GE208.out | refine below_set ?_ GE213.out) | exact HB.out)))).mono ?_); rintro e w31 ⟨rfl, hb⟩; refine ⟨_, rfl, ?_⟩; have n0_ := Aside0.mk (blk_below (g := gb194) (o := .cells #[.string a0_0, .int .i64 a0_1, .string a0_2] 23 (0, 0)) (by (with_reducible repeat (first | refine blk_drewN ?_ _ | refine blk_drew ?_ | refine blk_alloc ?_ _)); refine blk_far ?_ NB194_213.out _; (with_reducible repeat (first | refine blk_drewN ?_ _ | refine blk_drew ?_ | refine blk_alloc ?_ _)); refine blk_far ?_ NB194_213.out _; (with_reducible repeat (first | refine blk_drewN ?_ _ | refine blk_drew ?_ | refine blk_alloc ?_ _)); refine blk_far ?_ NB194_213.out _; (with_reducible repeat (first | refine blk_drewN ?_ _ | refine blk_drew ?_ | refine blk_alloc ?_ _)); exact BK194.out) hb); have n1_ := Aside0.mk (blk_below (g := gb203) (o := .cells #[.string t199, .int .i64 t200, .string t201] 23 (0, 0)) (by (with_reducible repeat (first | refine blk_drewN ?_ _ | refine blk_drew ?_ | refine blk_alloc ?_ _)); refine blk_far ?_ NB203_213.out _; (with_reducible repeat (first | refine blk_drewN ?_ _ | refine blk_drew ?_ | refine blk_alloc ?_ _)); refine blk_far ?_ NB203_213.out _; (with_reducible repeat (first | refine blk_drewN ?_ _ | refine blk_drew ?_ | refine blk_alloc ?_ _)); refine blk_far ?_ NB203_213.out _; (with_reducible repeat (first | refine blk_drewN ?_ _ | refine blk_drew ?_ | refine blk_alloc ?_ _)); exact BK203.out) hb); have n2_ := Aside0.mk (blk_below (g := gb208) (o := .cells #[.string t204, .int .i64 t205, .string t206] 23 (0, 0)) (by (with_reducible repeat (first | refine blk_drewN ?_ _ | refine blk_drew ?_ | refine blk_alloc ?_ _)); refine blk_far ?_ NB208_213.out _; (with_reducible repeat (first | refine blk_drewN ?_ _ | refine blk_drew ?_ | refine blk_alloc ?_ _)); refine blk_far ?_ NB208_213.out _; (with_reducible repeat (first | refine blk_drewN ?_ _ | refine blk_drew ?_ | refine blk_alloc ?_ _)); refine blk_far ?_ NB208_213.out _; (with_reducible repeat (first | refine blk_drewN ?_ _ | refine blk_drew ?_ | refine blk_alloc ?_ _)); exact BK208.out) hb); have n3_ := Aside0.mk (blk_below (g := gb213) (o := .cells #[.string t209, .int .i64 t210, .string t211] 23 (0, 0)) (by (with_reducible repeat (first | refine blk_drewN ?_ _ | refine blk_drew ?_ | refine blk_alloc ?_ _)); refine blk_put (cs := #[.string t209, .int .i64 t210, .string (⟨#[]⟩ : ByteArray)]) ?_ 2 _ rfl; (with_reducible repeat (first | refine blk_drewN ?_ _ | refine blk_drew ?_ | refine blk_alloc ?_ _)); refine blk_put (cs := #[.string t209, .int .i64 0, .string (⟨#[]⟩ : ByteArray)]) ?_ 1 _ rfl; (with_reducible repeat (first | refine blk_drewN ?_ _ | refine blk_drew ?_ | refine blk_alloc ?_ _)); refine blk_put (cs := #[.string (⟨#[]⟩ : ByteArray), .int .i64 0, .string (⟨#[]⟩ : ByteArray)]) ?_ 0 _ rfl; (with_reducible repeat (first | refine blk_drewN ?_ _ | refine blk_drew ?_ | refine blk_alloc ?_ _)); exact BK213.out) hb); have n4_ := Aside0.mk (below_step (by repeat (first | (with_reducible first | exact HB.out | apply below_alloc | apply pw_below_drewN | apply below_drew1 | refine below_set ?_ GE194.out | refine below_set ?_ GE203.out | refine below_set ?_ GE208.out | refine below_set ?_ GE213.out) | exact HB.out)) hb); clear BK194; clear BK203; clear BK208; clear BK213; clear HB; have BK194 := n0_; have BK203 := n1_; have BK208 := n2_; have BK213 := n3_; have HB := n4_; clear n0_ n1_ n2_ n3_ n4_; (try clear hb); (try clear hb2); (try clear hk); (try clear hi)))
  (try simp only [Act.put, List.setIfInBounds_toArray, List.set_cons_zero, List.set_cons_succ])
  go_cut [66] (fun v66 wc => ∃ (kq : Nat) (x66_8 : Bool), v66 = .bool x66_8 ∧ Aside0 (cruciblelaw13_Loglines.j0 kq a1 t196 t202 t212 t214 t215 x66_8 a0_0 a0_1 a0_2 t209 t210 t211 = some r) ∧ Aside0 (kq ≤ k) ∧ Aside0 (wc.heap[gb194]? = some (.cells #[.string a0_0, .int .i64 a0_1, .string a0_2] 23 (0, 0))) ∧ Aside0 (wc.heap[gb203]? = some (.cells #[.string t199, .int .i64 t200, .string t201] 23 (0, 0))) ∧ Aside0 (wc.heap[gb208]? = some (.cells #[.string t204, .int .i64 t205, .string t206] 23 (0, 0))) ∧ Aside0 (wc.heap[gb213]? = some (.cells #[.string t209, .int .i64 t210, .string t211] 23 (0, 0))) ∧ Aside0 (Below w.heap.size w wc))
  case first =>
    have H := HC9.out
    clear HC9
    by_cases c32 : t195.toList = t197.toList
    · rw [if_pos c32] at H
      have c32b0 : (t195.toList == t197.toList) = true := beq_iff_eq.mpr c32
      have c32b1 : (t195.toList != t197.toList) = false := bne_eq_false_iff_eq.mpr c32
      clear c32
      (first | rw [c32b0] | (simp only [i64_w, i32_w]; rw [c32b0]) | rw [c32b2] | skip)
      replace H := Option.bind_eq_some_iff.mp H
      obtain ⟨t216, A330, H⟩ := H
      replace H : (if t216 = t198 then (if (!(t199.toList == t204.toList) || (!(t200 == t205) || (!(t201.toList == t206.toList)))) = true then (cruciblelaw13_Loglines.j0 k a1 t196 t202 t212 t214 t215 true a0_0 a0_1 a0_2 t209 t210 t211) else ((cruciblelaw0_Num.f t202).bind fun t217 => (cruciblelaw13_Loglines.j0 k a1 t196 t202 t212 t214 t215 (t217 != t207) a0_0 a0_1 a0_2 t209 t210 t211))) else (cruciblelaw13_Loglines.j0 k a1 t196 t202 t212 t214 t215 true a0_0 a0_1 a0_2 t209 t210 t211)) = some r := H
      have A33 := Aside0.mk A330
      clear A330
      by_cases c34 : t216 = t198
      · rw [if_pos c34] at H
        have c34b0 : (t216 == t198) = true := beq_iff_eq.mpr c34
        have c34b1 : (t216 != t198) = false := bne_eq_false_iff_eq.mpr c34
        clear c34
        by_cases c35 : (!(t199.toList == t204.toList) || (!(t200 == t205) || (!(t201.toList == t206.toList)))) = true
        · rw [if_pos c35] at H
          have c35b0 : (!(t199.toList == t204.toList) || (!(t200 == t205) || (!(t201.toList == t206.toList)))) = true := c35
          clear c35
          have H' := Aside0.mk H
          clear H
          go_wp2_with (first | (go_at_call 16; (with_reducible refine (cruciblelaw0_Num.calls t196 t216 _ A33.out).mono ?_); rintro e w' ⟨rfl, ⟨nd, rfl⟩⟩; have hnb36 := NB203_194.out; have hnc36 := NB194_203.out; have hnb37 := NB203_208.out; have hnc37 := NB208_203.out; have hnb38 := NB203_213.out; have hnc38 := NB213_203.out; have hcz39_0 : w31.cell? ⟨gb203, 0, none⟩ = some (.string t199) := (blk_cell BK203.out 0).trans rfl; have hcz39_1 : w31.cell? ⟨gb203, 1, none⟩ = some (.int .i64 t200) := (blk_cell BK203.out 1).trans rfl; have hcz39_2 : w31.cell? ⟨gb203, 2, none⟩ = some (.string t201) := (blk_cell BK203.out 2).trans rfl; have hfz39_0 := blk_frozen BK203.out 0; have hfz39_1 := blk_frozen BK203.out 1; have hfz39_2 := blk_frozen BK203.out 2; have hnb40 := NB208_194.out; have hnc40 := NB194_208.out; have hnb41 := NB208_213.out; have hnc41 := NB213_208.out; have hcz42_0 : w31.cell? ⟨gb208, 0, none⟩ = some (.string t204) := (blk_cell BK208.out 0).trans rfl; have hcz42_1 : w31.cell? ⟨gb208, 1, none⟩ = some (.int .i64 t205) := (blk_cell BK208.out 1).trans rfl; have hcz42_2 : w31.cell? ⟨gb208, 2, none⟩ = some (.string t206) := (blk_cell BK208.out 2).trans rfl; have hfz42_0 := blk_frozen BK208.out 0; have hfz42_1 := blk_frozen BK208.out 1; have hfz42_2 := blk_frozen BK208.out 2))
          go_meet
          case rel => exact ⟨_, (true), (by first | rfl | (simp; done) | (simp [*]; done)), H', ⟨by first | omega | exact Nat.le_refl _⟩, ⟨by (with_reducible repeat (first | refine blk_drewN ?_ _ | refine blk_drew ?_ | refine blk_alloc ?_ _)); exact BK194.out⟩, ⟨by (with_reducible repeat (first | refine blk_drewN ?_ _ | refine blk_drew ?_ | refine blk_alloc ?_ _)); exact BK203.out⟩, ⟨by (with_reducible repeat (first | refine blk_drewN ?_ _ | refine blk_drew ?_ | refine blk_alloc ?_ _)); exact BK208.out⟩, ⟨by (with_reducible repeat (first | refine blk_drewN ?_ _ | refine blk_drew ?_ | refine blk_alloc ?_ _)); exact BK213.out⟩, ⟨by repeat (first | (with_reducible first | exact HB.out | apply below_alloc | apply pw_below_drewN | apply below_drew1 | refine below_set ?_ GE194.out | refine below_set ?_ GE203.out | refine below_set ?_ GE208.out | refine below_set ?_ GE213.out) | exact HB.out)⟩⟩
        · rw [if_neg c35] at H
          have c35b0 : (!(t199.toList == t204.toList) || (!(t200 == t205) || (!(t201.toList == t206.toList)))) = false := by simpa using c35
          clear c35
          replace H := Option.bind_eq_some_iff.mp H
          obtain ⟨t217, A430, H⟩ := H
          replace H : (cruciblelaw13_Loglines.j0 k a1 t196 t202 t212 t214 t215 (t217 != t207) a0_0 a0_1 a0_2 t209 t210 t211) = some r := H
          have A43 := Aside0.mk A430
          clear A430
          have H' := Aside0.mk H
          clear H
          go_wp2_with (first | (go_at_call 16; (with_reducible refine (cruciblelaw0_Num.calls t196 t216 _ A33.out).mono ?_); rintro e w' ⟨rfl, ⟨nd, rfl⟩⟩; have hnb44 := NB203_194.out; have hnc44 := NB194_203.out; have hnb45 := NB203_208.out; have hnc45 := NB208_203.out; have hnb46 := NB203_213.out; have hnc46 := NB213_203.out; have hcz47_0 : w31.cell? ⟨gb203, 0, none⟩ = some (.string t199) := (blk_cell BK203.out 0).trans rfl; have hcz47_1 : w31.cell? ⟨gb203, 1, none⟩ = some (.int .i64 t200) := (blk_cell BK203.out 1).trans rfl; have hcz47_2 : w31.cell? ⟨gb203, 2, none⟩ = some (.string t201) := (blk_cell BK203.out 2).trans rfl; have hfz47_0 := blk_frozen BK203.out 0; have hfz47_1 := blk_frozen BK203.out 1; have hfz47_2 := blk_frozen BK203.out 2; have hnb48 := NB208_194.out; have hnc48 := NB194_208.out; have hnb49 := NB208_213.out; have hnc49 := NB213_208.out; have hcz50_0 : w31.cell? ⟨gb208, 0, none⟩ = some (.string t204) := (blk_cell BK208.out 0).trans rfl; have hcz50_1 : w31.cell? ⟨gb208, 1, none⟩ = some (.int .i64 t205) := (blk_cell BK208.out 1).trans rfl; have hcz50_2 : w31.cell? ⟨gb208, 2, none⟩ = some (.string t206) := (blk_cell BK208.out 2).trans rfl; have hfz50_0 := blk_frozen BK208.out 0; have hfz50_1 := blk_frozen BK208.out 1; have hfz50_2 := blk_frozen BK208.out 2) | (go_at_call 16; (with_reducible refine (cruciblelaw0_Num.calls t202 t217 _ A43.out).mono ?_); rintro e w' ⟨rfl, ⟨nd, rfl⟩⟩))
          go_meet
          case rel => exact ⟨_, ((t217 != t207)), (by first | rfl | (simp; done) | (simp [*]; done)), H', ⟨by first | omega | exact Nat.le_refl _⟩, ⟨by (with_reducible repeat (first | refine blk_drewN ?_ _ | refine blk_drew ?_ | refine blk_alloc ?_ _)); exact BK194.out⟩, ⟨by (with_reducible repeat (first | refine blk_drewN ?_ _ | refine blk_drew ?_ | refine blk_alloc ?_ _)); exact BK203.out⟩, ⟨by (with_reducible repeat (first | refine blk_drewN ?_ _ | refine blk_drew ?_ | refine blk_alloc ?_ _)); exact BK208.out⟩, ⟨by (with_reducible repeat (first | refine blk_drewN ?_ _ | refine blk_drew ?_ | refine blk_alloc ?_ _)); exact BK213.out⟩, ⟨by repeat (first | (with_reducible first | exact HB.out | apply below_alloc | apply pw_below_drewN | apply below_drew1 | refine below_set ?_ GE194.out | refine below_set ?_ GE203.out | refine below_set ?_ GE208.out | refine below_set ?_ GE213.out) | exact HB.out)⟩⟩
      · rw [if_neg c34] at H
        have c34b0 : (t216 == t198) = false := beq_eq_false_iff_ne.mpr c34
        have c34b1 : (t216 != t198) = true := bne_iff_ne.mpr c34
        have H' := Aside0.mk H
        clear H
        go_wp2_with (first | (go_at_call 16; (with_reducible refine (cruciblelaw0_Num.calls t196 t216 _ A33.out).mono ?_); rintro e w' ⟨rfl, ⟨nd, rfl⟩⟩))
        go_meet
        case rel => exact ⟨_, (true), (by first | rfl | (simp; done) | (simp [*]; done)), H', ⟨by first | omega | exact Nat.le_refl _⟩, ⟨by (with_reducible repeat (first | refine blk_drewN ?_ _ | refine blk_drew ?_ | refine blk_alloc ?_ _)); exact BK194.out⟩, ⟨by (with_reducible repeat (first | refine blk_drewN ?_ _ | refine blk_drew ?_ | refine blk_alloc ?_ _)); exact BK203.out⟩, ⟨by (with_reducible repeat (first | refine blk_drewN ?_ _ | refine blk_drew ?_ | refine blk_alloc ?_ _)); exact BK208.out⟩, ⟨by (with_reducible repeat (first | refine blk_drewN ?_ _ | refine blk_drew ?_ | refine blk_alloc ?_ _)); exact BK213.out⟩, ⟨by repeat (first | (with_reducible first | exact HB.out | apply below_alloc | apply pw_below_drewN | apply below_drew1 | refine below_set ?_ GE194.out | refine below_set ?_ GE203.out | refine below_set ?_ GE208.out | refine below_set ?_ GE213.out) | exact HB.out)⟩⟩
    · rw [if_neg c32] at H
      have c32b0 : (t195.toList == t197.toList) = false := beq_eq_false_iff_ne.mpr c32
      have c32b1 : (t195.toList != t197.toList) = true := bne_iff_ne.mpr c32
      (first | rw [c32b0] | (simp only [i64_w, i32_w]; rw [c32b0]) | rw [c32b2] | skip)
      have H' := Aside0.mk H
      clear H
      go_wp2
      go_meet
      case rel => exact ⟨_, (true), (by first | rfl | (simp; done) | (simp [*]; done)), H', ⟨by first | omega | exact Nat.le_refl _⟩, ⟨by (with_reducible repeat (first | refine blk_drewN ?_ _ | refine blk_drew ?_ | refine blk_alloc ?_ _)); exact BK194.out⟩, ⟨by (with_reducible repeat (first | refine blk_drewN ?_ _ | refine blk_drew ?_ | refine blk_alloc ?_ _)); exact BK203.out⟩, ⟨by (with_reducible repeat (first | refine blk_drewN ?_ _ | refine blk_drew ?_ | refine blk_alloc ?_ _)); exact BK208.out⟩, ⟨by (with_reducible repeat (first | refine blk_drewN ?_ _ | refine blk_drew ?_ | refine blk_alloc ?_ _)); exact BK213.out⟩, ⟨by repeat (first | (with_reducible first | exact HB.out | apply below_alloc | apply pw_below_drewN | apply below_drew1 | refine below_set ?_ GE194.out | refine below_set ?_ GE203.out | refine below_set ?_ GE208.out | refine below_set ?_ GE213.out) | exact HB.out)⟩⟩
  case rest =>
    clear HC9
    try clear c1
    try clear c2
    try clear p2
    try clear c3
    try clear c4
    try clear c12
    try clear c13
    try clear c14
    try clear c15
    try clear c17
    try clear c21
    try clear c22
    try clear c26
    try clear c27
    try clear c28
    try clear c32
    try clear c32b0
    try clear c32b1
    try clear c32b2
    try clear c34
    try clear c34b0
    try clear c34b1
    try clear c35
    try clear c35b0
    try clear c36
    try clear c37
    try clear c38
    try clear c40
    try clear c41
    try clear c44
    try clear c45
    try clear c46
    try clear c48
    try clear c49
    try clear hcz11_0
    try clear hcz11_1
    try clear hcz11_2
    try clear hcz13_0
    try clear hcz13_1
    try clear hcz13_2
    try clear hcz18_0
    try clear hcz18_1
    try clear hcz18_2
    try clear hcz23_0
    try clear hcz23_1
    try clear hcz23_2
    try clear hcz29_0
    try clear hcz29_1
    try clear hcz29_2
    try clear hcz30_0
    try clear hcz30_1
    try clear hcz30_2
    try clear hcz39_0
    try clear hcz39_1
    try clear hcz39_2
    try clear hcz42_0
    try clear hcz42_1
    try clear hcz42_2
    try clear hcz47_0
    try clear hcz47_1
    try clear hcz47_2
    try clear hcz50_0
    try clear hcz50_1
    try clear hcz50_2
    try clear hfz11_0
    try clear hfz11_1
    try clear hfz11_2
    try clear hfz13_0
    try clear hfz13_1
    try clear hfz13_2
    try clear hfz18_0
    try clear hfz18_1
    try clear hfz18_2
    try clear hfz23_0
    try clear hfz23_1
    try clear hfz23_2
    try clear hfz29_0
    try clear hfz29_1
    try clear hfz29_2
    try clear hfz30_0
    try clear hfz30_1
    try clear hfz30_2
    try clear hfz39_0
    try clear hfz39_1
    try clear hfz39_2
    try clear hfz42_0
    try clear hfz42_1
    try clear hfz42_2
    try clear hfz47_0
    try clear hfz47_1
    try clear hfz47_2
    try clear hfz50_0
    try clear hfz50_1
    try clear hfz50_2
    obtain ⟨kq, x66_8, rfl, HA, HJ8, BK194, BK203, BK208, BK213, HB⟩ := hcut
    cases kq with
    | zero => exact absurd HA.out (by simp [cruciblelaw13_Loglines.j0])
    | succ kj8 =>
      have H := HA.out
      clear HA
      simp only [cruciblelaw13_Loglines.j0] at H
      by_cases c51 : x66_8 = true
      · subst c51
        have H1 : (some false) = some r := by rw [if_pos rfl] at H; exact H
        clear H
        have H := H1
        clear H1
        obtain rfl := Option.some.inj H
        go_wp2
        go_ret
        exact ⟨by first | rfl | (simp [errW_none, errW_some] <;> rfl) | (simp [*, errW_none, errW_some] <;> rfl), by repeat (first | (with_reducible first | exact HB.out | apply below_alloc | apply pw_below_drewN | apply below_drew1 | refine below_set ?_ GE194.out | refine below_set ?_ GE203.out | refine below_set ?_ GE208.out | refine below_set ?_ GE213.out) | exact HB.out)⟩
      · replace c51 := Bool.eq_false_iff.mpr c51
        subst c51
        have H1 : ((cruciblelaw0_Num.f t196).bind fun t218 => (if t218 = 0 then (if (t209.toList == a0_0.toList && (t210 == a0_1 && (t211.toList == a0_2.toList))) = true then ((cruciblelaw0_Num.f t212).bind fun t219 => (if t219 = 0 then ((cruciblelaw0_Num.f t202).bind fun t220 => (if t220 = 0 then (if t214.toList = a1.toList then ((cruciblelaw0_Num.f t215).bind fun t221 => (if t221 = 0 then ((cruciblelaw13_awake.f kj8).bind fun t222 => (some t222)) else (some false))) else (some false)) else ((cruciblelaw13_awake.f kj8).bind fun t223 => (some t223)))) else (some false))) else (some false)) else ((cruciblelaw0_Num.f t202).bind fun t224 => (if t224 = 0 then (if t214.toList = a1.toList then ((cruciblelaw0_Num.f t215).bind fun t225 => (if t225 = 0 then ((cruciblelaw13_awake.f kj8).bind fun t226 => (some t226)) else (some false))) else (some false)) else ((cruciblelaw13_awake.f kj8).bind fun t227 => (some t227)))))) = some r := by rw [if_neg (show ¬ (false = true) by decide)] at H; exact H
        clear H
        have H := H1
        clear H1
        replace H := Option.bind_eq_some_iff.mp H
        obtain ⟨t218, A520, H⟩ := H
        replace H : (if t218 = 0 then (if (t209.toList == a0_0.toList && (t210 == a0_1 && (t211.toList == a0_2.toList))) = true then ((cruciblelaw0_Num.f t212).bind fun t219 => (if t219 = 0 then ((cruciblelaw0_Num.f t202).bind fun t220 => (if t220 = 0 then (if t214.toList = a1.toList then ((cruciblelaw0_Num.f t215).bind fun t221 => (if t221 = 0 then ((cruciblelaw13_awake.f kj8).bind fun t222 => (some t222)) else (some false))) else (some false)) else ((cruciblelaw13_awake.f kj8).bind fun t223 => (some t223)))) else (some false))) else (some false)) else ((cruciblelaw0_Num.f t202).bind fun t224 => (if t224 = 0 then (if t214.toList = a1.toList then ((cruciblelaw0_Num.f t215).bind fun t225 => (if t225 = 0 then ((cruciblelaw13_awake.f kj8).bind fun t226 => (some t226)) else (some false))) else (some false)) else ((cruciblelaw13_awake.f kj8).bind fun t227 => (some t227))))) = some r := H
        have A52 := Aside0.mk A520
        clear A520
        by_cases c53 : t218 = 0
        · rw [if_pos c53] at H
          have c53b0 : (t218 == 0) = true := beq_iff_eq.mpr c53
          have c53b1 : (t218 != 0) = false := bne_eq_false_iff_eq.mpr c53
          clear c53
          by_cases c54 : (t209.toList == a0_0.toList && (t210 == a0_1 && (t211.toList == a0_2.toList))) = true
          · rw [if_pos c54] at H
            have c54b0 : (t209.toList == a0_0.toList && (t210 == a0_1 && (t211.toList == a0_2.toList))) = true := c54
            (try (have c54b1 : decide (t209.toList = a0_0.toList && (t210 == a0_1 && (t211.toList == a0_2.toList))) = true := by simpa using c54))
            (try (have c54b2 : (t209.toList == a0_0.toList && (t210 == a0_1 && (t211.toList == a0_2.toList))) = true := by simpa using c54))
            clear c54
            replace H := Option.bind_eq_some_iff.mp H
            obtain ⟨t219, A550, H⟩ := H
            replace H : (if t219 = 0 then ((cruciblelaw0_Num.f t202).bind fun t220 => (if t220 = 0 then (if t214.toList = a1.toList then ((cruciblelaw0_Num.f t215).bind fun t221 => (if t221 = 0 then ((cruciblelaw13_awake.f kj8).bind fun t222 => (some t222)) else (some false))) else (some false)) else ((cruciblelaw13_awake.f kj8).bind fun t223 => (some t223)))) else (some false)) = some r := H
            have A55 := Aside0.mk A550
            clear A550
            by_cases c56 : t219 = 0
            · rw [if_pos c56] at H
              have c56b0 : (t219 == 0) = true := beq_iff_eq.mpr c56
              have c56b1 : (t219 != 0) = false := bne_eq_false_iff_eq.mpr c56
              clear c56
              replace H := Option.bind_eq_some_iff.mp H
              obtain ⟨t220, A570, H⟩ := H
              replace H : (if t220 = 0 then (if t214.toList = a1.toList then ((cruciblelaw0_Num.f t215).bind fun t221 => (if t221 = 0 then ((cruciblelaw13_awake.f kj8).bind fun t222 => (some t222)) else (some false))) else (some false)) else ((cruciblelaw13_awake.f kj8).bind fun t223 => (some t223))) = some r := H
              have A57 := Aside0.mk A570
              clear A570
              by_cases c58 : t220 = 0
              · rw [if_pos c58] at H
                have c58b0 : (t220 == 0) = true := beq_iff_eq.mpr c58
                have c58b1 : (t220 != 0) = false := bne_eq_false_iff_eq.mpr c58
                clear c58
                by_cases c59 : t214.toList = a1.toList
                · rw [if_pos c59] at H
                  have c59b0 : (t214.toList == a1.toList) = true := beq_iff_eq.mpr c59
                  have c59b1 : (t214.toList != a1.toList) = false := bne_eq_false_iff_eq.mpr c59
                  clear c59
                  replace H := Option.bind_eq_some_iff.mp H
                  obtain ⟨t221, A600, H⟩ := H
                  replace H : (if t221 = 0 then ((cruciblelaw13_awake.f kj8).bind fun t222 => (some t222)) else (some false)) = some r := H
                  have A60 := Aside0.mk A600
                  clear A600
                  by_cases c61 : t221 = 0
                  · rw [if_pos c61] at H
                    have c61b0 : (t221 == 0) = true := beq_iff_eq.mpr c61
                    have c61b1 : (t221 != 0) = false := bne_eq_false_iff_eq.mpr c61
                    clear c61
                    replace H := Option.bind_eq_some_iff.mp H
                    obtain ⟨t222, A620, H⟩ := H
                    replace H : (some t222) = some r := H
                    have A62 := Aside0.mk A620
                    clear A620
                    obtain rfl := Option.some.inj H
                    go_wp2_with (first | ((with_reducible refine gate_callee (f := 16) rfl ?_); refine goesL_ (some 68) rfl rfl Tryd.func16 (by kernel_rfl) rfl #[.int .i64 t196] rfl (by (try simp only [List.map_toArray, List.map_cons, List.map_nil]); first | done | rfl | (simp only [List.length_drop, List.length_take]; rfl)) ?_; (with_reducible refine (cruciblelaw0_Num.calls t196 t218 _ A52.out).mono ?_); rintro e w' ⟨rfl, ⟨nd, rfl⟩⟩; refine ⟨_, rfl, ?_⟩; have hnb63 := NB213_194.out; have hnc63 := NB194_213.out; have hnb64 := NB213_203.out; have hnc64 := NB203_213.out; have hnb65 := NB213_208.out; have hnc65 := NB208_213.out; have hcz66_0 : wc.cell? ⟨gb213, 0, none⟩ = some (.string t209) := (blk_cell BK213.out 0).trans rfl; have hcz66_1 : wc.cell? ⟨gb213, 1, none⟩ = some (.int .i64 t210) := (blk_cell BK213.out 1).trans rfl; have hcz66_2 : wc.cell? ⟨gb213, 2, none⟩ = some (.string t211) := (blk_cell BK213.out 2).trans rfl; have hfz66_0 := blk_frozen BK213.out 0; have hfz66_1 := blk_frozen BK213.out 1; have hfz66_2 := blk_frozen BK213.out 2; have hnb67 := NB194_203.out; have hnc67 := NB203_194.out; have hnb68 := NB194_208.out; have hnc68 := NB208_194.out; have hcz69_0 : wc.cell? ⟨gb194, 0, none⟩ = some (.string a0_0) := (blk_cell BK194.out 0).trans rfl; have hcz69_1 : wc.cell? ⟨gb194, 1, none⟩ = some (.int .i64 a0_1) := (blk_cell BK194.out 1).trans rfl; have hcz69_2 : wc.cell? ⟨gb194, 2, none⟩ = some (.string a0_2) := (blk_cell BK194.out 2).trans rfl; have hfz69_0 := blk_frozen BK194.out 0; have hfz69_1 := blk_frozen BK194.out 1; have hfz69_2 := blk_frozen BK194.out 2) | (go_at_call 16; (with_reducible refine (cruciblelaw0_Num.calls t212 t219 _ A55.out).mono ?_); rintro e w' ⟨rfl, ⟨nd, rfl⟩⟩) | (go_at_call 16; (with_reducible refine (cruciblelaw0_Num.calls t202 t220 _ A57.out).mono ?_); rintro e w' ⟨rfl, ⟨nd, rfl⟩⟩) | (go_at_call 16; (with_reducible refine (cruciblelaw0_Num.calls t215 t221 _ A60.out).mono ?_); rintro e w' ⟨rfl, ⟨nd, rfl⟩⟩) | (go_at_call 17; (with_reducible refine (cruciblelaw13_awake.calls kj8  t222 _ A62.out (Tb.below HT0.out (by repeat (first | (with_reducible first | exact HB.out | apply below_alloc | apply pw_below_drewN | apply below_drew1 | refine below_set ?_ GE194.out | refine below_set ?_ GE203.out | refine below_set ?_ GE208.out | refine below_set ?_ GE213.out) | exact HB.out)))).mono ?_); rintro e w70 ⟨rfl, hb⟩; have n0_ := Aside0.mk (blk_below (g := gb194) (o := .cells #[.string a0_0, .int .i64 a0_1, .string a0_2] 23 (0, 0)) (by (with_reducible repeat (first | refine blk_drewN ?_ _ | refine blk_drew ?_ | refine blk_alloc ?_ _)); exact BK194.out) hb); have n1_ := Aside0.mk (blk_below (g := gb203) (o := .cells #[.string t199, .int .i64 t200, .string t201] 23 (0, 0)) (by (with_reducible repeat (first | refine blk_drewN ?_ _ | refine blk_drew ?_ | refine blk_alloc ?_ _)); exact BK203.out) hb); have n2_ := Aside0.mk (blk_below (g := gb208) (o := .cells #[.string t204, .int .i64 t205, .string t206] 23 (0, 0)) (by (with_reducible repeat (first | refine blk_drewN ?_ _ | refine blk_drew ?_ | refine blk_alloc ?_ _)); exact BK208.out) hb); have n3_ := Aside0.mk (blk_below (g := gb213) (o := .cells #[.string t209, .int .i64 t210, .string t211] 23 (0, 0)) (by (with_reducible repeat (first | refine blk_drewN ?_ _ | refine blk_drew ?_ | refine blk_alloc ?_ _)); exact BK213.out) hb); have n4_ := Aside0.mk (below_step (by repeat (first | (with_reducible first | exact HB.out | apply below_alloc | apply pw_below_drewN | apply below_drew1 | refine below_set ?_ GE194.out | refine below_set ?_ GE203.out | refine below_set ?_ GE208.out | refine below_set ?_ GE213.out) | exact HB.out)) hb); clear BK194; clear BK203; clear BK208; clear BK213; clear HB; have BK194 := n0_; have BK203 := n1_; have BK208 := n2_; have BK213 := n3_; have HB := n4_; clear n0_ n1_ n2_ n3_ n4_; (try clear hb); (try clear hb2); (try clear hk); (try clear hi)))
                    go_ret
                    exact ⟨by first | rfl | (simp [errW_none, errW_some] <;> rfl) | (simp [*, errW_none, errW_some] <;> rfl), by repeat (first | (with_reducible first | exact HB.out | apply below_alloc | apply pw_below_drewN | apply below_drew1 | refine below_set ?_ GE194.out | refine below_set ?_ GE203.out | refine below_set ?_ GE208.out | refine below_set ?_ GE213.out) | exact HB.out)⟩
                  · rw [if_neg c61] at H
                    have c61b0 : (t221 == 0) = false := beq_eq_false_iff_ne.mpr c61
                    have c61b1 : (t221 != 0) = true := bne_iff_ne.mpr c61
                    obtain rfl := Option.some.inj H
                    go_wp2_with (first | ((with_reducible refine gate_callee (f := 16) rfl ?_); refine goesL_ (some 68) rfl rfl Tryd.func16 (by kernel_rfl) rfl #[.int .i64 t196] rfl (by (try simp only [List.map_toArray, List.map_cons, List.map_nil]); first | done | rfl | (simp only [List.length_drop, List.length_take]; rfl)) ?_; (with_reducible refine (cruciblelaw0_Num.calls t196 t218 _ A52.out).mono ?_); rintro e w' ⟨rfl, ⟨nd, rfl⟩⟩; refine ⟨_, rfl, ?_⟩; have hnb71 := NB213_194.out; have hnc71 := NB194_213.out; have hnb72 := NB213_203.out; have hnc72 := NB203_213.out; have hnb73 := NB213_208.out; have hnc73 := NB208_213.out; have hcz74_0 : wc.cell? ⟨gb213, 0, none⟩ = some (.string t209) := (blk_cell BK213.out 0).trans rfl; have hcz74_1 : wc.cell? ⟨gb213, 1, none⟩ = some (.int .i64 t210) := (blk_cell BK213.out 1).trans rfl; have hcz74_2 : wc.cell? ⟨gb213, 2, none⟩ = some (.string t211) := (blk_cell BK213.out 2).trans rfl; have hfz74_0 := blk_frozen BK213.out 0; have hfz74_1 := blk_frozen BK213.out 1; have hfz74_2 := blk_frozen BK213.out 2; have hnb75 := NB194_203.out; have hnc75 := NB203_194.out; have hnb76 := NB194_208.out; have hnc76 := NB208_194.out; have hcz77_0 : wc.cell? ⟨gb194, 0, none⟩ = some (.string a0_0) := (blk_cell BK194.out 0).trans rfl; have hcz77_1 : wc.cell? ⟨gb194, 1, none⟩ = some (.int .i64 a0_1) := (blk_cell BK194.out 1).trans rfl; have hcz77_2 : wc.cell? ⟨gb194, 2, none⟩ = some (.string a0_2) := (blk_cell BK194.out 2).trans rfl; have hfz77_0 := blk_frozen BK194.out 0; have hfz77_1 := blk_frozen BK194.out 1; have hfz77_2 := blk_frozen BK194.out 2) | (go_at_call 16; (with_reducible refine (cruciblelaw0_Num.calls t212 t219 _ A55.out).mono ?_); rintro e w' ⟨rfl, ⟨nd, rfl⟩⟩) | (go_at_call 16; (with_reducible refine (cruciblelaw0_Num.calls t202 t220 _ A57.out).mono ?_); rintro e w' ⟨rfl, ⟨nd, rfl⟩⟩) | (go_at_call 16; (with_reducible refine (cruciblelaw0_Num.calls t215 t221 _ A60.out).mono ?_); rintro e w' ⟨rfl, ⟨nd, rfl⟩⟩))
                    go_ret
                    exact ⟨by first | rfl | (simp [errW_none, errW_some] <;> rfl) | (simp [*, errW_none, errW_some] <;> rfl), by repeat (first | (with_reducible first | exact HB.out | apply below_alloc | apply pw_below_drewN | apply below_drew1 | refine below_set ?_ GE194.out | refine below_set ?_ GE203.out | refine below_set ?_ GE208.out | refine below_set ?_ GE213.out) | exact HB.out)⟩
                · rw [if_neg c59] at H
                  have c59b0 : (t214.toList == a1.toList) = false := beq_eq_false_iff_ne.mpr c59
                  have c59b1 : (t214.toList != a1.toList) = true := bne_iff_ne.mpr c59
                  obtain rfl := Option.some.inj H
                  go_wp2_with (first | ((with_reducible refine gate_callee (f := 16) rfl ?_); refine goesL_ (some 68) rfl rfl Tryd.func16 (by kernel_rfl) rfl #[.int .i64 t196] rfl (by (try simp only [List.map_toArray, List.map_cons, List.map_nil]); first | done | rfl | (simp only [List.length_drop, List.length_take]; rfl)) ?_; (with_reducible refine (cruciblelaw0_Num.calls t196 t218 _ A52.out).mono ?_); rintro e w' ⟨rfl, ⟨nd, rfl⟩⟩; refine ⟨_, rfl, ?_⟩; have hnb78 := NB213_194.out; have hnc78 := NB194_213.out; have hnb79 := NB213_203.out; have hnc79 := NB203_213.out; have hnb80 := NB213_208.out; have hnc80 := NB208_213.out; have hcz81_0 : wc.cell? ⟨gb213, 0, none⟩ = some (.string t209) := (blk_cell BK213.out 0).trans rfl; have hcz81_1 : wc.cell? ⟨gb213, 1, none⟩ = some (.int .i64 t210) := (blk_cell BK213.out 1).trans rfl; have hcz81_2 : wc.cell? ⟨gb213, 2, none⟩ = some (.string t211) := (blk_cell BK213.out 2).trans rfl; have hfz81_0 := blk_frozen BK213.out 0; have hfz81_1 := blk_frozen BK213.out 1; have hfz81_2 := blk_frozen BK213.out 2; have hnb82 := NB194_203.out; have hnc82 := NB203_194.out; have hnb83 := NB194_208.out; have hnc83 := NB208_194.out; have hcz84_0 : wc.cell? ⟨gb194, 0, none⟩ = some (.string a0_0) := (blk_cell BK194.out 0).trans rfl; have hcz84_1 : wc.cell? ⟨gb194, 1, none⟩ = some (.int .i64 a0_1) := (blk_cell BK194.out 1).trans rfl; have hcz84_2 : wc.cell? ⟨gb194, 2, none⟩ = some (.string a0_2) := (blk_cell BK194.out 2).trans rfl; have hfz84_0 := blk_frozen BK194.out 0; have hfz84_1 := blk_frozen BK194.out 1; have hfz84_2 := blk_frozen BK194.out 2) | (go_at_call 16; (with_reducible refine (cruciblelaw0_Num.calls t212 t219 _ A55.out).mono ?_); rintro e w' ⟨rfl, ⟨nd, rfl⟩⟩) | (go_at_call 16; (with_reducible refine (cruciblelaw0_Num.calls t202 t220 _ A57.out).mono ?_); rintro e w' ⟨rfl, ⟨nd, rfl⟩⟩))
                  go_ret
                  exact ⟨by first | rfl | (simp [errW_none, errW_some] <;> rfl) | (simp [*, errW_none, errW_some] <;> rfl), by repeat (first | (with_reducible first | exact HB.out | apply below_alloc | apply pw_below_drewN | apply below_drew1 | refine below_set ?_ GE194.out | refine below_set ?_ GE203.out | refine below_set ?_ GE208.out | refine below_set ?_ GE213.out) | exact HB.out)⟩
              · rw [if_neg c58] at H
                have c58b0 : (t220 == 0) = false := beq_eq_false_iff_ne.mpr c58
                have c58b1 : (t220 != 0) = true := bne_iff_ne.mpr c58
                replace H := Option.bind_eq_some_iff.mp H
                obtain ⟨t223, A850, H⟩ := H
                replace H : (some t223) = some r := H
                have A85 := Aside0.mk A850
                clear A850
                obtain rfl := Option.some.inj H
                go_wp2_with (first | ((with_reducible refine gate_callee (f := 16) rfl ?_); refine goesL_ (some 68) rfl rfl Tryd.func16 (by kernel_rfl) rfl #[.int .i64 t196] rfl (by (try simp only [List.map_toArray, List.map_cons, List.map_nil]); first | done | rfl | (simp only [List.length_drop, List.length_take]; rfl)) ?_; (with_reducible refine (cruciblelaw0_Num.calls t196 t218 _ A52.out).mono ?_); rintro e w' ⟨rfl, ⟨nd, rfl⟩⟩; refine ⟨_, rfl, ?_⟩; have hnb86 := NB213_194.out; have hnc86 := NB194_213.out; have hnb87 := NB213_203.out; have hnc87 := NB203_213.out; have hnb88 := NB213_208.out; have hnc88 := NB208_213.out; have hcz89_0 : wc.cell? ⟨gb213, 0, none⟩ = some (.string t209) := (blk_cell BK213.out 0).trans rfl; have hcz89_1 : wc.cell? ⟨gb213, 1, none⟩ = some (.int .i64 t210) := (blk_cell BK213.out 1).trans rfl; have hcz89_2 : wc.cell? ⟨gb213, 2, none⟩ = some (.string t211) := (blk_cell BK213.out 2).trans rfl; have hfz89_0 := blk_frozen BK213.out 0; have hfz89_1 := blk_frozen BK213.out 1; have hfz89_2 := blk_frozen BK213.out 2; have hnb90 := NB194_203.out; have hnc90 := NB203_194.out; have hnb91 := NB194_208.out; have hnc91 := NB208_194.out; have hcz92_0 : wc.cell? ⟨gb194, 0, none⟩ = some (.string a0_0) := (blk_cell BK194.out 0).trans rfl; have hcz92_1 : wc.cell? ⟨gb194, 1, none⟩ = some (.int .i64 a0_1) := (blk_cell BK194.out 1).trans rfl; have hcz92_2 : wc.cell? ⟨gb194, 2, none⟩ = some (.string a0_2) := (blk_cell BK194.out 2).trans rfl; have hfz92_0 := blk_frozen BK194.out 0; have hfz92_1 := blk_frozen BK194.out 1; have hfz92_2 := blk_frozen BK194.out 2) | (go_at_call 16; (with_reducible refine (cruciblelaw0_Num.calls t212 t219 _ A55.out).mono ?_); rintro e w' ⟨rfl, ⟨nd, rfl⟩⟩) | (go_at_call 16; (with_reducible refine (cruciblelaw0_Num.calls t202 t220 _ A57.out).mono ?_); rintro e w' ⟨rfl, ⟨nd, rfl⟩⟩) | (go_at_call 17; (with_reducible refine (cruciblelaw13_awake.calls kj8  t223 _ A85.out (Tb.below HT0.out (by repeat (first | (with_reducible first | exact HB.out | apply below_alloc | apply pw_below_drewN | apply below_drew1 | refine below_set ?_ GE194.out | refine below_set ?_ GE203.out | refine below_set ?_ GE208.out | refine below_set ?_ GE213.out) | exact HB.out)))).mono ?_); rintro e w93 ⟨rfl, hb⟩; have n0_ := Aside0.mk (blk_below (g := gb194) (o := .cells #[.string a0_0, .int .i64 a0_1, .string a0_2] 23 (0, 0)) (by (with_reducible repeat (first | refine blk_drewN ?_ _ | refine blk_drew ?_ | refine blk_alloc ?_ _)); exact BK194.out) hb); have n1_ := Aside0.mk (blk_below (g := gb203) (o := .cells #[.string t199, .int .i64 t200, .string t201] 23 (0, 0)) (by (with_reducible repeat (first | refine blk_drewN ?_ _ | refine blk_drew ?_ | refine blk_alloc ?_ _)); exact BK203.out) hb); have n2_ := Aside0.mk (blk_below (g := gb208) (o := .cells #[.string t204, .int .i64 t205, .string t206] 23 (0, 0)) (by (with_reducible repeat (first | refine blk_drewN ?_ _ | refine blk_drew ?_ | refine blk_alloc ?_ _)); exact BK208.out) hb); have n3_ := Aside0.mk (blk_below (g := gb213) (o := .cells #[.string t209, .int .i64 t210, .string t211] 23 (0, 0)) (by (with_reducible repeat (first | refine blk_drewN ?_ _ | refine blk_drew ?_ | refine blk_alloc ?_ _)); exact BK213.out) hb); have n4_ := Aside0.mk (below_step (by repeat (first | (with_reducible first | exact HB.out | apply below_alloc | apply pw_below_drewN | apply below_drew1 | refine below_set ?_ GE194.out | refine below_set ?_ GE203.out | refine below_set ?_ GE208.out | refine below_set ?_ GE213.out) | exact HB.out)) hb); clear BK194; clear BK203; clear BK208; clear BK213; clear HB; have BK194 := n0_; have BK203 := n1_; have BK208 := n2_; have BK213 := n3_; have HB := n4_; clear n0_ n1_ n2_ n3_ n4_; (try clear hb); (try clear hb2); (try clear hk); (try clear hi)))
                go_ret
                exact ⟨by first | rfl | (simp [errW_none, errW_some] <;> rfl) | (simp [*, errW_none, errW_some] <;> rfl), by repeat (first | (with_reducible first | exact HB.out | apply below_alloc | apply pw_below_drewN | apply below_drew1 | refine below_set ?_ GE194.out | refine below_set ?_ GE203.out | refine below_set ?_ GE208.out | refine below_set ?_ GE213.out) | exact HB.out)⟩
            · rw [if_neg c56] at H
              have c56b0 : (t219 == 0) = false := beq_eq_false_iff_ne.mpr c56
              have c56b1 : (t219 != 0) = true := bne_iff_ne.mpr c56
              obtain rfl := Option.some.inj H
              go_wp2_with (first | ((with_reducible refine gate_callee (f := 16) rfl ?_); refine goesL_ (some 68) rfl rfl Tryd.func16 (by kernel_rfl) rfl #[.int .i64 t196] rfl (by (try simp only [List.map_toArray, List.map_cons, List.map_nil]); first | done | rfl | (simp only [List.length_drop, List.length_take]; rfl)) ?_; (with_reducible refine (cruciblelaw0_Num.calls t196 t218 _ A52.out).mono ?_); rintro e w' ⟨rfl, ⟨nd, rfl⟩⟩; refine ⟨_, rfl, ?_⟩; have hnb94 := NB213_194.out; have hnc94 := NB194_213.out; have hnb95 := NB213_203.out; have hnc95 := NB203_213.out; have hnb96 := NB213_208.out; have hnc96 := NB208_213.out; have hcz97_0 : wc.cell? ⟨gb213, 0, none⟩ = some (.string t209) := (blk_cell BK213.out 0).trans rfl; have hcz97_1 : wc.cell? ⟨gb213, 1, none⟩ = some (.int .i64 t210) := (blk_cell BK213.out 1).trans rfl; have hcz97_2 : wc.cell? ⟨gb213, 2, none⟩ = some (.string t211) := (blk_cell BK213.out 2).trans rfl; have hfz97_0 := blk_frozen BK213.out 0; have hfz97_1 := blk_frozen BK213.out 1; have hfz97_2 := blk_frozen BK213.out 2; have hnb98 := NB194_203.out; have hnc98 := NB203_194.out; have hnb99 := NB194_208.out; have hnc99 := NB208_194.out; have hcz100_0 : wc.cell? ⟨gb194, 0, none⟩ = some (.string a0_0) := (blk_cell BK194.out 0).trans rfl; have hcz100_1 : wc.cell? ⟨gb194, 1, none⟩ = some (.int .i64 a0_1) := (blk_cell BK194.out 1).trans rfl; have hcz100_2 : wc.cell? ⟨gb194, 2, none⟩ = some (.string a0_2) := (blk_cell BK194.out 2).trans rfl; have hfz100_0 := blk_frozen BK194.out 0; have hfz100_1 := blk_frozen BK194.out 1; have hfz100_2 := blk_frozen BK194.out 2) | (go_at_call 16; (with_reducible refine (cruciblelaw0_Num.calls t212 t219 _ A55.out).mono ?_); rintro e w' ⟨rfl, ⟨nd, rfl⟩⟩))
              go_ret
              exact ⟨by first | rfl | (simp [errW_none, errW_some] <;> rfl) | (simp [*, errW_none, errW_some] <;> rfl), by repeat (first | (with_reducible first | exact HB.out | apply below_alloc | apply pw_below_drewN | apply below_drew1 | refine below_set ?_ GE194.out | refine below_set ?_ GE203.out | refine below_set ?_ GE208.out | refine below_set ?_ GE213.out) | exact HB.out)⟩
          · rw [if_neg c54] at H
            have c54b0 : (t209.toList == a0_0.toList && (t210 == a0_1 && (t211.toList == a0_2.toList))) = false := by simpa using c54
            (try (have c54b1 : decide (t209.toList = a0_0.toList && (t210 == a0_1 && (t211.toList == a0_2.toList))) = false := by simpa using c54))
            (try (have c54b2 : (t209.toList == a0_0.toList && (t210 == a0_1 && (t211.toList == a0_2.toList))) = false := by simpa using c54))
            (try (have c54b3 : ¬ (t209.toList = a0_0.toList && (t210 == a0_1 && (t211.toList == a0_2.toList))) := by simpa using c54))
            clear c54
            obtain rfl := Option.some.inj H
            go_wp2_with (first | ((with_reducible refine gate_callee (f := 16) rfl ?_); refine goesL_ (some 68) rfl rfl Tryd.func16 (by kernel_rfl) rfl #[.int .i64 t196] rfl (by (try simp only [List.map_toArray, List.map_cons, List.map_nil]); first | done | rfl | (simp only [List.length_drop, List.length_take]; rfl)) ?_; (with_reducible refine (cruciblelaw0_Num.calls t196 t218 _ A52.out).mono ?_); rintro e w' ⟨rfl, ⟨nd, rfl⟩⟩; refine ⟨_, rfl, ?_⟩; have hnb101 := NB213_194.out; have hnc101 := NB194_213.out; have hnb102 := NB213_203.out; have hnc102 := NB203_213.out; have hnb103 := NB213_208.out; have hnc103 := NB208_213.out; have hcz104_0 : wc.cell? ⟨gb213, 0, none⟩ = some (.string t209) := (blk_cell BK213.out 0).trans rfl; have hcz104_1 : wc.cell? ⟨gb213, 1, none⟩ = some (.int .i64 t210) := (blk_cell BK213.out 1).trans rfl; have hcz104_2 : wc.cell? ⟨gb213, 2, none⟩ = some (.string t211) := (blk_cell BK213.out 2).trans rfl; have hfz104_0 := blk_frozen BK213.out 0; have hfz104_1 := blk_frozen BK213.out 1; have hfz104_2 := blk_frozen BK213.out 2; have hnb105 := NB194_203.out; have hnc105 := NB203_194.out; have hnb106 := NB194_208.out; have hnc106 := NB208_194.out; have hcz107_0 : wc.cell? ⟨gb194, 0, none⟩ = some (.string a0_0) := (blk_cell BK194.out 0).trans rfl; have hcz107_1 : wc.cell? ⟨gb194, 1, none⟩ = some (.int .i64 a0_1) := (blk_cell BK194.out 1).trans rfl; have hcz107_2 : wc.cell? ⟨gb194, 2, none⟩ = some (.string a0_2) := (blk_cell BK194.out 2).trans rfl; have hfz107_0 := blk_frozen BK194.out 0; have hfz107_1 := blk_frozen BK194.out 1; have hfz107_2 := blk_frozen BK194.out 2))
            go_ret
            exact ⟨by first | rfl | (simp [errW_none, errW_some] <;> rfl) | (simp [*, errW_none, errW_some] <;> rfl), by repeat (first | (with_reducible first | exact HB.out | apply below_alloc | apply pw_below_drewN | apply below_drew1 | refine below_set ?_ GE194.out | refine below_set ?_ GE203.out | refine below_set ?_ GE208.out | refine below_set ?_ GE213.out) | exact HB.out)⟩
        · rw [if_neg c53] at H
          have c53b0 : (t218 == 0) = false := beq_eq_false_iff_ne.mpr c53
          have c53b1 : (t218 != 0) = true := bne_iff_ne.mpr c53
          replace H := Option.bind_eq_some_iff.mp H
          obtain ⟨t224, A1080, H⟩ := H
          replace H : (if t224 = 0 then (if t214.toList = a1.toList then ((cruciblelaw0_Num.f t215).bind fun t225 => (if t225 = 0 then ((cruciblelaw13_awake.f kj8).bind fun t226 => (some t226)) else (some false))) else (some false)) else ((cruciblelaw13_awake.f kj8).bind fun t227 => (some t227))) = some r := H
          have A108 := Aside0.mk A1080
          clear A1080
          by_cases c109 : t224 = 0
          · rw [if_pos c109] at H
            have c109b0 : (t224 == 0) = true := beq_iff_eq.mpr c109
            have c109b1 : (t224 != 0) = false := bne_eq_false_iff_eq.mpr c109
            clear c109
            by_cases c110 : t214.toList = a1.toList
            · rw [if_pos c110] at H
              have c110b0 : (t214.toList == a1.toList) = true := beq_iff_eq.mpr c110
              have c110b1 : (t214.toList != a1.toList) = false := bne_eq_false_iff_eq.mpr c110
              clear c110
              replace H := Option.bind_eq_some_iff.mp H
              obtain ⟨t225, A1110, H⟩ := H
              replace H : (if t225 = 0 then ((cruciblelaw13_awake.f kj8).bind fun t226 => (some t226)) else (some false)) = some r := H
              have A111 := Aside0.mk A1110
              clear A1110
              by_cases c112 : t225 = 0
              · rw [if_pos c112] at H
                have c112b0 : (t225 == 0) = true := beq_iff_eq.mpr c112
                have c112b1 : (t225 != 0) = false := bne_eq_false_iff_eq.mpr c112
                clear c112
                replace H := Option.bind_eq_some_iff.mp H
                obtain ⟨t226, A1130, H⟩ := H
                replace H : (some t226) = some r := H
                have A113 := Aside0.mk A1130
                clear A1130
                obtain rfl := Option.some.inj H
                go_wp2_with (first | ((with_reducible refine gate_callee (f := 16) rfl ?_); refine goesL_ (some 68) rfl rfl Tryd.func16 (by kernel_rfl) rfl #[.int .i64 t196] rfl (by (try simp only [List.map_toArray, List.map_cons, List.map_nil]); first | done | rfl | (simp only [List.length_drop, List.length_take]; rfl)) ?_; (with_reducible refine (cruciblelaw0_Num.calls t196 t218 _ A52.out).mono ?_); rintro e w' ⟨rfl, ⟨nd, rfl⟩⟩; refine ⟨_, rfl, ?_⟩) | (go_at_call 16; (with_reducible refine (cruciblelaw0_Num.calls t202 t224 _ A108.out).mono ?_); rintro e w' ⟨rfl, ⟨nd, rfl⟩⟩) | (go_at_call 16; (with_reducible refine (cruciblelaw0_Num.calls t215 t225 _ A111.out).mono ?_); rintro e w' ⟨rfl, ⟨nd, rfl⟩⟩) | (go_at_call 17; (with_reducible refine (cruciblelaw13_awake.calls kj8  t226 _ A113.out (Tb.below HT0.out (by repeat (first | (with_reducible first | exact HB.out | apply below_alloc | apply pw_below_drewN | apply below_drew1 | refine below_set ?_ GE194.out | refine below_set ?_ GE203.out | refine below_set ?_ GE208.out | refine below_set ?_ GE213.out) | exact HB.out)))).mono ?_); rintro e w114 ⟨rfl, hb⟩; have n0_ := Aside0.mk (blk_below (g := gb194) (o := .cells #[.string a0_0, .int .i64 a0_1, .string a0_2] 23 (0, 0)) (by (with_reducible repeat (first | refine blk_drewN ?_ _ | refine blk_drew ?_ | refine blk_alloc ?_ _)); exact BK194.out) hb); have n1_ := Aside0.mk (blk_below (g := gb203) (o := .cells #[.string t199, .int .i64 t200, .string t201] 23 (0, 0)) (by (with_reducible repeat (first | refine blk_drewN ?_ _ | refine blk_drew ?_ | refine blk_alloc ?_ _)); exact BK203.out) hb); have n2_ := Aside0.mk (blk_below (g := gb208) (o := .cells #[.string t204, .int .i64 t205, .string t206] 23 (0, 0)) (by (with_reducible repeat (first | refine blk_drewN ?_ _ | refine blk_drew ?_ | refine blk_alloc ?_ _)); exact BK208.out) hb); have n3_ := Aside0.mk (blk_below (g := gb213) (o := .cells #[.string t209, .int .i64 t210, .string t211] 23 (0, 0)) (by (with_reducible repeat (first | refine blk_drewN ?_ _ | refine blk_drew ?_ | refine blk_alloc ?_ _)); exact BK213.out) hb); have n4_ := Aside0.mk (below_step (by repeat (first | (with_reducible first | exact HB.out | apply below_alloc | apply pw_below_drewN | apply below_drew1 | refine below_set ?_ GE194.out | refine below_set ?_ GE203.out | refine below_set ?_ GE208.out | refine below_set ?_ GE213.out) | exact HB.out)) hb); clear BK194; clear BK203; clear BK208; clear BK213; clear HB; have BK194 := n0_; have BK203 := n1_; have BK208 := n2_; have BK213 := n3_; have HB := n4_; clear n0_ n1_ n2_ n3_ n4_; (try clear hb); (try clear hb2); (try clear hk); (try clear hi)))
                go_ret
                exact ⟨by first | rfl | (simp [errW_none, errW_some] <;> rfl) | (simp [*, errW_none, errW_some] <;> rfl), by repeat (first | (with_reducible first | exact HB.out | apply below_alloc | apply pw_below_drewN | apply below_drew1 | refine below_set ?_ GE194.out | refine below_set ?_ GE203.out | refine below_set ?_ GE208.out | refine below_set ?_ GE213.out) | exact HB.out)⟩
              · rw [if_neg c112] at H
                have c112b0 : (t225 == 0) = false := beq_eq_false_iff_ne.mpr c112
                have c112b1 : (t225 != 0) = true := bne_iff_ne.mpr c112
                obtain rfl := Option.some.inj H
                go_wp2_with (first | ((with_reducible refine gate_callee (f := 16) rfl ?_); refine goesL_ (some 68) rfl rfl Tryd.func16 (by kernel_rfl) rfl #[.int .i64 t196] rfl (by (try simp only [List.map_toArray, List.map_cons, List.map_nil]); first | done | rfl | (simp only [List.length_drop, List.length_take]; rfl)) ?_; (with_reducible refine (cruciblelaw0_Num.calls t196 t218 _ A52.out).mono ?_); rintro e w' ⟨rfl, ⟨nd, rfl⟩⟩; refine ⟨_, rfl, ?_⟩) | (go_at_call 16; (with_reducible refine (cruciblelaw0_Num.calls t202 t224 _ A108.out).mono ?_); rintro e w' ⟨rfl, ⟨nd, rfl⟩⟩) | (go_at_call 16; (with_reducible refine (cruciblelaw0_Num.calls t215 t225 _ A111.out).mono ?_); rintro e w' ⟨rfl, ⟨nd, rfl⟩⟩))
                go_ret
                exact ⟨by first | rfl | (simp [errW_none, errW_some] <;> rfl) | (simp [*, errW_none, errW_some] <;> rfl), by repeat (first | (with_reducible first | exact HB.out | apply below_alloc | apply pw_below_drewN | apply below_drew1 | refine below_set ?_ GE194.out | refine below_set ?_ GE203.out | refine below_set ?_ GE208.out | refine below_set ?_ GE213.out) | exact HB.out)⟩
            · rw [if_neg c110] at H
              have c110b0 : (t214.toList == a1.toList) = false := beq_eq_false_iff_ne.mpr c110
              have c110b1 : (t214.toList != a1.toList) = true := bne_iff_ne.mpr c110
              obtain rfl := Option.some.inj H
              go_wp2_with (first | ((with_reducible refine gate_callee (f := 16) rfl ?_); refine goesL_ (some 68) rfl rfl Tryd.func16 (by kernel_rfl) rfl #[.int .i64 t196] rfl (by (try simp only [List.map_toArray, List.map_cons, List.map_nil]); first | done | rfl | (simp only [List.length_drop, List.length_take]; rfl)) ?_; (with_reducible refine (cruciblelaw0_Num.calls t196 t218 _ A52.out).mono ?_); rintro e w' ⟨rfl, ⟨nd, rfl⟩⟩; refine ⟨_, rfl, ?_⟩) | (go_at_call 16; (with_reducible refine (cruciblelaw0_Num.calls t202 t224 _ A108.out).mono ?_); rintro e w' ⟨rfl, ⟨nd, rfl⟩⟩))
              go_ret
              exact ⟨by first | rfl | (simp [errW_none, errW_some] <;> rfl) | (simp [*, errW_none, errW_some] <;> rfl), by repeat (first | (with_reducible first | exact HB.out | apply below_alloc | apply pw_below_drewN | apply below_drew1 | refine below_set ?_ GE194.out | refine below_set ?_ GE203.out | refine below_set ?_ GE208.out | refine below_set ?_ GE213.out) | exact HB.out)⟩
          · rw [if_neg c109] at H
            have c109b0 : (t224 == 0) = false := beq_eq_false_iff_ne.mpr c109
            have c109b1 : (t224 != 0) = true := bne_iff_ne.mpr c109
            replace H := Option.bind_eq_some_iff.mp H
            obtain ⟨t227, A1150, H⟩ := H
            replace H : (some t227) = some r := H
            have A115 := Aside0.mk A1150
            clear A1150
            obtain rfl := Option.some.inj H
            go_wp2_with (first | ((with_reducible refine gate_callee (f := 16) rfl ?_); refine goesL_ (some 68) rfl rfl Tryd.func16 (by kernel_rfl) rfl #[.int .i64 t196] rfl (by (try simp only [List.map_toArray, List.map_cons, List.map_nil]); first | done | rfl | (simp only [List.length_drop, List.length_take]; rfl)) ?_; (with_reducible refine (cruciblelaw0_Num.calls t196 t218 _ A52.out).mono ?_); rintro e w' ⟨rfl, ⟨nd, rfl⟩⟩; refine ⟨_, rfl, ?_⟩) | (go_at_call 16; (with_reducible refine (cruciblelaw0_Num.calls t202 t224 _ A108.out).mono ?_); rintro e w' ⟨rfl, ⟨nd, rfl⟩⟩) | (go_at_call 17; (with_reducible refine (cruciblelaw13_awake.calls kj8  t227 _ A115.out (Tb.below HT0.out (by repeat (first | (with_reducible first | exact HB.out | apply below_alloc | apply pw_below_drewN | apply below_drew1 | refine below_set ?_ GE194.out | refine below_set ?_ GE203.out | refine below_set ?_ GE208.out | refine below_set ?_ GE213.out) | exact HB.out)))).mono ?_); rintro e w116 ⟨rfl, hb⟩; have n0_ := Aside0.mk (blk_below (g := gb194) (o := .cells #[.string a0_0, .int .i64 a0_1, .string a0_2] 23 (0, 0)) (by (with_reducible repeat (first | refine blk_drewN ?_ _ | refine blk_drew ?_ | refine blk_alloc ?_ _)); exact BK194.out) hb); have n1_ := Aside0.mk (blk_below (g := gb203) (o := .cells #[.string t199, .int .i64 t200, .string t201] 23 (0, 0)) (by (with_reducible repeat (first | refine blk_drewN ?_ _ | refine blk_drew ?_ | refine blk_alloc ?_ _)); exact BK203.out) hb); have n2_ := Aside0.mk (blk_below (g := gb208) (o := .cells #[.string t204, .int .i64 t205, .string t206] 23 (0, 0)) (by (with_reducible repeat (first | refine blk_drewN ?_ _ | refine blk_drew ?_ | refine blk_alloc ?_ _)); exact BK208.out) hb); have n3_ := Aside0.mk (blk_below (g := gb213) (o := .cells #[.string t209, .int .i64 t210, .string t211] 23 (0, 0)) (by (with_reducible repeat (first | refine blk_drewN ?_ _ | refine blk_drew ?_ | refine blk_alloc ?_ _)); exact BK213.out) hb); have n4_ := Aside0.mk (below_step (by repeat (first | (with_reducible first | exact HB.out | apply below_alloc | apply pw_below_drewN | apply below_drew1 | refine below_set ?_ GE194.out | refine below_set ?_ GE203.out | refine below_set ?_ GE208.out | refine below_set ?_ GE213.out) | exact HB.out)) hb); clear BK194; clear BK203; clear BK208; clear BK213; clear HB; have BK194 := n0_; have BK203 := n1_; have BK208 := n2_; have BK213 := n3_; have HB := n4_; clear n0_ n1_ n2_ n3_ n4_; (try clear hb); (try clear hb2); (try clear hk); (try clear hi)))
            go_ret
            exact ⟨by first | rfl | (simp [errW_none, errW_some] <;> rfl) | (simp [*, errW_none, errW_some] <;> rfl), by repeat (first | (with_reducible first | exact HB.out | apply below_alloc | apply pw_below_drewN | apply below_drew1 | refine below_set ?_ GE194.out | refine below_set ?_ GE203.out | refine below_set ?_ GE208.out | refine below_set ?_ GE213.out) | exact HB.out)⟩

end Go.Proofs.YtdaddlplpkmkmaaDoor.P
