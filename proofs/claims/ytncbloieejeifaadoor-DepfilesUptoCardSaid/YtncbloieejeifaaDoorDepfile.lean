/- Chapter 17 without the program: what a command tells, as a line, and back. -/
import Derived.Test.YtncbloieejeifaaDoorPaths
import Derived.Lib.Strings
import Derived.Test.YtncbloieejeifaaDoorP19
import Derived.Test.YtncbloieejeifaaDoorP22
namespace Go.Proofs.YtncbloieejeifaaDoor.Spec
open Go.RowKit Go.Proofs.YtncbloieejeifaaDoorW.PrintWords Go.Proofs.YtncbloieejeifaaDoor.P

/-- the line -/
def line (out : List UInt8) (ins : List (List UInt8)) : List UInt8 := joinS [32] ((out ++ [58]) :: ins) ++ [10]
def putD (out : ByteArray) (ins : List ByteArray) : ByteArray × Int :=
  if isP out.data.toList = true ∧ allP ins 8 = true then (str (line out.data.toList (datas ins)), 0) else (str [], 1700)
theorem joinS_bulk' (sg : List UInt8) (x : List UInt8) (xs : List (List UInt8)) (h : sg.length = 1) : (joinS sg (x :: xs)).length + 1 = bulk (x :: xs) := by
  obtain ⟨c, rfl⟩ : ∃ c, sg = [c] := by
    match sg, h with
    | [c], _ => exact ⟨c, rfl⟩
  exact joinS_len c (x :: xs) (by simp)
theorem ev_Put (out : ByteArray) (ins : List ByteArray) (hi : ins.length ≤ 4611686018427387904) : Ev (fun k => depfile_Put.f k out ins) (putD out ins) := by
  refine Ev.congr (fun k => by rw [depfile_Put.f]) (ev_bind (ev_Is out) ?_)
  unfold putD
  cases hp : isP out.data.toList with
  | false => exact ev_neg (by simp) (Ev.now _)
  | true =>
    refine ev_pos rfl (ev_bind (ev_All ins 8 hi) ?_)
    cases ha : allP ins 8 with
    | false => exact ev_neg (by simp) (Ev.now _)
    | true =>
      have hb := bulk_paths ha
      have hl := (allP_all ha).2
      have ho := isP_size hp
      rw [size_data] at ho
      have e : datas ([out ++ (⟨#[58]⟩ : ByteArray)] ++ ins) = (out.data.toList ++ [58]) :: datas ins := by simp [datas]
      have hj := joinS_bulk' [32] (out.data.toList ++ [58]) (datas ins) rfl
      rw [bulk_cons, List.length_append, size_data, List.length_singleton] at hj
      have hJ := Join_is ([out ++ (⟨#[58]⟩ : ByteArray)] ++ ins) (⟨#[32]⟩ : ByteArray) (by simp; omega) (by rw [e]; show (joinS [32] _).length ≤ _; omega)
      rw [e] at hJ
      refine ev_pos rfl (ev_pos (by omega) (ev_bindc rfl (ev_pos (by simp; omega) (ev_bindc hJ (ev_pos ?_ (ev_const ?_))))))
      · rw [str_size]; show (joinS [32] _).length + 1 ≤ _; omega
      · rw [if_pos ⟨rfl, rfl⟩]
        show some (str _ ++ str [10], (0 : Int)) = _
        rw [str_append]; rfl

/-- back again -/
def getD (s : List UInt8) : ByteArray × List ByteArray × Int :=
  let ws := split 32 (Lib.trimSuffix s [10])
  depfile_Get.back (str s) (str (Lib.trimSuffix (ws.headD []) [58])) (ws.tail.map str) (putD (str (Lib.trimSuffix (ws.headD []) [58])) (ws.tail.map str))
theorem trim_le (s p : List UInt8) : (Lib.trimSuffix s p).length ≤ s.length := by
  unfold Lib.trimSuffix
  split
  · rw [List.length_take]; omega
  · exact Nat.le_refl _
theorem ev_Get (s : ByteArray) (hs : s.size < 4294967281) : Ev (fun k => depfile_Get.f k s) (getD s.data.toList) := by
  have ht := trim_le s.data.toList [10]
  rw [size_data] at ht
  have hS := Split_is (str (Lib.trimSuffix s.data.toList [10])) 32 (by rw [str_size]; omega)
  rw [str_data] at hS
  refine Ev.congr (fun k => by rw [depfile_Get.f]) ?_
  refine ev_bindc hS ?_
  have hb := bulk_split 32 (Lib.trimSuffix s.data.toList [10])
  unfold getD
  cases hw : split 32 (Lib.trimSuffix s.data.toList [10]) with
  | nil => exact absurd hw (split_ne _ _)
  | cons x r =>
    rw [hw, bulk_cons] at hb
    have hr := bulk_len r
    simp only [List.map_cons, List.headD_cons, List.tail_cons, str_data, List.length_cons, str_size]
    refine ev_pos ⟨by omega, by omega, by omega⟩ (ev_bind (ev_Put _ _ (by rw [List.length_map]; omega)) ?_)
    rw [str_of]
    exact Ev.now _

theorem trim_snoc (s : List UInt8) (c : UInt8) : Lib.trimSuffix (s ++ [c]) [c] = s := by
  unfold Lib.trimSuffix Lib.hasSuffix
  rw [if_pos (by rw [List.isSuffixOf_iff_suffix]; exact List.suffix_append _ _)]
  simp
/-- a line that was put is told back -/
theorem get_line (out : ByteArray) (ins : List ByteArray) (ho : isP out.data.toList = true) (hi : allP ins 8 = true) : getD (line out.data.toList (datas ins)) = (out, ins, 0) := by
  have hn : ∀ p ∈ (out.data.toList ++ [58]) :: datas ins, (32 : UInt8) ∉ p := by
    intro p hp hm
    rcases List.mem_cons.1 hp with rfl | hp
    · rcases List.mem_append.1 hm with hm | hm
      · have := nameMay_mem (isP_names ho).1 hm
        exact absurd this (by decide)
      · exact absurd (List.mem_singleton.1 hm) (by decide)
    · obtain ⟨x, hx, rfl⟩ := List.mem_map.1 hp
      have := nameMay_mem (isP_names ((allP_all hi).1 x hx)).1 hm
      exact absurd this (by decide)
  unfold getD line
  simp only [trim_snoc, split_join 32 _ (List.cons_ne_nil _ _) hn, List.headD_cons, List.tail_cons, str_of, map_str_data]
  have hp : putD out ins = (str (joinS [32] ((out.data.toList ++ [58]) :: datas ins) ++ [10]), 0) := by
    unfold putD line
    rw [if_pos ⟨ho, hi⟩]
  unfold depfile_Get.back
  rw [hp]
  simp only [if_true, str_toList]
end Go.Proofs.YtncbloieejeifaaDoor.Spec
