/- Paths, without the program. -/
import Derived.Test.YtncbloieejeifaaDoorClean
import Derived.Test.YtncbloieejeifaaDoorP18
namespace Go.Proofs.YtncbloieejeifaaDoor.Spec
open Go.RowKit Go.Proofs.YtncbloieejeifaaDoorW.PrintWords Go.Proofs.YtncbloieejeifaaDoor.P

/-- is it a path? -/
def isP (l : List UInt8) : Bool := decide (clean l = some l)
theorem isP_of {o : Option (List UInt8)} {l : List UInt8} : ((if (cleanR o).2 = 0 then some ((cleanR o).1.toList == l) else some false) : Option Bool) = some (decide (o = some l)) := by
  cases o with
  | none => rfl
  | some m =>
    simp only [cleanR, if_true, str_toList, Option.some.injEq]
    by_cases h : m = l <;> simp [h]
theorem ev_Is (s : ByteArray) : Ev (fun k => path_Is.f k s) (isP s.data.toList) := by
  refine Ev.congr (fun k => by rw [path_Is.f]) (ev_bind (ev_Clean s) ?_)
  refine ev_const ?_
  rw [toList_data s]
  exact isP_of
theorem isP_names {l : List UInt8} (h : isP l = true) : nameMay l = true ∧ l ≠ [] := by
  have := of_decide_eq_true h
  obtain ⟨r, _, _, _, _, hn, _, _⟩ := clean_some this
  have h1 := nameMay_len hn
  exact ⟨hn, fun e => by rw [e] at h1; simp at h1⟩
theorem nameMay_mem {l : List UInt8} (h : nameMay l = true) {b : UInt8} (hb : b ∈ l) : nameByte b.toNat = true := by
  simp only [nameMay, Bool.and_eq_true] at h
  exact List.all_eq_true.1 h.1.1 b hb
theorem isP_size {l : List UInt8} (h : isP l = true) : l.length ≤ 16 := (nameMay_len (isP_names h).1).2
end Go.Proofs.YtncbloieejeifaaDoor.Spec
