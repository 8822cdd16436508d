/- Chapter 16: the law DeplogLoad without the program. -/
import Derived.Test.YtkplcmcmpdhigaaDoorDeplog
import Derived.Test.YtkplcmcmpdhigaaDoorP25
namespace Go.Proofs.YtkplcmcmpdhigaaDoor.Spec
open Go.RowKit Go.Proofs.YtkplcmcmpdhigaaDoorW.PrintWords Go.Proofs.YtkplcmcmpdhigaaDoorW.PrintMore Go.Proofs.YtkplcmcmpdhigaaDoor.P

theorem may_ins {fs : List Fd} (h : ∀ f ∈ fs, mayF f = true) : ∀ x ∈ fs, x.f2.length ≤ 4611686018427387904 := fun x hx => by
  have := (mayD_small (h x hx)).2.2.2.1
  omega
theorem DeplogLoad (s : ByteArray) (_ : s.size ≤ 140737488351232) : ∃ k, cruciblelaw16_DeplogLoad.f k s = some true := by
  obtain ⟨h1, h2, r, h3⟩ := load_is 256 s.data.toList
  obtain ⟨fs, hfs⟩ : ∃ fs, loadD 256 s.data.toList = fs := ⟨_, rfl⟩
  have hL := ev_Load s
  rw [hfs] at h1 h2 h3 hL
  have hm := mayFs_of h2 h1
  have hi := may_ins h1
  have hlen := congrArg List.length h3
  rw [List.length_append, size_data] at hlen
  refine Ev.rounds (Ev.congr (fun k => by rw [cruciblelaw16_DeplogLoad.f]) (ev_bindc (show cruciblelaw16_awake.f = some true from rfl) (ev_pos rfl (ev_bind hL (ev_bind (ev_Text16 fs hi) ?_)))))
  rw [textF, if_pos hm]
  refine ev_bindc rfl (ev_pos rfl (ev_bind (ev_May16 fs hi) ?_))
  rw [hm]
  have hz : (str (fsText fs)).size = (fsText fs).length := str_size _
  refine ev_pos rfl (ev_pos (show ((str (fsText fs)).size : Int) ≤ (s.size : Int) by omega) (ev_pos (by omega) (ev_const ?_)))
  simp only [toList_data, extract_data, Int.toNat_natCast, List.drop_zero, str_data, hz]
  rw [← h3, List.take_left' rfl]
  simp
end Go.Proofs.YtkplcmcmpdhigaaDoor.Spec
