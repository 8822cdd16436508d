/- Chapter 14: the law LogLoad without the program. -/
import Derived.Test.YtdaddlplpkmkmaaDoorMg2
import Derived.Test.YtdaddlplpkmkmaaDoorP25
namespace Go.Proofs.YtdaddlplpkmkmaaDoor.Spec
open Go.RowKit Go.Proofs.YtdaddlplpkmkmaaDoorW.PrintWords Go.Proofs.YtdaddlplpkmkmaaDoorW.PrintMore Go.Proofs.YtdaddlplpkmkmaaDoor.P

theorem LogLoad (s : ByteArray) (hb : s.size + 1 ≤ 1048576) (_ : s.size ≤ 140737488351232) : ∃ k, cruciblelaw14_LogLoad.f k s = some true := by
  obtain ⟨h1, h2, r, h3⟩ := load_is 256 s.data.toList
  obtain ⟨fs, hfs⟩ : ∃ fs, loadD 256 s.data.toList = fs := ⟨_, rfl⟩
  have hL := ev_Load s (by omega)
  rw [hfs] at h1 h2 h3 hL
  have hm := mayFs_of h2 h1
  have hi : ∀ x ∈ fs, x.f2.size ≤ 4611686018427387904 := fun x hx => by have := may_small (h1 x hx); omega
  have hlen := congrArg List.length h3
  rw [List.length_append, size_data] at hlen
  refine Ev.rounds (Ev.congr (fun k => by rw [cruciblelaw14_LogLoad.f]) (ev_bindc (show cruciblelaw14_awake.f = some true from rfl) (ev_pos rfl (ev_bind hL (ev_bind (ev_Text14 fs hi) ?_)))))
  rw [textF, if_pos hm]
  refine ev_bindc rfl (ev_pos rfl (ev_bind (ev_May14 fs hi) ?_))
  rw [hm]
  have hz : (str (fsText fs)).size = (fsText fs).length := str_size _
  refine ev_pos rfl (ev_pos (show ((str (fsText fs)).size : Int) ≤ (s.size : Int) by omega) (ev_pos (by omega) (ev_const ?_)))
  simp only [toList_data, extract_data, Int.toNat_natCast, List.drop_zero, str_data, hz]
  rw [← h3, List.take_left' rfl]
  simp
end Go.Proofs.YtdaddlplpkmkmaaDoor.Spec
