/- Texts of bytes from 32 to 126, without the program. -/
import Derived.Test.YtdaddlplpkmkmaaDoorIsP
import Derived.Test.YtdaddlplpkmkmaaDoorP4
import Derived.Test.YtdaddlplpkmkmaaDoorP9
namespace Go.Proofs.YtdaddlplpkmkmaaDoor.Spec
open Go.RowKit Go.Proofs.YtdaddlplpkmkmaaDoorW.PrintWords Go.Proofs.YtdaddlplpkmkmaaDoor.P

def plainB (b : UInt8) : Bool := decide (32 ≤ b.toNat) && decide (b.toNat ≤ 126)
theorem plain_cases (b : UInt8) : (plainB b = true ∧ ¬ ((b.toNat : Int) < 32) ∧ ¬ ((b.toNat : Int) > 126)) ∨ (plainB b = false ∧ ((b.toNat : Int) < 32 ∨ (b.toNat : Int) > 126)) := by
  unfold plainB
  by_cases h1 : 32 ≤ b.toNat <;> by_cases h2 : b.toNat ≤ 126
  · left; simp [h1, h2]; omega
  · right; refine ⟨by simp [h2], by omega⟩
  · right; refine ⟨by simp [h1], by omega⟩
  · right; refine ⟨by simp [h1], by omega⟩
theorem ev_PlainA_loop (s : ByteArray) (most : Nat) (hs : s.size ≤ 4611686018427387904) : ∀ rest pre : List UInt8, s.data.toList = pre ++ rest → pre.all plainB = true →
    Ev (fun k => name_Plain.l0 k s (most : Int) (s.size : Int) (pre.length : Int)) (s.data.toList.all plainB && decide (s.size ≤ most)) := by
  intro rest
  induction rest with
  | nil =>
    intro pre h ha
    have hl : s.size = pre.length := by rw [size_le h]; simp
    refine Ev.step (fun k => by rw [name_Plain.l0]) (ev_neg (by omega) (ev_const ?_))
    rw [h, List.append_nil, ha]
    simp
  | cons b rest ih =>
    intro pre h ha
    have hlt := size_pre s pre b rest h
    have hb := bt_pre s pre b rest h
    have hw : wrap64 ((pre.length : Int) + 1) = ((pre ++ [b]).length : Int) := wrap_len pre b (by omega)
    refine Ev.step (fun k => by rw [name_Plain.l0]) ?_
    simp only [hb, hw]
    refine ev_pos (by omega) (ev_pos (by omega) (ev_pos (by omega) ?_))
    rcases plain_cases b with ⟨hp, h1, h2⟩ | ⟨hp, h12⟩
    · exact ev_neg h1 (ev_neg h2 (ih (pre ++ [b]) (by simp [h]) (by simp [ha, hp])))
    · have hf : (s.data.toList.all plainB && decide (s.size ≤ most)) = false := by rw [h]; simp [hp]
      rw [hf]
      exact ev_split (fun _ => Ev.now _) (fun h1 => ev_pos (by omega) (Ev.now _))
theorem ev_PlainA (s : ByteArray) (most : Nat) (hs : s.size ≤ 4611686018427387904) : Ev (fun k => name_Plain.f k s (most : Int)) (s.data.toList.all plainB && decide (s.size ≤ most)) :=
  Ev.congr (fun k => by rw [name_Plain.f]; rfl) (ev_PlainA_loop s most hs s.data.toList [] rfl rfl)
theorem ev_PlainR_loop (s : ByteArray) (least most : Nat) (hs : s.size ≤ 4611686018427387904) : ∀ rest pre : List UInt8, s.data.toList = pre ++ rest → pre.all plainB = true →
    Ev (fun k => crucibleref1_Plain.l0 k s (least : Int) (most : Int) (pre.length : Int)) (s.data.toList.all plainB && decide (least ≤ s.size) && decide (s.size ≤ most)) := by
  intro rest
  induction rest with
  | nil =>
    intro pre h ha
    have hl : s.size = pre.length := by rw [size_le h]; simp
    refine Ev.step (fun k => by rw [crucibleref1_Plain.l0]) (ev_neg (by omega) ?_)
    rw [h, List.append_nil, ha]
    refine ev_split (fun h1 => ev_const ?_) (fun h1 => ev_const ?_)
    · have : least ≤ s.size := by omega
      simp [this]
    · have : ¬ least ≤ s.size := by omega
      simp [this]
  | cons b rest ih =>
    intro pre h ha
    have hlt := size_pre s pre b rest h
    have hb := bt_pre s pre b rest h
    have hw : wrap64 ((pre.length : Int) + 1) = ((pre ++ [b]).length : Int) := wrap_len pre b (by omega)
    refine Ev.step (fun k => by rw [crucibleref1_Plain.l0]) ?_
    simp only [hb, hw]
    refine ev_pos (by omega) (ev_pos (by omega) ?_)
    rcases plain_cases b with ⟨hp, h1, h2⟩ | ⟨hp, h12⟩
    · exact ev_neg h1 (ev_neg h2 (ih (pre ++ [b]) (by simp [h]) (by simp [ha, hp])))
    · have hf : (s.data.toList.all plainB && decide (least ≤ s.size) && decide (s.size ≤ most)) = false := by rw [h]; simp [hp]
      rw [hf]
      exact ev_split (fun _ => Ev.now _) (fun h1 => ev_pos (by omega) (Ev.now _))
theorem ev_PlainR (s : ByteArray) (least most : Nat) (hs : s.size ≤ 4611686018427387904) : Ev (fun k => crucibleref1_Plain.f k s (least : Int) (most : Int)) (s.data.toList.all plainB && decide (least ≤ s.size) && decide (s.size ≤ most)) :=
  Ev.congr (fun k => by rw [crucibleref1_Plain.f]; rfl) (ev_PlainR_loop s least most hs s.data.toList [] rfl rfl)
end Go.Proofs.YtdaddlplpkmkmaaDoor.Spec
