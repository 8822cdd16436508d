/- Texts written over: what SpoilTexts computes; premises from some number of rounds on. -/
import Derived.Test.YtncbloieejeifaaDoorPlain
import Derived.Test.YtncbloieejeifaaDoorP7
namespace Go.Proofs.YtncbloieejeifaaDoor.Spec
open Go.RowKit Go.Proofs.YtncbloieejeifaaDoorW.PrintWords Go.Proofs.YtncbloieejeifaaDoor.P
def spoil (x : ByteArray) : ByteArray := (⟨#[126]⟩ : ByteArray) ++ x
theorem ev_Spoil_loop : ∀ (rest pre : List ByteArray), pre.length + rest.length ≤ 4611686018427387904 → (∀ x ∈ rest, x.size ≤ 4611686018427387904) → Ev (fun k => cruciblelaw0_SpoilTexts.l0 k (pre.map spoil ++ rest) (pre.length : Int)) ((pre ++ rest).map spoil)
  | [], pre, h, hs => Ev.step (fun k => by rw [cruciblelaw0_SpoilTexts.l0]) (ev_neg (by simp) (ev_const (by simp)))
  | x :: rest, pre, h, hs => by
    have hx := hs x (by simp)
    have hp : (pre.map spoil).length = pre.length := List.length_map _
    have hr : rdOf ByteArray.empty (pre.map spoil ++ x :: rest) (pre.length : Int) = x := by
      have := rdOf_pre ByteArray.empty (pre.map spoil) x rest
      rwa [hp] at this
    have hw : wrap64 ((pre.length : Int) + 1) = ((pre ++ [x]).length : Int) := wrap_len pre x (by omega)
    have hset : (pre.map spoil ++ x :: rest).set (pre.length : Int).toNat ((⟨#[126]⟩ : ByteArray) ++ x) = (pre ++ [x]).map spoil ++ rest := by
      rw [Int.toNat_natCast, ← hp]
      simp [spoil]
    have ih := ev_Spoil_loop rest (pre ++ [x]) (by rw [List.length_append, List.length_singleton]; rw [List.length_cons] at h; omega) (fun y hy => hs y (by simp [hy]))
    refine Ev.step (fun k => by rw [cruciblelaw0_SpoilTexts.l0]) ?_
    rw [hr, hset, hw]
    rw [List.append_assoc, List.singleton_append] at ih
    exact ev_pos (by rw [List.length_append, hp, List.length_cons]; omega) (ev_pos (by omega) (ev_pos (by omega) ih))
theorem ev_Spoil (l : List ByteArray) (h : l.length ≤ 4611686018427387904) (hs : ∀ x ∈ l, x.size ≤ 4611686018427387904) : Ev (fun k => cruciblelaw0_SpoilTexts.f k l) (l.map spoil) :=
  Ev.congr (fun k => by rw [cruciblelaw0_SpoilTexts.f]; rfl) (ev_Spoil_loop l [] (by simpa using h) hs)
theorem evt_and {p q : Nat → Prop} (hp : ∃ K, ∀ k, K ≤ k → p k) (hq : ∃ K, ∀ k, K ≤ k → q k) : ∃ K, ∀ k, K ≤ k → p k ∧ q k := by
  obtain ⟨K1, h1⟩ := hp
  obtain ⟨K2, h2⟩ := hq
  exact ⟨max K1 K2, fun k hk => ⟨h1 k (by omega), h2 k (by omega)⟩⟩
theorem evt_c {p : Prop} (h : p) : ∃ K : Nat, ∀ k, K ≤ k → p := ⟨0, fun _ _ => h⟩
theorem evt_if {α : Type} {g f : Nat → Option α} {r : α} {p : Nat → Prop} {inst : ∀ k, Decidable (p k)} (hp : ∃ K, ∀ k, K ≤ k → p k) (e : Ev g r) : Ev (fun k => if p k then g k else f k) r := by
  obtain ⟨K, hK⟩ := hp
  obtain ⟨K2, hK2⟩ := e
  exact ⟨max K K2, fun k hk => (if_pos (hK k (by omega))).trans (hK2 k (by omega))⟩
theorem evt_is {α : Type} {g : Nat → Option α} {r : α} (e : Ev g r) : ∃ K, ∀ k, K ≤ k → g k = some r := e
end Go.Proofs.YtncbloieejeifaaDoor.Spec
