-- Made by a program of this work's own (wip/myprint.py) over the kit's print; leaves by hand.
import Derived.Test.YtaokgnhdagcepaaDoorP0
import Derived.Test.YtaokgnhdagcepaaDoorP23
import Derived.Test.YtaokgnhdagcepaaDoorMg1
namespace Go.Proofs.YtaokgnhdagcepaaDoor.P
open Go.RowKit Go.Proofs.YtaokgnhdagcepaaDoorW.PrintWords Go.Proofs.YtaokgnhdagcepaaDoorW.PrintLast Go.Proofs.YtaokgnhdagcepaaDoorW.PrintMore
attribute [local go_sem] max2_int min2_int max_two min_two max_three min_three max_four min_four   -- for this text's walks alone
set_option linter.unusedVariables false
set_option linter.unusedSimpArgs false

-- HAND SpoilFounds.lean
-- IMPORT Derived.Test.YtaokgnhdagcepaaDoorPlain
/-! ### cruciblelaw0_SpoilFounds, by hand -/
def spoilAll (k : Nat) : List (S32) → Bool
  | [] => true
  | x :: r => (cruciblelaw0_SpoilTexts.f k x.f2).isSome && spoilAll k r
def cruciblelaw0_SpoilFounds.f (k : Nat) (l0 : List (S32)) : Option Bool := if spoilAll k l0 = true ∧ l0.length ≤ 1000000 then some true else none
theorem spoilAll_mono (k : Nat) : ∀ l : List (S32), spoilAll k l = true → spoilAll (k + 1) l = true
  | [], _ => rfl
  | x :: r, h => by
    rw [spoilAll, Bool.and_eq_true] at h ⊢
    obtain ⟨y, hy⟩ := Option.isSome_iff_exists.1 h.1
    exact ⟨Option.isSome_iff_exists.2 ⟨y, cruciblelaw0_SpoilTexts.mono _ k y hy⟩, spoilAll_mono k r h.2⟩
theorem cruciblelaw0_SpoilFounds.mono : ∀ a0 k, LeO (cruciblelaw0_SpoilFounds.f k a0) (cruciblelaw0_SpoilFounds.f (k + 1) a0) := by
  intro l k r h
  unfold cruciblelaw0_SpoilFounds.f at h ⊢
  split at h
  · rename_i hc
    rw [if_pos ⟨spoilAll_mono k l hc.1, hc.2⟩]; exact h
  · cases h
theorem sf_take3 {α : Type} (a b c b' : α) : ([a, b, c] : List α).take 1 ++ [b'] ++ ([a, b, c] : List α).drop (1 + 1) = [a, b', c] := rfl
theorem sf_cells (w : World) (g i : Nat) (v : Value) : w.setCells g i [v] = w.setCell ⟨g, i, none⟩ v := by
  simp [World.setCells]
set_option maxHeartbeats 4000000 in
set_option maxRecDepth 100000 in
theorem cruciblelaw0_SpoilFounds.calls (k : Nat) (P0_ : Nat → Prop) (u_ : Value) (l0 : List (S32)) (r : Bool) (w0 w : World) (hB : Below w0.heap.size w0 w) (ho0 : Kd.S k32 32 w w0.heap.size P0_ u_ l0) (h : cruciblelaw0_SpoilFounds.f k l0 = some r) :
    Calls Tryd.prog 18 #[u_] w fun e w' => e = .returned (.tuple #[]) ∧ Below w0.heap.size w0 w' ∧ Kept w w' (fun k_ => P0_ k_) := by
  unfold cruciblelaw0_SpoilFounds.f at h
  split at h
  case isFalse => cases h
  rename_i hc
  obtain ⟨hall, hlen⟩ := hc
  clear h
  obtain ⟨A, c, rfl⟩ := Kd.S_slice ho0
  have HALL := Aside0.mk hall
  have HB := Aside0.mk hB
  have HS := Aside0.mk ho0
  clear hall hB ho0
  obtain ⟨n, hn⟩ : ∃ n, l0.length = n := ⟨_, rfl⟩
  rw [hn] at HS hlen ⊢
  have HN := Aside0.mk hn
  clear hn
  go_enter Tryd.func18, Tryd.ntmps18
  go_wp2
  go_loopg [2] n (fun gg s2 wr => ∃ q : Nat, q ≤ n ∧ n - q ≤ gg ∧ s2 = .int .i64 q ∧ Aside0 (∃ done rest : List (S32), done.length = q ∧ done.length + rest.length = n ∧ spoilAll k rest = true ∧ Kd.S k32 32 wr w0.heap.size (fun k_ => P0_ k_ ∨ w.heap.size ≤ k_) (.slice A n c) (done ++ rest)) ∧ Aside0 (Below w0.heap.size w0 wr) ∧ Aside0 (w.heap.size ≤ wr.heap.size) ∧ Aside0 (Kept w wr (fun k_ => P0_ k_)))
  case atStart => exact ⟨0, Nat.zero_le _, by omega, rfl, ⟨[], l0, rfl, by have := HN.out; simpa using this, HALL.out, Kd.S_mono HS.out (fun _ hk => .inl hk)⟩, ⟨HB.out⟩, ⟨Nat.le_refl _⟩, ⟨Kept.refl w _⟩⟩
  case round =>
    clear HS HB HALL
    obtain ⟨q, hq, hgk, rfl, L, B, Z, KP⟩ := hrel
    by_cases hlt : q < n
    · have hltz : (q : Int) < (n : Int) := by omega
      obtain ⟨done, rest, hd, hdr, hsp, hS⟩ := L.out
      obtain ⟨x, rest, rfl⟩ : ∃ x r', rest = x :: r' := by
        cases rest with
        | nil => rw [List.length_nil] at hdr; omega
        | cons x r' => exact ⟨x, r', rfl⟩
      rw [spoilAll, Bool.and_eq_true] at hsp
      obtain ⟨y, hy⟩ := Option.isSome_iff_exists.1 hsp.1
      obtain ⟨g, cap, hv, hgb, hglt, cells0, hcl0⟩ := Kd.S_form hS (by rw [List.length_append, List.length_cons]; omega)
      have hA : A = some ⟨g, 0, none⟩ := by injection hv
      subst hA
      clear hv
      obtain ⟨oki, cc, hcl, hM, hcell, hoki, hH⟩ := Kd.S_lend hS z32 (q : Int) (by omega) hltz
      have hx : (done ++ x :: rest).getD ((q : Int).toNat) z32 = x := by rw [Int.toNat_natCast, ← hd]; simp [List.getD_eq_getElem?_getD]
      rw [hx] at hM
      obtain ⟨v2, rfl, hR⟩ := k32_openM hM
      have y1 := hcell 1 _ rfl
      have y2 := hcell 2 _ rfl
      rw [Int.toNat_natCast] at y1 y2
      have y1 : wr.cell? ⟨g, q * 3 + 1, none⟩ = some (.int .i64 x.f1) := y1
      have y2 : wr.cell? ⟨g, q * 3 + 2, none⟩ = some v2 := y2
      have hokg : P0_ g ∨ w.heap.size ≤ g := (Kd.S_R hS).1 g (by simp [Value.ownBlock])
      have hspr := hsp.2
      have c32 := cruciblelaw0_SpoilTexts.calls k oki v2 x.f2 y w0 wr B.out hR hy
      have HH := Aside0.mk hH
      have HO := Aside0.mk hoki
      have HC := Aside0.mk hcl0
      have HG := Aside0.mk hgb
      have HL := Aside0.mk hglt
      have HD := Aside0.mk hd
      have HDR := Aside0.mk hdr
      have HSR := Aside0.mk hspr
      have HOK := Aside0.mk hokg
      have HY1 := Aside0.mk y1
      clear hH hoki hcl0 hgb hglt hd hdr hsp hspr hokg hS hM hcell hcl hx hy hR
      go_wp2_with fail
      refine c32.mono ?_
      rintro e w3 ⟨rfl, hR3, hB3, hK3⟩
      clear c32 y1 y2
      have hb3 : w3.heap[g]? = wr.heap[g]? := hK3.2 g HL.out (fun hk => (HO.out g hk).2 rfl)
      have z1 : w3.cell? ⟨g, q * 3 + 1, none⟩ = some (.int .i64 x.f1) := (World.cell?_of_block (w := wr) hb3).trans HY1.out
      have z2 : w3.frozen? ⟨g, q * 3 + 1, none⟩ = false := blk_frozen (hb3.trans HC.out) _
      have hH3 := Kd.H_mono (Kd.H_step (Kd.H_widen HH.out) (w1 := w3) (fun k_ _ hno hlt_ => hK3.2 k_ hlt_ (fun hk => hno (.inl hk)))) (ok' := fun k_ => (P0_ k_ ∨ w.heap.size ≤ k_) ∧ ¬ False) (fun k_ hk => ⟨hk, id⟩)
      have hM3 := fun T : Int => k32_mkM w3 w0.heap.size _ ⟨x.f0, T, y⟩ hR3
      have HH3 := Aside0.mk hH3
      have HM3 := Aside0.mk hM3
      have HB3 := Aside0.mk hB3
      have HK3 := Aside0.mk hK3
      clear hH3 hM3 hB3 hK3 hR3 hb3
      go_wp2
      go_roundg (n - (q + 1))
      case measure => omega
      case rel =>
        obtain ⟨T, hT⟩ : ∃ T : Int, Go.bits .xor .i64 x.f1 90 = T := ⟨_, rfl⟩
        have hseg := (Kd.S_seg (okg := fun _ => False) (seg := [.int .i64 T]) (j := 1) HH3.out (by omega) hltz (show 1 + 1 ≤ 3 by decide) (HM3.out T) (fun k_ hk => .inl (hk.elim .inl (fun h2 => .inr ⟨.inr (Nat.le_trans Z.out h2), h2⟩))) (fun k_ hk => hk.elim)).1
        rw [sf_cells, Int.toNat_natCast] at hseg
        have hset : (done ++ x :: rest).set q ⟨x.f0, T, y⟩ = (done ++ [⟨x.f0, T, y⟩]) ++ rest := by rw [← HD.out]; simp
        rw [hset] at hseg
        refine ⟨q + 1, by omega, by omega, by simp, ⟨done ++ [⟨x.f0, T, y⟩], rest, by rw [List.length_append, HD.out]; rfl, ?_, HSR.out, by simp only [hT]; exact hseg⟩, ⟨Below.setCell HB3.out HG.out _⟩, ⟨?_⟩, ⟨?_⟩⟩
        · have := HDR.out
          rw [List.length_append, List.length_singleton]
          rw [List.length_cons] at this
          omega
        · have h1 := HK3.out.1
          have h2 := Z.out
          simp
          omega
        · refine ⟨?_, fun i hi hn_ => ?_⟩
          · have h1 := HK3.out.1
            have h2 := Z.out
            simp
            omega
          · have hig : i ≠ g := fun he => by
              subst he
              rcases HOK.out with h | h
              · exact hn_ h
              · omega
            rw [Below.heap_setCell _ _ _ _ hig]
            have hio : ¬ oki i := fun ho => by
              rcases (HO.out i ho).1 with h | h
              · exact hn_ h
              · omega
            exact (HK3.out.2 i (Nat.lt_of_lt_of_le hi Z.out) hio).trans (KP.out.2 i hi hn_)
    · have heq : q = n := by omega
      subst heq
      have hltz : ¬ (q : Int) < (q : Int) := by omega
      go_wp2
      first | go_end0 | ((try simp only [Exit.inBlock, Exit.then]); refine bodyPost_ret (results_none rfl _ _ _) rfl ?_)
      exact ⟨rfl, B.out, KP.out⟩

end Go.Proofs.YtaokgnhdagcepaaDoor.P
