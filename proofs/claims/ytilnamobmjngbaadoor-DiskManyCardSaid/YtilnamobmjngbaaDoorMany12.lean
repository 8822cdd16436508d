/- Chapter 12 in plain lists: sixty-four files, and the law DiskMany. -/
import Derived.Test.YtilnamobmjngbaaDoorLook12
import Derived.Test.YtilnamobmjngbaaDoorP25
namespace Go.Proofs.YtilnamobmjngbaaDoor.Spec
open Go.RowKit Go.Proofs.YtilnamobmjngbaaDoorW.PrintWords Go.Proofs.YtilnamobmjngbaaDoor.P

def nmL (i : Nat) : List UInt8 := [102, UInt8.ofNat (97 + i % 8), UInt8.ofNat (97 + i / 8)]
theorem nmL_may : ∀ i : Fin 64, isP (nmL i) = true := by decide +kernel
theorem nmL_inj : ∀ i j : Fin 64, nmL i = nmL j → i = j := by decide +kernel
theorem u8_of (x : Int) (h0 : 0 ≤ x) (h1 : x ≤ 100) : wrap64 (97 + x) % 256 = 97 + x := by
  rw [wrap_id (by omega) (by omega)]
  omega
theorem bytes_app (a b : ByteArray) : (a ++ b).data.toList = a.data.toList ++ b.data.toList := by simp
theorem nm_is (i : Nat) (h : i < 64) : (dmn_nm (i : Int)).data.toList = nmL i := by
  have h1 : Go.bits .and .i64 (i : Int) 7 = (i : Int) % 8 := bits_low 3 (by omega) _
  have h2 : wrap64 (97 + (i : Int) % 8) % 256 = 97 + (i : Int) % 8 := u8_of _ (by omega) (by omega)
  unfold dmn_nm
  rw [bytes_app, bytes_app, h1, h2, strOfNums_data, strOfNums_data]
  unfold nmL
  rw [List.map_cons, List.map_cons, List.map_nil, show (97 + (i : Int) % 8).toNat = 97 + i % 8 by omega, show (97 + (i : Int) / 8).toNat = 97 + i / 8 by omega]
  rfl
theorem nm_ne (i j : Nat) (hi : i < 64) (hj : j < 64) (h : i ≠ j) : (dmn_nm (i : Int)).toList ≠ (dmn_nm (j : Int)).toList := fun e => by
  rw [toList_data, toList_data, nm_is i hi, nm_is j hj] at e
  have := nmL_inj ⟨i, hi⟩ ⟨j, hj⟩ e
  exact h (by simpa using this)
theorem insF_len_none {f : P.S72} {l : List (P.S72)} (hp : l.Pairwise fun a b => a.f0.toList < b.f0.toList) (h : lookF f.f0 l = none) : (insF f l).length = l.length + 1 := by
  have hr : riseF l := fun a b hab hb => by
    rw [rdF_lt l a (by omega), rdF_lt l b hb]
    exact List.pairwise_iff_getElem.1 hp a b (by omega) hb hab
  obtain ⟨g1, g2, g3⟩ := bs_places hr f.f0
  rw [insF_ins f l (bsAt l f.f0) g1 (lookF_none.1 h) g2 g3]
  simp
  omega
theorem insF_len_some {f x : P.S72} {l : List (P.S72)} (hp : l.Pairwise fun a b => a.f0.toList < b.f0.toList) (h : lookF f.f0 l = some x) : (insF f l).length = l.length := by
  obtain ⟨i, hi, h1, h2⟩ := lookF_some h
  rw [insF_set f l hp i hi (by rw [h1]; exact h2), List.length_set]
theorem delF_len_some {s : ByteArray} {x : P.S72} {l : List (P.S72)} (hp : l.Pairwise fun a b => a.f0.toList < b.f0.toList) (h : lookF s l = some x) : (delF s l).length + 1 = l.length := by
  obtain ⟨i, hi, h1, h2⟩ := lookF_some h
  rw [← eraseIdx_filter s l hp i hi (by rw [h1]; exact h2), List.length_eraseIdx_of_lt hi]
  omega
/-- a put that is granted -/
theorem putD_ok {clk : Int} {l : List (P.S72)} (hm : mayD clk l = true) {s : ByteArray} {x : Int} (hp : isP s.data.toList = true) (hx : 0 ≤ x ∧ x ≤ 2147483647) (h1 : clk < 1048576) (h2 : (insF ⟨s, x, clk + 1⟩ l).length ≤ 64) :
    putD clk l s x = (clk + 1, insF ⟨s, x, clk + 1⟩ l, 0) ∧ mayD (clk + 1) (insF ⟨s, x, clk + 1⟩ l) = true := by
  refine ⟨?_, ok_mayD (ok_put (mayD_ok hm) hp hx h1 h2)⟩
  unfold putD
  rw [hm, hp, decide_eq_true hx]
  simp only [Bool.and_self, if_true]
  rw [if_neg (by omega)]
structure Many (n : Nat) (l : List (P.S72)) : Prop where
  may : mayD (n : Int) l = true
  len : l.length = n
  has : ∀ j, j < n → ∃ x, lookF (dmn_nm (j : Int)) l = some x
  no : ∀ s : ByteArray, (∀ j, j < n → s.toList ≠ (dmn_nm (j : Int)).toList) → lookF s l = none
theorem many_step {n : Nat} {l : List (P.S72)} (h : Many n l) (hn : n < 64) :
    putD (n : Int) l (dmn_nm (n : Int)) (n : Int) = (((n + 1 : Nat) : Int), insF ⟨dmn_nm (n : Int), n, ((n + 1 : Nat) : Int)⟩ l, 0) ∧ Many (n + 1) (insF ⟨dmn_nm (n : Int), n, ((n + 1 : Nat) : Int)⟩ l) := by
  have ho := mayD_ok h.may
  have hno := h.no (dmn_nm (n : Int)) (fun j hj => nm_ne n j hn (by omega) (by omega))
  have hlen : (insF ⟨dmn_nm (n : Int), n, (n : Int) + 1⟩ l).length = l.length + 1 := insF_len_none ho.rise hno
  have hl := h.len
  obtain ⟨g1, g2⟩ := putD_ok h.may (s := dmn_nm (n : Int)) (x := n) (by rw [nm_is n hn]; exact nmL_may ⟨n, hn⟩) (by omega) (by omega) (by omega)
  have e1 : ((n + 1 : Nat) : Int) = (n : Int) + 1 := by omega
  rw [e1]
  refine ⟨g1, ⟨by rw [e1]; exact g2, by rw [hlen, hl], fun j hj => ?_, fun s hs => ?_⟩⟩
  · rw [lookF_ins _ _ _ ho.rise]
    by_cases e : j = n
    · subst e
      exact ⟨_, if_pos rfl⟩
    · rw [if_neg (nm_ne n j hn (by omega) (by omega))]
      exact h.has j (by omega)
  · rw [lookF_ins _ _ _ ho.rise, if_neg (fun e => hs n (by omega) e.symm)]
    exact h.no s (fun j hj => hs j (by omega))
theorem ev_many : ∀ m n (l : List (P.S72)), n + m = 64 → Many n l → ∃ d, Many 64 d ∧ Ev (fun k => dmn_go k m (n : Int) l) (64, d)
  | 0, n, l, h, hM => by
    obtain rfl : n = 64 := by omega
    exact ⟨l, hM, Ev.congr (fun k => by rw [dmn_go]; rfl) (Ev.now _)⟩
  | m + 1, n, l, h, hM => by
    obtain ⟨g1, g2⟩ := many_step hM (by omega)
    obtain ⟨d, hd, he⟩ := ev_many m (n + 1) _ (by omega) g2
    refine ⟨d, hd, ?_⟩
    have e1 := ev_Put12 (n : Int) l (dmn_nm (n : Int)) (n : Int) (by rw [hM.len]; omega) (by omega)
    rw [g1] at e1
    refine Ev.congr (fun k => by rw [dmn_go, show 64 - (m + 1) = n by omega]) (ev_bind e1 (ev_pos rfl he))
theorem diskMany_true (a0 a1 : Int) {p q : Prop} (_ : p) (_ : q) : ∃ k, cruciblelaw12_DiskMany.f k a0 a1 = some true := by
  have h0 : Many 0 [] := ⟨ok_mayD ⟨by omega, by omega, by simp, by simp, List.Pairwise.nil, List.Pairwise.nil⟩, rfl, fun j hj => by omega, fun s _ => rfl⟩
  obtain ⟨d, hd, he⟩ := ev_many 64 0 [] rfl h0
  have ho := mayD_ok hd.may
  have hl := hd.len
  have hb1 : Go.bits .and .i64 a1 255 = a1 % 256 := bits_low 8 (by omega) a1
  have hb0 : Go.bits .and .i64 a0 63 = a0 % 64 := bits_low 6 (by omega) a0
  obtain ⟨kk, hkk, hk64⟩ : ∃ kk : Nat, a0 % 64 = (kk : Int) ∧ kk < 64 := ⟨(a0 % 64).toNat, by omega, by omega⟩
  obtain ⟨cc, hcc⟩ : ∃ cc, cc = a1 % 256 := ⟨_, rfl⟩
  have hc2 : 0 ≤ cc ∧ cc ≤ 2147483647 := by omega
  have hgt : (⟨#[103]⟩ : ByteArray).data.toList = [103] := rfl
  have hgl : ∀ j : Nat, j < 64 → (⟨#[103]⟩ : ByteArray).toList ≠ (dmn_nm (j : Int)).toList := fun j hj e => by
    rw [toList_data, toList_data, nm_is j hj, hgt] at e
    simp [nmL] at e
  have hg := hd.no ⟨#[103]⟩ hgl
  obtain ⟨x0, hx0⟩ := hd.has kk hk64
  have hnp : isP (dmn_nm (kk : Int)).data.toList = true := by rw [nm_is kk hk64]; exact nmL_may ⟨kk, hk64⟩
  have hgp : isP (⟨#[103]⟩ : ByteArray).data.toList = true := by decide +kernel
  have hm : mayD 64 d = true := hd.may
  -- one more
  have e1 := ev_Put12 64 d ⟨#[103]⟩ 1 (by omega) (by omega)
  have k1 : putD 64 d ⟨#[103]⟩ 1 = (0, [], 1201) := by
    unfold putD
    rw [hm, hgp]
    have hlen : (insF ⟨⟨#[103]⟩, 1, 64 + 1⟩ d).length = d.length + 1 := insF_len_none ho.rise hg
    rw [if_pos (by decide), if_pos (.inr (by omega))]
  -- one that is there
  have e2 := ev_Put12 64 d (dmn_nm (kk : Int)) cc (by omega) (by omega)
  have hlen2 : (insF ⟨dmn_nm (kk : Int), cc, 64 + 1⟩ d).length = d.length := insF_len_some ho.rise hx0
  obtain ⟨k2, m2⟩ := putD_ok hm hnp hc2 (by omega) (by rw [hlen2]; omega)
  have e3 := ev_Find12 (64 + 1) (insF ⟨dmn_nm (kk : Int), cc, 64 + 1⟩ d) (dmn_nm (kk : Int)) (by omega) (by omega)
  have k3 : findD (64 + 1) (insF ⟨dmn_nm (kk : Int), cc, 64 + 1⟩ d) (dmn_nm (kk : Int)) = (dmn_nm (kk : Int), cc, 65, true) := by
    unfold findD
    rw [if_pos m2, lookF_ins _ _ _ ho.rise, if_pos rfl]
    rfl
  -- one taken away
  have e4 := ev_Remove12 64 d (dmn_nm (kk : Int)) (by omega) (by omega)
  have k4 : removeD 64 d (dmn_nm (kk : Int)) = (64, delF (dmn_nm (kk : Int)) d, 0) := by
    unfold removeD
    rw [hm, hnp, hx0]
    rfl
  have hlen4 := delF_len_some ho.rise hx0
  have m4 : mayD 64 (delF (dmn_nm (kk : Int)) d) = true := ok_mayD (ok_del ho (dmn_nm (kk : Int)))
  have hg4 : lookF ⟨#[103]⟩ (delF (dmn_nm (kk : Int)) d) = none := by
    rw [lookF_del]
    split
    · rfl
    · exact hg
  have e5 := ev_Put12 64 (delF (dmn_nm (kk : Int)) d) ⟨#[103]⟩ 1 (by omega) (by omega)
  have hlen5 : (insF ⟨⟨#[103]⟩, 1, 64 + 1⟩ (delF (dmn_nm (kk : Int)) d)).length = (delF (dmn_nm (kk : Int)) d).length + 1 := insF_len_none (mayD_ok m4).rise hg4
  obtain ⟨k5, _⟩ := putD_ok m4 hgp (x := 1) (by omega) (by omega) (by omega)
  rw [k1] at e1
  rw [k2] at e2
  rw [k3] at e3
  rw [k4] at e4
  rw [k5] at e5
  refine Ev.rounds ?_
  unfold cruciblelaw12_DiskMany.f
  rw [hb0, hb1, hkk, ← hcc]
  refine ev_bind he ?_
  refine ev_bind e1 ?_
  refine ev_bind e2 ?_
  refine ev_bind e3 ?_
  refine ev_bind e4 ?_
  refine ev_bind e5 ?_
  exact evt_if (evt_c ⟨rfl, rfl, rfl, by rw [hlen2, hl], rfl, by show (delF (dmn_nm (kk : Int)) d).length = 63; omega, rfl, rfl⟩) (Ev.now _)
end Go.Proofs.YtilnamobmjngbaaDoor.Spec
