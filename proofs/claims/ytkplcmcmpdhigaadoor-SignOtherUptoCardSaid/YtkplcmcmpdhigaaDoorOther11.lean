/- Chapter 11: what is not in a sign. Without the program. -/
import Derived.Test.YtkplcmcmpdhigaaDoorAw11
import Derived.Test.YtkplcmcmpdhigaaDoorP15
import Derived.Test.YtkplcmcmpdhigaaDoorP1
namespace Go.Proofs.YtkplcmcmpdhigaaDoor.Spec
open Go.RowKit Go.Proofs.YtkplcmcmpdhigaaDoorW.PrintWords Go.Proofs.YtkplcmcmpdhigaaDoor.P

theorem copy_edgeO (a b c d : List ByteArray) (cmd : ByteArray) (dep : Bool) (pool : ByteArray) (h0 : a.length < 8796093022208) (h1 : b.length < 8796093022208) (h2 : c.length < 8796093022208) (h3 : d.length < 8796093022208) :
    cruciblelaw0_CopyEdge.f a b c d cmd dep pool = some (a, b, c, d, cmd, dep, pool) := by
  simp [cruciblelaw0_CopyEdge.f, h0, h1, h2, h3]
/-! ### What is not in a sign -/
def three : List (List UInt8) := [[113], [114, 47, 115], [116, 46, 111]]
theorem three_paths (l : List UInt8) (h : l ∈ three) : isP l = true := by
  have : ∀ j : Fin 3, isP (three.getD j.val []) = true := by decide +kernel
  obtain ⟨j, hj, e⟩ := List.getElem_of_mem h
  have := this ⟨j, hj⟩
  rwa [show three.getD j [] = l by rw [List.getD_eq_getElem?_getD, List.getElem?_eq_getElem hj, e]; rfl] at this
theorem ev_Other2 (o i m r r' : List ByteArray) (cmd : ByteArray) (dep : Bool) (pool pool' x : ByteArray) (e : Int) (hx : (x, e) = signD o i m r cmd dep pool) (ho : o.length ≤ 2000000) (hi : i.length ≤ 2000000) (hm : m.length ≤ 2000000) (hr : r'.length ≤ 8) (hc : cmd.size ≤ 2000000) (h3 : ∀ x ∈ r', x.data.toList ∈ three)
    (hp : pool'.data.toList = [] ∨ nameMay pool'.data.toList = true) :
    Ev (fun k => cruciblelaw11_SignOther.j2 k x e o i m r' cmd dep pool') true := by
  have hE := ev_Of o i m r' cmd dep pool' (by omega) (by omega) (by omega) (by omega) (by omega)
  refine Ev.step (fun k => by rw [cruciblelaw11_SignOther.j2]) (ev_bind hE (ev_bindc (show cruciblelaw0_Num.f e = some e from rfl) ?_))
  cases he : edgeOk o i m r cmd pool with
  | false =>
    rw [sign_bad he] at hx
    injection hx with x1 e1
    subst x1 e1
    refine ev_neg (show ¬ ((1100 : Int) = 0) by decide) (ev_const ?_)
    rw [str_toList]; rfl
  | true =>
    have E := edgeOk_is he
    have hr' : allP r' 8 = true := by
      simp only [allP, Bool.and_eq_true, decide_eq_true_eq, List.all_eq_true]
      exact ⟨fun x hx => three_paths _ (h3 x hx), hr⟩
    have he' : edgeOk o i m r' cmd pool' = true := by
      simp only [edgeOk, E.po, E.pi, E.pm, hr', E.one, E.pc, decide_true, Bool.true_and, Bool.or_eq_true, List.isEmpty_iff]
      exact hp
    have hs : signD o i m r cmd dep pool = (str (signL o i m cmd dep), 0) := if_pos he
    have hs' : signD o i m r' cmd dep pool' = (str (signL o i m cmd dep), 0) := if_pos he'
    rw [hs] at hx
    injection hx with x1 e1
    subst x1 e1
    rw [hs']
    exact ev_pos rfl (ev_bindc rfl (ev_pos rfl (ev_const (by simp))))
theorem ev_Other1 (o i m r r' : List ByteArray) (cmd : ByteArray) (dep : Bool) (pool x : ByteArray) (e : Int) (hx : (x, e) = signD o i m r cmd dep pool) (more : Bool) (ho : o.length ≤ 2000000) (hi : i.length ≤ 2000000) (hm : m.length ≤ 2000000) (hr : r'.length ≤ 8) (hc : cmd.size ≤ 2000000) (h3 : ∀ x ∈ r', x.data.toList ∈ three) (pool2 : ByteArray) :
    Ev (fun k => cruciblelaw11_SignOther.j1 k more x e o i m r' cmd dep pool2) true := by
  refine Ev.step (fun k => by rw [cruciblelaw11_SignOther.j1]) ?_
  cases more with
  | true => exact ev_pos rfl (ev_Other2 o i m r r' cmd dep pool _ x e hx ho hi hm hr hc h3 (.inr (by decide +kernel)))
  | false => exact ev_neg (by simp) (ev_Other2 o i m r r' cmd dep pool _ x e hx ho hi hm hr hc h3 (.inl rfl))
theorem ev_Other0 (ns o i m r : List ByteArray) (cmd : ByteArray) (dep : Bool) (pool x : ByteArray) (e : Int) (hx : (x, e) = signD o i m r cmd dep pool) (more : Bool) (ho : o.length ≤ 2000000) (hi : i.length ≤ 2000000) (hm : m.length ≤ 2000000) (hc : cmd.size ≤ 2000000) (pool2 : ByteArray) : ∀ (d j : Nat) (r' : List ByteArray), (j + d = 8 ∨ j + d = ns.length) → j + d ≤ 8 → j + d ≤ ns.length → r'.length = j → (∀ x ∈ r', x.data.toList ∈ three) →
    Ev (fun k => cruciblelaw11_SignOther.l0 k ns more x e (j : Int) o i m r' cmd dep pool2) true := by
  intro d
  induction d with
  | zero =>
    intro j r' h h8 hz hl h3
    refine Ev.step (fun k => by rw [cruciblelaw11_SignOther.l0]) ?_
    have f := ev_Other1 o i m r r' cmd dep pool x e hx more ho hi hm (by omega) hc h3 pool2
    refine ev_split (fun h1 => ev_split (fun h2 => ?_) (fun _ => f)) (fun _ => f)
    clear f hx
    omega
  | succ d ih =>
    intro j r' h h8 hz hl h3
    have a1 : (j : Int) < (ns.length : Int) := by omega
    have a2 : (j : Int) < 8 := by omega
    have a3 : (0 : Int) ≤ (j : Int) := by omega
    have a4 : r'.length < 8796093022208 := by omega
    have b1 : j + 1 + d = 8 ∨ j + 1 + d = ns.length := by omega
    have b2 : j + 1 + d ≤ 8 := by omega
    have b3 : j + 1 + d ≤ ns.length := by omega
    have hw : wrap64 ((j : Int) + 1) = ((j + 1 : Nat) : Int) := wrap_nat (by omega)
    refine Ev.step (fun k => by rw [cruciblelaw11_SignOther.l0]) (ev_pos a1 (ev_pos a2 (ev_bindc rfl ?_)))
    obtain ⟨q, hq, e1⟩ := umod (((rdOf ByteArray.empty ns (j : Int)).size : Nat) : Int) 3 (by decide) (by decide)
    have e2 : wrap64 (Int.tmod (IntKind.u64.wrap (((rdOf ByteArray.empty ns (j : Int)).size : Nat) : Int)) 3) = q := e1
    rw [e2]
    obtain ⟨p, hp, hr⟩ : ∃ p ∈ three, rdOf ByteArray.empty [(⟨#[113]⟩ : ByteArray), (⟨#[114, 47, 115]⟩ : ByteArray), (⟨#[116, 46, 111]⟩ : ByteArray)] (q : Int) = str p := by
      match q, hq with
      | 0, _ => exact ⟨[113], by decide, rfl⟩
      | 1, _ => exact ⟨[114, 47, 115], by decide, rfl⟩
      | 2, _ => exact ⟨[116, 46, 111], by decide, rfl⟩
    have c1 : (0 : Int) ≤ (q : Int) := Int.natCast_nonneg q
    have c2 : (q : Int) < (([(⟨#[113]⟩ : ByteArray), (⟨#[114, 47, 115]⟩ : ByteArray), (⟨#[116, 46, 111]⟩ : ByteArray)].length : Nat) : Int) := Int.ofNat_lt.2 hq
    refine ev_pos a3 (ev_pos c1 (ev_pos c2 (ev_pos a4 ?_)))
    rw [hr, hw]
    exact ih (j + 1) (r' ++ [str p]) b1 b2 b3 (by rw [List.length_append, hl]; rfl) (fun x hx => by
      rcases List.mem_append.1 hx with hx | hx
      · exact h3 x hx
      · rw [List.mem_singleton.1 hx, str_data]; exact hp)
theorem SignOther (a b c d : List ByteArray) (cmd : ByteArray) (dep : Bool) (pool : ByteArray) (ns : List ByteArray) (more : Bool)
    (hb : ((a.map fun s => s.size + 1).sum + 1) + ((b.map fun s => s.size + 1).sum + 1) + ((c.map fun s => s.size + 1).sum + 1) + ((d.map fun s => s.size + 1).sum + 1) + (cmd.size + 1) + (pool.size + 1) + ((ns.map fun s => s.size + 1).sum + 1) ≤ 1048576)
    (_ : ∀ x ∈ a, x.size ≤ maxLen) (_ : ∀ x ∈ b, x.size ≤ maxLen) (_ : ∀ x ∈ c, x.size ≤ maxLen) (_ : ∀ x ∈ d, x.size ≤ maxLen) (_ : cmd.size ≤ maxLen) (_ : pool.size ≤ maxLen) (_ : ∀ x ∈ ns, x.size ≤ maxLen) :
    ∃ k, cruciblelaw11_SignOther.f k a b c d cmd dep pool ns more = some true := by
  have la := sum_len (fun s : ByteArray => s.size) a
  have lb := sum_len (fun s : ByteArray => s.size) b
  have lc := sum_len (fun s : ByteArray => s.size) c
  have ld := sum_len (fun s : ByteArray => s.size) d
  have ka : a.length ≤ 2000000 := by omega
  have kb : b.length ≤ 2000000 := by omega
  have kc : c.length ≤ 2000000 := by omega
  have ke : d.length ≤ 2000000 := by omega
  have kd : cmd.size ≤ 2000000 := by omega
  clear la lb lc ld hb
  refine Ev.rounds ?_
  refine Ev.congr (fun k => by rw [cruciblelaw11_SignOther.f]) (ev_bind ev_awake11 (ev_pos rfl (ev_bind (ev_Of a b c d cmd dep pool (by omega) (by omega) (by omega) (by omega) (by omega)) (ev_bindc (copy_edgeO a b c d cmd dep pool (by omega) (by omega) (by omega) (by omega)) ?_))))
  exact ev_Other0 ns a b c d cmd dep pool _ _ rfl more ka kb kc kd pool (min 8 ns.length) 0 [] (by omega) (by omega) (by omega) rfl (fun x hx => by cases hx)
end Go.Proofs.YtkplcmcmpdhigaaDoor.Spec
