/- Chapter 11: any two edges; what is not in a sign. Without the program. -/
import Derived.Test.YtkplcmcmpdhigaaDoorAw11
import Derived.Test.YtkplcmcmpdhigaaDoorP13
import Derived.Test.YtkplcmcmpdhigaaDoorP1
import Derived.Test.YtkplcmcmpdhigaaDoorP11
namespace Go.Proofs.YtkplcmcmpdhigaaDoor.Spec
open Go.RowKit Go.Proofs.YtkplcmcmpdhigaaDoorW.PrintWords Go.Proofs.YtkplcmcmpdhigaaDoor.P

theorem copy_edge (a b c d : List ByteArray) (cmd : ByteArray) (dep : Bool) (pool : ByteArray) (h0 : a.length < 8796093022208) (h1 : b.length < 8796093022208) (h2 : c.length < 8796093022208) (h3 : d.length < 8796093022208) :
    cruciblelaw0_CopyEdge.f a b c d cmd dep pool = some (a, b, c, d, cmd, dep, pool) := by
  simp [cruciblelaw0_CopyEdge.f, h0, h1, h2, h3]
theorem ev_SameEdge (a b c d : List ByteArray) (cmd : ByteArray) (dep : Bool) (pool : ByteArray) (h0 : a.length ≤ 4611686018427387904) (h1 : b.length ≤ 4611686018427387904) (h2 : c.length ≤ 4611686018427387904) (h3 : d.length ≤ 4611686018427387904) :
    Ev (fun k => cruciblelaw0_SameEdge.f k a b c d cmd dep pool a b c d cmd dep pool) true := by
  refine Ev.congr (fun k => by rw [cruciblelaw0_SameEdge.f]) ?_
  refine ev_bind (ev_Same a a h0) (ev_pos (by simp) (ev_bind (ev_Same b b h1) (ev_pos (by simp) (ev_bind (ev_Same c c h2) (ev_pos (by simp) (ev_bind (ev_Same d d h3) (ev_pos (by simp) (ev_pos rfl (ev_pos (by simp) (ev_const (by simp)))))))))))
theorem ev_awake_told : Ev (fun k => (cruciblelaw11_awake.f k).bind fun t => (some t)) true := ev_bind ev_awake11 (ev_const rfl)
theorem ev_Signs1 (a b c d : List ByteArray) (cmd : ByteArray) (dep : Bool) (pool : ByteArray) (a' b' c' d' : List ByteArray) (cmd' : ByteArray) (dep' : Bool) (pool' : ByteArray) (la : a.length ≤ 2000000) (lb : b.length ≤ 2000000) (lc : c.length ≤ 2000000) (E : EdgeIs a b c d cmd pool) (E' : EdgeIs a' b' c' d' cmd' pool') :
    Ev (fun k => cruciblelaw11_Signs.j1 k (str (signL a b c cmd dep)) (str (signL a' b' c' cmd' dep')) false a b c d cmd dep pool a' b' c' d' cmd' dep' pool') true := by
  have inj := fun h => sign_inj (dep := dep) (dep' := dep') (cmd := cmd) (cmd' := cmd') E.po E.pi E.pm E'.po E'.pi E'.pm h
  refine Ev.step (fun k => by rw [cruciblelaw11_Signs.j1]) (ev_neg (by decide) ?_)
  simp only [str_toList]
  refine ev_bind (ev_Same a a' (by omega)) ?_
  by_cases h1 : a = a'
  · refine ev_pos (by simp [h1]) (ev_bind (ev_Same b b' (by omega)) ?_)
    by_cases h2 : b = b'
    · refine ev_pos (by simp [h2]) (ev_bind (ev_Same c c' (by omega)) ?_)
      by_cases h3 : c = c'
      · refine ev_pos (by simp [h3]) ?_
        by_cases h4 : dep = dep'
        · refine ev_pos (by simp [h4]) (ev_pos ?_ ev_awake_told)
          by_cases h5 : cmd = cmd'
          · subst h1 h2 h3 h4 h5
            simp
          · have n1 : ¬ (signL a b c cmd dep = signL a' b' c' cmd' dep') := fun h => h5 (inj h).2.2.2.2
            have n2 : ¬ (cmd.toList = cmd'.toList) := fun h => h5 (data_inj (by rw [← toList_data, ← toList_data, h]))
            rw [beq_eq_false_iff_ne.2 n1, beq_eq_false_iff_ne.2 n2]; rfl
        · have n1 : ¬ (signL a b c cmd dep = signL a' b' c' cmd' dep') := fun h => h4 (inj h).2.2.2.1
          exact ev_neg (by simpa using h4) (ev_pos (by simp [n1]) ev_awake_told)
      · have n1 : ¬ (signL a b c cmd dep = signL a' b' c' cmd' dep') := fun h => h3 (inj h).2.2.1
        exact ev_neg (by simpa using h3) (ev_pos (by simp [n1]) ev_awake_told)
    · have n1 : ¬ (signL a b c cmd dep = signL a' b' c' cmd' dep') := fun h => h2 (inj h).2.1
      exact ev_neg (by simpa using h2) (ev_pos (by simp [n1]) ev_awake_told)
  · have n1 : ¬ (signL a b c cmd dep = signL a' b' c' cmd' dep') := fun h => h1 (inj h).1
    exact ev_neg (by simpa using h1) (ev_pos (by simp [n1]) ev_awake_told)


theorem ev_Signs0 (a b c d : List ByteArray) (cmd : ByteArray) (dep : Bool) (pool : ByteArray) (a' b' c' d' : List ByteArray) (cmd' : ByteArray) (dep' : Bool) (pool' : ByteArray) (x y : ByteArray) (e e' : Int) (h : e = 0 → e' = 0 → Ev (fun k => cruciblelaw11_Signs.j1 k x y false a b c d cmd dep pool a' b' c' d' cmd' dep' pool') true) :
    Ev (fun k => cruciblelaw11_Signs.j0 k x e y e' false a b c d cmd dep pool a' b' c' d' cmd' dep' pool') true := by
  have aw : Ev (fun k => cruciblelaw11_Signs.j1 k x y true a b c d cmd dep pool a' b' c' d' cmd' dep' pool') true := Ev.step (fun k => by rw [cruciblelaw11_Signs.j1]) (ev_pos rfl ev_awake_told)
  refine Ev.step (fun k => by rw [cruciblelaw11_Signs.j0]) (ev_neg (by decide) (ev_bindc (show cruciblelaw0_Num.f e = some e from rfl) ?_))
  by_cases h0 : e = 0
  · refine ev_pos h0 (ev_bindc (show cruciblelaw0_Num.f e' = some e' from rfl) ?_)
    by_cases h1 : e' = 0
    · have : (e' != 0) = false := by simp [h1]
      rw [this]
      exact h h0 h1
    · have : (e' != 0) = true := by simpa using h1
      rw [this]
      exact aw
  · exact ev_neg h0 aw
theorem ev_Signs (a b c d : List ByteArray) (cmd : ByteArray) (dep : Bool) (pool : ByteArray) (a' b' c' d' : List ByteArray) (cmd' : ByteArray) (dep' : Bool) (pool' : ByteArray) (la : a.length ≤ 2000000) (lb : b.length ≤ 2000000) (lc : c.length ≤ 2000000) (x y : ByteArray) (e e' : Int) (hx : (x, e) = signD a b c d cmd dep pool) (hy : (y, e') = signD a' b' c' d' cmd' dep' pool') :
    Ev (fun k => cruciblelaw11_Signs.j0 k x e y e' false a b c d cmd dep pool a' b' c' d' cmd' dep' pool') true := by
  refine ev_Signs0 a b c d cmd dep pool a' b' c' d' cmd' dep' pool' x y e e' (fun h0 h1 => ?_)
  cases he : edgeOk a b c d cmd pool with
  | false =>
    rw [sign_bad he] at hx
    injection hx with _ e1
    omega
  | true =>
    cases he' : edgeOk a' b' c' d' cmd' pool' with
    | false =>
      rw [sign_bad he'] at hy
      injection hy with _ e1
      omega
    | true =>
      have hs : signD a b c d cmd dep pool = (str (signL a b c cmd dep), 0) := if_pos he
      have hs' : signD a' b' c' d' cmd' dep' pool' = (str (signL a' b' c' cmd' dep'), 0) := if_pos he'
      rw [hs] at hx
      rw [hs'] at hy
      injection hx with x1 _
      injection hy with y1 _
      rw [x1, y1]
      exact ev_Signs1 a b c d cmd dep pool a' b' c' d' cmd' dep' pool' la lb lc (edgeOk_is he) (edgeOk_is he')
theorem Signs (a b c d : List ByteArray) (cmd : ByteArray) (dep : Bool) (pool : ByteArray) (a' b' c' d' : List ByteArray) (cmd' : ByteArray) (dep' : Bool) (pool' : ByteArray)
    (hb : ((a.map fun s => s.size + 1).sum + 1) + ((b.map fun s => s.size + 1).sum + 1) + ((c.map fun s => s.size + 1).sum + 1) + ((d.map fun s => s.size + 1).sum + 1) + (cmd.size + 1) + (pool.size + 1) + ((a'.map fun s => s.size + 1).sum + 1) + ((b'.map fun s => s.size + 1).sum + 1) + ((c'.map fun s => s.size + 1).sum + 1) + ((d'.map fun s => s.size + 1).sum + 1) + (cmd'.size + 1) + (pool'.size + 1) ≤ 1048576)
    (_ : ∀ x ∈ a, x.size ≤ maxLen) (_ : ∀ x ∈ b, x.size ≤ maxLen) (_ : ∀ x ∈ c, x.size ≤ maxLen) (_ : ∀ x ∈ d, x.size ≤ maxLen) (_ : cmd.size ≤ maxLen) (_ : pool.size ≤ maxLen)
    (_ : ∀ x ∈ a', x.size ≤ maxLen) (_ : ∀ x ∈ b', x.size ≤ maxLen) (_ : ∀ x ∈ c', x.size ≤ maxLen) (_ : ∀ x ∈ d', x.size ≤ maxLen) (_ : cmd'.size ≤ maxLen) (_ : pool'.size ≤ maxLen) :
    ∃ k, cruciblelaw11_Signs.f k a b c d cmd dep pool a' b' c' d' cmd' dep' pool' = some true := by
  have la := sum_len (fun s : ByteArray => s.size) a
  have lb := sum_len (fun s : ByteArray => s.size) b
  have lc := sum_len (fun s : ByteArray => s.size) c
  have ld := sum_len (fun s : ByteArray => s.size) d
  have la' := sum_len (fun s : ByteArray => s.size) a'
  have lb' := sum_len (fun s : ByteArray => s.size) b'
  have lc' := sum_len (fun s : ByteArray => s.size) c'
  have ld' := sum_len (fun s : ByteArray => s.size) d'
  have sm : ∀ (xs : List ByteArray), (xs.map fun s => s.size + 1).sum ≤ 1048576 → ∀ x ∈ xs, x.size ≤ 4611686018427387904 := fun xs h x hx => by
    have := sum_mem (fun s : ByteArray => s.size + 1) hx
    omega
  have za := sm a (by omega)
  have zb := sm b (by omega)
  have zc := sm c (by omega)
  have zd := sm d (by omega)
  have ka : a.length ≤ 2000000 := by omega
  have kb : b.length ≤ 2000000 := by omega
  have kc : c.length ≤ 2000000 := by omega
  have kd : d.length ≤ 2000000 := by omega
  have ke : cmd.size ≤ 2000000 := by omega
  have kp : pool.size ≤ 2000000 := by omega
  have ka' : a'.length ≤ 2000000 := by omega
  have kb' : b'.length ≤ 2000000 := by omega
  have kc' : c'.length ≤ 2000000 := by omega
  have kd' : d'.length ≤ 2000000 := by omega
  have ke' : cmd'.size ≤ 2000000 := by omega
  clear la lb lc ld la' lb' lc' ld' sm hb
  refine Ev.rounds ?_
  refine Ev.congr (fun k => by rw [cruciblelaw11_Signs.f]) (ev_bindc (copy_edge a b c d cmd dep pool (by omega) (by omega) (by omega) (by omega)) ?_)
  refine ev_bind (ev_Of a b c d cmd dep pool (by omega) (by omega) (by omega) (by omega) (by omega)) ?_
  refine ev_bind (ev_Sign a b c d cmd dep pool (by omega) (by omega) (by omega) (by omega) (by omega) za zb zc zd (by omega)) ?_
  refine ev_bind (ev_Of a' b' c' d' cmd' dep' pool' (by omega) (by omega) (by omega) (by omega) (by omega)) ?_
  refine ev_pos rfl (ev_bindc rfl (ev_pos rfl (ev_bind (ev_SameEdge a b c d cmd dep pool (by omega) (by omega) (by omega) (by omega)) ?_)))
  exact ev_Signs a b c d cmd dep pool a' b' c' d' cmd' dep' pool' (by omega) (by omega) (by omega) _ _ _ _ rfl rfl

end Go.Proofs.YtkplcmcmpdhigaaDoor.Spec
