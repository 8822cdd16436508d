/- Chapter 11 without the program: what an edge is made by, as a text. -/
import Derived.Test.YtkplcmcmpdhigaaDoorRef1
import Derived.Test.YtkplcmcmpdhigaaDoorP8
import Derived.Test.YtkplcmcmpdhigaaDoorP11
import Derived.Test.YtkplcmcmpdhigaaDoorP7
import Derived.Test.YtkplcmcmpdhigaaDoorP4
namespace Go.Proofs.YtkplcmcmpdhigaaDoor.Spec
open Go.RowKit Go.Proofs.YtkplcmcmpdhigaaDoorW.PrintWords Go.Proofs.YtkplcmcmpdhigaaDoor.P

def plainB (b : UInt8) : Bool := decide (32 ≤ b.toNat) && decide (b.toNat ≤ 126)
/-- a text that may be a command -/
def cmdOk (l : List UInt8) : Bool := l.all plainB && decide (1 ≤ l.length) && decide (l.length ≤ 256)
theorem plain_cases (b : UInt8) : (plainB b = true ∧ ¬ ((b.toNat : Int) < 32) ∧ ¬ ((b.toNat : Int) > 126)) ∨ (plainB b = false ∧ ((b.toNat : Int) < 32 ∨ (b.toNat : Int) > 126)) := by
  unfold plainB
  by_cases h1 : 32 ≤ b.toNat <;> by_cases h2 : b.toNat ≤ 126
  · left; simp [h1, h2]; omega
  · right; refine ⟨by simp [h2], by omega⟩
  · right; refine ⟨by simp [h1], by omega⟩
  · right; refine ⟨by simp [h1], by omega⟩
theorem ev_PlainA_loop (s : ByteArray) (most : Nat) (hs : s.size ≤ 4611686018427387904) : ∀ rest pre : List UInt8, s.data.toList = pre ++ rest → pre.all plainB = true →
    Ev (fun k => name_Plain.l0 k s (most : Int) (s.size : Int) (pre.length : Int)) (s.data.toList.all plainB && decide (s.size ≤ most)) := by
  intro rest
  induction rest with
  | nil =>
    intro pre h ha
    have hl : s.size = pre.length := by rw [size_le h]; simp
    refine Ev.step (fun k => by rw [name_Plain.l0]) (ev_neg (by omega) (ev_const ?_))
    rw [h, List.append_nil, ha]
    simp
  | cons b rest ih =>
    intro pre h ha
    have hlt := size_pre s pre b rest h
    have hb := bt_pre s pre b rest h
    have hw : wrap64 ((pre.length : Int) + 1) = ((pre ++ [b]).length : Int) := wrap_len pre b (by omega)
    refine Ev.step (fun k => by rw [name_Plain.l0]) ?_
    simp only [hb, hw]
    refine ev_pos (by omega) (ev_pos (by omega) (ev_pos (by omega) ?_))
    rcases plain_cases b with ⟨hp, h1, h2⟩ | ⟨hp, h12⟩
    · exact ev_neg h1 (ev_neg h2 (ih (pre ++ [b]) (by simp [h]) (by simp [ha, hp])))
    · have hf : (s.data.toList.all plainB && decide (s.size ≤ most)) = false := by rw [h]; simp [hp]
      rw [hf]
      exact ev_split (fun _ => Ev.now _) (fun h1 => ev_pos (by omega) (Ev.now _))
theorem ev_PlainA (s : ByteArray) (most : Nat) (hs : s.size ≤ 4611686018427387904) : Ev (fun k => name_Plain.f k s (most : Int)) (s.data.toList.all plainB && decide (s.size ≤ most)) :=
  Ev.congr (fun k => by rw [name_Plain.f]; rfl) (ev_PlainA_loop s most hs s.data.toList [] rfl rfl)
theorem ev_PlainR_loop (s : ByteArray) (least most : Nat) (hs : s.size ≤ 4611686018427387904) : ∀ rest pre : List UInt8, s.data.toList = pre ++ rest → pre.all plainB = true →
    Ev (fun k => crucibleref1_Plain.l0 k s (least : Int) (most : Int) (pre.length : Int)) (s.data.toList.all plainB && decide (least ≤ s.size) && decide (s.size ≤ most)) := by
  intro rest
  induction rest with
  | nil =>
    intro pre h ha
    have hl : s.size = pre.length := by rw [size_le h]; simp
    refine Ev.step (fun k => by rw [crucibleref1_Plain.l0]) (ev_neg (by omega) ?_)
    rw [h, List.append_nil, ha]
    refine ev_split (fun h1 => ev_const ?_) (fun h1 => ev_const ?_)
    · have : least ≤ s.size := by omega
      simp [this]
    · have : ¬ least ≤ s.size := by omega
      simp [this]
  | cons b rest ih =>
    intro pre h ha
    have hlt := size_pre s pre b rest h
    have hb := bt_pre s pre b rest h
    have hw : wrap64 ((pre.length : Int) + 1) = ((pre ++ [b]).length : Int) := wrap_len pre b (by omega)
    refine Ev.step (fun k => by rw [crucibleref1_Plain.l0]) ?_
    simp only [hb, hw]
    refine ev_pos (by omega) (ev_pos (by omega) ?_)
    rcases plain_cases b with ⟨hp, h1, h2⟩ | ⟨hp, h12⟩
    · exact ev_neg h1 (ev_neg h2 (ih (pre ++ [b]) (by simp [h]) (by simp [ha, hp])))
    · have hf : (s.data.toList.all plainB && decide (least ≤ s.size) && decide (s.size ≤ most)) = false := by rw [h]; simp [hp]
      rw [hf]
      exact ev_split (fun _ => Ev.now _) (fun h1 => ev_pos (by omega) (Ev.now _))
theorem ev_PlainR (s : ByteArray) (least most : Nat) (hs : s.size ≤ 4611686018427387904) : Ev (fun k => crucibleref1_Plain.f k s (least : Int) (most : Int)) (s.data.toList.all plainB && decide (least ≤ s.size) && decide (s.size ≤ most)) :=
  Ev.congr (fun k => by rw [crucibleref1_Plain.f]; rfl) (ev_PlainR_loop s least most hs s.data.toList [] rfl rfl)
theorem ev_Command (s : ByteArray) (hs : s.size ≤ 4611686018427387904) : Ev (fun k => graph_Command.f k s) (cmdOk s.data.toList) := by
  refine Ev.congr (fun k => by rw [graph_Command.f]) ?_
  have hl := size_data s
  refine ev_split (fun h => ev_const ?_) (fun h => ev_bind (ev_PlainA s 256 hs) (ev_const ?_))
  · rw [toList_data] at h
    rw [h]; rfl
  · rw [toList_data] at h
    have h1 : 1 ≤ s.size := by rw [← hl]; exact List.length_pos_iff.2 h
    simp only [cmdOk, hl, h1, decide_true, Bool.and_true]

/-! ### Edges -/
def edgeOk (o i m r : List ByteArray) (cmd pool : ByteArray) : Bool :=
  allP o 8 && (allP i 8 && (allP m 8 && (allP r 8 && (decide (0 < o.length) && (cmdOk cmd.data.toList && (pool.data.toList.isEmpty || nameMay pool.data.toList))))))
structure EdgeIs (o i m r : List ByteArray) (cmd pool : ByteArray) : Prop where
  po : allP o 8 = true
  pi : allP i 8 = true
  pm : allP m 8 = true
  pr : allP r 8 = true
  one : 0 < o.length
  pc : cmdOk cmd.data.toList = true
  pp : pool.data.toList = [] ∨ nameMay pool.data.toList = true
theorem edgeOk_is {o i m r : List ByteArray} {cmd pool : ByteArray} (h : edgeOk o i m r cmd pool = true) : EdgeIs o i m r cmd pool := by
  simp only [edgeOk, Bool.and_eq_true, Bool.or_eq_true, decide_eq_true_eq, List.isEmpty_iff] at h
  exact ⟨h.1, h.2.1, h.2.2.1, h.2.2.2.1, h.2.2.2.2.1, h.2.2.2.2.2.1, h.2.2.2.2.2.2⟩
theorem ev_Edge (o i m r : List ByteArray) (cmd pool : ByteArray) (ho : o.length ≤ 4611686018427387904) (hi : i.length ≤ 4611686018427387904) (hm : m.length ≤ 4611686018427387904) (hr : r.length ≤ 4611686018427387904) (hc : cmd.size ≤ 4611686018427387904) :
    Ev (fun k => graph_Edge.f k o i m r cmd pool) (edgeOk o i m r cmd pool) := by
  refine Ev.congr (fun k => by rw [graph_Edge.f]) ?_
  unfold edgeOk
  refine ev_bind (ev_All o 8 ho) ?_
  cases allP o 8 with
  | false => exact ev_neg (by simp) (Ev.now _)
  | true =>
    refine ev_pos rfl (ev_bind (ev_All i 8 hi) ?_)
    cases allP i 8 with
    | false => exact ev_neg (by simp) (Ev.now _)
    | true =>
      refine ev_pos rfl (ev_bind (ev_All m 8 hm) ?_)
      cases allP m 8 with
      | false => exact ev_neg (by simp) (Ev.now _)
      | true =>
        refine ev_pos rfl (ev_bind (ev_All r 8 hr) ?_)
        cases allP r 8 with
        | false => exact ev_neg (by simp) (Ev.now _)
        | true =>
          refine ev_pos rfl ?_
          by_cases h0 : 0 < o.length
          · refine ev_pos h0 (ev_bind (ev_Command cmd hc) ?_)
            simp only [Bool.true_and, h0, decide_true]
            cases cmdOk cmd.data.toList with
            | false => exact ev_neg (by simp) (Ev.now _)
            | true =>
              refine ev_pos rfl ?_
              simp only [Bool.true_and]
              refine ev_split (fun hp => ev_const ?_) (fun hp => ev_const ?_)
              · rw [toList_data] at hp
                rw [hp]; rfl
              · rw [toList_data] at hp
                unfold name_May.f
                have : pool.data.toList.isEmpty = false := by simpa using hp
                rw [this]; rfl
          · refine ev_neg h0 (ev_const ?_)
            simp [h0]

/-- the text -/
def signL (o i m : List ByteArray) (cmd : ByteArray) (dep : Bool) : List UInt8 :=
  joinS [32] (datas o) ++ 124 :: (joinS [32] (datas i) ++ 124 :: (joinS [32] (datas m) ++ 124 :: ((if dep = true then 100 else 110) :: 124 :: cmd.data.toList)))
def signD (o i m r : List ByteArray) (cmd : ByteArray) (dep : Bool) (pool : ByteArray) : ByteArray × Int :=
  if edgeOk o i m r cmd pool = true then (str (signL o i m cmd dep), 0) else (str [], 1100)
theorem join_paths {xs : List ByteArray} (h : allP xs 8 = true) : (joinS [32] (datas xs)).length ≤ 136 := by
  have h1 := joinS_bulk 32 (datas xs)
  have h2 := bulk_paths h
  omega
theorem cmd_len {cmd : ByteArray} (h : cmdOk cmd.data.toList = true) : cmd.size ≤ 256 := by
  simp only [cmdOk, Bool.and_eq_true, decide_eq_true_eq] at h
  rw [← size_data]; exact h.2
theorem sign_len {o i m : List ByteArray} {cmd : ByteArray} (dep : Bool) (ho : allP o 8 = true) (hi : allP i 8 = true) (hm : allP m 8 = true) (hc : cmd.size ≤ 256) : (signL o i m cmd dep).length ≤ 1000 := by
  have h1 := join_paths ho
  have h2 := join_paths hi
  have h3 := join_paths hm
  have h4 := size_data cmd
  simp only [signL, List.length_append, List.length_cons]
  omega
theorem ev_Of (o i m r : List ByteArray) (cmd : ByteArray) (dep : Bool) (pool : ByteArray) (ho : o.length ≤ 4611686018427387904) (hi : i.length ≤ 4611686018427387904) (hm : m.length ≤ 4611686018427387904) (hr : r.length ≤ 4611686018427387904) (hc : cmd.size ≤ 4611686018427387904) :
    Ev (fun k => sign_Of.f k o i m r cmd dep pool) (signD o i m r cmd dep pool) := by
  refine Ev.congr (fun k => by rw [sign_Of.f]) (ev_bind (ev_Edge o i m r cmd pool ho hi hm hr hc) ?_)
  unfold signD
  cases he : edgeOk o i m r cmd pool with
  | false => exact ev_neg (by simp) (Ev.now _)
  | true =>
    obtain ⟨eo, ei, em, er, e1, ec, ep⟩ := edgeOk_is he
    have jo := join_paths eo
    have ji := join_paths ei
    have jm := join_paths em
    have c256 := cmd_len ec
    have lo := (allP_all eo).2
    have li := (allP_all ei).2
    have lm := (allP_all em).2
    refine ev_pos rfl (ev_bindc (Join_is o ⟨#[32]⟩ (by omega) (by show (joinS [32] _).length ≤ _; omega)) (ev_bindc (Join_is i ⟨#[32]⟩ (by omega) (by show (joinS [32] _).length ≤ _; omega)) (ev_bindc (Join_is m ⟨#[32]⟩ (by omega) (by show (joinS [32] _).length ≤ _; omega)) ?_)))
    have hL := sign_len dep eo ei em c256
    have e : joinS (⟨#[124]⟩ : ByteArray).data.toList (datas [str (joinS (⟨#[32]⟩ : ByteArray).data.toList (datas o)), str (joinS (⟨#[32]⟩ : ByteArray).data.toList (datas i)), str (joinS (⟨#[32]⟩ : ByteArray).data.toList (datas m)), (if dep = true then (⟨#[100]⟩ : ByteArray) else ⟨#[110]⟩), cmd]) = signL o i m cmd dep := by
      cases dep <;> simp [joinS, datas, signL, str_data]
    refine ev_bindc (Join_is _ ⟨#[124]⟩ (by simp) (by rw [e]; omega)) (ev_const ?_)
    rw [e, if_pos rfl]
theorem edgeMay_is (o i m r : List ByteArray) (cmd pool : ByteArray) : (decide (0 < o.length) && (allP o 8 && (allP i 8 && (allP m 8 && (allP r 8 && (cmdOk cmd.data.toList && (pool.data.toList.isEmpty || nameMay pool.data.toList))))))) = edgeOk o i m r cmd pool := by
  unfold edgeOk
  cases decide (0 < o.length) <;> simp
theorem ev_EdgeMay (o i m r : List ByteArray) (cmd : ByteArray) (dep : Bool) (pool : ByteArray) (ho : o.length ≤ 4611686018427387904) (hi : i.length ≤ 4611686018427387904) (hm : m.length ≤ 4611686018427387904) (hr : r.length ≤ 4611686018427387904) (hc : cmd.size ≤ 4611686018427387904)
    (zo : ∀ x ∈ o, x.size ≤ 4611686018427387904) (zi : ∀ x ∈ i, x.size ≤ 4611686018427387904) (zm : ∀ x ∈ m, x.size ≤ 4611686018427387904) (zr : ∀ x ∈ r, x.size ≤ 4611686018427387904) (zp : pool.size ≤ 4611686018427387904) :
    Ev (fun k => crucibleref1_EdgeMay.f k o i m r cmd dep pool) (edgeOk o i m r cmd pool) := by
  refine Ev.congr (fun k => by rw [crucibleref1_EdgeMay.f]) ?_
  rw [← edgeMay_is]
  by_cases h0 : 0 < o.length
  · refine ev_pos (by omega) (ev_bind (ev_PathsMay o ho zo) ?_)
    simp only [h0, decide_true, Bool.true_and]
    cases allP o 8 with
    | false => exact ev_neg (by simp) (Ev.now _)
    | true =>
      refine ev_pos rfl (ev_bind (ev_PathsMay i hi zi) ?_)
      cases allP i 8 with
      | false => exact ev_neg (by simp) (Ev.now _)
      | true =>
        refine ev_pos rfl (ev_bind (ev_PathsMay m hm zm) ?_)
        cases allP m 8 with
        | false => exact ev_neg (by simp) (Ev.now _)
        | true =>
          refine ev_pos rfl (ev_bind (ev_PathsMay r hr zr) ?_)
          cases allP r 8 with
          | false => exact ev_neg (by simp) (Ev.now _)
          | true =>
            refine ev_pos rfl (ev_bind (ev_PlainR cmd 1 256 hc) ?_)
            have e : (cmd.data.toList.all plainB && decide (1 ≤ cmd.size) && decide (cmd.size ≤ 256)) = cmdOk cmd.data.toList := by unfold cmdOk; rw [size_data]
            rw [e]
            simp only [Bool.true_and]
            cases cmdOk cmd.data.toList with
            | false => exact ev_neg (by simp) (Ev.now _)
            | true =>
              refine ev_pos rfl ?_
              simp only [Bool.true_and]
              refine ev_split (fun hp => ev_const ?_) (fun hp => ev_bind (ev_NameMay pool zp) (ev_const ?_))
              · rw [toList_data] at hp
                rw [hp]; rfl
              · rw [toList_data] at hp
                have : pool.data.toList.isEmpty = false := by simpa using hp
                rw [this]; rfl
  · refine ev_neg (by omega) (ev_const ?_)
    simp [h0]
theorem ev_Sign (o i m r : List ByteArray) (cmd : ByteArray) (dep : Bool) (pool : ByteArray) (ho : o.length ≤ 4611686018427387904) (hi : i.length ≤ 4611686018427387904) (hm : m.length ≤ 4611686018427387904) (hr : r.length ≤ 4611686018427387904) (hc : cmd.size ≤ 4611686018427387904)
    (zo : ∀ x ∈ o, x.size ≤ 4611686018427387904) (zi : ∀ x ∈ i, x.size ≤ 4611686018427387904) (zm : ∀ x ∈ m, x.size ≤ 4611686018427387904) (zr : ∀ x ∈ r, x.size ≤ 4611686018427387904) (zp : pool.size ≤ 4611686018427387904) :
    Ev (fun k => crucibleref1_Sign.f k o i m r cmd dep pool) (signD o i m r cmd dep pool) := by
  refine Ev.congr (fun k => by rw [crucibleref1_Sign.f]) (ev_bind (ev_EdgeMay o i m r cmd dep pool ho hi hm hr hc zo zi zm zr zp) ?_)
  unfold signD
  cases he : edgeOk o i m r cmd pool with
  | false => exact ev_neg (by simp) (Ev.now _)
  | true =>
    obtain ⟨eo, ei, em, er, e1, ec, ep⟩ := edgeOk_is he
    have jo := join_paths eo
    have ji := join_paths ei
    have jm := join_paths em
    have c256 := cmd_len ec
    have lo := (allP_all eo).2
    have li := (allP_all ei).2
    have lm := (allP_all em).2
    have Jo := ev_Join o ⟨#[32]⟩ (by omega) (by show (joinS [32] _).length ≤ _; omega)
    have Ji := ev_Join i ⟨#[32]⟩ (by omega) (by show (joinS [32] _).length ≤ _; omega)
    have Jm := ev_Join m ⟨#[32]⟩ (by omega) (by show (joinS [32] _).length ≤ _; omega)
    have k1 : (⟨#[124]⟩ : ByteArray).size = 1 := rfl
    have k2 : (⟨#[100]⟩ : ByteArray).size = 1 := rfl
    have k3 : (⟨#[110]⟩ : ByteArray).size = 1 := rfl
    obtain ⟨JO, hJO⟩ : ∃ J, str (joinS (⟨#[32]⟩ : ByteArray).data.toList (datas o)) = J := ⟨_, rfl⟩
    have so : JO.size ≤ 136 := by rw [← hJO, str_size]; exact jo
    rw [hJO] at Jo
    obtain ⟨JI, hJI⟩ : ∃ J, str (joinS (⟨#[32]⟩ : ByteArray).data.toList (datas i)) = J := ⟨_, rfl⟩
    have si : JI.size ≤ 136 := by rw [← hJI, str_size]; exact ji
    rw [hJI] at Ji
    obtain ⟨JM, hJM⟩ : ∃ J, str (joinS (⟨#[32]⟩ : ByteArray).data.toList (datas m)) = J := ⟨_, rfl⟩
    have sm : JM.size ≤ 136 := by rw [← hJM, str_size]; exact jm
    rw [hJM] at Jm
    have fin : ∀ (L : ByteArray), L.data.toList = [if dep = true then 100 else 110] → ((((((((JO ++ (⟨#[124]⟩ : ByteArray)) ++ JI) ++ (⟨#[124]⟩ : ByteArray)) ++ JM) ++ (⟨#[124]⟩ : ByteArray)) ++ L) ++ (⟨#[124]⟩ : ByteArray)) ++ cmd) = str (signL o i m cmd dep) := by
      intro L hL
      apply data_inj
      rw [← hJO, ← hJI, ← hJM]
      simp only [append_data, str_data, hL, signL]
      simp
    clear hJO hJI hJM
    refine ev_pos rfl ?_
    rw [if_pos rfl]
    cases dep with
    | true =>
      refine ev_pos rfl (ev_bind Jo (ev_pos (by omega) (ev_bind Ji (ev_pos (by simp only [append_size]; omega) (ev_pos (by simp only [append_size]; omega) (ev_bind Jm (ev_pos (by simp only [append_size]; omega) (ev_pos (by simp only [append_size]; omega) (ev_pos (by simp only [append_size]; omega) (ev_pos (by simp only [append_size]; omega) (ev_pos (by simp only [append_size]; omega) (ev_const ?_))))))))))))
      rw [fin ⟨#[100]⟩ rfl]
    | false =>
      refine ev_neg (by simp) (ev_bind Jo (ev_pos (by omega) (ev_bind Ji (ev_pos (by simp only [append_size]; omega) (ev_pos (by simp only [append_size]; omega) (ev_bind Jm (ev_pos (by simp only [append_size]; omega) (ev_pos (by simp only [append_size]; omega) (ev_pos (by simp only [append_size]; omega) (ev_pos (by simp only [append_size]; omega) (ev_pos (by simp only [append_size]; omega) (ev_const ?_))))))))))))
      rw [fin ⟨#[110]⟩ rfl]

/-! ### Unlike edges have unlike texts -/
theorem cut_first {c : UInt8} : ∀ {a a' b b' : List UInt8}, c ∉ a → c ∉ a' → a ++ c :: b = a' ++ c :: b' → a = a' ∧ b = b'
  | [], [], _, _, _, _, h => ⟨rfl, by simpa using h⟩
  | [], y :: a', _, _, _, h2, h => by
    simp at h
    exact absurd (by rw [h.1]; exact List.mem_cons_self) h2
  | x :: a, [], _, _, h1, _, h => by
    simp at h
    exact absurd (by rw [← h.1]; exact List.mem_cons_self) h1
  | x :: a, y :: a', b, b', h1, h2, h => by
    simp only [List.cons_append, List.cons.injEq] at h
    obtain ⟨e1, e2⟩ := cut_first (fun hm => h1 (List.mem_cons_of_mem _ hm)) (fun hm => h2 (List.mem_cons_of_mem _ hm)) h.2
    exact ⟨by rw [h.1, e1], e2⟩
theorem joinS_mem {c : UInt8} {xs : List (List UInt8)} (h : c ∈ joinS [32] xs) : c = 32 ∨ ∃ x ∈ xs, c ∈ x := by
  cases xs with
  | nil => cases h
  | cons x xs =>
    rcases List.mem_append.1 h with h | h
    · exact .inr ⟨x, List.mem_cons_self, h⟩
    · obtain ⟨l, hl, hc⟩ := List.mem_flatten.1 h
      obtain ⟨y, hy, rfl⟩ := List.mem_map.1 hl
      rcases List.mem_append.1 hc with h | h
      · exact .inl (by simpa using h)
      · exact .inr ⟨y, List.mem_cons_of_mem _ hy, h⟩
theorem join_no_bar {xs : List ByteArray} (h : allP xs 8 = true) : (124 : UInt8) ∉ joinS [32] (datas xs) := by
  intro hm
  rcases joinS_mem hm with h1 | ⟨x, hx, hc⟩
  · exact absurd h1 (by decide)
  · obtain ⟨y, hy, rfl⟩ := List.mem_map.1 hx
    have := nameMay_mem (isP_names ((allP_all h).1 y hy)).1 hc
    exact absurd this (by decide)
theorem join_inj {xs ys : List ByteArray} (hx : allP xs 8 = true) (hy : allP ys 8 = true) (h : joinS [32] (datas xs) = joinS [32] (datas ys)) : xs = ys := by
  have nx : ∀ zs : List ByteArray, allP zs 8 = true → ∀ p ∈ datas zs, (32 : UInt8) ∉ p := fun zs hz p hp hm => by
    obtain ⟨x, hx, rfl⟩ := List.mem_map.1 hp
    have := nameMay_mem (isP_names ((allP_all hz).1 x hx)).1 hm
    exact absurd this (by decide)
  have ne : ∀ zs : List ByteArray, allP zs 8 = true → joinS [32] (datas zs) = [] → zs = [] := fun zs hz h0 => by
    cases zs with
    | nil => rfl
    | cons z zs =>
      have := (isP_names ((allP_all hz).1 z List.mem_cons_self)).2
      simp [joinS, datas] at h0
      exact absurd (by simpa using h0.1) this
  by_cases h0 : xs = []
  · subst h0
    exact (ne ys hy (by rw [← h]; rfl)).symm
  · have h1 : ys ≠ [] := fun e => h0 (ne xs hx (by rw [h, e]; rfl))
    have e1 := split_join 32 (datas xs) (by simpa [datas] using h0) (nx xs hx)
    have e2 := split_join 32 (datas ys) (by simpa [datas] using h1) (nx ys hy)
    rw [h, e2] at e1
    have := congrArg (List.map str) e1
    rwa [map_str_data, map_str_data, eq_comm] at this
theorem sign_inj {o i m o' i' m' : List ByteArray} {cmd cmd' : ByteArray} {dep dep' : Bool} (ho : allP o 8 = true) (hi : allP i 8 = true) (hm : allP m 8 = true) (ho' : allP o' 8 = true) (hi' : allP i' 8 = true) (hm' : allP m' 8 = true)
    (h : signL o i m cmd dep = signL o' i' m' cmd' dep') : o = o' ∧ i = i' ∧ m = m' ∧ dep = dep' ∧ cmd = cmd' := by
  obtain ⟨h1, h⟩ := cut_first (join_no_bar ho) (join_no_bar ho') h
  obtain ⟨h2, h⟩ := cut_first (join_no_bar hi) (join_no_bar hi') h
  obtain ⟨h3, h⟩ := cut_first (join_no_bar hm) (join_no_bar hm') h
  refine ⟨join_inj ho ho' h1, join_inj hi hi' h2, join_inj hm hm' h3, ?_, ?_⟩
  · have := (List.cons.inj h).1
    cases dep <;> cases dep' <;> simp_all
  · have := (List.cons.inj (List.cons.inj h).2).2
    exact data_inj this
end Go.Proofs.YtkplcmcmpdhigaaDoor.Spec
