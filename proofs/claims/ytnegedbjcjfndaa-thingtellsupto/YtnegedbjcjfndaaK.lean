/- Seat 16: what the code and the document say of a list is the same. -/
import Derived.Test.YtnegedbjcjfndaaJ
import Derived.Test.YtnegedbjcjfndaaAx30
namespace Go.Proofs.Ytnegedbjcjfndaa
open Go.AX
set_option maxRecDepth 100000

theorem isn_num (n : Int) : isn_v0 n = rnum_v0 n := by
  unfold isn_v0 rnum_v0
  congr 1
  exact decide_eq_decide.2 (by omega)
theorem may1 (w : Int) : may_v0 1 w 0 0 = rnum_v0 w := by
  show (isn_v0 w && true) = _
  rw [isn_num, Bool.and_true]
theorem may3 (w : Int) : may_v0 3 w 0 0 = rnum_v0 w := by
  show (isn_v0 w && true) = _
  rw [isn_num, Bool.and_true]
theorem may2 (a b : Int) : may_v0 2 0 a b = rref_v0 a b := by
  show (isn_v0 a && isn_v0 b) = _
  rw [isn_num, isn_num]
  unfold rnum_v0 rref_v0
  rw [Bool.and_assoc]
theorem not_ne (x : Bool) : (true != x) = !x := by cases x <;> rfl
theorem bad_one (u : Bool) (s : ByteArray) (k w a b : Int) : wri_v0 u s k w a b = badR (itD u s k w a b) := by
  unfold wri_v0
  rw [names_one]
  cases u with
  | false =>
    exact not_ne _
  | true =>
    have e : rref_v0 a b = (rnum_v0 a && rnum_v0 b) := by unfold rref_v0 rnum_v0; rw [Bool.and_assoc]
    unfold may_v0
    simp only [badR, nthD, D.getL, D.getB, D.getI, D.getS, List.getD_cons_zero, List.getD_cons_succ, isn_num, e]
    by_cases h1 : k = 1
    · subst h1
      cases rnum_v0 w <;> cases rright_v0 s <;> cases (a == 0) <;> cases (b == 0) <;> rfl
    · have g1 : (k == 1) = false := by simpa using h1
      rw [g1]
      by_cases h3 : k = 3
      · subst h3
        cases rnum_v0 w <;> cases rright_v0 s <;> cases (a == 0) <;> cases (b == 0) <;> rfl
      · have g3 : (k == 3) = false := by simpa using h3
        rw [g3]
        cases (k == 2) <;> cases (w == 0) <;> cases rright_v0 s <;> cases rnum_v0 a <;> cases rnum_v0 b <;> rfl
theorem bad_is {d : D} (h : okE ekI d = true) : wri_v0 (fU d) (fS d) (fK d) (fW d) (fA d) (fB d) = badR d := by
  obtain ⟨u, s, k, w, a, b, rfl⟩ := ekI_form h
  exact bad_one u s k w a b
theorem right_is {ls : List D} (h : okEs ls = true) : right_v0 ls = rrt_v0 ls := by
  obtain ⟨h1, _⟩ := okEs_spec h
  have e : (ls.any fun d => wri_v0 (fU d) (fS d) (fK d) (fW d) (fA d) (fB d)) = ls.any badR := by
    rw [List.all_eq_true] at h1
    refine bool_ext ?_
    rw [List.any_eq_true, List.any_eq_true]
    constructor
    · rintro ⟨d, hd, hp⟩; exact ⟨d, hd, by rw [← bad_is (h1 d hd)]; exact hp⟩
    · rintro ⟨d, hd, hp⟩; exact ⟨d, hd, by rw [bad_is (h1 d hd)]; exact hp⟩
  unfold right_v0 cfi_v0 rrt_v0 iw_idx
  rw [e]
  cases ls.any badR with
  | true => rw [cond_true, decide_eq_true (by omega)]
  | false => rfl
/-- What is right, one by one. -/
theorem right_nth {ls : List D} (h : okEs ls = true) (hr : rrt_v0 ls = true) {i : Nat} (hi : i < ls.length) (hu : fU (nthD ls i) = true) :
    may_v0 (fK (nthD ls i)) (fW (nthD ls i)) (fA (nthD ls i)) (fB (nthD ls i)) = true := by
  obtain ⟨h1, _⟩ := okEs_spec h
  have hq := allE_nth h1 hi
  have hb : badR (nthD ls i) = false := by
    unfold rrt_v0 at hr
    rw [Bool.not_eq_true', List.any_eq_false] at hr
    exact Bool.eq_false_iff.2 (hr _ (nthD_mem hi))
  rw [← bad_is hq] at hb
  unfold wri_v0 at hb
  rw [hu, cond_true, Bool.or_eq_false_iff] at hb
  simpa using hb.2
theorem kind13 {k w a b : Int} (h : may_v0 k w a b = true) (hk : k = 1 ∨ k = 3) : a = 0 ∧ b = 0 := by
  unfold may_v0 at h
  rcases hk with rfl | rfl
  · have h : (isn_v0 w && (false != (a == 0 && (b == 0 && true)))) = true := h
    rw [Bool.and_eq_true] at h
    have := h.2
    simpa using this
  · have h : (isn_v0 w && (false != (a == 0 && (b == 0 && true)))) = true := h
    rw [Bool.and_eq_true] at h
    have := h.2
    simpa using this
theorem kind2 {w a b : Int} (h : may_v0 2 w a b = true) : w = 0 := by
  have h : (w == 0 && (isn_v0 a && isn_v0 b)) = true := h
  rw [Bool.and_eq_true] at h
  simpa using h.1

theorem ipt_is {ls : List D} (h : okEs ls = true) (hl : ls.length ≤ 1048576) {i : Nat} (hi : i < ls.length) (u : Bool) (s : ByteArray) (k w a b : Int) :
    ipt_v0 ls (i : Int) u s k w a b = ls.set i (itD u s k w a b) ∧ ipt_v1 ls (i : Int) = 0 ∧ ipt_pre ls (i : Int) u s k w a b = true := by
  obtain ⟨h1, h2⟩ := okEs_spec h
  obtain ⟨u', s', k', w', a', b', hform⟩ := ekI_form (allE_nth h1 hi)
  have e1 : okS (.agg [.one, .one, .one, .one, .agg [.one, .one]]) (nthD ls i) = true := by rw [hform]; rfl
  have hne : ls.isEmpty = false := by cases ls with | nil => simp at hi | cons => rfl
  have d0 : decide ((i : Int) < 0) = false := decide_eq_false (by omega)
  have d1 : decide ((ls.length : Int) ≤ (i : Int)) = false := decide_eq_false (by omega)
  refine ⟨by unfold ipt_v0; rw [d0, d1, cond_false, cond_false, Int.toNat_natCast, Nat.zero_add, seg_set], by unfold ipt_v1; rw [d0, d1]; rfl, ?_⟩
  unfold ipt_pre
  simp only [d0, d1, okEs_fits h1, hne, hform, Int.toNat_natCast, Nat.zero_add, decide_eq_true hi, beq_self, List.length_set, decide_eq_true (show ls.length * 56 ≤ 35184372088832 by omega), decide_eq_true (show (0 : Int) ≤ (i : Int) by omega), decide_eq_true (show (i : Int) < (ls.length : Int) by omega), Bool.not_false, Bool.and_true, Bool.false_or]
  rfl
theorem iof_ok {ls : List D} (h : okEs ls = true) (hl : ls.length ≤ 1048576) : iof_pre ls = true := by
  unfold iof_pre
  rw [okEs_fits (okEs_spec h).1, decide_eq_true (by omega)]; rfl
theorem nat_of {i : Int} {n : Nat} (h0 : (0 : Int) ≤ i) (h1 : i < (n : Int)) : ∃ j : Nat, i = (j : Int) ∧ j < n := ⟨i.toNat, by omega, by omega⟩
/-- Is an item there? -/
theorem has_no {ls : List D} {i : Int} (h : ihas_v0 ls i = false) : (∃ j : Nat, i = (j : Int) ∧ j < ls.length ∧ fU (nthD ls j) = false) ∨ i < 0 ∨ (ls.length : Int) ≤ i := by
  unfold ihas_v0 at h
  by_cases h0 : (0 : Int) ≤ i
  · by_cases h1 : i < (ls.length : Int)
    · obtain ⟨j, rfl, hj⟩ := nat_of h0 h1
      rw [decide_eq_true h0, decide_eq_true h1, Int.toNat_natCast] at h
      exact .inl ⟨j, rfl, hj, h⟩
    · exact .inr (.inr (by omega))
  · exact .inr (.inl (by omega))
theorem has_yes {ls : List D} {i : Int} (h : ihas_v0 ls i = true) : ∃ j : Nat, i = (j : Int) ∧ j < ls.length ∧ fU (nthD ls j) = true := by
  unfold ihas_v0 at h
  simp only [Bool.and_eq_true, decide_eq_true_eq] at h
  obtain ⟨h0, h1, h2⟩ := h
  obtain ⟨j, rfl, hj⟩ := nat_of h0 h1
  exact ⟨j, rfl, hj, by simpa using h2⟩
theorem has_pre {ls : List D} (h : okEs ls = true) (i : Int) : ihas_pre ls i = true := by
  unfold ihas_pre
  by_cases h0 : (0 : Int) ≤ i
  · by_cases h1 : i < (ls.length : Int)
    · obtain ⟨j, rfl, hj⟩ := nat_of h0 h1
      rw [Int.toNat_natCast, decide_eq_true hj, allE_nth (okEs_spec h).1 hj]; simp
    · rw [decide_eq_false h1]; simp
  · rw [decide_eq_false h0]; simp
/-- The item at a slot is held so. -/
def isAt (ls : List D) (j : Nat) (k w a b : Int) : Bool := fK (nthD ls j) == k && (fW (nthD ls j) == w && (fA (nthD ls j) == a && fB (nthD ls j) == b))
theorem toi_ok (w a b : Int) : toi_pre w a b = true := by
  unfold toi_pre
  simp only [D.eqb_self, Bool.and_true]
/-- What comes of a move, and that it may be run. -/
theorem mv_is {ls : List D} (hI : okIs ls = true) (hl : ls.length ≤ 1048576) (i k1 w1 a1 b1 k2 w2 a2 b2 : Int) :
    mv_pre ls i k1 w1 a1 b1 k2 w2 a2 b2 = true ∧
    mv_v0 ls i k1 w1 a1 b1 k2 w2 a2 b2 = (bif rrt_v0 ls then bif may_v0 k1 w1 a1 b1 then bif may_v0 k2 w2 a2 b2 then bif ihas_v0 ls i && isAt ls i.toNat k1 w1 a1 b1 then ls.set i.toNat (itD true (fS (nthD ls i.toNat)) k2 w2 a2 b2) else [] else [] else [] else []) ∧
    mv_v1 ls i k1 w1 a1 b1 k2 w2 a2 b2 = (bif rrt_v0 ls then bif may_v0 k1 w1 a1 b1 then bif may_v0 k2 w2 a2 b2 then bif ihas_v0 ls i && isAt ls i.toNat k1 w1 a1 b1 then 0 else 3 else 1 else 1 else 1) := by
  have hE := okIs_E hI
  obtain ⟨h1, h2⟩ := okEs_spec hE
  unfold mv_pre mv_v0 mv_v1
  rw [right_is hE, iwL_ok hI, iof_ok hE hl, has_pre hE]
  cases rrt_v0 ls with
  | false => exact ⟨rfl, rfl, rfl⟩
  | true =>
    cases may_v0 k1 w1 a1 b1 with
    | false => exact ⟨rfl, rfl, rfl⟩
    | true =>
      cases may_v0 k2 w2 a2 b2 with
      | false => exact ⟨rfl, rfl, rfl⟩
      | true =>
        cases hh : ihas_v0 ls i with
        | false => exact ⟨rfl, rfl, rfl⟩
        | true =>
          obtain ⟨j, rfl, hj, hu⟩ := has_yes hh
          rw [Int.toNat_natCast]
          obtain ⟨p0, p1, p2⟩ := ipt_is hE hl hj (fU (nthD ls j)) (fS (nthD ls j)) k2 w2 a2 b2
          have hu' : D.getB (nthD (D.getL (nthD ls j)) 0) = true := hu
          have p0' := p0
          have p2' := p2
          simp only [hu'] at p0' p2'
          simp only [hu', p0', p1, p2', allE_nth h1 hj, decide_eq_true hj, decide_eq_true (show (0 : Int) ≤ (j : Int) by omega), D.eqb_self, Bool.true_and, Bool.and_true, Bool.not_true, Bool.false_or, cond_true]
          rw [toi_ok, Bool.or_true]
          exact ⟨rfl, rfl, rfl⟩
theorem hasAt {ls : List D} (i w : Int) : rinh_v0 ls i w = (ihas_v0 ls i && (fK (nthD ls i.toNat) == 1 && fW (nthD ls i.toNat) == w)) := by
  unfold rinh_v0 ihas_v0
  simp only [Bool.and_assoc]
/-- In the hand: the document does not ask for the room. -/
theorem hand_is {ls : List D} (hE : okEs ls = true) (hr : rrt_v0 ls = true) (i w : Int) : rinh_v0 ls i w = (ihas_v0 ls i && isAt ls i.toNat 1 w 0 0) := by
  rw [hasAt]
  cases hh : ihas_v0 ls i with
  | false => rfl
  | true =>
    obtain ⟨j, rfl, hj, hu⟩ := has_yes hh
    rw [Int.toNat_natCast]
    have hm := right_nth hE hr hj hu
    unfold isAt
    by_cases hk : fK (nthD ls j) = 1
    · obtain ⟨ha, hb⟩ := kind13 hm (.inl hk)
      rw [ha, hb]; simp
    · have : (fK (nthD ls j) == 1) = false := by simpa using hk
      rw [this]; rfl
theorem set_is {ls : List D} (hE : okEs ls = true) (hl : ls.length ≤ 1048576) {i : Int} (hh : ihas_v0 ls i = true) (u : Bool) (s : ByteArray) (k w a b : Int) :
    rset_v0 ls i u s k w a b = ls.set i.toNat (itD u s k w a b) ∧ rset_pre ls i u s k w a b = true := by
  obtain ⟨j, rfl, hj, hu⟩ := has_yes hh
  rw [Int.toNat_natCast]
  exact rset_is hE hl hj u s k w a b
theorem same_ok {ls : List D} (h : okEs ls = true) : same_v0 ls ls = true ∧ same_pre ls ls = true := by
  unfold same_v0 same_pre
  rw [h, D.eqbL_self, beq_self]
  simp
theorem inte_ok {ls : List D} (h : okL ls = true) : inte_v0 ls ls = true ∧ inte_pre ls ls = true := by
  unfold inte_v0 inte_pre
  rw [h, D.eqbL_self, beq_self]
  simp
theorem neq_self (x : Int) : (!(x != x)) = true := by simp
theorem okEs_nil : okEs [] = true := rfl
/-- What a deed answers is a list that may be. -/
theorem okEs_ite {ls : List D} (hE : okEs ls = true) (c1 c2 c3 c4 : Bool) (i : Nat) (u : Bool) (s : ByteArray) (k w a b : Int) :
    okEs (bif c1 then bif c2 then bif c3 then bif c4 then ls.set i (itD u s k w a b) else [] else [] else [] else []) = true := by
  cases c1 <;> cases c2 <;> cases c3 <;> cases c4 <;> first | exact okEs_nil | exact okEs_set hE i u s k w a b

theorem p12_ok {ls : List D} (hI : okIs ls = true) (hl : ls.length ≤ 1048576) (i w a b : Int) : tells_p10 ls i w a b = true ∧ tells_p11 ls i w a b = true ∧ tells_p12 ls i w a b = true := by
  have hE := okIs_E hI
  obtain ⟨m0, m1, m2⟩ := mv_is hI hl i 1 w 0 0 2 0 a b
  unfold tells_p10 tells_p11 tells_p12 drop_pre rdrop_pre
  have e0 : rdrop_v0 ls i w a b = mv_v0 ls i 1 w 0 0 2 0 a b ∧ rdrop_v1 ls i w a b = mv_v1 ls i 1 w 0 0 2 0 a b := by
    rw [m1, m2, may1, may2]
    unfold rdrop_v0 rdrop_v1
    cases hr : rrt_v0 ls with
    | false => exact ⟨rfl, rfl⟩
    | true =>
      rw [hand_is hE hr]
      cases hh : ihas_v0 ls i with
      | false => cases rnum_v0 w <;> cases rref_v0 a b <;> exact ⟨rfl, rfl⟩
      | true =>
        rw [(set_is hE hl hh true _ 2 0 a b).1]
        cases rnum_v0 w <;> cases rref_v0 a b <;> cases isAt ls i.toNat 1 w 0 0 <;> exact ⟨rfl, rfl⟩
  have hok : okEs (mv_v0 ls i 1 w 0 0 2 0 a b) = true := by rw [m1]; exact okEs_ite hE _ _ _ _ _ _ _ _ _ _ _
  obtain ⟨s1, s2⟩ := same_ok hok
  rw [e0.1, e0.2, m0, hI, D.eqb_self, s1, s2, neq_self, rinh_ok (okEs_spec hE).1]
  refine ⟨rfl, ?_, rfl⟩
  cases hr : rrt_v0 ls with
  | false => rfl
  | true =>
    rw [hand_is hE hr]
    cases hh : ihas_v0 ls i with
    | false => simp
    | true =>
      obtain ⟨j, hj1, hj, hu⟩ := has_yes hh
      rw [(set_is hE hl hh true _ 2 0 a b).2, decide_eq_true (show (0 : Int) ≤ i by omega), decide_eq_true (show i.toNat < ls.length by omega), allE_nth (okEs_spec hE).1 (show i.toNat < ls.length by omega)]
      simp

end Go.Proofs.Ytnegedbjcjfndaa
