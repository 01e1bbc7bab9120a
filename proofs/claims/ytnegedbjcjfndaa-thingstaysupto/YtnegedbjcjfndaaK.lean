/- Seat 16: what the code and the document say of a list is the same; all deeds. -/
import Derived.Test.YtnegedbjcjfndaaI
import Derived.Test.YtnegedbjcjfndaaAx28
import Derived.Test.YtnegedbjcjfndaaAx30
namespace Go.Proofs.Ytnegedbjcjfndaa
open Go.AX
set_option maxRecDepth 100000

theorem isn_num (n : Int) : isn_v0 n = rnum_v0 n := by
  unfold isn_v0 rnum_v0
  congr 1
  exact decide_eq_decide.2 (by omega)
theorem may1 (w : Int) : may_v0 1 w 0 0 = rnum_v0 w := by
  show (isn_v0 w && true) = _
  rw [isn_num, Bool.and_true]
theorem may3 (w : Int) : may_v0 3 w 0 0 = rnum_v0 w := by
  show (isn_v0 w && true) = _
  rw [isn_num, Bool.and_true]
theorem may2 (a b : Int) : may_v0 2 0 a b = rref_v0 a b := by
  show (isn_v0 a && isn_v0 b) = _
  rw [isn_num, isn_num]
  unfold rnum_v0 rref_v0
  rw [Bool.and_assoc]
theorem not_ne (x : Bool) : (true != x) = !x := by cases x <;> rfl
theorem bad_one (u : Bool) (s : ByteArray) (k w a b : Int) : wri_v0 u s k w a b = badR (itD u s k w a b) := by
  unfold wri_v0
  rw [names_one]
  cases u with
  | false =>
    exact not_ne _
  | true =>
    have e : rref_v0 a b = (rnum_v0 a && rnum_v0 b) := by unfold rref_v0 rnum_v0; rw [Bool.and_assoc]
    unfold may_v0
    simp only [badR, nthD, D.getL, D.getB, D.getI, D.getS, List.getD_cons_zero, List.getD_cons_succ, isn_num, e]
    by_cases h1 : k = 1
    · subst h1
      cases rnum_v0 w <;> cases rright_v0 s <;> cases (a == 0) <;> cases (b == 0) <;> rfl
    · have g1 : (k == 1) = false := by simpa using h1
      rw [g1]
      by_cases h3 : k = 3
      · subst h3
        cases rnum_v0 w <;> cases rright_v0 s <;> cases (a == 0) <;> cases (b == 0) <;> rfl
      · have g3 : (k == 3) = false := by simpa using h3
        rw [g3]
        cases (k == 2) <;> cases (w == 0) <;> cases rright_v0 s <;> cases rnum_v0 a <;> cases rnum_v0 b <;> rfl
theorem bad_is {d : D} (h : okE ekI d = true) : wri_v0 (fU d) (fS d) (fK d) (fW d) (fA d) (fB d) = badR d := by
  obtain ⟨u, s, k, w, a, b, rfl⟩ := ekI_form h
  exact bad_one u s k w a b
theorem right_is {ls : List D} (h : okEs ls = true) : right_v0 ls = rrt_v0 ls := by
  obtain ⟨h1, _⟩ := okEs_spec h
  have e : (ls.any fun d => wri_v0 (fU d) (fS d) (fK d) (fW d) (fA d) (fB d)) = ls.any badR := by
    rw [List.all_eq_true] at h1
    refine bool_ext ?_
    rw [List.any_eq_true, List.any_eq_true]
    constructor
    · rintro ⟨d, hd, hp⟩; exact ⟨d, hd, by rw [← bad_is (h1 d hd)]; exact hp⟩
    · rintro ⟨d, hd, hp⟩; exact ⟨d, hd, by rw [bad_is (h1 d hd)]; exact hp⟩
  unfold right_v0 cfi_v0 rrt_v0 iw_idx
  rw [e]
  cases ls.any badR with
  | true => rw [cond_true, decide_eq_true (by omega)]
  | false => rfl
/-- What is right, one by one. -/
theorem right_nth {ls : List D} (h : okEs ls = true) (hr : rrt_v0 ls = true) {i : Nat} (hi : i < ls.length) (hu : fU (nthD ls i) = true) :
    may_v0 (fK (nthD ls i)) (fW (nthD ls i)) (fA (nthD ls i)) (fB (nthD ls i)) = true := by
  obtain ⟨h1, _⟩ := okEs_spec h
  have hq := allE_nth h1 hi
  have hb : badR (nthD ls i) = false := by
    unfold rrt_v0 at hr
    rw [Bool.not_eq_true', List.any_eq_false] at hr
    exact Bool.eq_false_iff.2 (hr _ (nthD_mem hi))
  rw [← bad_is hq] at hb
  unfold wri_v0 at hb
  rw [hu, cond_true, Bool.or_eq_false_iff] at hb
  simpa using hb.2
theorem kind13 {k w a b : Int} (h : may_v0 k w a b = true) (hk : k = 1 ∨ k = 3) : a = 0 ∧ b = 0 := by
  unfold may_v0 at h
  rcases hk with rfl | rfl
  · have h : (isn_v0 w && (false != (a == 0 && (b == 0 && true)))) = true := h
    rw [Bool.and_eq_true] at h
    have := h.2
    simpa using this
  · have h : (isn_v0 w && (false != (a == 0 && (b == 0 && true)))) = true := h
    rw [Bool.and_eq_true] at h
    have := h.2
    simpa using this
theorem kind2 {w a b : Int} (h : may_v0 2 w a b = true) : w = 0 := by
  have h : (w == 0 && (isn_v0 a && isn_v0 b)) = true := h
  rw [Bool.and_eq_true] at h
  simpa using h.1

theorem ipt_is {ls : List D} (h : okEs ls = true) (hl : ls.length ≤ 1048576) {i : Nat} (hi : i < ls.length) (u : Bool) (s : ByteArray) (k w a b : Int) :
    ipt_v0 ls (i : Int) u s k w a b = ls.set i (itD u s k w a b) ∧ ipt_v1 ls (i : Int) = 0 ∧ ipt_pre ls (i : Int) u s k w a b = true := by
  obtain ⟨h1, h2⟩ := okEs_spec h
  obtain ⟨u', s', k', w', a', b', hform⟩ := ekI_form (allE_nth h1 hi)
  have e1 : okS (.agg [.one, .one, .one, .one, .agg [.one, .one]]) (nthD ls i) = true := by rw [hform]; rfl
  have hne : ls.isEmpty = false := by cases ls with | nil => simp at hi | cons => rfl
  have d0 : decide ((i : Int) < 0) = false := decide_eq_false (by omega)
  have d1 : decide ((ls.length : Int) ≤ (i : Int)) = false := decide_eq_false (by omega)
  refine ⟨by unfold ipt_v0; rw [d0, d1, cond_false, cond_false, Int.toNat_natCast, Nat.zero_add, seg_set], by unfold ipt_v1; rw [d0, d1]; rfl, ?_⟩
  unfold ipt_pre
  simp only [d0, d1, okEs_fits h1, hne, hform, Int.toNat_natCast, Nat.zero_add, decide_eq_true hi, beq_self, List.length_set, decide_eq_true (show ls.length * 56 ≤ 35184372088832 by omega), decide_eq_true (show (0 : Int) ≤ (i : Int) by omega), decide_eq_true (show (i : Int) < (ls.length : Int) by omega), Bool.not_false, Bool.and_true, Bool.false_or]
  rfl
theorem iof_ok {ls : List D} (h : okEs ls = true) (hl : ls.length ≤ 1048576) : iof_pre ls = true := by
  unfold iof_pre
  rw [okEs_fits (okEs_spec h).1, decide_eq_true (by omega)]; rfl
theorem nat_of {i : Int} {n : Nat} (h0 : (0 : Int) ≤ i) (h1 : i < (n : Int)) : ∃ j : Nat, i = (j : Int) ∧ j < n := ⟨i.toNat, by omega, by omega⟩
/-- Is an item there? -/
theorem has_no {ls : List D} {i : Int} (h : ihas_v0 ls i = false) : (∃ j : Nat, i = (j : Int) ∧ j < ls.length ∧ fU (nthD ls j) = false) ∨ i < 0 ∨ (ls.length : Int) ≤ i := by
  unfold ihas_v0 at h
  by_cases h0 : (0 : Int) ≤ i
  · by_cases h1 : i < (ls.length : Int)
    · obtain ⟨j, rfl, hj⟩ := nat_of h0 h1
      rw [decide_eq_true h0, decide_eq_true h1, Int.toNat_natCast] at h
      exact .inl ⟨j, rfl, hj, h⟩
    · exact .inr (.inr (by omega))
  · exact .inr (.inl (by omega))
theorem has_yes {ls : List D} {i : Int} (h : ihas_v0 ls i = true) : ∃ j : Nat, i = (j : Int) ∧ j < ls.length ∧ fU (nthD ls j) = true := by
  unfold ihas_v0 at h
  simp only [Bool.and_eq_true, decide_eq_true_eq] at h
  obtain ⟨h0, h1, h2⟩ := h
  obtain ⟨j, rfl, hj⟩ := nat_of h0 h1
  exact ⟨j, rfl, hj, by simpa using h2⟩
theorem has_pre {ls : List D} (h : okEs ls = true) (i : Int) : ihas_pre ls i = true := by
  unfold ihas_pre
  by_cases h0 : (0 : Int) ≤ i
  · by_cases h1 : i < (ls.length : Int)
    · obtain ⟨j, rfl, hj⟩ := nat_of h0 h1
      rw [Int.toNat_natCast, decide_eq_true hj, allE_nth (okEs_spec h).1 hj]; simp
    · rw [decide_eq_false h1]; simp
  · rw [decide_eq_false h0]; simp
/-- The item at a slot is held so. -/
def isAt (ls : List D) (j : Nat) (k w a b : Int) : Bool := fK (nthD ls j) == k && (fW (nthD ls j) == w && (fA (nthD ls j) == a && fB (nthD ls j) == b))
theorem toi_ok (w a b : Int) : toi_pre w a b = true := by
  unfold toi_pre
  simp only [D.eqb_self, Bool.and_true]
/-- What comes of a move, and that it may be run. -/
theorem mv_is {ls : List D} (hI : okIs ls = true) (hl : ls.length ≤ 1048576) (i k1 w1 a1 b1 k2 w2 a2 b2 : Int) :
    mv_pre ls i k1 w1 a1 b1 k2 w2 a2 b2 = true ∧
    mv_v0 ls i k1 w1 a1 b1 k2 w2 a2 b2 = (bif rrt_v0 ls then bif may_v0 k1 w1 a1 b1 then bif may_v0 k2 w2 a2 b2 then bif ihas_v0 ls i && isAt ls i.toNat k1 w1 a1 b1 then ls.set i.toNat (itD true (fS (nthD ls i.toNat)) k2 w2 a2 b2) else [] else [] else [] else []) ∧
    mv_v1 ls i k1 w1 a1 b1 k2 w2 a2 b2 = (bif rrt_v0 ls then bif may_v0 k1 w1 a1 b1 then bif may_v0 k2 w2 a2 b2 then bif ihas_v0 ls i && isAt ls i.toNat k1 w1 a1 b1 then 0 else 3 else 1 else 1 else 1) := by
  have hE := okIs_E hI
  obtain ⟨h1, h2⟩ := okEs_spec hE
  unfold mv_pre mv_v0 mv_v1
  rw [right_is hE, iwL_ok hI, iof_ok hE hl, has_pre hE]
  cases rrt_v0 ls with
  | false => exact ⟨rfl, rfl, rfl⟩
  | true =>
    cases may_v0 k1 w1 a1 b1 with
    | false => exact ⟨rfl, rfl, rfl⟩
    | true =>
      cases may_v0 k2 w2 a2 b2 with
      | false => exact ⟨rfl, rfl, rfl⟩
      | true =>
        cases hh : ihas_v0 ls i with
        | false => exact ⟨rfl, rfl, rfl⟩
        | true =>
          obtain ⟨j, rfl, hj, hu⟩ := has_yes hh
          rw [Int.toNat_natCast]
          obtain ⟨p0, p1, p2⟩ := ipt_is hE hl hj (fU (nthD ls j)) (fS (nthD ls j)) k2 w2 a2 b2
          have hu' : D.getB (nthD (D.getL (nthD ls j)) 0) = true := hu
          have p0' := p0
          have p2' := p2
          simp only [hu'] at p0' p2'
          simp only [hu', p0', p1, p2', allE_nth h1 hj, decide_eq_true hj, decide_eq_true (show (0 : Int) ≤ (j : Int) by omega), D.eqb_self, Bool.true_and, Bool.and_true, Bool.not_true, Bool.false_or, cond_true]
          rw [toi_ok, Bool.or_true]
          exact ⟨rfl, rfl, rfl⟩
theorem hasAt {ls : List D} (i w : Int) : rinh_v0 ls i w = (ihas_v0 ls i && (fK (nthD ls i.toNat) == 1 && fW (nthD ls i.toNat) == w)) := by
  unfold rinh_v0 ihas_v0
  simp only [Bool.and_assoc]
/-- In the hand: the document does not ask for the room. -/
theorem hand_is {ls : List D} (hE : okEs ls = true) (hr : rrt_v0 ls = true) (i w : Int) : rinh_v0 ls i w = (ihas_v0 ls i && isAt ls i.toNat 1 w 0 0) := by
  rw [hasAt]
  cases hh : ihas_v0 ls i with
  | false => rfl
  | true =>
    obtain ⟨j, rfl, hj, hu⟩ := has_yes hh
    rw [Int.toNat_natCast]
    have hm := right_nth hE hr hj hu
    unfold isAt
    by_cases hk : fK (nthD ls j) = 1
    · obtain ⟨ha, hb⟩ := kind13 hm (.inl hk)
      rw [ha, hb]; simp
    · have : (fK (nthD ls j) == 1) = false := by simpa using hk
      rw [this]; rfl
theorem set_is {ls : List D} (hE : okEs ls = true) (hl : ls.length ≤ 1048576) {i : Int} (hh : ihas_v0 ls i = true) (u : Bool) (s : ByteArray) (k w a b : Int) :
    rset_v0 ls i u s k w a b = ls.set i.toNat (itD u s k w a b) ∧ rset_pre ls i u s k w a b = true := by
  obtain ⟨j, rfl, hj, hu⟩ := has_yes hh
  rw [Int.toNat_natCast]
  exact rset_is hE hl hj u s k w a b
theorem same_ok {ls : List D} (h : okEs ls = true) : same_v0 ls ls = true ∧ same_pre ls ls = true := by
  unfold same_v0 same_pre
  rw [h, D.eqbL_self, beq_self]
  simp
theorem inte_ok {ls : List D} (h : okL ls = true) : inte_v0 ls ls = true ∧ inte_pre ls ls = true := by
  unfold inte_v0 inte_pre
  rw [h, D.eqbL_self, beq_self]
  simp
theorem neq_self (x : Int) : (!(x != x)) = true := by simp
theorem okEs_nil : okEs [] = true := rfl
/-- What a deed answers is a list that may be. -/
theorem okEs_ite {ls : List D} (hE : okEs ls = true) (c1 c2 c3 c4 : Bool) (i : Nat) (u : Bool) (s : ByteArray) (k w a b : Int) :
    okEs (bif c1 then bif c2 then bif c3 then bif c4 then ls.set i (itD u s k w a b) else [] else [] else [] else []) = true := by
  cases c1 <;> cases c2 <;> cases c3 <;> cases c4 <;> first | exact okEs_nil | exact okEs_set hE i u s k w a b

theorem rpre_give {ls : List D} (hI : okIs ls = true) (hl : ls.length ≤ 1048576) (i w k t : Int) : rgive_pre ls i w k t = true := by
  have hE := okIs_E hI
  unfold rgive_pre
  rw [hI, rinh_ok (okEs_spec hE).1]
  cases hr : rrt_v0 ls with
  | false => rfl
  | true =>
    rw [hand_is hE hr]
    cases hh : ihas_v0 ls i with
    | false => simp
    | true =>
      obtain ⟨j, hj1, hj, hu⟩ := has_yes hh
      rw [(set_is hE hl hh true _ k t 0 0).2, decide_eq_true (show (0 : Int) ≤ i by omega), decide_eq_true (show i.toNat < ls.length by omega), allE_nth (okEs_spec hE).1 (show i.toNat < ls.length by omega)]
      simp
theorem give_is {ls : List D} (hI : okIs ls = true) (hl : ls.length ≤ 1048576) (i w k t : Int) (hk : k = 1 ∨ k = 3) :
    rgive_v0 ls i w k t = mv_v0 ls i 1 w 0 0 k t 0 0 ∧ rgive_v1 ls i w t = mv_v1 ls i 1 w 0 0 k t 0 0 := by
  have hE := okIs_E hI
  obtain ⟨m0, m1, m2⟩ := mv_is hI hl i 1 w 0 0 k t 0 0
  have hm : may_v0 k t 0 0 = rnum_v0 t := by
    rcases hk with rfl | rfl
    · exact may1 t
    · exact may3 t
  rw [m1, m2, may1, hm]
  unfold rgive_v0 rgive_v1
  cases hr : rrt_v0 ls with
  | false => exact ⟨rfl, rfl⟩
  | true =>
    rw [hand_is hE hr]
    cases hh : ihas_v0 ls i with
    | false => cases rnum_v0 w <;> cases rnum_v0 t <;> exact ⟨rfl, rfl⟩
    | true =>
      rw [(set_is hE hl hh true _ k t 0 0).1]
      cases rnum_v0 w <;> cases rnum_v0 t <;> cases isAt ls i.toNat 1 w 0 0 <;> exact ⟨rfl, rfl⟩
theorem mv_ok {ls : List D} (hI : okIs ls = true) (hl : ls.length ≤ 1048576) (i k1 w1 a1 b1 k2 w2 a2 b2 : Int) : okEs (mv_v0 ls i k1 w1 a1 b1 k2 w2 a2 b2) = true := by
  rw [(mv_is hI hl i k1 w1 a1 b1 k2 w2 a2 b2).2.1]
  exact okEs_ite (okIs_E hI) _ _ _ _ _ _ _ _ _ _ _
theorem scrap_is {ls : List D} (hI : okIs ls = true) (hl : ls.length ≤ 1048576) (i w : Int) :
    scrap_pre ls i w = true ∧ rscrap_pre ls i w = true ∧ scrap_v0 ls i w = rscrap_v0 ls i w ∧ scrap_v1 ls i w = rscrap_v1 ls i w ∧ okEs (scrap_v0 ls i w) = true := by
  have hE := okIs_E hI
  obtain ⟨m0, m1, m2⟩ := mv_is hI hl i 1 w 0 0 1 w 0 0
  unfold scrap_pre rscrap_pre scrap_v0 scrap_v1 rscrap_v0 rscrap_v1
  rw [m2, m0, may1, iof_ok hE hl, hI, rinh_ok (okEs_spec hE).1]
  cases hr : rrt_v0 ls with
  | false => exact ⟨rfl, rfl, rfl, rfl, rfl⟩
  | true =>
    rw [hand_is hE hr]
    cases rnum_v0 w with
    | false => exact ⟨rfl, rfl, rfl, rfl, rfl⟩
    | true =>
      cases hh : ihas_v0 ls i with
      | false => exact ⟨rfl, rfl, rfl, rfl, rfl⟩
      | true =>
        obtain ⟨j, rfl, hj, hu⟩ := has_yes hh
        rw [Int.toNat_natCast]
        obtain ⟨p0, p1, p2⟩ := ipt_is hE hl hj false { data := { toList := [] } } 0 0 0 0
        obtain ⟨q0, q1⟩ := set_is hE hl hh false { data := { toList := [] } } 0 0 0 0
        rw [Int.toNat_natCast] at q0
        rw [p0, p1, p2, q0, q1]
        cases isAt ls j 1 w 0 0 with
        | false => exact ⟨rfl, rfl, rfl, rfl, rfl⟩
        | true => exact ⟨rfl, rfl, rfl, rfl, okEs_set hE j false _ 0 0 0 0⟩
theorem lies_is {ls : List D} (hE : okEs ls = true) (hr : rrt_v0 ls = true) {j : Nat} (hj : j < ls.length) (hu : fU (nthD ls j) = true) (a b : Int) :
    isAt ls j 2 0 a b = (fK (nthD ls j) == 2 && (fA (nthD ls j) == a && fB (nthD ls j) == b)) := by
  have hm := right_nth hE hr hj hu
  unfold isAt
  by_cases hk : fK (nthD ls j) = 2
  · rw [hk] at hm
    rw [kind2 hm]; simp
  · have : (fK (nthD ls j) == 2) = false := by simpa using hk
    rw [this]; rfl
theorem take_is {ls : List D} (hI : okIs ls = true) (hl : ls.length ≤ 1048576) (i w a b : Int) :
    rtake_pre ls i w a b = true ∧ rtake_v0 ls i w a b = mv_v0 ls i 2 0 a b 1 w 0 0 ∧ rtake_v1 ls i w a b = mv_v1 ls i 2 0 a b 1 w 0 0 := by
  have hE := okIs_E hI
  obtain ⟨m0, m1, m2⟩ := mv_is hI hl i 2 0 a b 1 w 0 0
  rw [m1, m2, may1, may2]
  unfold rtake_pre rtake_v0 rtake_v1
  rw [hI]
  cases hr : rrt_v0 ls with
  | false => exact ⟨rfl, rfl, rfl⟩
  | true =>
    by_cases h0 : i < 0
    · have hh : ihas_v0 ls i = false := by unfold ihas_v0; rw [decide_eq_false (show ¬ (0 : Int) ≤ i by omega)]; rfl
      rw [decide_eq_true h0, hh]
      cases rnum_v0 w <;> cases rref_v0 a b <;> exact ⟨rfl, rfl, rfl⟩
    · by_cases h1 : (ls.length : Int) ≤ i
      · have hh : ihas_v0 ls i = false := by unfold ihas_v0; rw [decide_eq_false (show ¬ i < (ls.length : Int) by omega)]; cases decide ((0 : Int) ≤ i) <;> rfl
        rw [decide_eq_false h0, decide_eq_true h1, hh]
        cases rnum_v0 w <;> cases rref_v0 a b <;> exact ⟨rfl, rfl, rfl⟩
      · obtain ⟨j, rfl, hj⟩ := nat_of (show (0 : Int) ≤ i by omega) (show i < (ls.length : Int) by omega)
        have hih : ihas_v0 ls (j : Int) = fU (nthD ls j) := by
          unfold ihas_v0
          rw [decide_eq_true (show (0 : Int) ≤ (j : Int) by omega), decide_eq_true (show (j : Int) < (ls.length : Int) by omega), Int.toNat_natCast]; rfl
        rw [decide_eq_false h0, decide_eq_false h1, Int.toNat_natCast, decide_eq_true (show (0 : Int) ≤ (j : Int) by omega), decide_eq_true hj, allE_nth (okEs_spec hE).1 hj, hih]
        cases hu : fU (nthD ls j) with
        | false =>
          have hu' : D.getB (nthD (D.getL (nthD ls j)) 0) = false := hu
          rw [hu']
          cases rnum_v0 w <;> cases rref_v0 a b <;> exact ⟨rfl, rfl, rfl⟩
        | true =>
          have hu' : D.getB (nthD (D.getL (nthD ls j)) 0) = true := hu
          obtain ⟨q0, q1⟩ := rset_is hE hl hj true (fS (nthD ls j)) 1 w 0 0
          rw [hu', q0, q1, lies_is hE hr hj hu, Bool.and_true]
          have e : (fK (nthD ls j) != 2) = !(fK (nthD ls j) == 2) := rfl
          rw [e]
          cases rnum_v0 w <;> cases rref_v0 a b <;> try exact ⟨rfl, rfl, rfl⟩
          cases (fK (nthD ls j) == 2) with
          | false => exact ⟨rfl, rfl, rfl⟩
          | true =>
            cases (fA (nthD ls j) == a && fB (nthD ls j) == b) <;> exact ⟨rfl, rfl, rfl⟩
theorem idx_lt {p : D → Bool} {ls : List D} (h : ls.any p = true) : ls.findIdx p < ls.length := List.findIdx_lt_length_of_exists (by simpa [List.any_eq_true] using h)
theorem make_is {ls : List D} (hI : okIs ls = true) (hl : ls.length ≤ 1048576) {s : ByteArray} (hs : s.size ≤ 1048576) (w : Int) :
    mk_pre ls s w = true ∧ rmake_pre ls s w = true ∧ mk_v0 ls s w = rmake_v0 ls s w ∧ mk_v1 ls s w = rmake_v1 ls s w ∧ mk_v2 ls s w = rmake_v2 ls s w ∧ okEs (mk_v0 ls s w) = true := by
  have hE := okIs_E hI
  obtain ⟨h1, h2⟩ := okEs_spec hE
  obtain ⟨n1, n2⟩ := names_pre hs
  have hM : okM ls = true := by unfold okM; rw [hE, decide_eq_true hl]; rfl
  have hj : ij_okL ls ls = true := hE
  have hi : ij_idx ls ls = bif ls.any freeI then ((ls.findIdx freeI : Nat) : Int) else -1 := rfl
  have add : iad_pre ls true s 1 w 0 0 = true ∧ iad_v0 ls true s 1 w 0 0 = (bif ls.any freeI then ls.set (ls.findIdx freeI) (itD true s 1 w 0 0) else []) ∧ iad_v1 ls = (bif ls.any freeI then ((ls.findIdx freeI : Nat) : Int) else 0) ∧ iad_v2 ls = (bif ls.any freeI then 0 else 8) := by
    cases hz : ls.any freeI with
    | false =>
      rw [hz, cond_false] at hi
      have e1 : ifs_v1 ls = 8 := by unfold ifs_v1; rw [hi]; rfl
      unfold iad_pre iad_v0 iad_v1 iad_v2
      rw [e1, hj]
      exact ⟨rfl, rfl, rfl, rfl⟩
    | true =>
      rw [hz, cond_true] at hi
      have d0 : decide (((ls.findIdx freeI : Nat) : Int) < 0) = false := decide_eq_false (by omega)
      have e1 : ifs_v1 ls = 0 := by unfold ifs_v1; rw [hi, d0]; rfl
      have e0 : ifs_v0 ls = ((ls.findIdx freeI : Nat) : Int) := by unfold ifs_v0; rw [hi, d0]; rfl
      obtain ⟨p0, p1, p2⟩ := ipt_is hE hl (idx_lt hz) true s 1 w 0 0
      unfold iad_pre iad_v0 iad_v1 iad_v2
      rw [e0, e1, p0, p1, p2, hj]
      exact ⟨rfl, rfl, rfl, rfl⟩
  obtain ⟨a0, a1, a2, a3⟩ := add
  unfold mk_pre rmake_pre mk_v0 mk_v1 mk_v2 rmake_v0 rmake_v1 rmake_v2
  rw [a0, a1, a2, a3, right_is hE, iwL_ok hI, may1, names_one, n1, n2, hI, hM, iof_ok hE hl, toi_ok, D.eqb_self]
  cases rrt_v0 ls with
  | false => exact ⟨rfl, rfl, rfl, rfl, rfl, rfl⟩
  | true =>
    cases rnum_v0 w with
    | false => exact ⟨rfl, rfl, rfl, rfl, rfl, rfl⟩
    | true =>
      cases rright_v0 s with
      | false => exact ⟨rfl, rfl, rfl, rfl, rfl, rfl⟩
      | true =>
        refine ⟨rfl, rfl, rfl, rfl, rfl, ?_⟩
        cases ls.any freeI with
        | false => rfl
        | true => exact okEs_set hE _ true s 1 w 0 0
theorem colTo_congr {p q : Nat → Bool} : ∀ {n : Nat}, (∀ i, i < n → p i = q i) → colTo p n = colTo q n
  | 0, _ => rfl
  | n + 1, h => by
    have ih := colTo_congr (n := n) (fun i hi => h i (by omega))
    unfold colTo
    rw [ih, h n (by omega)]
theorem okL_col (p : Nat → Bool) {n : Nat} (hn : n ≤ 1048576) : okL (colTo p n) = true := by
  unfold okL
  have hl := colTo_len p n
  rw [decide_eq_true (by omega), Bool.and_true, List.all_eq_true]
  have h := okPl_col p n n (Nat.le_refl _)
  unfold okPl at h
  rw [List.all_eq_true] at h
  intro d hd
  have := h d hd
  simp only [Bool.and_eq_true] at this
  exact this.1
theorem held_is {ls : List D} (w : Int) : slTo ls 1 w 0 0 = rheTo ls w := by
  unfold slTo rheTo
  refine colTo_congr fun i hi => ?_
  unfold heldP isB
  rw [hasAt]
  unfold ihas_v0
  rw [decide_eq_true (show (0 : Int) ≤ (i : Int) by omega), decide_eq_true (show (i : Int) < (ls.length : Int) by omega), Int.toNat_natCast]
  simp only [Bool.true_and, Bool.and_true, Bool.and_assoc]
theorem lying_is {ls : List D} (a b : Int) : slTo ls 2 0 a b = rlyTo ls a b := by
  unfold slTo rlyTo
  refine colTo_congr fun i hi => ?_
  unfold lyP isB
  generalize (fU (nthD ls i)) = x1
  generalize (fK (nthD ls i) == 2) = x2
  generalize (fW (nthD ls i) == 0) = x3
  generalize (fA (nthD ls i) == a) = x4
  generalize (fB (nthD ls i) == b) = x5
  cases x1 <;> cases x2 <;> cases x3 <;> cases x4 <;> cases x5 <;> rfl
theorem fold_is {ls : List D} (hE : okEs ls = true) (hr : rrt_v0 ls = true) (t w : Int) : ∀ n, n ≤ ls.length → (colTo (fun i => isB 3 t 0 0 (nthD ls i)) n).foldl (frS ls w) ls = rfrTo ls t w n
  | 0, _ => rfl
  | n + 1, h => by
    have ih := fold_is hE hr t w n (by omega)
    have hp : isB 3 t 0 0 (nthD ls n) = rfrP t (nthD ls n) := by
      unfold isB
      cases hu : fU (nthD ls n) with
      | false => show false = (fU (nthD ls n) && _); rw [hu]; rfl
      | true =>
        show (true && (fK (nthD ls n) == 3 && (fW (nthD ls n) == t && (fA (nthD ls n) == 0 && fB (nthD ls n) == 0)))) = (fU (nthD ls n) && (fK (nthD ls n) == 3 && fW (nthD ls n) == t))
        rw [hu]
        have hm := right_nth hE hr (by omega) hu
        by_cases hk : fK (nthD ls n) = 3
        · obtain ⟨ha, hb⟩ := kind13 hm (.inr hk)
          rw [ha, hb]; simp
        · have : (fK (nthD ls n) == 3) = false := by simpa using hk
          rw [this]; rfl
    unfold colTo rfrTo
    rw [hp]
    cases hq : rfrP t (nthD ls n) with
    | false => exact ih
    | true =>
      have hu : fU (nthD ls n) = true := by
        unfold rfrP at hq
        rw [Bool.and_eq_true] at hq
        exact hq.1
      rw [cond_true, cond_true, List.foldl_append, ih]
      show (rfrTo ls t w n).set n (frI ls w n) = _
      unfold frI
      rw [hu]
theorem free_is {ls : List D} (hI : okIs ls = true) (hl : ls.length ≤ 1048576) (t w : Int) :
    rfree_pre ls t w = true ∧ freV ls t w = rfree_v0 ls t w ∧ freE ls t w = rfree_v1 ls t w ∧ okEs (rfree_v0 ls t w) = true := by
  have hE := okIs_E hI
  have hM : okM ls = true := by unfold okM; rw [hE, decide_eq_true hl]; rfl
  unfold rfree_pre freV freE rfree_v0 rfree_v1
  rw [right_is hE, may3, may1, hI, hM, D.eqbL_self]
  cases hr : rrt_v0 ls with
  | false => exact ⟨rfl, rfl, rfl, rfl⟩
  | true =>
    have := fold_is hE hr t w ls.length (Nat.le_refl _)
    unfold slTo
    rw [this]
    cases rnum_v0 t <;> cases rnum_v0 w <;> first | exact ⟨rfl, rfl, rfl, rfl⟩ | exact ⟨rfl, rfl, rfl, (rfrTo_ok hE t w _).1⟩
theorem okI_of {n : Nat} {l : List D} (h : l.all (okV tab (n + 3) 30) = true) (hs : sizeDL l ≤ 1048576) : okIs l = true := by
  have := length_sizeDL l
  unfold okIs
  rw [decide_eq_true (by omega), Bool.and_true, List.all_eq_true]
  intro d hd
  have he : okE ekI d = true := (show ekOf tab 3 30 = ekI by kernel_rfl) ▸ okV_okE (n + 3) 3 30 d (List.all_eq_true.1 h d hd)
  obtain ⟨u, s, k, w, a, b, rfl⟩ := ekI_form he
  have hz := sizeDL_mem hd
  simp only [sizeD, sizeDL] at hz
  obtain ⟨n1, n2⟩ := names_pre (s := s) (by omega)
  unfold okI
  rw [he]
  show (true && (rright_pre s && nright_pre s)) = true
  rw [n1, n2]; rfl

end Go.Proofs.Ytnegedbjcjfndaa
