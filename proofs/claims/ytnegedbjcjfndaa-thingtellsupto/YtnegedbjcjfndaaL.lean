/- Seat 16: all deeds are told. -/
import Derived.Test.YtnegedbjcjfndaaK
namespace Go.Proofs.Ytnegedbjcjfndaa
open Go.AX
set_option maxRecDepth 100000

theorem rpre_give {ls : List D} (hI : okIs ls = true) (hl : ls.length ≤ 1048576) (i w k t : Int) : rgive_pre ls i w k t = true := by
  have hE := okIs_E hI
  unfold rgive_pre
  rw [hI, rinh_ok (okEs_spec hE).1]
  cases hr : rrt_v0 ls with
  | false => rfl
  | true =>
    rw [hand_is hE hr]
    cases hh : ihas_v0 ls i with
    | false => simp
    | true =>
      obtain ⟨j, hj1, hj, hu⟩ := has_yes hh
      rw [(set_is hE hl hh true _ k t 0 0).2, decide_eq_true (show (0 : Int) ≤ i by omega), decide_eq_true (show i.toNat < ls.length by omega), allE_nth (okEs_spec hE).1 (show i.toNat < ls.length by omega)]
      simp
theorem give_is {ls : List D} (hI : okIs ls = true) (hl : ls.length ≤ 1048576) (i w k t : Int) (hk : k = 1 ∨ k = 3) :
    rgive_v0 ls i w k t = mv_v0 ls i 1 w 0 0 k t 0 0 ∧ rgive_v1 ls i w t = mv_v1 ls i 1 w 0 0 k t 0 0 := by
  have hE := okIs_E hI
  obtain ⟨m0, m1, m2⟩ := mv_is hI hl i 1 w 0 0 k t 0 0
  have hm : may_v0 k t 0 0 = rnum_v0 t := by
    rcases hk with rfl | rfl
    · exact may1 t
    · exact may3 t
  rw [m1, m2, may1, hm]
  unfold rgive_v0 rgive_v1
  cases hr : rrt_v0 ls with
  | false => exact ⟨rfl, rfl⟩
  | true =>
    rw [hand_is hE hr]
    cases hh : ihas_v0 ls i with
    | false => cases rnum_v0 w <;> cases rnum_v0 t <;> exact ⟨rfl, rfl⟩
    | true =>
      rw [(set_is hE hl hh true _ k t 0 0).1]
      cases rnum_v0 w <;> cases rnum_v0 t <;> cases isAt ls i.toNat 1 w 0 0 <;> exact ⟨rfl, rfl⟩
theorem mv_ok {ls : List D} (hI : okIs ls = true) (hl : ls.length ≤ 1048576) (i k1 w1 a1 b1 k2 w2 a2 b2 : Int) : okEs (mv_v0 ls i k1 w1 a1 b1 k2 w2 a2 b2) = true := by
  rw [(mv_is hI hl i k1 w1 a1 b1 k2 w2 a2 b2).2.1]
  exact okEs_ite (okIs_E hI) _ _ _ _ _ _ _ _ _ _ _
theorem p18_ok {ls : List D} (hI : okIs ls = true) (hl : ls.length ≤ 1048576) (i w t : Int) : tells_p16 ls i w t = true ∧ tells_p17 ls i w t = true ∧ tells_p18 ls i w t = true := by
  obtain ⟨e0, e1⟩ := give_is hI hl i w 1 t (.inl rfl)
  obtain ⟨s1, s2⟩ := same_ok (mv_ok hI hl i 1 w 0 0 1 t 0 0)
  unfold tells_p16 tells_p17 tells_p18 pass_pre pass_v0 pass_v1
  rw [e0, e1, (mv_is hI hl i 1 w 0 0 1 t 0 0).1, rpre_give hI hl, s1, s2, neq_self]
  exact ⟨rfl, rfl, rfl⟩
theorem p21_ok {ls : List D} (hI : okIs ls = true) (hl : ls.length ≤ 1048576) (i w t : Int) : tells_p19 ls i w t = true ∧ tells_p20 ls i w t = true ∧ tells_p21 ls i w t = true := by
  obtain ⟨e0, e1⟩ := give_is hI hl i w 3 t (.inr rfl)
  obtain ⟨s1, s2⟩ := same_ok (mv_ok hI hl i 1 w 0 0 3 t 0 0)
  unfold tells_p19 tells_p20 tells_p21 hold_pre hold_v0 hold_v1
  rw [e0, e1, (mv_is hI hl i 1 w 0 0 3 t 0 0).1, rpre_give hI hl, s1, s2, neq_self]
  exact ⟨rfl, rfl, rfl⟩
theorem scrap_is {ls : List D} (hI : okIs ls = true) (hl : ls.length ≤ 1048576) (i w : Int) :
    scrap_pre ls i w = true ∧ rscrap_pre ls i w = true ∧ scrap_v0 ls i w = rscrap_v0 ls i w ∧ scrap_v1 ls i w = rscrap_v1 ls i w ∧ okEs (scrap_v0 ls i w) = true := by
  have hE := okIs_E hI
  obtain ⟨m0, m1, m2⟩ := mv_is hI hl i 1 w 0 0 1 w 0 0
  unfold scrap_pre rscrap_pre scrap_v0 scrap_v1 rscrap_v0 rscrap_v1
  rw [m2, m0, may1, iof_ok hE hl, hI, rinh_ok (okEs_spec hE).1]
  cases hr : rrt_v0 ls with
  | false => exact ⟨rfl, rfl, rfl, rfl, rfl⟩
  | true =>
    rw [hand_is hE hr]
    cases rnum_v0 w with
    | false => exact ⟨rfl, rfl, rfl, rfl, rfl⟩
    | true =>
      cases hh : ihas_v0 ls i with
      | false => exact ⟨rfl, rfl, rfl, rfl, rfl⟩
      | true =>
        obtain ⟨j, rfl, hj, hu⟩ := has_yes hh
        rw [Int.toNat_natCast]
        obtain ⟨p0, p1, p2⟩ := ipt_is hE hl hj false { data := { toList := [] } } 0 0 0 0
        obtain ⟨q0, q1⟩ := set_is hE hl hh false { data := { toList := [] } } 0 0 0 0
        rw [Int.toNat_natCast] at q0
        rw [p0, p1, p2, q0, q1]
        cases isAt ls j 1 w 0 0 with
        | false => exact ⟨rfl, rfl, rfl, rfl, rfl⟩
        | true => exact ⟨rfl, rfl, rfl, rfl, okEs_set hE j false _ 0 0 0 0⟩
theorem p9_ok {ls : List D} (hI : okIs ls = true) (hl : ls.length ≤ 1048576) (i w : Int) : tells_p7 ls i w = true ∧ tells_p8 ls i w = true ∧ tells_p9 ls i w = true := by
  obtain ⟨e1, e2, e3, e4, e5⟩ := scrap_is hI hl i w
  obtain ⟨s1, s2⟩ := same_ok e5
  unfold tells_p7 tells_p8 tells_p9
  rw [e1, e2, ← e3, ← e4, s1, s2, neq_self]
  exact ⟨rfl, rfl, rfl⟩
theorem lies_is {ls : List D} (hE : okEs ls = true) (hr : rrt_v0 ls = true) {j : Nat} (hj : j < ls.length) (hu : fU (nthD ls j) = true) (a b : Int) :
    isAt ls j 2 0 a b = (fK (nthD ls j) == 2 && (fA (nthD ls j) == a && fB (nthD ls j) == b)) := by
  have hm := right_nth hE hr hj hu
  unfold isAt
  by_cases hk : fK (nthD ls j) = 2
  · rw [hk] at hm
    rw [kind2 hm]; simp
  · have : (fK (nthD ls j) == 2) = false := by simpa using hk
    rw [this]; rfl
theorem take_is {ls : List D} (hI : okIs ls = true) (hl : ls.length ≤ 1048576) (i w a b : Int) :
    rtake_pre ls i w a b = true ∧ rtake_v0 ls i w a b = mv_v0 ls i 2 0 a b 1 w 0 0 ∧ rtake_v1 ls i w a b = mv_v1 ls i 2 0 a b 1 w 0 0 := by
  have hE := okIs_E hI
  obtain ⟨m0, m1, m2⟩ := mv_is hI hl i 2 0 a b 1 w 0 0
  rw [m1, m2, may1, may2]
  unfold rtake_pre rtake_v0 rtake_v1
  rw [hI]
  cases hr : rrt_v0 ls with
  | false => exact ⟨rfl, rfl, rfl⟩
  | true =>
    by_cases h0 : i < 0
    · have hh : ihas_v0 ls i = false := by unfold ihas_v0; rw [decide_eq_false (show ¬ (0 : Int) ≤ i by omega)]; rfl
      rw [decide_eq_true h0, hh]
      cases rnum_v0 w <;> cases rref_v0 a b <;> exact ⟨rfl, rfl, rfl⟩
    · by_cases h1 : (ls.length : Int) ≤ i
      · have hh : ihas_v0 ls i = false := by unfold ihas_v0; rw [decide_eq_false (show ¬ i < (ls.length : Int) by omega)]; cases decide ((0 : Int) ≤ i) <;> rfl
        rw [decide_eq_false h0, decide_eq_true h1, hh]
        cases rnum_v0 w <;> cases rref_v0 a b <;> exact ⟨rfl, rfl, rfl⟩
      · obtain ⟨j, rfl, hj⟩ := nat_of (show (0 : Int) ≤ i by omega) (show i < (ls.length : Int) by omega)
        have hih : ihas_v0 ls (j : Int) = fU (nthD ls j) := by
          unfold ihas_v0
          rw [decide_eq_true (show (0 : Int) ≤ (j : Int) by omega), decide_eq_true (show (j : Int) < (ls.length : Int) by omega), Int.toNat_natCast]; rfl
        rw [decide_eq_false h0, decide_eq_false h1, Int.toNat_natCast, decide_eq_true (show (0 : Int) ≤ (j : Int) by omega), decide_eq_true hj, allE_nth (okEs_spec hE).1 hj, hih]
        cases hu : fU (nthD ls j) with
        | false =>
          have hu' : D.getB (nthD (D.getL (nthD ls j)) 0) = false := hu
          rw [hu']
          cases rnum_v0 w <;> cases rref_v0 a b <;> exact ⟨rfl, rfl, rfl⟩
        | true =>
          have hu' : D.getB (nthD (D.getL (nthD ls j)) 0) = true := hu
          obtain ⟨q0, q1⟩ := rset_is hE hl hj true (fS (nthD ls j)) 1 w 0 0
          rw [hu', q0, q1, lies_is hE hr hj hu, Bool.and_true]
          have e : (fK (nthD ls j) != 2) = !(fK (nthD ls j) == 2) := rfl
          rw [e]
          cases rnum_v0 w <;> cases rref_v0 a b <;> try exact ⟨rfl, rfl, rfl⟩
          cases (fK (nthD ls j) == 2) with
          | false => exact ⟨rfl, rfl, rfl⟩
          | true =>
            cases (fA (nthD ls j) == a && fB (nthD ls j) == b) <;> exact ⟨rfl, rfl, rfl⟩
theorem p15_ok {ls : List D} (hI : okIs ls = true) (hl : ls.length ≤ 1048576) (i w a b : Int) : tells_p13 ls i w a b = true ∧ tells_p14 ls i w a b = true ∧ tells_p15 ls i w a b = true := by
  obtain ⟨e0, e1, e2⟩ := take_is hI hl i w a b
  obtain ⟨s1, s2⟩ := same_ok (mv_ok hI hl i 2 0 a b 1 w 0 0)
  unfold tells_p13 tells_p14 tells_p15
  rw [e0, e1, e2, (mv_is hI hl i 2 0 a b 1 w 0 0).1, s1, s2, neq_self]
  exact ⟨rfl, rfl, rfl⟩
theorem idx_lt {p : D → Bool} {ls : List D} (h : ls.any p = true) : ls.findIdx p < ls.length := List.findIdx_lt_length_of_exists (by simpa [List.any_eq_true] using h)
theorem make_is {ls : List D} (hI : okIs ls = true) (hl : ls.length ≤ 1048576) {s : ByteArray} (hs : s.size ≤ 1048576) (w : Int) :
    mk_pre ls s w = true ∧ rmake_pre ls s w = true ∧ mk_v0 ls s w = rmake_v0 ls s w ∧ mk_v1 ls s w = rmake_v1 ls s w ∧ mk_v2 ls s w = rmake_v2 ls s w ∧ okEs (mk_v0 ls s w) = true := by
  have hE := okIs_E hI
  obtain ⟨h1, h2⟩ := okEs_spec hE
  obtain ⟨n1, n2⟩ := names_pre hs
  have hM : okM ls = true := by unfold okM; rw [hE, decide_eq_true hl]; rfl
  have hj : ij_okL ls ls = true := hE
  have hi : ij_idx ls ls = bif ls.any freeI then ((ls.findIdx freeI : Nat) : Int) else -1 := rfl
  have add : iad_pre ls true s 1 w 0 0 = true ∧ iad_v0 ls true s 1 w 0 0 = (bif ls.any freeI then ls.set (ls.findIdx freeI) (itD true s 1 w 0 0) else []) ∧ iad_v1 ls = (bif ls.any freeI then ((ls.findIdx freeI : Nat) : Int) else 0) ∧ iad_v2 ls = (bif ls.any freeI then 0 else 8) := by
    cases hz : ls.any freeI with
    | false =>
      rw [hz, cond_false] at hi
      have e1 : ifs_v1 ls = 8 := by unfold ifs_v1; rw [hi]; rfl
      unfold iad_pre iad_v0 iad_v1 iad_v2
      rw [e1, hj]
      exact ⟨rfl, rfl, rfl, rfl⟩
    | true =>
      rw [hz, cond_true] at hi
      have d0 : decide (((ls.findIdx freeI : Nat) : Int) < 0) = false := decide_eq_false (by omega)
      have e1 : ifs_v1 ls = 0 := by unfold ifs_v1; rw [hi, d0]; rfl
      have e0 : ifs_v0 ls = ((ls.findIdx freeI : Nat) : Int) := by unfold ifs_v0; rw [hi, d0]; rfl
      obtain ⟨p0, p1, p2⟩ := ipt_is hE hl (idx_lt hz) true s 1 w 0 0
      unfold iad_pre iad_v0 iad_v1 iad_v2
      rw [e0, e1, p0, p1, p2, hj]
      exact ⟨rfl, rfl, rfl, rfl⟩
  obtain ⟨a0, a1, a2, a3⟩ := add
  unfold mk_pre rmake_pre mk_v0 mk_v1 mk_v2 rmake_v0 rmake_v1 rmake_v2
  rw [a0, a1, a2, a3, right_is hE, iwL_ok hI, may1, names_one, n1, n2, hI, hM, iof_ok hE hl, toi_ok, D.eqb_self]
  cases rrt_v0 ls with
  | false => exact ⟨rfl, rfl, rfl, rfl, rfl, rfl⟩
  | true =>
    cases rnum_v0 w with
    | false => exact ⟨rfl, rfl, rfl, rfl, rfl, rfl⟩
    | true =>
      cases rright_v0 s with
      | false => exact ⟨rfl, rfl, rfl, rfl, rfl, rfl⟩
      | true =>
        refine ⟨rfl, rfl, rfl, rfl, rfl, ?_⟩
        cases ls.any freeI with
        | false => rfl
        | true => exact okEs_set hE _ true s 1 w 0 0
theorem p6_ok {ls : List D} (hI : okIs ls = true) (hl : ls.length ≤ 1048576) {s : ByteArray} (hs : s.size ≤ 1048576) (w : Int) : tells_p4 ls s w = true ∧ tells_p5 ls s w = true ∧ tells_p6 ls s w = true := by
  obtain ⟨e1, e2, e3, e4, e5, e6⟩ := make_is hI hl hs w
  obtain ⟨s1, s2⟩ := same_ok e6
  unfold tells_p4 tells_p5 tells_p6
  rw [e1, e2, ← e3, ← e4, ← e5, s1, s2, neq_self, neq_self, iwL_ok hI, hI, right_is (okIs_E hI)]
  refine ⟨rfl, rfl, ?_⟩
  simp

end Go.Proofs.Ytnegedbjcjfndaa
