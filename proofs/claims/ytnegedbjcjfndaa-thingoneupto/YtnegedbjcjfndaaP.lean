/- Seat 16: ThingOne is true. -/
import Derived.Test.YtnegedbjcjfndaaO
namespace Go.Proofs.Ytnegedbjcjfndaa
open Go.AX
set_option maxRecDepth 100000

theorem hc_zero (ls : List D) (j : Nat) : hcF ls 0 j = 0 := by
  unfold hcF isH
  cases hb : (fU (nthD ls j) && (fK (nthD ls j) == 1 && (fA (nthD ls j) == 0 && (fB (nthD ls j) == 0 && decide (0 ≤ fW (nthD ls j)))))) with
  | false => rfl
  | true =>
    simp only [Bool.and_eq_true, decide_eq_true_eq] at hb
    have := hb.2.2.2.2
    rw [decide_eq_false (show ¬ fW (nthD ls j) < ((0 : Nat) : Int) by omega)]; rfl
theorem cnt_zero (n : Nat) : cnt (fun _ => 0) n = List.replicate n (D.int .i64 0) := by
  unfold cnt
  rw [List.map_const', List.length_range]
theorem lc_zero (ls : List D) (j : Nat) : lcF ls 0 j = hcF ls 128 j := by
  unfold lcF
  rw [decide_eq_false (Nat.not_lt_zero j), Bool.and_false]
  simp
theorem want_ok {ls : List D} (hE : okEs ls = true) (hr : rrt_v0 ls = true) {i : Nat} (hi : i < ls.length) : wantP (nthD ls i) (lcF ls ls.length i) = false := by
  unfold wantP lcF hcF isH isL
  rw [decide_eq_true hi, Bool.and_true]
  cases hu : fU (nthD ls i) with
  | false => simp
  | true =>
    have hm := right_nth hE hr hi hu
    by_cases h1 : fK (nthD ls i) = 1
    · obtain ⟨ha, hb⟩ := kind13 hm (.inl h1)
      rw [h1, ha, hb] at hm
      rw [may1] at hm
      unfold rnum_v0 at hm
      simp only [Bool.and_eq_true, decide_eq_true_eq] at hm
      rw [h1, ha, hb, decide_eq_true hm.1, decide_eq_true (show fW (nthD ls i) < ((128 : Nat) : Int) by omega)]
      simp
    · by_cases h2 : fK (nthD ls i) = 2
      · rw [h2] at hm
        rw [h2, kind2 hm]
        simp
      · by_cases h3 : fK (nthD ls i) = 3
        · rw [h3]; simp
        · exfalso
          unfold may_v0 at hm
          have e1 : (fK (nthD ls i) == 1) = false := by simpa using h1
          have e2 : (fK (nthD ls i) == 2) = false := by simpa using h2
          have e3 : (fK (nthD ls i) == 3) = false := by simpa using h3
          rw [e1, e2, e3] at hm
          simp at hm
theorem one_true {ls : List D} (hI : okIs ls = true) : FunT.run C_one [.dat (.slc (.agg [.one, .one, .one, .one, .agg [.one, .one]]) ls)] [] = some ([.dat (.bool true)], []) := by
  have hE := okIs_E hI
  have q1 : one_p1 ls = true := iwL_ok hI
  unfold FunT.run C_one
  simp only [T.run_chk, T.run_br, T.run_leaf, q1, cond_true]
  cases hc : one_c1_0 ls with
  | true => rfl
  | false =>
    unfold one_c1_0 at hc
    rw [Bool.or_eq_false_iff] at hc
    have hr : rrt_v0 ls = true := by rw [← right_is hE]; simpa using hc.1
    have hl : ls.length ≤ 60 := by
      have := of_decide_eq_false hc.2
      omega
    have q2 : one_p2 ls = true := by
      unfold one_p2
      rw [decide_eq_true (by omega), decide_eq_true (by omega), decide_eq_true (by omega)]; rfl
    have hM : okM2 ls (Int.toNat (ls.length : Int)) (Int.toNat (ls.length : Int)) = true := by
      unfold okM2
      rw [hE, Int.toNat_natCast, beq_self]; rfl
    have q3 : one_p3 ls = true := by
      unfold one_p3 one_w2v0
      rw [hM, Int.toNat_natCast, ← cnt_zero, show cnt (hcF ls 0) ls.length = cnt (fun _ => 0) ls.length from cnt_ext fun i _ => hc_zero ls i, D.eqbL_self]; rfl
    have q4 : one_p4 ls = true := by
      unfold one_p4
      rw [hM, show cnt (lcF ls 0) ls.length = cnt (hcF ls 128) ls.length from cnt_ext fun i _ => lc_zero ls i, D.eqbL_self]; rfl
    have q5 : one_p5 ls = true := by
      unfold one_p5
      rw [hM, okC_cnt]; rfl
    have c5 : one_c5_0 ls = false := by
      unfold one_c5_0
      rw [List.any_eq_false]
      intro i hi
      have hi : i < ls.length := by simpa using hi
      rw [cnt_nth _ hi]
      show ¬ wantP (nthD ls i) (lcF ls ls.length i) = true
      rw [want_ok hE hr hi]; exact Bool.false_ne_true
    simp only [q2, q3, q4, q5, c5, cond_true, cond_false]
theorem one_law (xs : List D) (h : okAll tab 8 [22] xs = true) (hs : sizeDL xs ≤ 1048576) : ∃ F, FunOk Try.prog 3 F ∧ F (xs.map .dat) [] = some ([.dat (.bool true)], []) := by
  obtain ⟨x0, xs, rfl, h0, h⟩ := okAll_cons h
  obtain rfl := okAll_nil h
  obtain ⟨l, rfl, k0⟩ := okV_slc (s := .agg [.one, .one, .one, .one, .agg [.one, .one]]) h0 rfl rfl rfl
  simp only [sizeDL, sizeD] at hs
  exact ⟨_, cone_ok, one_true (okI_of k0 (by omega))⟩

end Go.Proofs.Ytnegedbjcjfndaa
