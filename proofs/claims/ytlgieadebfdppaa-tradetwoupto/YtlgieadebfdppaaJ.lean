/- Seat 18: TradeTwo is true. -/
import Derived.Test.YtlgieadebfdppaaI
namespace Go.Proofs.Ytlgieadebfdppaa
open Go.AX
set_option maxRecDepth 100000

theorem two_true {ls : List D} (h1 : ls.all (okE k27) = true) (hl : ls.length ≤ 1048576) : FunT.run C_two [.dat (.slc s27 ls)] [] = some ([.dat (.bool true)], []) := by
  have q1 : two_p1 ls = true := iwL_ok h1 hl
  unfold FunT.run C_two
  simp only [T.run_chk, T.run_br, T.run_leaf, q1, cond_true]
  cases hc : two_c1_0 ls with
  | true => rfl
  | false =>
    unfold two_c1_0 at hc
    rw [Bool.or_eq_false_iff] at hc
    have hr : right_v0 ls = true := by simpa using hc.1
    have q3 : two_p3 ls = true := by
      unfold two_p3 okR
      rw [h1, hr, decide_eq_true hl]; rfl
    have hb := sumR_bd (mn_bd ls 128) ls.length
    have q4 : two_p4 ls = true := by
      unfold two_p4
      rw [h1, decide_eq_true hl, decide_eq_true hb.1, decide_eq_true (by omega)]; rfl
    have e : sumR (mn ls 128) ls.length = sumR (two ls) ls.length := sumR_ext fun i hi => by
      unfold mn two
      cases hu : fU (nthD ls i) with
      | false => rfl
      | true =>
        obtain ⟨_, a1, _, b1, _⟩ := right_nth h1 hr hi hu
        rw [decide_eq_true (show fI (nthD ls i) 1 < ((128 : Nat) : Int) by omega), decide_eq_true (show fI (nthD ls i) 2 < ((128 : Nat) : Int) by omega)]; rfl
    have w4 : (two_w4v0 ls == 0) = true := by
      unfold two_w4v0
      rw [e]; simp
    simp only [q3, q4, w4, cond_true, cond_false]
theorem two_law (xs : List D) (h : okAll tab 8 [22] xs = true) (hs : sizeDL xs ≤ 1048576) : ∃ F, FunOk Try.prog 4 F ∧ F (xs.map .dat) [] = some ([.dat (.bool true)], []) := by
  obtain ⟨x0, xs, rfl, h0, h⟩ := okAll_cons h
  obtain rfl := okAll_nil h
  obtain ⟨l, rfl, k0⟩ := okV_slc (s := s27) h0 rfl rfl rfl
  simp only [sizeDL, sizeD] at hs
  have := length_sizeDL l
  obtain ⟨g1, _⟩ := ok_list k0
  exact ⟨_, ctwo_ok, two_true g1 (by omega)⟩

end Go.Proofs.Ytlgieadebfdppaa
