/- Seat 17: PostApart is true. -/
import Derived.Test.YtggellmbhgkckaaDoorI
namespace Go.Proofs.YtggellmbhgkckaaDoor
open Go.AX
set_option maxRecDepth 100000
theorem apart_true {ls : List D} (h : ls.all okM = true) (hl : ls.length ≤ 1048576) : FunT.run C_ap [.dat (.slc s23 ls)] [] = some ([.dat (.bool true)], []) := by
  have h1 := okM_k h
  have q1 : ap_p1 ls = true := iwL_ok h hl
  unfold FunT.run C_ap
  simp only [T.run_chk, T.run_br, T.run_leaf, q1, cond_true]
  cases hc : ap_c1_0 ls with
  | true => rfl
  | false =>
    unfold ap_c1_0 at hc
    rw [Bool.or_eq_false_iff] at hc
    have hr : right_v0 ls = true := by simpa using hc.1
    have q3 : ap_p3 ls = true := by
      unfold ap_p3 okR
      rw [h1, hr, decide_eq_true hl]; rfl
    have hb := sumR_bd (mn_bd ls 128) ls.length
    have q4 : ap_p4 ls = true := by
      unfold ap_p4
      rw [h1, decide_eq_true hl, decide_eq_true hb.1, decide_eq_true (by omega)]; rfl
    have e : sumR (mn ls 128) ls.length = sumR (one1 ls) ls.length := sumR_ext fun i hi => by
      unfold mn one1
      cases hu : fU (nthD ls i) with
      | false => rfl
      | true =>
        obtain ⟨_, a1⟩ := right_nth h1 hr hi hu
        rw [decide_eq_true (show fI (nthD ls i) 3 < ((128 : Nat) : Int) by omega)]; rfl
    have w4 : ap_p5 ls = true := by
      unfold ap_p5 ap_w4v0
      rw [e]; simp
    simp only [q3, q4, w4, cond_true, cond_false]
theorem ok_list {n : Nat} {l : List D} (h : l.all (okV tab (n + 2) 23) = true) (hs : sizeDL l ≤ 1048576) : l.all okM = true := by
  rw [List.all_eq_true] at h ⊢
  intro d hd
  obtain ⟨xs, rfl, h1⟩ := okV_struct (h d hd) rfl rfl
  obtain ⟨x0, xs, rfl, h0, h1⟩ := okVL_cons h1
  obtain ⟨x1, xs, rfl, g1, h1⟩ := okVL_cons h1
  obtain ⟨x2, xs, rfl, g2, h1⟩ := okVL_cons h1
  obtain ⟨x3, xs, rfl, g3, h1⟩ := okVL_cons h1
  obtain ⟨x4, xs, rfl, g4, h1⟩ := okVL_cons h1
  obtain rfl := okVL_nil h1
  obtain ⟨u, rfl⟩ := okV_bool h0 rfl rfl
  obtain ⟨a, rfl, _⟩ := okV_int g1 rfl rfl
  obtain ⟨b, rfl, _⟩ := okV_int g2 rfl rfl
  obtain ⟨c, rfl, _⟩ := okV_int g3 rfl rfl
  obtain ⟨s, rfl⟩ := okV_str g4 rfl rfl
  have hm := sizeDL_mem hd
  have : s.size ≤ 1099511627776 := by
    simp only [sizeD, sizeDL] at hm
    omega
  show (true && okS s) = true
  rw [okS, decide_eq_true this]; rfl
theorem apart_law (xs : List D) (h : okAll tab 8 [24] xs = true) (hs : sizeDL xs ≤ 1048576) : ∃ F, FunOk Tryd.prog 4 F ∧ F (xs.map .dat) [] = some ([.dat (.bool true)], []) := by
  obtain ⟨x0, xs, rfl, h0, h⟩ := okAll_cons h
  obtain rfl := okAll_nil h
  obtain ⟨l, rfl, k0⟩ := okV_slc (s := s23) h0 rfl rfl rfl
  simp only [sizeDL, sizeD] at hs
  have := length_sizeDL l
  exact ⟨_, cap_ok, apart_true (ok_list k0 (by omega)) (by omega)⟩
end Go.Proofs.YtggellmbhgkckaaDoor
