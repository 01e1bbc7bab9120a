/- Seat 17: PostKeeps is true. -/
import Derived.Test.YtggellmbhgkckaaDoorM
namespace Go.Proofs.YtggellmbhgkckaaDoor
open Go.AX
set_option maxRecDepth 100000
abbrev emp (k : Nat) : List D := List.replicate k nilM
theorem emp_seg (k : Nat) : seg (emp k) 0 k = emp k := by
  have := seg_full (emp k)
  rwa [List.length_replicate] at this
theorem emp_all (k : Nat) : (emp k).all okM = true := by
  rw [List.all_eq_true]
  intro d hd
  rw [List.eq_of_mem_replicate hd]; rfl
theorem emp_right (k : Nat) : right_v0 (emp k) = true := by
  rw [right_is, Bool.not_eq_true', List.any_eq_false]
  intro d hd
  rw [List.eq_of_mem_replicate hd]
  have : wrD nilM = false := by rfl
  rw [this]; exact Bool.false_ne_true
theorem gett_at {q : List D} {t : Nat} (ht : t < q.length) {la fm to : Int} {s : ByteArray} (hq : nthD q t = tM true la fm to s) :
    gett_v5 q t to = 0 ∧ gett_v0 q t to = true ∧ gett_v1 q t to = la ∧ gett_v2 q t to = fm ∧ gett_v3 q t to = to ∧ gett_v4 q t to = s ∧ ∀ x, x ≠ to → gett_v5 q t x = 3 := by
  have hh : ihas_v0 q (t : Int) = true := by rw [has_is ht, hq]; rfl
  have e : (to != to) = false := by simp
  refine ⟨?_, ?_, ?_, ?_, ?_, ?_, fun x hx => ?_⟩
  · unfold gett_v5; rw [hh, Int.toNat_natCast, hq]; show (bif to != to then (3 : Int) else 0) = 0; rw [e]; rfl
  · unfold gett_v0; rw [hh, Int.toNat_natCast, hq]; show (true && (!(to != to) && true)) = true; rw [e]; rfl
  · unfold gett_v1; rw [hh, Int.toNat_natCast, hq]; show (bif to != to then (0 : Int) else la) = la; rw [e]; rfl
  · unfold gett_v2; rw [hh, Int.toNat_natCast, hq]; show (bif to != to then (0 : Int) else fm) = fm; rw [e]; rfl
  · unfold gett_v3; rw [hh, Int.toNat_natCast, hq]; show (bif to != to then (0 : Int) else to) = to; rw [e]; rfl
  · unfold gett_v4; rw [hh, Int.toNat_natCast, hq]; show (bif to != to then (⟨⟨[]⟩⟩ : ByteArray) else s) = s; rw [e]; rfl
  · have e2 : (to != x) = true := by simp; exact fun h => hx h.symm
    unfold gett_v5; rw [hh, Int.toNat_natCast, hq]; show (bif to != x then (3 : Int) else 0) = 3; rw [e2]; rfl
theorem keeps_true {n : Int} (hn : 0 ≤ n ∧ n ≤ 255) (u : Bool) (la fm to : Int) {s : ByteArray} (hs : okS s = true) {ls sl : List D} (hl : ls.all okM = true) (hsl : sl.all (okE (.int .i64)) = true) :
    FunT.run C_pk [.dat (.int .u8 n), .dat (tM u la fm to s), .dat (.slc s23 ls), .dat (.slc .one sl)] [] = some ([.dat (.bool true)], []) := by
  have h9 : pk_t9 n = n := by unfold pk_t9; rw [IntKind.wrap_i64]; omega
  have hm0 : 0 ≤ Int.tmod n 13 := Int.tmod_nonneg 13 hn.1
  have hm1 : Int.tmod n 13 < 13 := Int.tmod_lt_of_pos n (by decide)
  obtain ⟨k, hk⟩ : ∃ k : Nat, Int.tmod n 13 = (k : Int) := ⟨(Int.tmod n 13).toNat, by omega⟩
  have h1 : pk_t1 n = k := by unfold pk_t1; rw [h9, hk, Int.toNat_natCast]
  have hk13 : k < 13 := by omega
  obtain ⟨g1, g2, g3⟩ := put_is (emp_all k) (by rw [List.length_replicate]; omega) la fm to hs
  have q1 : pk_p1 n u la fm to s = true := by
    unfold pk_p1
    rw [h9, hk, h1]
    show (_ && (D.eqb (pk_t12 u la fm to s) (pk_t12 u la fm to s) && (Nat.beq (emp k).length k && put_pre (seg (emp k) 0 k) la fm to s))) = true
    rw [emp_seg, g1, D.eqb_self, List.length_replicate, Nat.beq_refl, decide_eq_true (show (0 : Int) ≤ (k : Int) by omega), decide_eq_true (Int.le_refl (k : Int)), decide_eq_true (show (k : Int) * 48 ≤ 35184372088832 by omega), decide_eq_true (show (k : Int) ≤ 35184372088832 by omega)]; rfl
  have e0 : pk_w1v0 n la fm to s = put_v0 (emp k) la fm to s := by unfold pk_w1v0; rw [h1]; show put_v0 (seg (emp k) 0 k) la fm to s = _; rw [emp_seg]
  have e1 : pk_w1v1 n la fm to s = put_v1 (emp k) la fm to s := by unfold pk_w1v1; rw [h1]; show put_v1 (seg (emp k) 0 k) la fm to s = _; rw [emp_seg]
  have e2 : pk_w1v2 n la fm to s = put_v2 (emp k) la fm to s := by unfold pk_w1v2; rw [h1]; show put_v2 (seg (emp k) 0 k) la fm to s = _; rw [emp_seg]
  unfold FunT.run C_pk
  simp only [T.run_chk, T.run_br, T.run_leaf, q1, cond_true]
  cases hc : pk_c2_0 n la fm to s with
  | true =>
    have hc2 := hc
    unfold pk_c2_0 at hc2
    rw [e2] at hc2
    have q2 : pk_p2 n la fm to s = true := by
      unfold pk_p2
      rw [e0, g3 (by simpa using hc2)]; simp
    rw [q2]; rfl
  | false =>
    have hc2 := hc
    unfold pk_c2_0 at hc2
    have q2 : pk_p2 n la fm to s = true := by unfold pk_p2; rw [hc2]; rfl
    rw [e2] at hc2
    obtain ⟨_, j, hj, hu, hw, ev0, ev1⟩ := g2 (by simpa using hc2)
    have hj' : j < k := by rwa [List.length_replicate] at hj
    have hx : okM (tM true la fm to s) = true := by show (true && okS s) = true; rw [hs]; rfl
    have hK : Kps la fm to s j k ((emp k).set j (tM true la fm to s)) :=
      ⟨all_set (emp_all k) hx j, right_set (emp_right k) hw j, by rw [List.length_set, List.length_replicate], nthD_set_self hj⟩
    have f0 : pk_w1v0 n la fm to s = (emp k).set j (tM true la fm to s) := e0.trans ev0
    have f1 : pk_w1v1 n la fm to s = (j : Int) := e1.trans ev1
    have hlen : ((emp k).set j (tM true la fm to s)).length = k := hK.len
    have q3 : pk_p3 n la fm to s = true := by
      unfold pk_p3
      rw [f0, f1, hlen, decide_eq_false (show ¬ (j : Int) < 0 by omega), decide_eq_false (show ¬ (k : Int) ≤ (j : Int) by omega)]; rfl
    have q5 : pk_p5 n la fm to s ls sl = true := by
      unfold pk_p5 kpC
      rw [f0, f1, hl, hsl, hK.all, hK.right, hlen, Int.toNat_natCast, hK.at_, D.eqb_self, decide_eq_true (show (0 : Int) ≤ (j : Int) by omega), decide_eq_true hj', decide_eq_true (show k ≤ 1000 by omega)]; rfl
    have h5 : Kps la fm to s j k (pk_w5v0 n la fm to s ls sl) := by
      unfold pk_w5v0
      rw [f0, f1]
      exact kpS_ok hK hj' (by omega) hl hsl _ (by omega)
    have h5l := h5.len
    obtain ⟨a5, a0, a1, a2, a3, a4, an⟩ := gett_at (show j < (pk_w5v0 n la fm to s ls sl).length by omega) h5.at_
    have q6 : pk_p6 n la fm to s ls sl = true := by
      unfold pk_p6
      rw [f1]
      exact gett_is (okM_k h5.all) (by omega) (by omega)
    have q7 : pk_p7 n la fm to s ls sl = true := by
      unfold pk_p7
      exact (toss_is h5.all (by omega) _ _).1
    have hto : pk_t11 to ≠ to := by unfold pk_t11; rw [IntKind.wrap_i64]; omega
    have w7 : pk_w7v1 n la fm to s ls sl = 3 := by
      unfold pk_w7v1 toss_v1
      rw [f1, h5.right, an _ hto]; rfl
    have q8 : pk_p8 n la fm to s ls sl = true := by
      unfold pk_p8 pk_t15 pk_t5
      rw [f1, a5, a0, a1, a2, a3, a4, w7]; simp
    rw [q2, q3, q5, q6, q7, q8]; rfl
theorem ok_mail {m : Nat} {d : D} (h : okV tab (m + 2) 23 d = true) (hs : sizeD d ≤ 1048576) : ∃ u la fm to s, d = tM u la fm to s ∧ okS s = true := by
  obtain ⟨xs, rfl, h1⟩ := okV_struct h rfl rfl
  obtain ⟨x0, xs, rfl, h0, h1⟩ := okVL_cons h1
  obtain ⟨x1, xs, rfl, g1, h1⟩ := okVL_cons h1
  obtain ⟨x2, xs, rfl, g2, h1⟩ := okVL_cons h1
  obtain ⟨x3, xs, rfl, g3, h1⟩ := okVL_cons h1
  obtain ⟨x4, xs, rfl, g4, h1⟩ := okVL_cons h1
  obtain rfl := okVL_nil h1
  obtain ⟨u, rfl⟩ := okV_bool h0 rfl rfl
  obtain ⟨a, rfl, _⟩ := okV_int g1 rfl rfl
  obtain ⟨b, rfl, _⟩ := okV_int g2 rfl rfl
  obtain ⟨c, rfl, _⟩ := okV_int g3 rfl rfl
  obtain ⟨s, rfl⟩ := okV_str g4 rfl rfl
  refine ⟨u, a, b, c, s, rfl, ?_⟩
  have : s.size ≤ 1099511627776 := by
    simp only [sizeD, sizeDL] at hs
    omega
  exact decide_eq_true this
theorem keeps_law (xs : List D) (h : okAll tab 8 [5, 23, 24, 25] xs = true) (hs : sizeDL xs ≤ 1048576) : ∃ F, FunOk Tryd.prog 3 F ∧ F (xs.map .dat) [] = some ([.dat (.bool true)], []) := by
  obtain ⟨x0, xs, rfl, h0, h⟩ := okAll_cons h
  obtain ⟨x1, xs, rfl, h1, h⟩ := okAll_cons h
  obtain ⟨x2, xs, rfl, h2, h⟩ := okAll_cons h
  obtain ⟨x3, xs, rfl, h3, h⟩ := okAll_cons h
  obtain rfl := okAll_nil h
  obtain ⟨n, rfl, hw⟩ := okV_int h0 rfl rfl
  simp only [sizeDL] at hs
  obtain ⟨u, la, fm, to, s, rfl, hS⟩ := ok_mail h1 (by omega)
  obtain ⟨l, rfl, k0⟩ := okV_slc (s := s23) h2 rfl rfl rfl
  obtain ⟨sl, rfl, k1⟩ := okV_slc (s := .one) h3 rfl rfl rfl
  simp [Lit.wf, IntKind.min, IntKind.max, IntKind.signed, IntKind.bits] at hw
  refine ⟨_, cpk_ok, keeps_true (by omega) u la fm to hS ?_ ?_⟩
  · rw [List.all_eq_true] at k0 ⊢
    intro d hd
    have hm := sizeDL_mem hd
    simp only [sizeD] at hs
    obtain ⟨u', a', b', c', s', rfl, hS'⟩ := ok_mail (k0 d hd) (by omega)
    show (true && okS s') = true
    rw [hS']; rfl
  · rw [List.all_eq_true] at k1 ⊢
    intro d hd
    obtain ⟨z, rfl, _⟩ := okV_int (k1 d hd) rfl rfl
    rfl
end Go.Proofs.YtggellmbhgkckaaDoor
