/- Seat 16: ThingStays is true. -/
import Derived.Test.YtnegedbjcjfndaaV
import Derived.Test.YtnegedbjcjfndaaAx30
namespace Go.Proofs.Ytnegedbjcjfndaa
open Go.AX
set_option maxRecDepth 100000

abbrev zI : D := D.agg [D.bool false, D.str { data := { toList := [] } }, D.int .i64 0, D.int .i64 0, D.agg [D.int .i64 0, D.int .i64 0]]
theorem zI_ok : okI zI = true := by kernel_rfl
theorem zI_right : badR zI = false := by kernel_rfl
theorem nth_rep {n j : Nat} (hj : j < n) : nthD (List.replicate n zI) j = zI := by
  have hl : j < (List.replicate n zI).length := by rw [List.length_replicate]; exact hj
  exact List.eq_of_mem_replicate (nthD_mem hl)
theorem okDs_of {n : Nat} {l : List D} (h : l.all (okV tab (n + 3) 46) = true) (hs : sizeDL l ≤ 1048576) : okDs l = true := by
  have := length_sizeDL l
  unfold okDs
  rw [decide_eq_true (by omega), Bool.and_true, List.all_eq_true]
  intro d hd
  have he : okE ekD d = true := (show ekOf tab 3 46 = ekD by kernel_rfl) ▸ okV_okE (n + 3) 3 46 d (List.all_eq_true.1 h d hd)
  rw [he, Bool.true_and]
  obtain ⟨a, b, c, e, g, s, rfl⟩ : ∃ a b c e g s, d = D.agg [a, b, c, e, g, D.str s] := by
    unfold ekD at he
    obtain ⟨a, b, c, e, g, f, rfl, _, _, _, _, _, h6⟩ := okE_agg6 he
    obtain ⟨s, rfl⟩ := okE_str h6
    exact ⟨a, b, c, e, g, s, rfl⟩
  have hz := sizeDL_mem hd
  simp only [sizeD, sizeDL] at hz
  show decide (s.size ≤ 1048576) = true
  exact decide_eq_true (by omega)
theorem zero_fine (n : Nat) (hn : n < 13) : okIs (List.replicate n zI) = true ∧ rrt_v0 (List.replicate n zI) = true ∧ usN (List.replicate n zI) = 0 := by
  refine ⟨?_, ?_, ?_⟩
  · unfold okIs
    rw [List.length_replicate, decide_eq_true (by omega), Bool.and_true, List.all_eq_true]
    intro d hd
    rw [List.eq_of_mem_replicate hd]; exact zI_ok
  · refine rrt_idx.2 fun j hj => ?_
    rw [List.length_replicate] at hj
    rw [nth_rep hj]; exact zI_right
  · unfold usN
    rw [List.length_replicate, show sumR (usI (List.replicate n zI)) n = sumR (fun _ => 0) n from sumR_ext fun j hj => ?_, sumR_zero]
    unfold usI
    rw [nth_rep hj]; rfl
theorem split_us {ls : List D} (hE : okEs ls = true) (hr : rrt_v0 ls = true) : hN ls 128 + lN ls ls.length = usN ls := by
  unfold hN lN usN
  rw [← sumR_add]
  refine sumR_ext fun j hj => ?_
  unfold hW lY usI isW
  cases hu : fU (nthD ls j) with
  | false => rfl
  | true =>
    have hm := right_nth hE hr hj hu
    by_cases h1 : fK (nthD ls j) = 1
    · obtain ⟨ha, hb⟩ := kind13 hm (.inl h1)
      rw [h1, ha, hb] at hm
      rw [may1] at hm
      unfold rnum_v0 at hm
      simp only [Bool.and_eq_true, decide_eq_true_eq] at hm
      rw [h1, ha, hb, decide_eq_true hm.1, decide_eq_true (show fW (nthD ls j) < ((128 : Nat) : Int) by omega)]
      rfl
    · have e1 : (fK (nthD ls j) == 1) = false := by simpa using h1
      have e2 : (fK (nthD ls j) != 1) = true := by simpa using h1
      rw [e1, e2]; rfl
theorem stays_true {many : Int} {ds : List D} (h0 : 0 ≤ many) (h1 : many < 256) (hd : okDs ds = true) : FunT.run C_stays [.dat (.int .u8 many), .dat (.slc (.agg [.one, .one, .one, .one, .agg [.one, .one], .one]) ds)] [] = some ([.dat (.bool true)], []) := by
  obtain ⟨n, hn, hn13⟩ : ∃ n : Nat, Int.tmod (IntKind.wrap .i64 many) 13 = (n : Int) ∧ n < 13 := by
    have : IntKind.wrap .i64 many = many := by rw [IntKind.wrap_i64]; omega
    rw [this, Int.tmod_eq_emod_of_nonneg h0]
    exact ⟨(many % 13).toNat, by omega, by omega⟩
  have hlen : (List.replicate n zI).length = n := List.length_replicate
  have hseg : seg (List.replicate n zI) 0 n = List.replicate n zI := by
    have := seg_full (List.replicate n zI)
    rwa [hlen] at this
  have e1 : stays_w1v0 many = List.replicate n zI := by
    unfold stays_w1v0
    rw [hn, Int.toNat_natCast]
  have e2 : stays_w2v0 many = List.replicate n zI := by
    unfold stays_w2v0
    rw [e1, hn, Int.toNat_natCast, hseg]
  obtain ⟨z1, z2, z3⟩ := zero_fine n hn13
  have hdl : ds.length ≤ 1048576 := by
    unfold okDs at hd
    rw [Bool.and_eq_true] at hd
    exact of_decide_eq_true hd.2
  have hF : Fine n (stN ds (List.replicate n zI) 0 (endN ds)).1 (stN ds (List.replicate n zI) 0 (endN ds)).2 :=
    fine_all (L := n) (by omega) hd ⟨z1, z2, hlen, z3⟩ (endN ds) (Nat.min_le_left _ _)
  have p1 : stays_p1 many = true := by
    unfold stays_p1
    rw [hn, decide_eq_true (show (0 : Int) ≤ (n : Int) by omega), decide_eq_true (show (n : Int) ≤ (n : Int) by omega), decide_eq_true (show (n : Int) * 56 ≤ 35184372088832 by omega), decide_eq_true (show (n : Int) ≤ 35184372088832 by omega)]; rfl
  have p2 : stays_p2 many = true := by
    unfold stays_p2
    rw [e1, hlen, hn, Int.toNat_natCast, beq_self]
  have p3 : stays_p3 many ds = true := by
    unfold stays_p3 soC
    rw [e2, hd, z1, z2, z3, hlen, decide_eq_true (show n ≤ 12 by omega)]; rfl
  have hE := okIs_E hF.ok
  have q : shC (stN ds (List.replicate n zI) 0 (endN ds)).2 = true := by
    unfold shC
    rw [hE, hF.len, decide_eq_true (show n ≤ 12 by omega)]; rfl
  have p5 : stays_p5 many ds = true := by
    unfold stays_p5
    rw [e2]; exact q
  have p7 : stays_p7 many ds = true := by
    unfold stays_p7
    rw [e2]; exact q
  have w8 : stays_w8v0 many ds = true := by
    unfold stays_w8v0 stays_w5v0 stays_w7v0
    rw [e2, split_us hE hF.right, hF.us]
    have bd := us_bd hF
    rw [IntKind.wrap_i64]
    rw [beq_iff_eq]
    omega
  unfold FunT.run C_stays
  simp only [T.run_chk, T.run_leaf, p1, p2, p3, p5, p7, w8, cond_true]
theorem stays_law (xs : List D) (h : okAll tab 8 [5, 43] xs = true) (hs : sizeDL xs ≤ 1048576) : ∃ F, FunOk Try.prog 5 F ∧ F (xs.map .dat) [] = some ([.dat (.bool true)], []) := by
  obtain ⟨x0, xs, rfl, h0, h⟩ := okAll_cons h
  obtain ⟨x1, xs, rfl, h1, h⟩ := okAll_cons h
  obtain rfl := okAll_nil h
  obtain ⟨m, rfl, hm⟩ := okV_int (k := .u8) h0 rfl rfl
  obtain ⟨l, rfl, k0⟩ := okV_slc (s := .agg [.one, .one, .one, .one, .agg [.one, .one], .one]) h1 rfl rfl rfl
  simp only [sizeDL, sizeD] at hs
  simp [Lit.wf, IntKind.min, IntKind.max, IntKind.signed, IntKind.bits] at hm
  exact ⟨_, cstays_ok, stays_true (by omega) (by omega) (okDs_of k0 (by omega))⟩

end Go.Proofs.Ytnegedbjcjfndaa
