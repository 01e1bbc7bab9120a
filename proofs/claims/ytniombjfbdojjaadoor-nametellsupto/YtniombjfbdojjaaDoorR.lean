/- Seat 03: NameTells is true. -/
import Derived.Test.YtniombjfbdojjaaDoorQ
import Derived.Test.YtniombjfbdojjaaDoorM
namespace Go.Proofs.YtniombjfbdojjaaDoor
open Go.AX
set_option maxRecDepth 100000
theorem strAt_get {s : ByteArray} {i : Nat} (h : i < (tl s).length) : (tl s)[i] = strAt s i := by
  unfold strAt; rw [List.getD_eq_getElem?_getD, List.getElem?_eq_getElem h]; rfl
theorem all_at (s : ByteArray) (p : UInt8 → Bool) : (tl s).all p = true ↔ ∀ i, i < s.size → p (strAt s i) = true := by
  rw [List.all_eq_true]
  constructor
  · intro h i hi
    have hl : i < (tl s).length := by rw [tl_len]; exact hi
    rw [← strAt_get hl]; exact h _ (List.getElem_mem hl)
  · intro h x hx
    obtain ⟨i, hi, rfl⟩ := List.getElem_of_mem hx
    rw [strAt_get hi]; exact h i (by rw [← tl_len]; exact hi)
theorem any_range {n : Nat} {p : Nat → Bool} : (!(List.range n).any p) = true ↔ ∀ i, i < n → p i = false := by
  rw [Bool.not_eq_true', List.any_eq_false]
  constructor
  · intro h i hi
    have := h i (List.mem_range.2 hi)
    simpa using this
  · intro h i hi
    rw [h i (List.mem_range.1 hi)]; exact Bool.false_ne_true
theorem any_range' {n : Nat} {p : Nat → Bool} : (List.range n).any p = false ↔ ∀ i, i < n → p i = false := by
  rw [← any_range, Bool.not_eq_true']
theorem badR_is (s : ByteArray) (i : Nat) : badR s i = !(small_v0 (cI s i) || (!decide (i = 0) && digit_v0 (cI s i))) := by
  have e1 : ((i : Int) == (0 : Int)) = decide (i = 0) := by
    by_cases h : i = 0
    · subst h; rfl
    · rw [decide_eq_false h, beq_eq_false_iff_ne]; omega
  have e2 : decide (cI s i < 48) = !decide (48 ≤ cI s i) := by
    by_cases h : cI s i < 48
    · rw [decide_eq_true h, decide_eq_false (by omega)]; rfl
    · rw [decide_eq_false h, decide_eq_true (by omega)]; rfl
  have e3 : decide (57 < cI s i) = !decide (cI s i ≤ 57) := by
    by_cases h : 57 < cI s i
    · rw [decide_eq_true h, decide_eq_false (by omega)]; rfl
    · rw [decide_eq_false h, decide_eq_true (by omega)]; rfl
  unfold badR small_v0 digit_v0
  rw [e1, e2, e3]
  cases decide (97 ≤ cI s i) <;> cases decide (cI s i ≤ 122) <;> cases decide (i = 0) <;> cases decide (48 ≤ cI s i) <;> cases decide (cI s i ≤ 57) <;> rfl
theorem names_one (s : ByteArray) : nright_v0 s = rright_v0 s := by
  unfold nright_v0 rright_v0
  rw [sall_is]
  by_cases h0 : s.size = 0
  · rw [h0]; rfl
  · have e1 : decide ((s.size : Int) < 1) = false := decide_eq_false (by omega)
    have e2 : ((s.size : Int) == 0) = false := beq_eq_false_iff_ne.2 (by omega)
    rw [e1, e2]
    cases decide (12 < (s.size : Int)) with
    | true => rfl
    | false =>
      show (small_v0 (cI s 0) && (tl s).all sg) = !List.any (List.range s.size) (badR s)
      refine bool_ext ?_
      rw [Bool.and_eq_true, all_at, any_range]
      constructor
      · rintro ⟨h1, h2⟩ i hi
        have h3 : (small_v0 (cI s i) || digit_v0 (cI s i)) = true := h2 i hi
        rw [badR_is]
        by_cases hz : i = 0
        · subst hz; rw [h1]; rfl
        · rw [decide_eq_false hz, Bool.not_false, Bool.true_and, h3]; rfl
      · intro h
        refine ⟨?_, fun i hi => ?_⟩
        · have := h 0 (by omega)
          rw [badR_is] at this
          simpa using this
        · have := h i hi
          rw [badR_is] at this
          show (small_v0 (cI s i) || digit_v0 (cI s i)) = true
          cases hs : small_v0 (cI s i) with
          | true => rfl
          | false =>
            rw [hs] at this
            cases hd : digit_v0 (cI s i) with
            | true => rfl
            | false => rw [hd] at this; simp at this
theorem texts_one {s : ByteArray} (h : okS s = true) : rtext_pre s = true ∧ txB (tl s) = rtext_v0 s := by
  have hs := okS_iff.1 h
  by_cases h0 : s.size = 0
  · have e : tl s = [] := List.eq_nil_of_length_eq_zero (by rw [tl_len]; exact h0)
    refine ⟨?_, ?_⟩
    · unfold rtext_pre; rw [h0]; rfl
    · unfold rtext_v0; rw [e, h0]; rfl
  · have e2 : ((s.size : Int) == 0) = false := beq_eq_false_iff_ne.2 (by omega)
    have hl := tl_len s
    have ht0 : rtext_t0 s = ((s.size - 1 : Nat) : Int) := by unfold rtext_t0; rw [IntKind.wrap_i64]; omega
    have ht1 : rtext_t1 s = (strAt s (s.size - 1)).toNat := by unfold rtext_t1; rw [ht0, Int.toNat_natCast]
    refine ⟨?_, ?_⟩
    · unfold rtext_pre rtext_t2
      rw [ht0, h, Int.toNat_natCast, decide_eq_true (show 0 < s.data.toList.length by rw [tl_len]; omega), decide_eq_true (show s.size - 1 < s.data.toList.length by rw [tl_len]; omega), decide_eq_true (show (0 : Int) ≤ ((s.size - 1 : Nat) : Int) by omega)]; simp
    · have hx : (tl s).head? = some (strAt s 0) := by
        rw [List.head?_eq_getElem?, List.getElem?_eq_getElem (show 0 < (tl s).length by omega), strAt_get]
      have hy : (tl s).getLast? = some (strAt s (s.size - 1)) := by
        rw [List.getLast?_eq_getElem?, hl, List.getElem?_eq_getElem (show s.size - 1 < (tl s).length by omega), strAt_get]
      refine bool_ext ?_
      rw [txB_iff, tr_ends hx hy, all_at]
      unfold rtext_v0
      rw [e2, ht1]
      simp only [Bool.not_false, Bool.true_and, Bool.and_eq_true, Bool.not_eq_true', decide_eq_false_iff_not, any_range']
      constructor
      · rintro ⟨_, k2, k3, k4, k5⟩
        refine ⟨by omega, k4, k5, fun i hi => ?_⟩
        show (!pl (strAt s i)) = false
        rw [k3 i hi]; rfl
      · rintro ⟨k1, k2, k3, k4⟩
        refine ⟨by omega, by omega, fun i hi => ?_, k2, k3⟩
        have : (!pl (strAt s i)) = false := k4 i hi
        simpa using this
theorem cleans_one {s : ByteArray} (h : okS s = true) : rclean_pre s = true ∧ clL (tl s) = tl (rclean_v0 s) := by
  have hs := okS_iff.1 h
  have hy : dcS s s.size = trL 32 ((tl s).filter pl) := by
    unfold dcS
    rw [List.take_of_length_le (by rw [tl_len]; exact Nat.le_refl _)]
  have hC := clL_doc (tl s)
  rw [← hy] at hC
  have key : ∀ y : List UInt8, y.length ≤ s.size → (okS s && bif decide (40 < ((mkS y).size : Int)) then decide (40 ≤ (mkS y).size) && okS (subStr (mkS y) 0 40) else okS (mkS y)) = true ∧
      (bif decide (40 < ((mkS y).size : Int)) then trimR 32 (subStr (mkS y) 0 40) else trimR 32 (mkS y)) = mkS (trR 32 (y.take 40)) := fun y hyl => by
    have hok : okS (mkS y) = true := by refine okS_iff.2 ?_; rw [mkS_size]; omega
    have hsub : subStr (mkS y) 0 40 = mkS (y.take 40) := rfl
    have hok3 : okS (mkS (y.take 40)) = true := by refine okS_iff.2 ?_; rw [mkS_size, List.length_take]; omega
    rw [h, hsub, hok, hok3, mkS_size]
    by_cases hl : 40 < y.length
    · rw [decide_eq_true (show (40 : Int) < (y.length : Int) by omega), decide_eq_true (show 40 ≤ y.length by omega)]; exact ⟨rfl, rfl⟩
    · rw [decide_eq_false (show ¬ (40 : Int) < (y.length : Int) by omega), List.take_of_length_le (by omega)]; exact ⟨rfl, rfl⟩
  obtain ⟨k1, k2⟩ := key (dcS s s.size) (dcS_len s s.size)
  refine ⟨k1, ?_⟩
  have k3 : rclean_v0 s = mkS (trR 32 ((dcS s s.size).take 40)) := k2
  rw [k3, hC]
theorem tells_true {s : ByteArray} (h : okS s = true) : FunT.run C_ntl [.dat (.str s)] [] = some ([.dat (.bool true)], []) := by
  obtain ⟨t1, t2⟩ := texts_one h
  obtain ⟨c1, c2⟩ := cleans_one h
  have r1 : rright_pre s = true := by unfold rright_pre; rw [h]; simp
  have p : ntl_p2 s = true := by
    unfold ntl_p2
    rw [nright_ok h, r1, names_one, h, t1, t2, c1, c2, decide_eq_true rfl]; simp
  unfold FunT.run C_ntl
  simp only [T.run_chk, T.run_br, T.run_leaf, p, cond_true]
  cases ntl_c1_0 s <;> rfl
theorem tells_law (xs : List D) (h : okAll tab 8 [9] xs = true) (hs : sizeDL xs ≤ 1048576) : ∃ F, FunOk Tryd.prog 3 F ∧ F (xs.map .dat) [] = some ([.dat (.bool true)], []) := by
  obtain ⟨x0, xs, rfl, h0, h⟩ := okAll_cons h
  obtain rfl := okAll_nil h
  obtain ⟨v, rfl⟩ := okV_str h0 rfl rfl
  simp only [sizeDL, sizeD] at hs
  exact ⟨_, cntl_ok, tells_true (okS_iff.2 (by omega))⟩
end Go.Proofs.YtniombjfbdojjaaDoor
