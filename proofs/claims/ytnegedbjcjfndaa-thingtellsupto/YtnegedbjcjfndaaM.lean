/- Seat 16: ThingTells is true. -/
import Derived.Test.YtnegedbjcjfndaaL
namespace Go.Proofs.Ytnegedbjcjfndaa
open Go.AX
set_option maxRecDepth 100000

theorem colTo_congr {p q : Nat → Bool} : ∀ {n : Nat}, (∀ i, i < n → p i = q i) → colTo p n = colTo q n
  | 0, _ => rfl
  | n + 1, h => by
    have ih := colTo_congr (n := n) (fun i hi => h i (by omega))
    unfold colTo
    rw [ih, h n (by omega)]
theorem okL_col (p : Nat → Bool) {n : Nat} (hn : n ≤ 1048576) : okL (colTo p n) = true := by
  unfold okL
  have hl := colTo_len p n
  rw [decide_eq_true (by omega), Bool.and_true, List.all_eq_true]
  have h := okPl_col p n n (Nat.le_refl _)
  unfold okPl at h
  rw [List.all_eq_true] at h
  intro d hd
  have := h d hd
  simp only [Bool.and_eq_true] at this
  exact this.1
theorem held_is {ls : List D} (w : Int) : slTo ls 1 w 0 0 = rheTo ls w := by
  unfold slTo rheTo
  refine colTo_congr fun i hi => ?_
  unfold heldP isB
  rw [hasAt]
  unfold ihas_v0
  rw [decide_eq_true (show (0 : Int) ≤ (i : Int) by omega), decide_eq_true (show (i : Int) < (ls.length : Int) by omega), Int.toNat_natCast]
  simp only [Bool.true_and, Bool.and_true, Bool.and_assoc]
theorem lying_is {ls : List D} (a b : Int) : slTo ls 2 0 a b = rlyTo ls a b := by
  unfold slTo rlyTo
  refine colTo_congr fun i hi => ?_
  unfold lyP isB
  generalize (fU (nthD ls i)) = x1
  generalize (fK (nthD ls i) == 2) = x2
  generalize (fW (nthD ls i) == 0) = x3
  generalize (fA (nthD ls i) == a) = x4
  generalize (fB (nthD ls i) == b) = x5
  cases x1 <;> cases x2 <;> cases x3 <;> cases x4 <;> cases x5 <;> rfl
theorem fold_is {ls : List D} (hE : okEs ls = true) (hr : rrt_v0 ls = true) (t w : Int) : ∀ n, n ≤ ls.length → (colTo (fun i => isB 3 t 0 0 (nthD ls i)) n).foldl (frS ls w) ls = rfrTo ls t w n
  | 0, _ => rfl
  | n + 1, h => by
    have ih := fold_is hE hr t w n (by omega)
    have hp : isB 3 t 0 0 (nthD ls n) = rfrP t (nthD ls n) := by
      unfold isB
      cases hu : fU (nthD ls n) with
      | false => show false = (fU (nthD ls n) && _); rw [hu]; rfl
      | true =>
        show (true && (fK (nthD ls n) == 3 && (fW (nthD ls n) == t && (fA (nthD ls n) == 0 && fB (nthD ls n) == 0)))) = (fU (nthD ls n) && (fK (nthD ls n) == 3 && fW (nthD ls n) == t))
        rw [hu]
        have hm := right_nth hE hr (by omega) hu
        by_cases hk : fK (nthD ls n) = 3
        · obtain ⟨ha, hb⟩ := kind13 hm (.inr hk)
          rw [ha, hb]; simp
        · have : (fK (nthD ls n) == 3) = false := by simpa using hk
          rw [this]; rfl
    unfold colTo rfrTo
    rw [hp]
    cases hq : rfrP t (nthD ls n) with
    | false => exact ih
    | true =>
      have hu : fU (nthD ls n) = true := by
        unfold rfrP at hq
        rw [Bool.and_eq_true] at hq
        exact hq.1
      rw [cond_true, cond_true, List.foldl_append, ih]
      show (rfrTo ls t w n).set n (frI ls w n) = _
      unfold frI
      rw [hu]
theorem free_is {ls : List D} (hI : okIs ls = true) (hl : ls.length ≤ 1048576) (t w : Int) :
    rfree_pre ls t w = true ∧ freV ls t w = rfree_v0 ls t w ∧ freE ls t w = rfree_v1 ls t w ∧ okEs (rfree_v0 ls t w) = true := by
  have hE := okIs_E hI
  have hM : okM ls = true := by unfold okM; rw [hE, decide_eq_true hl]; rfl
  unfold rfree_pre freV freE rfree_v0 rfree_v1
  rw [right_is hE, may3, may1, hI, hM, D.eqbL_self]
  cases hr : rrt_v0 ls with
  | false => exact ⟨rfl, rfl, rfl, rfl⟩
  | true =>
    have := fold_is hE hr t w ls.length (Nat.le_refl _)
    unfold slTo
    rw [this]
    cases rnum_v0 t <;> cases rnum_v0 w <;> first | exact ⟨rfl, rfl, rfl, rfl⟩ | exact ⟨rfl, rfl, rfl, (rfrTo_ok hE t w _).1⟩
theorem was_is (ls : List D) : tells_w3v0 ls = ls := by
  unfold tells_w3v0
  rw [Nat.zero_add, seg_full]
  cases ls <;> rfl
theorem p3_ok {ls : List D} (hE : okEs ls = true) (hl : ls.length ≤ 1048576) : tells_p3 ls = true := by
  unfold tells_p3
  rw [okEs_fits (okEs_spec hE).1, Nat.zero_add, beq_self, decide_eq_true (by omega)]
  simp
theorem p24_ok {ls : List D} (hI : okIs ls = true) (hl : ls.length ≤ 1048576) (t w a b : Int) : tells_p22 ls = true ∧ tells_p23 ls w t = true ∧ tells_p24 ls w t a b = true := by
  have hE := okIs_E hI
  obtain ⟨e1, e2, e3, e4⟩ := free_is hI hl t w
  obtain ⟨s1, s2⟩ := same_ok e4
  obtain ⟨s3, s4⟩ := same_ok hE
  have i1 : okL (rheTo ls w) = true := okL_col _ hl
  have i2 : okL (rlyTo ls a b) = true := okL_col _ hl
  obtain ⟨j1, j2⟩ := inte_ok i1
  obtain ⟨j3, j4⟩ := inte_ok i2
  unfold tells_p22 tells_p23 tells_p24 held_v0 lying_v0 slots_pre rhe_pre rly_pre
  rw [held_is, lying_is, seg_full, seg_full, e1, e2, e3, s1, s2, was_is, s3, s4, hE, hI, j1, j2, j3, j4, D.eqb_self, beq_self, beq_self, decide_eq_true hl, decide_eq_true rfl]
  simp
theorem okI_of {n : Nat} {l : List D} (h : l.all (okV tab (n + 3) 30) = true) (hs : sizeDL l ≤ 1048576) : okIs l = true := by
  have := length_sizeDL l
  unfold okIs
  rw [decide_eq_true (by omega), Bool.and_true, List.all_eq_true]
  intro d hd
  have he : okE ekI d = true := (show ekOf tab 3 30 = ekI by kernel_rfl) ▸ okV_okE (n + 3) 3 30 d (List.all_eq_true.1 h d hd)
  obtain ⟨u, s, k, w, a, b, rfl⟩ := ekI_form he
  have hz := sizeDL_mem hd
  simp only [sizeD, sizeDL] at hz
  obtain ⟨n1, n2⟩ := names_pre (s := s) (by omega)
  unfold okI
  rw [he]
  show (true && (rright_pre s && nright_pre s)) = true
  rw [n1, n2]; rfl
theorem tells_law (xs : List D) (h : okAll tab 8 [22, 9, 3, 3, 3, 28] xs = true) (hs : sizeDL xs ≤ 1048576) : ∃ F, FunOk Try.prog 4 F ∧ F (xs.map .dat) [] = some ([.dat (.bool true)], []) := by
  obtain ⟨x0, xs, rfl, h0, h⟩ := okAll_cons h
  obtain ⟨x1, xs, rfl, h1, h⟩ := okAll_cons h
  obtain ⟨x2, xs, rfl, h2, h⟩ := okAll_cons h
  obtain ⟨x3, xs, rfl, h3, h⟩ := okAll_cons h
  obtain ⟨x4, xs, rfl, h4, h⟩ := okAll_cons h
  obtain ⟨x5, xs, rfl, h5, h⟩ := okAll_cons h
  obtain rfl := okAll_nil h
  obtain ⟨l, rfl, k0⟩ := okV_slc (s := .agg [.one, .one, .one, .one, .agg [.one, .one]]) h0 rfl rfl rfl
  obtain ⟨s, rfl⟩ := okV_str h1 rfl rfl
  obtain ⟨i, rfl, _⟩ := okV_int h2 rfl rfl
  obtain ⟨w, rfl, _⟩ := okV_int h3 rfl rfl
  obtain ⟨t, rfl, _⟩ := okV_int h4 rfl rfl
  have he : okE (.agg [.int .i64, .int .i64]) x5 = true := (show ekOf tab 2 28 = .agg [.int .i64, .int .i64] by kernel_rfl) ▸ okV_okE 8 2 28 x5 h5
  obtain ⟨y0, y1, rfl, g0, g1⟩ := okE_agg2 he
  obtain ⟨a, rfl⟩ := okE_int g0
  obtain ⟨b, rfl⟩ := okE_int g1
  simp only [sizeDL, sizeD] at hs
  have := length_sizeDL l
  have hI := okI_of k0 (by omega)
  have hl : l.length ≤ 1048576 := by omega
  refine ⟨_, ctells_ok, ?_⟩
  obtain ⟨a4, a5, a6⟩ := p6_ok hI hl (s := s) (by omega) w
  obtain ⟨a7, a8, a9⟩ := p9_ok hI hl i w
  obtain ⟨a10, a11, a12⟩ := p12_ok hI hl i w a b
  obtain ⟨a13, a14, a15⟩ := p15_ok hI hl i w a b
  obtain ⟨a16, a17, a18⟩ := p18_ok hI hl i w t
  obtain ⟨a19, a20, a21⟩ := p21_ok hI hl i w t
  obtain ⟨a22, a23, a24⟩ := p24_ok hI hl t w a b
  unfold FunT.run C_tells
  simp only [List.map_cons, List.map_nil, T.run_chk, T.run_br, T.run_leaf, p3_ok (okIs_E hI) hl, a4, a5, a6, a7, a8, a9, a10, a11, a12, a13, a14, a15, a16, a17, a18, a19, a20, a21, a22, a23, a24, cond_true]
  cases tells_c1_0 l <;> rfl

end Go.Proofs.Ytnegedbjcjfndaa
