/- Seat 02: what was put is taken as it was. -/
import Derived.Test.YtnailhdfopoibaaJ
import Derived.Test.YtnailhdfopoibaaAx28
namespace Go.Proofs.Ytnailhdfopoibaa
open Go.AX
set_option maxRecDepth 100000

def mk (x : List D) : Sc := ⟨x, 0, true⟩
def bad (x : List D) : Sc := ⟨x, 12, true⟩

theorem pow256 (k : Nat) : (2 : Int) ^ (8 * k) = ((256 ^ k : Nat) : Int) := by
  rw [Int.pow_mul]; push_cast; rfl

theorem numU_numB_gen (N : Nat) : ∀ (k : Nat) (m : Nat), k ≤ 8 → m < 256 ^ (8 - k) → numU (m : Int) (numB (N : Int) k) = ((m * 256 ^ k + N % 256 ^ k : Nat) : Int)
  | 0, m, _, _ => by
    show ((m : Nat) : Int) = _
    simp [Nat.mod_one]
  | k + 1, m, hk, hm => by
    show numU (stepU (m : Int) (N / 2 ^ (8 * k) % 256)) (numB (N : Int) k) = _
    have h1 : m < 2 ^ 56 := by
      refine Nat.lt_of_lt_of_le hm ?_
      calc 256 ^ (8 - (k + 1)) ≤ 256 ^ 7 := Nat.pow_le_pow_right (by omega) (by omega)
        _ = 2 ^ 56 := by decide
    have e0 : ((N : Int) / 2 ^ (8 * k) % 256) = ((N / 256 ^ k % 256 : Nat) : Int) := by rw [pow256]; push_cast; rfl
    rw [e0]
    have h2 : N / 256 ^ k % 256 < 256 := Nat.mod_lt _ (by omega)
    rw [stepU_eq (by omega) (by omega) (by omega) (by omega)]
    have e1 : ((m : Int) * 256 + ((N / 256 ^ k % 256 : Nat) : Int)) = ((m * 256 + N / 256 ^ k % 256 : Nat) : Int) := by push_cast; rfl
    have e2 : (256 : Nat) ^ (8 - k) = 256 ^ (8 - (k + 1)) * 256 := by
      rw [← Nat.pow_succ]; congr 1; omega
    rw [e1, numU_numB_gen N k _ (by omega) (by rw [e2]; omega)]
    congr 1
    rw [Nat.pow_succ 256 k, Nat.mod_mul, Nat.add_mul, Nat.mul_assoc, Nat.mul_comm 256 (256 ^ k), Nat.mul_comm (N / 256 ^ k % 256)]
    omega

theorem numU_numB {n : Int} {k : Nat} (hk : k ≤ 8) (h0 : 0 ≤ n) (h1 : n < ((256 ^ k : Nat) : Int)) : numU 0 (numB n k) = n := by
  obtain ⟨N, rfl⟩ := Int.eq_ofNat_of_zero_le h0
  have := numU_numB_gen N k 0 hk (Nat.pow_pos (by omega))
  rw [show ((0 : Nat) : Int) = 0 from rfl] at this
  rw [this, Nat.mod_eq_of_lt (by omega)]
  omega

theorem pos_of {n : Int} (h : 0 ≤ n) : pos n = n := by unfold pos; rw [if_neg (by omega)]

theorem took_ok (x : List D) {n : Int} (h : 0 ≤ n) (hl : n ≤ x.length) : (mk x).takes n = x.take n.toNat ∧ (mk x).took n = mk (x.drop n.toNat) := by
  have hs : (mk x).short n = mk x := by
    unfold Sc.short Sc.rule
    have : decide (pos n ≤ (mk x).left) = true := decide_eq_true (by rw [pos_of h]; exact hl)
    rw [this]; rfl
  have hf : ((mk x).short n).fine = true := by rw [hs]; rfl
  unfold Sc.takes Sc.took
  rw [hf, cond_true, cond_true, pos_of h]
  exact ⟨rfl, rfl⟩
theorem took_short (x : List D) {n : Int} (hl : (x.length : Int) < n) : (mk x).takes n = [] ∧ (mk x).took n = bad x := by
  have h : 0 ≤ n := by omega
  have hs : (mk x).short n = bad x := by
    unfold Sc.short Sc.rule
    have : decide (pos n ≤ (mk x).left) = false := decide_eq_false (by rw [pos_of h]; show ¬ n ≤ (x.length : Int); omega)
    rw [this]; rfl
  have hf : ((mk x).short n).fine = false := by rw [hs]; rfl
  unfold Sc.takes Sc.took
  rw [hf, cond_false, cond_false, hs]
  exact ⟨rfl, rfl⟩
theorem took_bad (x : List D) (n : Int) : (bad x).takes n = [] ∧ (bad x).took n = bad x := by
  have hs : (bad x).short n = bad x := by
    unfold Sc.short Sc.rule
    cases decide (pos n ≤ (bad x).left) <;> rfl
  have hf : ((bad x).short n).fine = false := by rw [hs]; rfl
  unfold Sc.takes Sc.took
  rw [hf, cond_false, cond_false, hs]
  exact ⟨rfl, rfl⟩

/-- A scan goes along with another one, ahead of which some bytes are missing at the end. -/
def Along (t : List D) (x : List D) (d : Sc) : Prop := (∃ y, d = bad y) ∨ ∃ y, d = mk y ∧ y ++ t = x

theorem along_took {t x : List D} {d : Sc} (h : Along t x d) {n : Int} (h0 : 0 ≤ n) (_ : n ≤ x.length) : Along t (x.drop n.toNat) (d.took n) := by
  rcases h with ⟨y, rfl⟩ | ⟨y, rfl, hy⟩
  · exact .inl ⟨y, (took_bad y n).2⟩
  · by_cases hn : n ≤ y.length
    · refine .inr ⟨y.drop n.toNat, (took_ok y h0 hn).2, ?_⟩
      rw [← hy, List.drop_append_of_le_length (by omega)]
    · exact .inl ⟨y, (took_short y (by omega)).2⟩

/-! A part -/
abbrev pN (d : D) : Int := D.getI (nthD (D.getL d) 0)
abbrev pK (d : D) : Int := D.getI (nthD (D.getL d) 1)
abbrev pS (d : D) : ByteArray := D.getS (nthD (D.getL d) 2)
abbrev pT (d : D) : Bool := !decide (Array.toList (ByteArray.data (pS d)) = [])
def badP (d : D) : Bool :=
  bif decide (pK d < 1) then true else bif decide (pK d > 8) then true else bif decide ((ByteArray.size (pS d) : Int) > 255) then true else
  bif decide (pK d < 8) then (Int.fdiv (pN d) (2 ^ min (IntKind.wrap .i64 (8 * pK d)).toNat 64) != 0) else false
/-- What it is as bytes. -/
def encP (d : D) : List D := bif pT d then textD (pS d) else numB (pN d) (fitI (pK d)).toNat
/-- What is left of a scan behind it. -/
def scanP (d : D) (s : Sc) : Sc := bif pT d then s.text2 255 else s.took (fitI (pK d))

structure OkP (d : D) : Prop where
  form : okE (.agg [.int .u64, .int .i64, .str]) d = true
  n0 : 0 ≤ pN d
  n1 : pN d < 2 ^ 64
  good : badP d = false

theorem okP_spec {d : D} (h : OkP d) : 1 ≤ pK d ∧ pK d ≤ 8 ∧ (pS d).size ≤ 255 ∧ pN d < ((256 ^ (pK d).toNat : Nat) : Int) := by
  have hb := h.good
  unfold badP at hb
  cases h1 : decide (pK d < 1) with
  | true => rw [h1] at hb; simp at hb
  | false =>
    cases h2 : decide (pK d > 8) with
    | true => rw [h1, h2] at hb; simp at hb
    | false =>
      cases h3 : decide ((ByteArray.size (pS d) : Int) > 255) with
      | true => rw [h1, h2, h3] at hb; simp at hb
      | false =>
        have h1 := of_decide_eq_false h1
        have h2 := of_decide_eq_false h2
        have h3 := of_decide_eq_false h3
        refine ⟨by omega, by omega, by omega, ?_⟩
        have hb := h.good
        unfold badP at hb
        rw [decide_eq_false h1, decide_eq_false h2, decide_eq_false h3] at hb
        simp only [cond_false] at hb
        obtain ⟨k, hk⟩ := Int.eq_ofNat_of_zero_le (show 0 ≤ pK d by omega)
        rw [hk] at hb h1 h2 ⊢
        rw [Int.toNat_natCast]
        cases h4 : decide ((k : Int) < 8) with
        | true =>
          rw [h4, cond_true] at hb
          have h4 := of_decide_eq_true h4
          have e : IntKind.wrap .i64 (8 * (k : Int)) = ((8 * k : Nat) : Int) := by rw [IntKind.wrap_i64]; omega
          rw [e, Int.toNat_natCast, show min (8 * k) 64 = 8 * k by omega, pow256] at hb
          have hz : Int.fdiv (pN d) ((256 ^ k : Nat) : Int) = 0 := by simpa using hb
          rw [Int.fdiv_eq_ediv_of_nonneg _ (Int.natCast_nonneg _)] at hz
          have hp : (0 : Int) < ((256 ^ k : Nat) : Int) := by
            have := Nat.pow_pos (n := k) (show 0 < 256 by omega)
            omega
          have := Int.lt_ediv_add_one_mul_self (pN d) hp
          rw [hz] at this
          omega
        | false =>
          have h4 := of_decide_eq_false h4
          have : k = 8 := by omega
          subst this
          have := h.n1
          exact this

theorem fit_of {n : Int} (h1 : 1 ≤ n) (h2 : n ≤ 8) : fitI n = n := by unfold fitI; omega

theorem byteVs_bytesD (s : ByteArray) : byteVs (bytesD s) = s.data.toList := byteVs_bL s.data.toList
theorem bytesD_length (s : ByteArray) : (bytesD s).length = s.size := by unfold bytesD; rw [List.length_map]; rfl
theorem subStr_all (s : ByteArray) : subStr s 0 s.size = s := by
  unfold subStr
  have : ((s.data.toList.drop 0).take (s.size - 0)) = s.data.toList := by
    rw [List.drop_zero, Nat.sub_zero]
    exact List.take_of_length_le (Nat.le_refl _)
  rw [this]

theorem textD_of {s : ByteArray} (h : s.size ≤ 255) : textD s = .int .u8 (s.size : Int) :: bytesD s := by
  unfold textD textLen
  rw [Nat.min_eq_left h, subStr_all]

/-- A part that was put is taken as it was; a scan that goes along goes along. -/
theorem scan_part {d : D} (h : OkP d) (x : List D) : scanP d (mk (encP d ++ x)) = mk x ∧
    (pT d = true → byteVs (((mk (encP d ++ x)).text1 255).takes (mk (encP d ++ x)).textN) = (pS d).data.toList) ∧ (pT d = false → numU 0 ((mk (encP d ++ x)).takes (fitI (pK d))) = pN d) := by
  obtain ⟨h1, h2, h3, h4⟩ := okP_spec h
  cases ht : pT d with
  | true =>
    unfold scanP encP
    rw [ht, cond_true, cond_true, textD_of h3]
    have e1 : (mk ((.int .u8 ((pS d).size : Int) :: bytesD (pS d)) ++ x)).takes 1 = [.int .u8 ((pS d).size : Int)] := by
      rw [(took_ok _ (by omega) (by simp; omega)).1]; rfl
    have e2 : (mk ((.int .u8 ((pS d).size : Int) :: bytesD (pS d)) ++ x)).took 1 = mk (bytesD (pS d) ++ x) := by
      rw [(took_ok _ (by omega) (by simp; omega)).2]; rfl
    have e3 : (mk ((.int .u8 ((pS d).size : Int) :: bytesD (pS d)) ++ x)).textN = ((pS d).size : Int) := by
      unfold Sc.textN
      rw [e1]
      show IntKind.wrap .i64 (numU (stepU 0 ((pS d).size : Int)) []) = _
      rw [stepU_eq (by omega) (by omega) (by omega) (by omega)]
      show IntKind.wrap .i64 (0 * 256 + ((pS d).size : Int)) = _
      rw [IntKind.wrap_i64]; omega
    have e4 : (mk ((.int .u8 ((pS d).size : Int) :: bytesD (pS d)) ++ x)).text1 255 = mk (bytesD (pS d) ++ x) := by
      unfold Sc.text1
      rw [e2, e3, decide_eq_true (show ((pS d).size : Int) ≤ 255 by omega)]; rfl
    refine ⟨?_, fun _ => ?_, fun h => by simp at h⟩
    · unfold Sc.text2
      rw [e3, e4, (took_ok _ (by omega) (by rw [List.length_append, bytesD_length]; omega)).2, Int.toNat_natCast, List.drop_append_of_le_length (by rw [bytesD_length]; omega), List.drop_eq_nil_of_le (by rw [bytesD_length]; omega)]
      rfl
    · rw [e3, e4, (took_ok _ (by omega) (by rw [List.length_append, bytesD_length]; omega)).1, Int.toNat_natCast, List.take_append_of_le_length (by rw [bytesD_length]; omega), List.take_of_length_le (by rw [bytesD_length]; omega), byteVs_bytesD]
  | false =>
    unfold scanP encP
    rw [ht, cond_false, cond_false, fit_of h1 h2]
    have hl : (numB (pN d) (pK d).toNat).length = (pK d).toNat := numB_length _ _
    have hk : pK d ≤ ((numB (pN d) (pK d).toNat ++ x).length : Int) := by rw [List.length_append, hl]; omega
    refine ⟨?_, fun h => by simp at h, fun _ => ?_⟩
    · rw [(took_ok _ (by omega) hk).2, List.drop_append_of_le_length (by omega), List.drop_eq_nil_of_le (by omega)]; rfl
    · rw [(took_ok _ (by omega) hk).1, List.take_append_of_le_length (by omega), List.take_of_length_le (by omega)]
      exact numU_numB (by omega) h.n0 h4

theorem along_part {d : D} (h : OkP d) {t x : List D} {s : Sc} (hs : Along t (encP d ++ x) s) : Along t x (scanP d s) := by
  obtain ⟨h1, h2, h3, h4⟩ := okP_spec h
  cases ht : pT d with
  | false =>
    unfold encP at hs
    rw [ht, cond_false, fit_of h1 h2] at hs
    unfold scanP
    rw [ht, cond_false, fit_of h1 h2]
    have hl : (numB (pN d) (pK d).toNat).length = (pK d).toNat := numB_length _ _
    have := along_took hs (n := pK d) (by omega) (by rw [List.length_append, hl]; omega)
    rwa [List.drop_append_of_le_length (by omega), List.drop_eq_nil_of_le (by omega), List.nil_append] at this
  | true =>
    unfold encP at hs
    rw [ht, cond_true, textD_of h3] at hs
    unfold scanP
    rw [ht, cond_true]
    unfold Sc.text2
    rcases hs with ⟨y, rfl⟩ | ⟨y, rfl, hy⟩
    · refine .inl ⟨y, ?_⟩
      have e1 : (bad y).text1 255 = bad y := by
        unfold Sc.text1
        rw [(took_bad y 1).2]
        unfold Sc.rule
        cases decide ((bad y).textN ≤ 255) <;> rfl
      rw [e1, (took_bad y _).2]
    · cases y with
      | nil =>
        refine .inl ⟨[], ?_⟩
        have e0 := took_short [] (n := 1) (by simp)
        have e1 : (mk []).textN = 0 := by
          unfold Sc.textN; rw [e0.1]; rfl
        have e2 : (mk []).text1 255 = bad [] := by
          unfold Sc.text1
          rw [e0.2, e1]; rfl
        rw [e2, (took_bad [] _).2]
      | cons a y =>
        simp only [List.cons_append, List.cons.injEq] at hy
        obtain ⟨rfl, hy⟩ := hy
        have e1 : (mk (.int .u8 ((pS d).size : Int) :: y)).takes 1 = [.int .u8 ((pS d).size : Int)] := by
          rw [(took_ok _ (by omega) (by simp; omega)).1]; rfl
        have e2 : (mk (.int .u8 ((pS d).size : Int) :: y)).took 1 = mk y := by
          rw [(took_ok _ (by omega) (by simp; omega)).2]; rfl
        have e3 : (mk (.int .u8 ((pS d).size : Int) :: y)).textN = ((pS d).size : Int) := by
          unfold Sc.textN
          rw [e1]
          show IntKind.wrap .i64 (numU (stepU 0 ((pS d).size : Int)) []) = _
          rw [stepU_eq (by omega) (by omega) (by omega) (by omega)]
          show IntKind.wrap .i64 (0 * 256 + ((pS d).size : Int)) = _
          rw [IntKind.wrap_i64]; omega
        have e4 : (mk (.int .u8 ((pS d).size : Int) :: y)).text1 255 = mk y := by
          unfold Sc.text1
          rw [e2, e3, decide_eq_true (show ((pS d).size : Int) ≤ 255 by omega)]; rfl
        rw [e3, e4]
        have := along_took (t := t) (x := bytesD (pS d) ++ x) (d := mk y) (.inr ⟨y, rfl, hy⟩) (n := ((pS d).size : Int)) (by omega) (by rw [List.length_append, bytesD_length]; omega)
        rwa [Int.toNat_natCast, List.drop_append_of_le_length (by rw [bytesD_length]; omega), List.drop_eq_nil_of_le (by rw [bytesD_length]; omega), List.nil_append] at this

end Go.Proofs.Ytnailhdfopoibaa
