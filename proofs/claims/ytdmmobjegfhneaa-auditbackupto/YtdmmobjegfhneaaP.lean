/- Seat 20: plain facts: products, what orders need, which entries may be, their order. -/
import Derived.Test.YtdmmobjegfhneaaB
import Derived.Laws.Bits64
namespace Go.Proofs.Ytdmmobjegfhneaa
open Go.AX
theorem and32 (n : Nat) (h : n < 18446744073709551616) : ((BitVec.toNat (BitVec.ofInt 64 (n : Int) &&& BitVec.ofInt 64 4294967295) : Nat) : Int) = (n : Int) % 4294967296 := by
  have e : (BitVec.ofInt 64 4294967295).toNat = 2 ^ 32 - 1 := rfl
  rw [BitVec.toNat_and, e, Nat.and_two_pow_sub_one_eq_mod]
  have : (BitVec.ofInt 64 (n : Int)).toNat = n := by
    rw [BitVec.toNat_ofInt]
    have : ((n : Int) % ((2 ^ 64 : Nat) : Int)) = n := by omega
    rw [this]; rfl
  rw [this]; omega
theorem wrapU {n : Int} (h0 : 0 ≤ n) (h1 : n < 18446744073709551616) : IntKind.wrap .u64 n = n := by rw [IntKind.wrap_u64]; omega
theorem and32I {n : Int} (h0 : 0 ≤ n) (h1 : n < 18446744073709551616) : IntKind.wrap .u64 ((BitVec.toNat (BitVec.ofInt 64 n &&& BitVec.ofInt 64 4294967295) : Nat) : Int) = n % 4294967296 := by
  obtain ⟨k, rfl⟩ := Int.eq_ofNat_of_zero_le h0
  rw [and32 k (by omega), wrapU (by omega) (by omega)]
theorem fdiv32 (n : Int) (_ : 0 ≤ n) : Int.fdiv n 4294967296 = n / 4294967296 := by
  rw [Int.fdiv_eq_ediv_of_nonneg _ (by omega)]
theorem mul_lt {a b : Int} (ha : 0 ≤ a) (hb : 0 ≤ b) (ha1 : a ≤ 4294967295) (hb1 : b ≤ 4294967295) : 0 ≤ a * b ∧ a * b ≤ 18446744065119617025 := by
  refine ⟨Int.mul_nonneg ha hb, ?_⟩
  have := Int.mul_le_mul ha1 hb1 hb (by omega)
  omega
theorem m64_eq {a b : Int} (ha : 0 ≤ a) (ha1 : a < 18446744073709551616) (hb : 0 ≤ b) (hb1 : b < 18446744073709551616) : m64_v0 a b = a * b / 18446744073709551616 := by
  unfold m64_v0
  have e : a * b = (a / 4294967296 * (b / 4294967296)) * 18446744073709551616 + (a / 4294967296 * (b % 4294967296) + a % 4294967296 * (b / 4294967296)) * 4294967296 + a % 4294967296 * (b % 4294967296) := by
    have h1 : a = a / 4294967296 * 4294967296 + a % 4294967296 := by omega
    have h2 : b = b / 4294967296 * 4294967296 + b % 4294967296 := by omega
    generalize a / 4294967296 = x1 at *
    generalize a % 4294967296 = x0 at *
    generalize b / 4294967296 = y1 at *
    generalize b % 4294967296 = y0 at *
    subst h1 h2
    simp only [Int.add_mul, Int.mul_add]
    rw [show x1 * 4294967296 * (y1 * 4294967296) = x1 * y1 * 18446744073709551616 by rw [Int.mul_assoc, Int.mul_left_comm 4294967296, Int.mul_assoc x1]; rfl]
    rw [show x1 * 4294967296 * y0 = x1 * y0 * 4294967296 by rw [Int.mul_right_comm]]
    rw [show x0 * (y1 * 4294967296) = x0 * y1 * 4294967296 by rw [Int.mul_assoc]]
    omega
  rw [e]
  rw [and32I ha ha1, and32I hb hb1, fdiv32 a ha, fdiv32 b hb]
  obtain ⟨A0, A1⟩ := mul_lt (a := a / 4294967296) (b := b / 4294967296) (by omega) (by omega) (by omega) (by omega)
  obtain ⟨B0, B1⟩ := mul_lt (a := a / 4294967296) (b := b % 4294967296) (by omega) (by omega) (by omega) (by omega)
  obtain ⟨C0, C1⟩ := mul_lt (a := a % 4294967296) (b := b / 4294967296) (by omega) (by omega) (by omega) (by omega)
  obtain ⟨D0, D1⟩ := mul_lt (a := a % 4294967296) (b := b % 4294967296) (by omega) (by omega) (by omega) (by omega)
  generalize a / 4294967296 * (b / 4294967296) = A at *
  generalize a / 4294967296 * (b % 4294967296) = B at *
  generalize a % 4294967296 * (b / 4294967296) = C at *
  generalize a % 4294967296 * (b % 4294967296) = E at *
  rw [wrapU (n := E) (by omega) (by omega), wrapU (n := B) (by omega) (by omega), wrapU (n := A) (by omega) (by omega), wrapU (n := C) (by omega) (by omega), fdiv32 E (by omega), wrapU (n := B + E / 4294967296) (by omega) (by omega), and32I (n := B + E / 4294967296) (by omega) (by omega), fdiv32 (B + E / 4294967296) (by omega), wrapU (n := A + (B + E / 4294967296) / 4294967296) (by omega) (by omega),
    wrapU (n := (B + E / 4294967296) % 4294967296 + C) (by omega) (by omega), fdiv32 ((B + E / 4294967296) % 4294967296 + C) (by omega), IntKind.wrap_u64]
  omega
abbrev u64 (n : Int) : Bool := decide (0 ≤ n) && decide (n < 18446744073709551616)
theorem u64_iff {n : Int} : u64 n = true ↔ 0 ≤ n ∧ n < 18446744073709551616 := by simp [u64]
theorem mul_div_lt {a b : Int} (ha : 0 < a) (_ : 0 ≤ b) : (4611686018427387904 / a < b) ↔ 4611686018427387904 < a * b := by
  rw [Int.ediv_lt_iff_lt_mul ha, Int.mul_comm]
theorem ti_eq {a b : Int} (ha : u64 a = true) (hb : u64 b = true) : ti_v1 a b = rti_v1 a b ∧ ti_v0 a b = rti_v0 a b := by
  rw [u64_iff] at ha hb
  have hp : 0 ≤ a * b := Int.mul_nonneg ha.1 hb.1
  unfold ti_v1 rti_v1 ti_v0 rti_v0
  rw [m64_eq ha.1 ha.2 hb.1 hb.2]
  by_cases h0 : a = 0
  · subst h0
    rw [Int.zero_mul]
    exact ⟨rfl, rfl⟩
  · have ha0 : (a != 0) = true := bne_iff_ne.2 h0
    rw [ha0, cond_true, cond_true]
    have ht : Int.tdiv 4611686018427387904 a = 4611686018427387904 / a := by
      rw [Int.tdiv_eq_ediv_of_nonneg (by omega)]
    have hq : IntKind.wrap .u64 (4611686018427387904 / a) = 4611686018427387904 / a := by
      refine wrapU (Int.ediv_nonneg (by omega) ha.1) ?_
      have := Int.ediv_le_self (a := 4611686018427387904) a (by omega)
      omega
    rw [ht, hq]
    have hm := mul_div_lt (a := a) (b := b) (by omega) hb.1
    by_cases h1 : 4611686018427387904 < a * b
    · rw [decide_eq_true (hm.2 h1), cond_true, cond_true]
      by_cases h2 : a * b / 18446744073709551616 = 0
      · rw [show (a * b / 18446744073709551616 != 0) = false by rw [bne_eq_false_iff_eq]; exact h2, wrapU hp (by omega), decide_eq_true h1]; exact ⟨rfl, rfl⟩
      · rw [show (a * b / 18446744073709551616 != 0) = true by rw [bne_iff_ne]; exact h2]; exact ⟨rfl, rfl⟩
    · rw [decide_eq_false (fun h => h1 (hm.1 h)), cond_false, cond_false, show (a * b / 18446744073709551616 != 0) = false by rw [bne_eq_false_iff_eq]; omega, wrapU hp (by omega), decide_eq_false h1]; exact ⟨rfl, rfl⟩
theorem ti_e (a b : Int) : ti_v1 a b = 7 ∨ ti_v1 a b = 0 := by
  unfold ti_v1
  cases m64_v0 a b != 0 with
  | true => exact .inl rfl
  | false => cases decide (4611686018427387904 < IntKind.wrap IntKind.u64 (a * b)) <;> simp
theorem need_eq (s : Int) {q p : Int} (hq : u64 q = true) (hp : u64 p = true) : need_v1 s q p = rneed_v1 s q p ∧ rneed_pre s q p = true := by
  have e := (ti_eq hq hp).1
  have hpre : rneed_pre s q p = true := by
    unfold rneed_pre rti_pre
    by_cases h : q = 0
    · subst h; simp
    · rw [decide_eq_false h]; simp
  refine ⟨?_, hpre⟩
  unfold need_v1 rneed_v1
  rw [← e]
  have he : (bif ti_v1 q p != 0 then ti_v1 q p else 0) = ti_v1 q p := by rcases ti_e q p with h | h <;> rw [h] <;> rfl
  rw [he]
  by_cases h1 : s = 1
  · subst h1; rfl
  · by_cases h2 : s = 2
    · subst h2; rfl
    · rw [show (s != 1) = true from bne_iff_ne.2 h1, show (s != 2) = true from bne_iff_ne.2 h2, cond_true, cond_true]
      by_cases h3 : s < 1
      · rw [decide_eq_true h3]; rfl
      · rw [decide_eq_false h3, decide_eq_true (show 2 < s by omega)]; rfl
abbrev en (x : D) (j : Nat) : Int := D.getI (nthD (D.getL x) j)
def mayD (x : D) : Bool := may_v0 (en x 0) (en x 1) (en x 2) (en x 3) (en x 4) (en x 5) (en x 6) (en x 7) (en x 8) (en x 9)
def okEn (x : D) : Bool := okE k25 x && (u64 (en x 7) && u64 (en x 8))
theorem is_num (n : Int) : is_v0 n = num_v0 n := by
  unfold is_v0 num_v0
  congr 1
  exact decide_eq_decide.2 (by omega)
theorem may_eq {x : D} (h : okEn x = true) : rmay_v0 (en x 0) (en x 1) (en x 2) (en x 3) (en x 4) (en x 5) (en x 6) (en x 7) (en x 8) (en x 9) = mayD x ∧ rmay_pre (en x 0) (en x 1) (en x 2) (en x 3) (en x 4) (en x 7) (en x 8) = true := by
  simp only [okEn, Bool.and_eq_true] at h
  obtain ⟨e1, e2⟩ := need_eq (en x 4) (q := en x 7) (p := en x 8) (by simp only [u64, Bool.and_eq_true]; exact h.2.1) (by simp only [u64, Bool.and_eq_true]; exact h.2.2)
  constructor
  · unfold rmay_v0 mayD may_v0
    simp only [← is_num, e1, beq_self_eq_true, Bool.true_and, Bool.and_true]
    unfold cr_v0
    cases hs : en x 4 == 3 with
    | true =>
      simp only [cond_true]
      cases is_v0 (en x 9) <;> simp
    | false =>
      simp only [cond_false]
      by_cases h9 : en x 9 = 0
      · rw [h9]; simp [is_v0, Bool.and_assoc, Bool.and_comm, Bool.and_left_comm]
      · rw [show (en x 9 == 0) = false by rw [beq_eq_false_iff_ne]; exact h9]
        simp
  · unfold rmay_pre
    rw [e2]; simp
def behD (x y : D) : Bool := beh_v0 (en x 0) (en x 1) (en y 0) (en y 1)
theorem ord_beh (x y : D) : decide (0 ≤ or_v0 (cmpu_v0 (en x 0) (en y 0)) (cmpi_v0 (en x 1) (en y 1))) = !behD y x ∧ ord_pre (en x 1) (en y 1) = true := by
  refine ⟨?_, ?_⟩
  · unfold or_v0 cmpu_v0 cmpi_v0 behD beh_v0
    generalize en x 0 = a
    generalize en x 1 = b
    generalize en y 0 = c
    generalize en y 1 = d
    simp only [bne_self_eq_false, cond_false]
    rcases Int.lt_trichotomy a c with h | h | h
    · rw [decide_eq_true h]; rfl
    · subst h
      rw [decide_eq_false (Int.lt_irrefl a), beq_self_eq_true, cond_false, cond_false]
      rcases Int.lt_trichotomy b d with g | g | g
      · rw [decide_eq_true g]; rfl
      · subst g
        rw [decide_eq_false (Int.lt_irrefl b)]; rfl
      · rw [decide_eq_false (show ¬ b < d by omega), decide_eq_true g]; rfl
    · rw [decide_eq_false (show ¬ a < c by omega), decide_eq_true h, show (c == a) = false by rw [beq_eq_false_iff_ne]; omega]; rfl
  · unfold ord_pre
    rw [D.eqb_self, D.eqb_self]; rfl
end Go.Proofs.Ytdmmobjegfhneaa
