/- Seat 08: Open, in better words. -/
import Derived.Test.YtfajnpnmghbdpaaF
namespace Go.Proofs.Ytfajnpnmghbdpaa
open Go.AX
set_option maxRecDepth 100000

theorem numU_snoc (d : D) : ∀ (l : List D) (m : Int), numU m (l ++ [d]) = stepU (numU m l) d.getI
  | [], _ => rfl
  | a :: l, m => numU_snoc d l (stepU m a.getI)

theorem numU_bound {l : List D} (h : l.all okB = true) (hl : l.length ≤ 8) : numR 0 l = numU 0 l ∧ 0 ≤ numU 0 l ∧ numU 0 l < 256 ^ l.length := by
  have := num_same l 0 0 h (by omega) (by decide) (by omega)
  rw [Nat.zero_add] at this
  exact ⟨this.1.symm, this.2.1, this.2.2⟩

theorem numB_numU : ∀ (k : Nat) (l : List D), l.all okB = true → l.length = k → k ≤ 8 → numB (numU 0 l) k = l
  | 0, l, _, hl, _ => by
    have : l = [] := List.length_eq_zero_iff.1 hl
    subst this; rfl
  | k + 1, l, h, hl, hk => by
    obtain ⟨a, d, rfl⟩ : ∃ a d, l = a ++ [d] := ⟨l.dropLast, l.getLast (by intro h; subst h; simp at hl), (List.dropLast_concat_getLast _).symm⟩
    rw [List.all_append, Bool.and_eq_true] at h
    obtain ⟨x, rfl, h0, h1⟩ := okB_spec (d := d) (by simpa using h.2)
    have hla : a.length = k := by simpa using hl
    obtain ⟨_, b0, b1⟩ := numU_bound h.1 (by omega)
    have hp : (256 : Int) ^ a.length ≤ 2 ^ 56 := by
      rw [hla]
      have : (256 : Int) ^ k = ((256 ^ k : Nat) : Int) := by push_cast; rfl
      have h7 : 256 ^ k ≤ 256 ^ 7 := Nat.pow_le_pow_right (by omega) (by omega)
      have h8 : (256 : Nat) ^ 7 = 2 ^ 56 := by decide
      rw [this]; omega
    rw [numU_snoc, show D.getI (.int .u8 x) = x from rfl, stepU_eq b0 (by omega) h0 h1, numB_last]
    have e1 : (numU 0 a * 256 + x) / 256 = numU 0 a := by omega
    rw [e1, numB_numU k a h.1 hla (by omega)]
    congr 1
    unfold byteAt
    simp only [Nat.mul_zero, Int.pow_zero, Int.ediv_one]
    congr 2
    omega

theorem numU_inj {a b : List D} (ha : a.all okB = true) (hb : b.all okB = true) (hl : a.length = b.length) (h8 : a.length ≤ 8) (h : numU 0 a = numU 0 b) : a = b := by
  have h1 := numB_numU a.length a ha rfl h8
  have h2 := numB_numU a.length b hb hl.symm h8
  rw [← h1, h, h2]

/-! The parts of 128 bytes. -/
abbrev firstD (ds : List D) : List D := seg ds 0 8
abbrev lastD (ds : List D) : List D := seg ds 120 (ds.length - 120)
abbrev loadD (ds : List D) : List D := seg ds 8 108
abbrev bodyD (ds : List D) : List D := seg ds 0 116
abbrev markD (ds : List D) : List D := seg ds 116 4
def openE (ds : List D) : Int :=
  bif decide ((ds.length : Int) < 128) then 12 else bif decide ((ds.length : Int) > 128) then 13 else
  bif D.eqbL (firstD ds) (lastD ds) && mayB (numU 0 (firstD ds)) then bif numU 0 (markD ds) != toI (sumW (bodyD ds)) then 14 else 0 else 2
def openN (ds : List D) : Int := bif openE ds == 0 then numU 0 (firstD ds) else 0
def openL (ds : List D) : List D := bif openE ds == 0 then loadD ds else []

theorem seg_of (ds : List D) (l n : Nat) (h : l ≤ ds.length) (h2 : n < ds.length) : seg ds l n = (ds.drop l).take n := by
  unfold seg
  have : Nat.beq n ds.length = false := by
    cases hb : Nat.beq n ds.length with
    | true => exact absurd (Nat.eq_of_beq_eq_true hb) (by omega)
    | false => rfl
  cases l with
  | zero => rw [this, List.drop_zero]; rfl
  | succ l => rw [show Nat.beq (l + 1) 0 = false from rfl]; rfl
theorem okB_seg {ds : List D} (h : ds.all okB = true) (l n : Nat) (hl : l ≤ ds.length) (hn : n < ds.length) : (seg ds l n).all okB = true := by
  rw [seg_of ds l n hl hn]
  rw [List.all_eq_true] at h ⊢
  exact fun d hd => h d (List.mem_of_mem_drop (List.mem_of_mem_take hd))
theorem seg_length {ds : List D} (l n : Nat) (hl : l + n ≤ ds.length) (hn : n < ds.length) : (seg ds l n).length = n := by
  rw [seg_of ds l n (by omega) hn, List.length_take, List.length_drop]; omega

theorem takes_all {x : List D} (h : x.length ≤ 8) (h1 : 1 ≤ x.length) : (mk x).takes (fitI (x.length : Int)) = x := by
  rw [fit_of (by omega) (by omega), (took_ok x (by omega) (Int.le_refl _)).1, Int.toNat_natCast, List.take_of_length_le (Nat.le_refl _)]

theorem okY_of {ds : List D} (h : ds.all okB = true) (h2 : ds.length ≤ 2 ^ 40) : okY ds = true := by
  unfold okY; rw [h, decide_eq_true h2]; rfl

def C_opn : FunT := fun args σ => match args, σ with
  | [.dat (.slc .one ds)], [] => .chk (okY ds) (.leaf ([.dat (.int .u64 (openN ds)), .dat (.slc .one (openL ds)), .dat (.int .i64 (openE ds))], []))
  | _, _ => .fail
theorem copn_ok : FunOk Try.prog 9 (FunT.run C_opn) := opn_ok.of (by
  intro args σ r h
  unfold C_opn at h
  split at h
  · rename_i ds
    obtain ⟨hc, h'⟩ := T.chk_some h
    rw [← T.leaf_some h']
    obtain ⟨h1, h2⟩ := okY_spec hc
    unfold S_opn openN openL openE
    cases g1 : decide ((ds.length : Int) < 128) with
    | true => simp only [g1, T.run_br, T.run_leaf, cond_true, show ((12 : Int) == 0) = false from rfl, cond_false]
    | false =>
      cases g2 : decide ((ds.length : Int) > 128) with
      | true => simp only [g1, g2, T.run_br, T.run_leaf, cond_true, cond_false, show ((13 : Int) == 0) = false from rfl]
      | false =>
        have hl : ds.length = 128 := by have := of_decide_eq_false g1; have := of_decide_eq_false g2; omega
        have a1 := okB_seg h1 0 8 (by omega) (by omega)
        have a2 := okB_seg h1 120 (ds.length - 120) (by omega) (by omega)
        have a3 := okB_seg h1 116 4 (by omega) (by omega)
        have a4 := okB_seg h1 0 116 (by omega) (by omega)
        have a5 := okB_seg h1 8 108 (by omega) (by omega)
        have l1 := seg_length (ds := ds) 0 8 (by omega) (by omega)
        have l2 := seg_length (ds := ds) 120 (ds.length - 120) (by omega) (by omega)
        have l3 := seg_length (ds := ds) 116 4 (by omega) (by omega)
        have l4 := seg_length (ds := ds) 0 116 (by omega) (by omega)
        have l5 := seg_length (ds := ds) 8 108 (by omega) (by omega)
        have t1 : Sc.takes ⟨seg ds 0 8, 0, true⟩ (fitI ((seg ds 0 8).length : Int)) = seg ds 0 8 := takes_all (by omega) (by omega)
        have t3 : Sc.takes ⟨seg ds 116 4, 0, true⟩ (fitI ((seg ds 116 4).length : Int)) = seg ds 116 4 := takes_all (by omega) (by omega)
        have c1 : decide (8 ≤ ds.length) = true := decide_eq_true (by omega)
        have c2 : decide (120 ≤ ds.length) = true := decide_eq_true (by omega)
        have c3 : decide (116 ≤ ds.length) = true := decide_eq_true (by omega)
        have c4 : decide (ds.length ≤ ds.length) = true := decide_eq_true (Nat.le_refl _)
        have b1 : decide ((seg ds 0 8).length ≤ 35184372088832) = true := decide_eq_true (by omega)
        have b3 : decide ((seg ds 116 4).length ≤ 35184372088832) = true := decide_eq_true (by omega)
        have b5 : decide ((seg ds 8 108).length * 1 ≤ 35184372088832) = true := decide_eq_true (by omega)
        have y1 := okY_B8 (okY_of a1 (by omega))
        have y2 := okY_B8 (okY_of a2 (by omega))
        have y4 := okY_of a4 (by omega)
        have z1 : D.eqb (.slc .one (seg ds 0 116)) (.slc .one (seg ds 0 116)) = true := D.eqb_self _
        simp only [g1, g2, c1, c2, c3, c4, b1, b3, b5, t1, t3, y1, y2, y4, z1, okB_bytes a1, okB_bytes a3, okB_fits a5, wrap64_toI, Bool.and_self, T.run_br, T.run_chk, cond_true, cond_false]
        cases D.eqbL (seg ds 0 8) (seg ds 120 (ds.length - 120)) with
        | false => rfl
        | true =>
          cases mayB (numU 0 (seg ds 0 8)) with
          | false => rfl
          | true =>
            cases (numU 0 (seg ds 116 4) != toI (sumW (seg ds 0 116))) <;> rfl
  · simp [T.run_fail] at h)

end Go.Proofs.Ytfajnpnmghbdpaa
