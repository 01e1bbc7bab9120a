/- Seat 08: what is turned within 32 bits changes the sum. -/
import Derived.Test.YtfajnpnmghbdpaaC
namespace Go.Proofs.Ytfajnpnmghbdpaa
open Go.AX
set_option maxRecDepth 100000

theorem xor_pp (a b : W32) : a ^^^ (a ^^^ b) = b := by rw [← BitVec.xor_assoc, BitVec.xor_self, BitVec.zero_xor]

theorem refBit_lin (x y : W32) (b c : Bool) : refBit x b ^^^ refBit y c = refBit (x ^^^ y) (b != c) := by
  unfold refBit
  rw [BitVec.getLsbD_xor, BitVec.ushiftRight_xor_distrib]
  cases x.getLsbD 0 <;> cases y.getLsbD 0 <;> cases b <;> cases c <;>
    simp only [bne_self_eq_false, cond_true, cond_false, show (true != false) = true from rfl, show (false != true) = true from rfl, BitVec.xor_assoc, BitVec.xor_comm (y >>> 1) poly, xor_pp]

theorem crcBit_zero {x : W32} (h : crcBit x = 0#32) : x = 0#32 := by
  unfold crcBit at h
  cases hb : x.getLsbD 0 with
  | true =>
    rw [hb, cond_true] at h
    have h31 : ((x >>> 1) ^^^ poly).getLsbD 31 = (0#32).getLsbD 31 := by rw [h]
    rw [BitVec.getLsbD_xor, BitVec.getLsbD_ushiftRight, BitVec.getLsbD_of_ge x (1 + 31) (by omega)] at h31
    exact absurd h31 (by decide)
  | false =>
    rw [hb, cond_false] at h
    have h0 : x.toNat % 2 = 0 := by
      have : x.getLsbD 0 = decide (x.toNat % 2 = 1) := by rw [← BitVec.testBit_toNat, Nat.testBit_zero]
      rw [this] at hb
      have := of_decide_eq_false hb
      omega
    have h1 : (x >>> 1).toNat = 0 := by rw [h]; rfl
    rw [BitVec.toNat_ushiftRight, Nat.shiftRight_eq_div_pow] at h1
    apply BitVec.eq_of_toNat_eq
    show x.toNat = 0
    omega
theorem crcN_zero {x : W32} : ∀ n, crcN n x = 0#32 → x = 0#32
  | 0, h => h
  | n + 1, h => crcN_zero n (crcBit_zero h)

theorem refBit_false (x : W32) : refBit x false = crcBit x := by
  unfold refBit crcBit
  cases x.getLsbD 0 <;> rfl
theorem ref_diff (a b : List D) (r : W32) (i : Nat) : refTo a r (i + 1) ^^^ refTo b r (i + 1) = refBit (refTo a r i ^^^ refTo b r i) (bitAt a i != bitAt b i) := refBit_lin _ _ _ _

theorem burst {a b : List D} {at_ n : Nat} {turn : W32} (r : W32) (hd : ∀ i, i < n → (bitAt a i != bitAt b i) = (decide (at_ ≤ i) && turn.getLsbD (i - at_))) (h : at_ + 32 ≤ n) (ht : turn ≠ 0#32) : refTo a r n ≠ refTo b r n := by
  have l1 : ∀ i, i ≤ at_ → refTo a r i ^^^ refTo b r i = 0#32 := by
    intro i
    induction i with
    | zero => intro _; exact BitVec.xor_self
    | succ i ih =>
      intro hi
      rw [ref_diff, ih (by omega), hd i (by omega), decide_eq_false (by omega)]; rfl
  have l2 : ∀ k, k ≤ 32 → crcN k turn = (refTo a r (at_ + k) ^^^ refTo b r (at_ + k)) ^^^ (turn >>> k) := by
    intro k
    induction k with
    | zero => intro _; rw [Nat.add_zero, l1 at_ (Nat.le_refl _), BitVec.ushiftRight_zero, BitVec.zero_xor]; rfl
    | succ k ih =>
      intro hk
      show crcBit (crcN k turn) = _
      rw [ih (by omega), crc_step, BitVec.getLsbD_ushiftRight, ← Nat.add_assoc, ref_diff, hd (at_ + k) (by omega), decide_eq_true (by omega), Bool.true_and, Nat.add_sub_cancel_left, BitVec.shiftRight_add]
      rfl
  have l3 : ∀ j, at_ + 32 + j ≤ n → refTo a r (at_ + 32 + j) ^^^ refTo b r (at_ + 32 + j) = crcN j (crcN 32 turn) := by
    intro j
    induction j with
    | zero =>
      intro _
      have h32 : turn >>> 32 = 0#32 := by
        apply BitVec.eq_of_toNat_eq
        rw [BitVec.toNat_ushiftRight, Nat.shiftRight_eq_div_pow]
        have := turn.isLt
        show _ = 0
        omega
      have := l2 32 (Nat.le_refl _)
      rw [h32, BitVec.xor_zero] at this
      rw [Nat.add_zero, ← this]; rfl
    | succ j ih =>
      intro hj
      rw [← Nat.add_assoc, ref_diff, ih (by omega), hd _ (by omega), BitVec.getLsbD_of_ge turn _ (by omega), Bool.and_false, refBit_false]
      rfl
  intro he
  have h3 := l3 (n - (at_ + 32)) (by omega)
  rw [show at_ + 32 + (n - (at_ + 32)) = n by omega, he, BitVec.xor_self] at h3
  exact ht (crcN_zero 32 (crcN_zero _ h3.symm))
end Go.Proofs.Ytfajnpnmghbdpaa
