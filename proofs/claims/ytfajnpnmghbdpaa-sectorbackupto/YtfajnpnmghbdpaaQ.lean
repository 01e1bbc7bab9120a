/- Seat 08: a sector with bits turned. -/
import Derived.Test.YtfajnpnmghbdpaaO
import Derived.Test.YtfajnpnmghbdpaaP
namespace Go.Proofs.Ytfajnpnmghbdpaa
open Go.AX
set_option maxRecDepth 100000

theorem byteX_nat {m : Nat} (h : m < 256) (k : IntKind) (i : Nat) (hi : i < 8) : (byteX (.int k (m : Int))).getLsbD i = m.testBit i := by
  have : byteX (.int k (m : Int)) = BitVec.ofNat 32 m := by
    unfold byteX
    rw [show D.getI (.int k (m : Int)) = (m : Int) from rfl, IntKind.wrap_u32, show ((m : Int) % 4294967296) = (m : Int) by omega, BitVec.ofInt_natCast]
  rw [this, BitVec.getLsbD_ofNat, decide_eq_true (by omega), Bool.true_and]

theorem wrap8_nat {q : Nat} (h : q < 256) : IntKind.wrap .u8 (q : Int) = (q : Int) := by rw [IntKind.wrap_u8]; omega

theorem flipB_bit {d : D} (h : okB d = true) {k i : Nat} (hk : k < 8) (hi : i < 8) : (byteX (flipB d k)).getLsbD i = ((byteX d).getLsbD i != decide (i = k)) := by
  obtain ⟨n, rfl, h0, h1⟩ := okB_spec h
  obtain ⟨m, rfl⟩ : ∃ m : Nat, n = (m : Int) := ⟨n.toNat, by omega⟩
  have hm : m < 256 := by omega
  have hp : 2 ^ k < 256 := by
    have : 2 ^ k ≤ 2 ^ 7 := Nat.pow_le_pow_right (by omega) (by omega)
    have e : (2 : Nat) ^ 7 = 128 := by decide
    omega
  rw [byteX_nat hm _ i hi]
  unfold flipB
  rw [show D.getI (.int .u8 (m : Int)) = (m : Int) from rfl, Nat.min_eq_left (by omega), show (1 : Int) * 2 ^ k = ((2 ^ k : Nat) : Int) by push_cast; omega, wrap8_nat hp, BitVec.ofInt_natCast, BitVec.ofInt_natCast]
  have hx := (BitVec.ofNat 8 m ^^^ BitVec.ofNat 8 (2 ^ k)).isLt
  rw [wrap8_nat (by omega), byteX_nat (by omega) _ i hi, BitVec.testBit_toNat, BitVec.getLsbD_xor, BitVec.getLsbD_ofNat, BitVec.getLsbD_ofNat, decide_eq_true hi, Bool.true_and, Bool.true_and, Nat.testBit_two_pow]
  have : decide (k = i) = decide (i = k) := by simp only [eq_comm]
  rw [this]

theorem nthD_set {l : List D} {i j : Nat} {x : D} (hi : i < l.length) : nthD (l.set i x) j = if i = j then x else nthD l j := by
  unfold nthD
  rw [List.getD_eq_getElem?_getD, List.getD_eq_getElem?_getD, List.getElem?_set]
  by_cases h : i = j
  · subst h; simp [hi]
  · simp [h]

theorem flipS_bit {c : List D} (h : c.all okB = true) {j p : Nat} (hj : j / 8 < c.length) : bitAt (flipS c j) p = (bitAt c p != decide (p = j)) := by
  unfold bitAt flipS
  rw [nthD_set hj]
  by_cases e : j / 8 = p / 8
  · rw [if_pos e, flipB_bit (nthD_okB h hj) (by omega) (by omega), e]
    congr 1
    by_cases e2 : p % 8 = j % 8
    · rw [decide_eq_true e2, decide_eq_true (by omega)]
    · rw [decide_eq_false e2, decide_eq_false (by omega)]
  · rw [if_neg e, decide_eq_false (show ¬ p = j by rintro rfl; exact e rfl), Bool.bne_false]

theorem flip_bit {b : List D} (h : b.all okB = true) (hl : b.length = 128) (a : Nat) (turn : Int) (p : Nat) (hp : p < 1024) : ∀ i, bitAt (flipTo b (a : Int) turn i) p = (bitAt b p != (decide (a ≤ p) && decide (p < a + i) && bitT turn (p - a)))
  | 0 => by
    by_cases e : a ≤ p
    · rw [decide_eq_false (show ¬ p < a + 0 by omega), Bool.and_false, Bool.false_and, Bool.bne_false]; rfl
    · rw [decide_eq_false e, Bool.false_and, Bool.false_and, Bool.bne_false]; rfl
  | i + 1 => by
    have ih := flip_bit h hl a turn p hp i
    obtain ⟨g1, g2⟩ := flipTo_ok h (a : Int) turn i
    have same : p ≠ a + i → decide (p < a + (i + 1)) = decide (p < a + i) := by
      intro hne
      by_cases e : p < a + i
      · rw [decide_eq_true e, decide_eq_true (by omega)]
      · rw [decide_eq_false e, decide_eq_false (by omega)]
    unfold flipTo
    cases hs : skipI (a : Int) turn i with
    | true =>
      rw [cond_true, ih]
      by_cases e : p = a + i
      · subst e
        unfold skipI at hs
        rw [decide_eq_false (show ¬ (a : Int) < 0 by omega), Bool.false_or, Bool.or_eq_true] at hs
        rcases hs with hs | hs
        · have := of_decide_eq_true hs
          omega
        · have : bitT turn i = false := by simpa using hs
          rw [Nat.add_sub_cancel_left, this, Bool.and_false, Bool.and_false]
      · rw [same e]
    | false =>
      unfold skipI at hs
      simp only [Bool.or_eq_false_iff, decide_eq_false_iff_not, Bool.not_eq_false'] at hs
      obtain ⟨⟨_, h2⟩, h3⟩ := hs
      have e4 : ((a : Int) + (i : Int)).toNat = a + i := by omega
      rw [cond_false, e4, flipS_bit g1 (by rw [g2, hl]; omega), ih]
      by_cases e : p = a + i
      · subst e
        rw [decide_eq_true rfl, decide_eq_false (show ¬ a + i < a + i by omega), decide_eq_true (show a + i < a + (i + 1) by omega), decide_eq_true (show a ≤ a + i by omega), Nat.add_sub_cancel_left, h3]
        simp
      · rw [same e, decide_eq_false e, Bool.bne_false]

theorem flip_neg (b : List D) {at_ : Int} (turn : Int) (h : at_ < 0) : ∀ i, flipTo b at_ turn i = b
  | 0 => rfl
  | i + 1 => by
    unfold flipTo skipI
    rw [decide_eq_true h, flip_neg b turn h i]; rfl
theorem flip_none (b : List D) (at_ turn : Int) (h : BitVec.ofInt 32 turn = 0#32) : ∀ i, flipTo b at_ turn i = b
  | 0 => rfl
  | i + 1 => by
    unfold flipTo skipI bitT
    rw [h, show (0#32).getLsbD i = false by simp, Bool.not_false, Bool.or_true, flip_none b at_ turn h i]; rfl
theorem flip_take (b : List D) {a : Nat} (turn : Int) (h : 928 ≤ a) : ∀ i, (flipTo b (a : Int) turn i).take 116 = b.take 116
  | 0 => rfl
  | i + 1 => by
    unfold flipTo
    cases skipI (a : Int) turn i with
    | true => exact flip_take b turn h i
    | false =>
      rw [cond_false]
      unfold flipS
      rw [List.take_set_of_le (by omega)]
      exact flip_take b turn h i
theorem flip_drop (b : List D) {a : Nat} (turn : Int) (h : a ≤ 896) : ∀ i, i ≤ 32 → (flipTo b (a : Int) turn i).drop 116 = b.drop 116
  | 0, _ => rfl
  | i + 1, hi => by
    unfold flipTo
    cases skipI (a : Int) turn i with
    | true => exact flip_drop b turn h i (by omega)
    | false =>
      rw [cond_false]
      unfold flipS
      rw [List.drop_set_of_lt (by omega)]
      exact flip_drop b turn h i (by omega)

theorem toI_inj {x y : W32} (h : toI x = toI y) : x = y := by
  apply BitVec.eq_of_toNat_eq
  unfold toI at h
  omega

/-- When 128 bytes are a sector. -/
theorem open_iff {x : List D} (h : x.length = 128) : openE x = 0 ↔ firstD x = lastD x ∧ mayB (numU 0 (firstD x)) = true ∧ numU 0 (markD x) = toI (sumW (bodyD x)) := by
  unfold openE
  rw [show decide ((x.length : Int) < 128) = false from decide_eq_false (by omega), show decide ((x.length : Int) > 128) = false from decide_eq_false (by omega), cond_false, cond_false]
  cases h1 : D.eqbL (firstD x) (lastD x) with
  | false =>
    refine ⟨fun h => absurd (show (2 : Int) = 0 from h) (by decide), fun h => ?_⟩
    rw [h.1, D.eqbL_self] at h1
    exact absurd h1 (by decide)
  | true =>
    cases h2 : mayB (numU 0 (firstD x)) with
    | false => exact ⟨fun h => absurd (show (2 : Int) = 0 from h) (by decide), fun h => absurd h.2.1 (by decide)⟩
    | true =>
      cases h3 : numU 0 (markD x) != toI (sumW (bodyD x)) with
      | true =>
        refine ⟨fun h => absurd (show (14 : Int) = 0 from h) (by decide), fun h => ?_⟩
        rw [h.2.2] at h3
        simp at h3
      | false => exact ⟨fun _ => ⟨D.eqL_of_eqb h1, rfl, by simpa using h3⟩, fun _ => rfl⟩

theorem body_take {x : List D} (h : x.length = 128) : bodyD x = x.take 116 := by unfold bodyD; rw [seg_of _ 0 116 (by omega) (by omega), List.drop_zero]
theorem mark_drop {x : List D} (h : x.length = 128) : markD x = (x.drop 116).take 4 := by unfold markD; rw [seg_of _ 116 4 (by omega) (by omega)]
theorem nthD_take {l : List D} {n i : Nat} (h : i < n) : nthD (l.take n) i = nthD l i := by
  unfold nthD
  rw [List.getD_eq_getElem?_getD, List.getD_eq_getElem?_getD, List.getElem?_take_of_lt h]
theorem bitAt_take {l : List D} {i : Nat} (h : i < 928) : bitAt (l.take 116) i = bitAt l i := by
  unfold bitAt
  rw [nthD_take (by omega)]

theorem sum_ref {l : List D} (h : l.all okB = true) (hl : l.length = 116) : sumW l = ones ^^^ refTo l ones 928 := by
  unfold sumW
  rw [← ref_crc h ones l.length (Nat.le_refl _), hl]

theorem back_open {b : List D} (hk : b.all okB = true) (hl : b.length = 128) (hb : openE b = 0) (at_ turn : Int) (hat : at_ ≤ 896 ∨ 928 ≤ at_) : openE (flipTo b at_ turn 32) = 0 ↔ flipTo b at_ turn 32 = b := by
  refine ⟨fun h => ?_, fun h => by rw [h]; exact hb⟩
  obtain ⟨g1, g2⟩ := flipTo_ok hk at_ turn 32
  by_cases h0 : at_ < 0
  · exact flip_neg b turn h0 32
  · obtain ⟨a, rfl⟩ : ∃ a : Nat, at_ = (a : Int) := ⟨at_.toNat, by omega⟩
    have hc : (flipTo b (a : Int) turn 32).length = 128 := g2.trans hl
    obtain ⟨b1, _, b3⟩ := (open_iff hl).1 hb
    obtain ⟨c1, _, c3⟩ := (open_iff hc).1 h
    have hbit := fun p hp => flip_bit hk hl a turn p hp 32
    rcases hat with hat | hat
    · by_cases ht : BitVec.ofInt 32 turn = 0#32
      · exact flip_none b _ turn ht 32
      · exfalso
        have hd := flip_drop b turn (a := a) (by omega) 32 (Nat.le_refl _)
        generalize flipTo b (a : Int) turn 32 = c at *
        have hm : markD c = markD b := by rw [mark_drop hc, mark_drop hl, hd]
        rw [hm, b3] at c3
        have hs := toI_inj c3
        rw [body_take hl, body_take hc, sum_ref (okB_take hk 116) (by rw [List.length_take]; omega), sum_ref (okB_take g1 116) (by rw [List.length_take]; omega)] at hs
        have hs2 : refTo (b.take 116) ones 928 = refTo (c.take 116) ones 928 := by
          have := congrArg (fun z => ones ^^^ z) hs
          simp only [xor_pp] at this
          exact this
        refine burst (a := c.take 116) (b := b.take 116) (at_ := a) (turn := BitVec.ofInt 32 turn) ones (fun i hi => ?_) (by omega) ht hs2.symm
        rw [bitAt_take hi, bitAt_take hi, hbit i (by omega)]
        have : (decide (a ≤ i) && decide (i < a + 32) && bitT turn (i - a)) = (decide (a ≤ i) && (BitVec.ofInt 32 turn).getLsbD (i - a)) := by
          unfold bitT
          by_cases e : i < a + 32
          · rw [decide_eq_true e, Bool.and_true]
          · rw [decide_eq_false e, BitVec.getLsbD_of_ge _ (i - a) (by omega)]; simp
        rw [this]
        cases bitAt b i <;> cases (decide (a ≤ i) && (BitVec.ofInt 32 turn).getLsbD (i - a)) <;> rfl
    · have hd := flip_take b turn (a := a) (by omega) 32
      generalize flipTo b (a : Int) turn 32 = c at *
      have hm : markD c = markD b := by
        refine numU_inj (okB_seg g1 116 4 (by omega) (by omega)) (okB_seg hk 116 4 (by omega) (by omega)) ?_ ?_ ?_
        · rw [seg_length 116 4 (by omega) (by omega), seg_length 116 4 (by omega) (by omega)]
        · rw [seg_length 116 4 (by omega) (by omega)]; omega
        · rw [c3, b3, body_take hl, body_take hc, hd]
      have hf : c.take 8 = b.take 8 := by
        have := congrArg (List.take 8) hd
        rwa [List.take_take, List.take_take] at this
      rw [first_take hc, last_drop hc, hf] at c1
      rw [first_take hl, last_drop hl] at b1
      rw [mark_drop hc, mark_drop hl] at hm
      rw [← List.take_append_drop 116 c, ← List.take_append_drop 116 b, hd]
      congr 1
      rw [← List.take_append_drop 4 (c.drop 116), ← List.take_append_drop 4 (b.drop 116), hm, List.drop_drop, List.drop_drop]
      congr 1
      exact c1.symm.trans b1
end Go.Proofs.Ytfajnpnmghbdpaa
