/- Seat 08: torn sectors, in plain words. -/
import Derived.Test.YtfajnpnmghbdpaaH
import Derived.Test.YtfajnpnmghbdpaaK
namespace Go.Proofs.Ytfajnpnmghbdpaa
open Go.AX
set_option maxRecDepth 100000

theorem errS_ok {n : Int} {ds : List D} (h : (errS n ds != 0) = false) : mayB n = true ∧ ds.length ≤ 108 := by
  unfold errS at h
  cases g1 : mayB n with
  | false => rw [g1] at h; exact Bool.noConfusion (h : true = false)
  | true =>
    cases g2 : decide ((ds.length : Int) > 108) with
    | true => rw [g1, g2] at h; exact Bool.noConfusion (h : true = false)
    | false => have := of_decide_eq_false g2; exact ⟨rfl, by omega⟩
theorem seal_eq {n : Int} {ds : List D} (h : (errS n ds != 0) = false) : sealR n ds = sealD n ds := by
  obtain ⟨h1, h2⟩ := errS_ok h
  unfold sealR
  rw [h1, decide_eq_false (show ¬ (ds.length : Int) > 108 by omega)]; rfl
theorem seal_len {n : Int} {ds : List D} (h : ds.length ≤ 108) : (sealD n ds).length = 128 := by
  unfold sealD
  rw [List.length_append, List.length_append, headD_len h, numB_length, numB_length]
theorem mayB_lt {n : Int} (h : mayB n = true) : 0 ≤ n ∧ n < ((256 ^ 8 : Nat) : Int) := by
  unfold mayB at h
  rw [Bool.and_eq_true] at h
  have h1 := of_decide_eq_true h.1
  have h2 := of_decide_eq_true h.2
  have : (256 : Nat) ^ 8 = 2 ^ 64 := by decide
  omega

/-- The parts of what is sealed. -/
theorem seal_parts {n : Int} {ds : List D} (h : ds.length ≤ 108) : firstD (sealD n ds) = numB n 8 ∧ lastD (sealD n ds) = numB n 8 ∧ loadD (sealD n ds) = fullD ds ∧ bodyD (sealD n ds) = headD n ds ∧ markD (sealD n ds) = numB (toI (sumW (headD n ds))) 4 := by
  have hl := seal_len (n := n) h
  have hh := headD_len (n := n) h
  have h8 := numB_length n 8
  have h4 := numB_length (toI (sumW (headD n ds))) 4
  have hf := fullD_len h
  have e : sealD n ds = numB n 8 ++ (fullD ds ++ (numB (toI (sumW (headD n ds))) 4 ++ numB n 8)) := by
    unfold sealD
    conv => lhs; rw [show headD n ds = numB n 8 ++ fullD ds from rfl]
    rw [List.append_assoc, List.append_assoc]
    rfl
  have d8 : (sealD n ds).drop 8 = fullD ds ++ (numB (toI (sumW (headD n ds))) 4 ++ numB n 8) := by rw [e, List.drop_left' h8]
  have d116 : (sealD n ds).drop 116 = numB (toI (sumW (headD n ds))) 4 ++ numB n 8 := by
    rw [show 116 = 8 + 108 from rfl, ← List.drop_drop, d8, List.drop_left' hf]
  have d120 : (sealD n ds).drop 120 = numB n 8 := by
    rw [show 120 = 116 + 4 from rfl, ← List.drop_drop, d116, List.drop_left' h4]
  refine ⟨?_, ?_, ?_, ?_, ?_⟩
  · unfold firstD; rw [seg_of _ 0 8 (by omega) (by omega), List.drop_zero, e, List.take_left' h8]
  · unfold lastD; rw [hl, seg_of _ 120 8 (by omega) (by omega), d120, List.take_of_length_le (by omega)]
  · unfold loadD; rw [seg_of _ 8 108 (by omega) (by omega), d8, List.take_left' hf]
  · unfold bodyD; rw [seg_of _ 0 116 (by omega) (by omega), List.drop_zero]; unfold sealD; rw [List.append_assoc, List.take_left' hh]
  · unfold markD; rw [seg_of _ 116 4 (by omega) (by omega), d116, List.take_left' h4]

theorem open_seal {n : Int} {ds : List D} (hn : mayB n = true) (h : ds.length ≤ 108) : openE (sealD n ds) = 0 ∧ openN (sealD n ds) = n ∧ openL (sealD n ds) = fullD ds := by
  obtain ⟨p1, p2, p3, p4, p5⟩ := seal_parts (n := n) h
  have hl := seal_len (n := n) h
  obtain ⟨h0, h1⟩ := mayB_lt hn
  have e : openE (sealD n ds) = 0 := by
    unfold openE
    rw [hl, p1, p2, p4, p5, numU_numB (by omega) h0 h1, numU_numB (by omega) (toI_nonneg _) (toI_lt _), hn, D.eqbL_self]
    simp
  refine ⟨e, ?_, ?_⟩
  · unfold openN; rw [e, p1, numU_numB (by omega) h0 h1]; rfl
  · unfold openL; rw [e, p3]; rfl

theorem first_take {x : List D} (h : x.length = 128) : firstD x = x.take 8 := by unfold firstD; rw [seg_of _ 0 8 (by omega) (by omega), List.drop_zero]
theorem last_drop {x : List D} (h : x.length = 128) : lastD x = x.drop 120 := by
  unfold lastD; rw [seg_of _ 120 _ (by omega) (by omega), List.take_of_length_le (by rw [List.length_drop]; exact Nat.le_refl _)]

/-- Torn somewhere, and neither of the two: no stamp. -/
theorem torn_none {a b : List D} (k : Nat) (ha : a.length = 128) (hb : b.length = 128) (ea : firstD a = lastD a) (eb : firstD b = lastD b) (hne : firstD a ≠ firstD b) (h1 : b.take k ++ a.drop k ≠ b) (h2 : b.take k ++ a.drop k ≠ a) : openE (b.take k ++ a.drop k) = 2 := by
  rw [first_take ha, last_drop ha] at ea
  rw [first_take hb, last_drop hb] at eb
  rw [first_take ha, first_take hb] at hne
  have hk0 : k ≠ 0 := by rintro rfl; exact h2 rfl
  have hk1 : k < 128 := by
    refine Nat.lt_of_not_le fun h => h1 ?_
    rw [List.take_of_length_le (by omega), List.drop_of_length_le (by omega), List.append_nil]
  have hx : (b.take k ++ a.drop k).length = 128 := by rw [List.length_append, List.length_take, List.length_drop]; omega
  have hlt : (b.take k).length = k := by rw [List.length_take]; omega
  generalize hX : b.take k ++ a.drop k = X at *
  have t1 : ∀ j, j ≤ k → X.take j = b.take j := by
    intro j hj
    rw [← hX, List.take_append_of_le_length (by omega), List.take_take, Nat.min_eq_left hj]
  have t2 : ∀ j, k ≤ j → X.drop j = a.drop j := by
    intro j hj
    rw [← hX, List.drop_append, List.drop_of_length_le (by omega), hlt, List.nil_append, List.drop_drop]
    congr 1; omega
  have hf : D.eqbL (firstD X) (lastD X) = false := by
    cases hq : D.eqbL (firstD X) (lastD X) with
    | false => rfl
    | true =>
      exfalso
      have hq := D.eqL_of_eqb hq
      rw [first_take hx, last_drop hx] at hq
      by_cases c1 : k < 8
      · rw [t2 120 (by omega), ← ea] at hq
        apply h2
        rw [← List.take_append_drop 8 X, hq, t2 8 (by omega), List.take_append_drop]
      · by_cases c2 : 120 < k
        · rw [t1 8 (by omega), eb] at hq
          apply h1
          rw [← List.take_append_drop 120 X, ← hq, t1 120 (by omega), List.take_append_drop]
        · rw [t1 8 (by omega), t2 120 (by omega), ← ea] at hq
          exact hne hq.symm
  unfold openE
  rw [hx, hf]; rfl

abbrev zeros : List D := List.replicate 128 zB
theorem zeros_open : openE zeros = 2 := by decide +kernel
theorem zeros_first : firstD zeros = lastD zeros := by rfl
theorem zeros_num : numU 0 (firstD zeros) = 0 := by decide +kernel
theorem zeros_okB : zeros.all okB = true := by decide +kernel

/-- What a sealed or a new sector is. -/
structure Sect (n : Int) (a : List D) : Prop where
  len : a.length = 128
  ok : a.all okB = true
  same : firstD a = lastD a
  num : numU 0 (firstD a) = n
  open' : if n = 0 then openE a = 2 else openE a = 0 ∧ openN a = n ∧ (openL a).length = 108

theorem sect_zeros : Sect 0 zeros := ⟨by decide, zeros_okB, zeros_first, zeros_num, by rw [if_pos rfl]; exact zeros_open⟩
theorem sect_seal {n : Int} {ds : List D} (hd : ds.all okB = true) (h : (errS n ds != 0) = false) : Sect n (sealR n ds) := by
  obtain ⟨h1, h2⟩ := errS_ok h
  have hk := seal_okB hd n
  rw [seal_eq h] at hk ⊢
  obtain ⟨p1, p2, _, _, _⟩ := seal_parts (n := n) h2
  obtain ⟨q1, q2, q3⟩ := open_seal h1 h2
  obtain ⟨h0, hlt⟩ := mayB_lt h1
  refine ⟨seal_len h2, hk, by rw [p1, p2], by rw [p1, numU_numB (by omega) h0 hlt], ?_⟩
  have : n ≠ 0 := by rintro rfl; exact absurd h1 (by decide)
  rw [if_neg this, q3]
  exact ⟨q1, q2, fullD_len h2⟩
end Go.Proofs.Ytfajnpnmghbdpaa
