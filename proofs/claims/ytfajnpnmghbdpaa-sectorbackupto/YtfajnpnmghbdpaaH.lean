/- Seat 08: the document's Open, in the same words. -/
import Derived.Test.YtfajnpnmghbdpaaG
namespace Go.Proofs.Ytfajnpnmghbdpaa
open Go.AX
set_option maxRecDepth 100000

theorem rf_takes (ds : List D) (a n : Nat) (h : a + n ≤ ds.length) : Rf.takes ⟨ds, (a : Int), 0⟩ (n : Int) = (ds.drop a).take n ∧ Rf.took ⟨ds, (a : Int), 0⟩ (n : Int) = ⟨ds, ((a + n : Nat) : Int), 0⟩ := by
  have hc : Rf.can ⟨ds, (a : Int), 0⟩ (n : Int) = true := by
    unfold Rf.can
    rw [pos_of (by omega), decide_eq_true (show (n : Int) ≤ (ds.length : Int) - (a : Int) by omega)]; rfl
  unfold Rf.takes Rf.took
  rw [hc, pos_of (by omega)]
  exact ⟨rfl, rfl⟩

theorem byteVs_inj {a b : List D} (ha : a.all okB = true) (hb : b.all okB = true) : (byteVs a = byteVs b) ↔ a = b := by
  have back : ∀ {l : List D}, l.all okB = true → bL (byteVs l) = l := by
    intro l h
    unfold bL byteVs
    rw [List.map_map]
    conv => rhs; rw [← List.map_id l]
    refine List.map_congr_left fun d hd => ?_
    obtain ⟨n, rfl, h0, h1⟩ := okB_spec (List.all_eq_true.1 h d hd)
    show D.int .u8 ((UInt8.ofNat n.toNat).toNat : Int) = D.int .u8 n
    rw [UInt8.toNat_ofNat']
    congr 1
    omega
  constructor
  · intro h; rw [← back ha, ← back hb, h]
  · intro h; rw [h]

theorem toI_lt (x : W32) : toI x < ((256 ^ 4 : Nat) : Int) := by
  unfold toI
  have := x.isLt
  have : (256 : Nat) ^ 4 = 2 ^ 32 := by decide
  omega

theorem parts {ds : List D} (hl : ds.length = 128) : ds = firstD ds ++ loadD ds ++ markD ds ++ lastD ds ∧ bodyD ds = firstD ds ++ loadD ds := by
  have e1 : firstD ds = ds.take 8 := by unfold firstD; rw [seg_of ds 0 8 (by omega) (by omega), List.drop_zero]
  have e2 : loadD ds = (ds.drop 8).take 108 := seg_of ds 8 108 (by omega) (by omega)
  have e3 : markD ds = (ds.drop 116).take 4 := seg_of ds 116 4 (by omega) (by omega)
  have e4 : lastD ds = ds.drop 120 := by
    unfold lastD; rw [seg_of ds 120 _ (by omega) (by omega), List.take_of_length_le (by rw [List.length_drop]; exact Nat.le_refl _)]
  have e5 : bodyD ds = ds.take 116 := by unfold bodyD; rw [seg_of ds 0 116 (by omega) (by omega), List.drop_zero]
  have f1 : ds.take 8 ++ (ds.drop 8).take 108 = ds.take 116 := by rw [show 116 = 8 + 108 from rfl, List.take_add]
  have f2 : ds.take 116 ++ (ds.drop 116).take 4 = ds.take 120 := by rw [show 120 = 116 + 4 from rfl, List.take_add]
  refine ⟨?_, by rw [e5, e1, e2, f1]⟩
  rw [e1, e2, e3, e4, f1, f2, List.take_append_drop]

/-- To be the sealed one is to have the right sum. -/
theorem seal_iff {ds : List D} (hb : ds.all okB = true) (hl : ds.length = 128) (he : firstD ds = lastD ds) : sealD (numU 0 (firstD ds)) (loadD ds) = ds ↔ numU 0 (markD ds) = toI (sumW (bodyD ds)) := by
  obtain ⟨p1, p2⟩ := parts hl
  have a1 := okB_seg hb 0 8 (by omega) (by omega)
  have a3 := okB_seg hb 116 4 (by omega) (by omega)
  have l1 : (firstD ds).length = 8 := seg_length 0 8 (by omega) (by omega)
  have l3 : (markD ds).length = 4 := seg_length 116 4 (by omega) (by omega)
  have l5 : (loadD ds).length = 108 := seg_length 8 108 (by omega) (by omega)
  have n1 : numB (numU 0 (firstD ds)) 8 = firstD ds := numB_numU 8 (firstD ds) a1 l1 (by omega)
  have hf : fullD (loadD ds) = loadD ds := by unfold fullD; rw [l5]; simp
  have hh : headD (numU 0 (firstD ds)) (loadD ds) = bodyD ds := by unfold headD; rw [n1, hf, p2]
  have hs : sealD (numU 0 (firstD ds)) (loadD ds) = bodyD ds ++ numB (toI (sumW (bodyD ds))) 4 ++ firstD ds := by unfold sealD; rw [hh, n1]
  have hd : ds = bodyD ds ++ markD ds ++ firstD ds := by rw [p2]; conv => lhs; rw [p1, ← he]
  constructor
  · intro h
    rw [hs] at h
    have h2 : bodyD ds ++ numB (toI (sumW (bodyD ds))) 4 ++ firstD ds = bodyD ds ++ markD ds ++ firstD ds := h.trans hd
    have h3 := List.append_cancel_left (List.append_cancel_right h2)
    rw [← h3]
    exact numU_numB (by omega) (toI_nonneg _) (toI_lt _)
  · intro h
    rw [hs, ← h, numB_numU 4 (markD ds) a3 l3 (by omega)]
    exact hd.symm

def C_ropn : FunT := fun args σ => match args, σ with
  | [.dat (.slc .one ds)], [] => .chk (okY ds) (.leaf ([.dat (.int .u64 (openN ds)), .dat (.slc .one (openL ds)), .dat (.int .i64 (openE ds))], []))
  | _, _ => .fail
theorem cropn_ok : FunOk Try.prog 10 (FunT.run C_ropn) := ropn_ok.of (by
  intro args σ r h
  unfold C_ropn at h
  split at h
  · rename_i ds
    obtain ⟨hc, h'⟩ := T.chk_some h
    rw [← T.leaf_some h']
    obtain ⟨h1, h2⟩ := okY_spec hc
    unfold S_ropn openN openL openE
    cases g1 : decide ((ds.length : Int) < 128) with
    | true => simp only [g1, T.run_br, T.run_leaf, cond_true, show ((12 : Int) == 0) = false from rfl, cond_false]
    | false =>
      cases g2 : decide ((ds.length : Int) > 128) with
      | true => simp only [g1, g2, T.run_br, T.run_leaf, cond_true, cond_false, show ((13 : Int) == 0) = false from rfl]
      | false =>
        have hl : ds.length = 128 := by have := of_decide_eq_false g1; have := of_decide_eq_false g2; omega
        have hb8 := okB_bytes h1
        obtain ⟨r1, r2⟩ := rf_takes ds 0 8 (by omega)
        obtain ⟨r3, r4⟩ := rf_takes ds 8 108 (by omega)
        obtain ⟨_, r6⟩ := rf_takes ds 116 4 (by omega)
        obtain ⟨r7, _⟩ := rf_takes ds 120 8 (by omega)
        have e1 : (ds.drop 0).take 8 = firstD ds := (seg_of ds 0 8 (by omega) (by omega)).symm
        have e2 : (ds.drop 8).take 108 = loadD ds := (seg_of ds 8 108 (by omega) (by omega)).symm
        have e4 : (ds.drop 120).take 8 = lastD ds := by unfold lastD; rw [hl]; exact (seg_of ds 120 8 (by omega) (by omega)).symm
        have a1 := okB_seg h1 0 8 (by omega) (by omega)
        have a2 := okB_seg h1 120 (ds.length - 120) (by omega) (by omega)
        have a5 := okB_seg h1 8 108 (by omega) (by omega)
        have l1 : (firstD ds).length = 8 := seg_length 0 8 (by omega) (by omega)
        have l2 : (lastD ds).length = 8 := by have := seg_length (ds := ds) 120 (ds.length - 120) (by omega) (by omega); show (seg ds 120 (ds.length - 120)).length = 8; omega
        have l5 : (loadD ds).length = 108 := seg_length 8 108 (by omega) (by omega)
        obtain ⟨u1, u2, u3⟩ := numU_bound a1 (by rw [l1]; omega)
        obtain ⟨u4, _, _⟩ := numU_bound a2 (by have : (seg ds 120 (ds.length - 120)).length = 8 := l2; omega)
        have f8 : fitI 8 = ((8 : Nat) : Int) := rfl
        have k0 : (0 : Int) = ((0 : Nat) : Int) := rfl
        have q0 : Rf.ok ⟨ds, 0, 0⟩ = true := by
          show (isBytes ds && decide (ds.length ≤ LIM) && decide ((0 : Int) ≤ 0) && decide ((0 : Int) ≤ (ds.length : Int))) = true
          rw [hb8, decide_eq_true (show ds.length ≤ LIM by unfold LIM; omega), decide_eq_true (show (0 : Int) ≤ 0 by omega), decide_eq_true (show (0 : Int) ≤ (ds.length : Int) by omega)]; rfl
        have q : ∀ a : Nat, a ≤ 128 → Rf.ok ⟨ds, (a : Int), 0⟩ = true := by
          intro a ha
          show (isBytes ds && decide (ds.length ≤ LIM) && decide ((0 : Int) ≤ (a : Int)) && decide ((a : Int) ≤ (ds.length : Int))) = true
          rw [hb8, decide_eq_true (show ds.length ≤ LIM by unfold LIM; omega), decide_eq_true (show (0 : Int) ≤ (a : Int) by omega), decide_eq_true (show (a : Int) ≤ (ds.length : Int) by omega)]; rfl
        have w1 : Rf.takes ⟨ds, 0, 0⟩ (fitI 8) = firstD ds := r1.trans e1
        have w2 : Rf.took ⟨ds, 0, 0⟩ (fitI 8) = ⟨ds, ((8 : Nat) : Int), 0⟩ := r2
        have w3 : Rf.takes ⟨ds, ((8 : Nat) : Int), 0⟩ 108 = loadD ds := r3.trans e2
        have w4 : Rf.took ⟨ds, ((8 : Nat) : Int), 0⟩ 108 = ⟨ds, ((116 : Nat) : Int), 0⟩ := r4
        have w6 : Rf.took ⟨ds, ((116 : Nat) : Int), 0⟩ 4 = ⟨ds, ((120 : Nat) : Int), 0⟩ := r6
        have w7 : Rf.takes ⟨ds, ((120 : Nat) : Int), 0⟩ (fitI 8) = lastD ds := r7.trans e4
        have u4' : numR 0 (lastD ds) = numU 0 (lastD ds) := u4
        have u1' : numR 0 (firstD ds) = numU 0 (firstD ds) := u1
        have hw : decide (IntKind.wrap .u64 (numU 0 (firstD ds)) = numU 0 (firstD ds)) = true := decide_eq_true (by
          have h7 : (256 : Int) ^ (firstD ds).length = 2 ^ 64 := by rw [l1]; rfl
          have u3' : numU 0 (firstD ds) < 256 ^ (firstD ds).length := u3
          have u2' : 0 ≤ numU 0 (firstD ds) := u2
          rw [h7] at u3'
          rw [IntKind.wrap_u64]; omega)
        have hy5 := okY_of a5 (by have : (seg ds 8 108).length = 108 := l5; omega)
        have hd108 : decide (((loadD ds).length : Int) > 108) = false := decide_eq_false (by rw [l5]; omega)
        simp only [g1, g2, q0, w1, w2, w3, w4, w6, w7, q 8 (by omega), q 116 (by omega), q 120 (by omega), u1', u4', hw, show okY (loadD ds) = true from hy5, Bool.and_self, T.run_br, T.run_chk, cond_true, cond_false]
        by_cases he : firstD ds = lastD ds
        · have hne : (numU 0 (lastD ds) != numU 0 (firstD ds)) = false := by rw [he]; exact bne_self_eq_false _
          have hq : D.eqbL (firstD ds) (lastD ds) = true := by rw [← he]; exact D.eqbL_self _
          simp only [hne, show (false == false) = true from rfl, cond_true, cond_false, hq, Bool.true_and]
          cases hm : mayB (numU 0 (firstD ds)) with
          | false =>
            have : errS (numU 0 (firstD ds)) (loadD ds) = 1 := by unfold errS; rw [hm]; rfl
            rw [this]; rfl
          | true =>
            have e0 : errS (numU 0 (firstD ds)) (loadD ds) = 0 := by unfold errS; rw [hm, hd108]; rfl
            have es : sealR (numU 0 (firstD ds)) (loadD ds) = sealD (numU 0 (firstD ds)) (loadD ds) := by unfold sealR; rw [hm, hd108]; rfl
            have hsb : (sealD (numU 0 (firstD ds)) (loadD ds)).all okB = true := by
              unfold sealD headD
              rw [List.all_append, List.all_append, List.all_append, okB_numB, okB_numB, okB_full (show (loadD ds).all okB = true from a5)]; rfl
            have hi := seal_iff h1 hl he
            rw [e0, es]
            simp only [okB_bytes hsb, hb8, bne_self_eq_false, cond_true, cond_false]
            by_cases hs : numU 0 (markD ds) = toI (sumW (bodyD ds))
            · have c1 : decide (byteVs (sealD (numU 0 (firstD ds)) (loadD ds)) = byteVs ds) = true := decide_eq_true ((byteVs_inj hsb h1).2 (hi.2 hs))
              have c2 : (numU 0 (markD ds) != toI (sumW (bodyD ds))) = false := by rw [hs]; exact bne_self_eq_false _
              simp only [c1, c2]; rfl
            · have c1 : decide (byteVs (sealD (numU 0 (firstD ds)) (loadD ds)) = byteVs ds) = false := decide_eq_false (fun h => hs (hi.1 ((byteVs_inj hsb h1).1 h)))
              have c2 : (numU 0 (markD ds) != toI (sumW (bodyD ds))) = true := bne_iff_ne.2 hs
              simp only [c1, c2]; rfl
        · have hne : (numU 0 (lastD ds) != numU 0 (firstD ds)) = true := bne_iff_ne.2 (fun h => he (numU_inj a1 a2 (by show (firstD ds).length = (lastD ds).length; rw [l1, l2]) (by show (firstD ds).length ≤ 8; rw [l1]; omega) h.symm))
          have hq : D.eqbL (firstD ds) (lastD ds) = false := by
            cases hq : D.eqbL (firstD ds) (lastD ds) with
            | false => rfl
            | true => exact absurd (D.eqL_of_eqb hq) he
          simp only [hne, hq, show (true == false) = false from rfl, cond_true, cond_false, Bool.false_and]
          rfl
  · simp [T.run_fail] at h)

end Go.Proofs.Ytfajnpnmghbdpaa
