/- Seat 08: Seal, in better words. -/
import Derived.Test.YtfajnpnmghbdpaaD
namespace Go.Proofs.Ytfajnpnmghbdpaa
open Go.AX
set_option maxRecDepth 100000

abbrev zB : D := .int .u8 0
def fullD (ds : List D) : List D := ds ++ List.replicate (108 - ds.length) zB
def headD (n : Int) (ds : List D) : List D := numB n 8 ++ fullD ds
def sealD (n : Int) (ds : List D) : List D := headD n ds ++ numB (toI (sumW (headD n ds))) 4 ++ numB n 8
def errS (n : Int) (ds : List D) : Int := bif mayB n then bif decide ((ds.length : Int) > 108) then 13 else 0 else 1
def sealR (n : Int) (ds : List D) : List D := bif mayB n && !decide ((ds.length : Int) > 108) then sealD n ds else []

theorem okB_numB (n : Int) : ∀ k, (numB n k).all okB = true
  | 0 => rfl
  | k + 1 => by
    rw [numB, List.all_cons, okB_numB n k, Bool.and_true]
    unfold byteAt okB
    simp only [Bool.and_eq_true, decide_eq_true_eq]
    omega
theorem okB_full {ds : List D} (h : ds.all okB = true) : (fullD ds).all okB = true := by
  unfold fullD
  rw [List.all_append, h, Bool.true_and, List.all_eq_true]
  intro d hd
  rw [List.eq_of_mem_replicate hd]; rfl
theorem fullD_len {ds : List D} (h : ds.length ≤ 108) : (fullD ds).length = 108 := by
  unfold fullD; rw [List.length_append, List.length_replicate]; omega
theorem headD_len {n : Int} {ds : List D} (h : ds.length ≤ 108) : (headD n ds).length = 116 := by
  unfold headD; rw [List.length_append, numB_length, fullD_len h]
theorem headD_ok {n : Int} {ds : List D} (hd : ds.all okB = true) (h : ds.length ≤ 108) : okY (headD n ds) = true := by
  unfold okY
  rw [headD_len h, decide_eq_true (by omega), Bool.and_true]
  unfold headD
  rw [List.all_append, okB_numB, okB_full hd]; rfl
theorem okB_fits {ds : List D} (h : ds.all okB = true) : fits .one ds = true := isBytes_fits (okB_bytes h)
theorem wrap64_toI (x : W32) : IntKind.wrap .u64 (toI x) = toI x := by
  unfold toI
  have := x.isLt
  rw [IntKind.wrap_u64]; omega
theorem toI_nonneg (x : W32) : 0 ≤ toI x := by unfold toI; omega
theorem seg_len {l : List D} {m : Nat} (h : l.length = m) : seg l 0 m = l := by subst h; exact seg_full l
theorem beq_len {a b : Nat} (h : a = b) : Nat.beq a b = true := beq_of_eq h

theorem fits_app {a b : List D} (ha : fits .one a = true) (hb : fits .one b = true) : fits .one (a ++ b) = true := by
  unfold fits at *
  rw [List.all_append, ha, hb]; rfl

def C_sl : FunT := fun args σ => match args, σ with
  | [.dat (.int .u64 n), .dat (.slc .one ds)], [] => .chk (okY ds && decide (0 ≤ n)) (.leaf ([.dat (.slc .one (sealR n ds)), .dat (.int .i64 (errS n ds))], []))
  | _, _ => .fail
theorem csl_ok : FunOk Try.prog 7 (FunT.run C_sl) := sl_ok.of (by
  intro args σ r h
  unfold C_sl at h
  split at h
  · rename_i n ds
    obtain ⟨hc, h'⟩ := T.chk_some h
    rw [← T.leaf_some h']
    simp only [Bool.and_eq_true, decide_eq_true_eq] at hc
    obtain ⟨hy, hn⟩ := hc
    obtain ⟨h1, h2⟩ := okY_spec hy
    unfold S_sl errS sealR
    cases hm : mayB n with
    | false => simp only [hm, Bool.not_false, T.run_br, T.run_leaf, cond_true, cond_false, Bool.false_and]
    | true =>
      cases hl : decide ((ds.length : Int) > 108) with
      | true => simp only [hm, hl, Bool.not_true, T.run_br, T.run_leaf, cond_true, cond_false, Bool.and_false]
      | false =>
        have hl' := of_decide_eq_false hl
        have hk : Int.toNat (IntKind.wrap .i64 (108 - (ds.length : Int))) = 108 - ds.length := by rw [IntKind.wrap_i64]; omega
        have k1 : decide ((0 : Int) ≤ IntKind.wrap .i64 (108 - (ds.length : Int))) = true := decide_eq_true (by rw [IntKind.wrap_i64]; omega)
        have k2 : decide (IntKind.wrap .i64 (108 - (ds.length : Int)) ≤ 35184372088832) = true := decide_eq_true (by rw [IntKind.wrap_i64]; omega)
        have hx : numB n 8 ++ ds ++ List.replicate (108 - ds.length) zB = headD n ds := by unfold headD fullD; rw [List.append_assoc]
        have hxl : 8 + ds.length + (List.replicate (108 - ds.length) zB).length = (headD n ds).length := by rw [headD_len (by omega), List.length_replicate]; omega
        have hok := headD_ok (n := n) h1 (by omega)
        have f1 := okB_fits h1
        have f2 := okB_fits (okY_spec hok).1
        have f3 : fits .one (List.replicate (108 - ds.length) zB) = true := okB_fits (by rw [List.all_eq_true]; intro d hd; rw [List.eq_of_mem_replicate hd]; rfl)
        have f4 : fits .one (headD n ds ++ numB (toI (sumW (headD n ds))) 4) = true := fits_app f2 (okB_fits (okB_numB _ _))
        have l1 : (headD n ds).length = 116 := headD_len (by omega)
        have s0 := toI_nonneg (sumW (headD n ds))
        simp only [hm, hl, hk, k1, k2, hx, hxl, Bool.not_true, T.run_br, T.run_chk, cond_true, cond_false, decide_eq_true hn, f1, f3]
        have b1 : Nat.beq (numB n 8 ++ ds).length (8 + ds.length) = true := beq_len (by rw [List.length_append, numB_length])
        have d1 : decide ((8 + ds.length) * 1 ≤ 35184372088832) = true := decide_eq_true (by omega)
        have d2 : decide ((headD n ds).length * 1 ≤ 35184372088832) = true := decide_eq_true (by omega)
        have d3 : decide ((headD n ds).length + 8 ≤ 35184372088832) = true := decide_eq_true (by omega)
        have d4 : decide ((headD n ds ++ numB (toI (sumW (headD n ds))) 4).length + 8 ≤ 35184372088832) = true := decide_eq_true (by rw [List.length_append, numB_length]; omega)
        simp only [b1, d1, d2, d3, d4, beq_self, seg_full, hok, f2, f4, wrap64_toI, Bool.and_self, cond_true, T.run_leaf]
        rfl
  · simp [T.run_fail] at h)


def C_rsl : FunT := fun args σ => match args, σ with
  | [.dat (.int .u64 n), .dat (.slc .one ds)], [] => .chk (okY ds && decide (IntKind.wrap .u64 n = n)) (.leaf ([.dat (.slc .one (sealR n ds)), .dat (.int .i64 (errS n ds))], []))
  | _, _ => .fail
theorem crsl_ok : FunOk Try.prog 8 (FunT.run C_rsl) := rsl_ok.of (by
  intro args σ r h
  unfold C_rsl at h
  split at h
  · rename_i n ds
    obtain ⟨hc, h'⟩ := T.chk_some h
    rw [← T.leaf_some h']
    simp only [Bool.and_eq_true, decide_eq_true_eq] at hc
    obtain ⟨hy, hn⟩ := hc
    obtain ⟨h1, h2⟩ := okY_spec hy
    unfold S_rsl errS sealR
    by_cases m1 : n < 1
    · have hm : mayB n = false := by unfold mayB; rw [decide_eq_false (by omega)]; rfl
      simp only [hm, m1, decide_true, T.run_br, T.run_chk, T.run_leaf, cond_true, cond_false, Bool.false_and, show (true == false) = false from rfl]
    · by_cases m2 : n > 4611686018427387904
      · have hm : mayB n = false := by
          unfold mayB
          rw [show (2 : Int) ^ 62 = 4611686018427387904 from rfl, decide_eq_false (show ¬ n ≤ 4611686018427387904 by omega), Bool.and_false]
        simp only [hm, m1, m2, decide_true, decide_false, T.run_br, T.run_leaf, cond_true, cond_false, Bool.false_and, show (false == false) = true from rfl]
      · have hm : mayB n = true := by
          unfold mayB
          rw [show (2 : Int) ^ 62 = 4611686018427387904 from rfl, decide_eq_true (show n ≤ 4611686018427387904 by omega), decide_eq_true (show 1 ≤ n by omega)]; rfl
        cases hl : decide ((ds.length : Int) > 108) with
        | true => simp only [hm, hl, m1, m2, decide_false, Bool.not_true, T.run_br, T.run_leaf, cond_true, cond_false, Bool.and_false, show (false == false) = true from rfl]
        | false =>
          have hl' := of_decide_eq_false hl
          have hf : List.take (min ds.length 108) ds ++ List.drop (0 + min ds.length 108) (List.replicate 108 zB) = fullD ds := by
            rw [Nat.min_eq_left (by omega), List.take_of_length_le (Nat.le_refl _), Nat.zero_add, List.drop_replicate]; rfl
          have hfl := fullD_len (ds := ds) (by omega)
          have hs : seg (fullD ds) 0 108 = fullD ds := seg_len hfl
          have hok := headD_ok (n := n) h1 (by omega)
          have f1 := okB_fits h1
          have f0 := okB_fits (okB_full h1)
          have f2 := okB_fits (okY_spec hok).1
          have f4 : fits .one (headD n ds ++ numB (toI (sumW (headD n ds))) 4) = true := fits_app f2 (okB_fits (okB_numB _ _))
          have l1 : (headD n ds).length = 116 := headD_len (by omega)
          have hx : numB n 8 ++ fullD ds = headD n ds := rfl
          have hxl : 8 + (fullD ds).length = (headD n ds).length := by rw [l1, hfl]
          have b0 : Nat.beq (fullD ds).length 108 = true := beq_len hfl
          have d2 : decide ((headD n ds).length * 1 ≤ 35184372088832) = true := decide_eq_true (by omega)
          have d3 : decide ((headD n ds).length + 8 ≤ 35184372088832) = true := decide_eq_true (by omega)
          have d4 : decide ((headD n ds ++ numB (toI (sumW (headD n ds))) 4).length + 8 ≤ 35184372088832) = true := decide_eq_true (by rw [List.length_append, numB_length]; omega)
          simp only [hm, hl, m1, m2, hf, hs, hx, hxl, b0, f1, f0, decide_eq_true hn, decide_true, decide_false, Bool.not_false, T.run_br, T.run_chk, cond_true, cond_false, show (false == false) = true from rfl, d2, d3, d4, beq_self, seg_full, hok, f2, f4, wrap64_toI, Bool.and_self, T.run_leaf]
          rfl
  · simp [T.run_fail] at h)

end Go.Proofs.Ytfajnpnmghbdpaa
