/- Seat 20: the bytes of any entry, told shortly; what is read of them. -/
import Derived.Test.YtdmmobjegfhneaaLM
import Derived.Test.YtdmmobjegfhneaaN
namespace Go.Proofs.Ytdmmobjegfhneaa
open Go.AX
set_option maxRecDepth 100000
set_option maxHeartbeats 2000000
abbrev w8 (n : Int) : D := .int .u8 n
def byL (r li la wh si ba qu qt pr sl : Int) : List D := numB r 8 ++ (w8 li :: w8 la :: w8 wh :: w8 si :: w8 ba :: w8 qu :: (numB qt 8 ++ (numB pr 8 ++ [w8 sl])))
def byD (r li la wh si ba qu qt pr sl : Int) : List D := bif may_v0 r li la wh si ba qu qt pr sl then byL r li la wh si ba qu qt pr sl else []
abbrev s128 (n : Int) : Prop := 0 ≤ n ∧ n < 128
theorem is_iff {n : Int} : is_v0 n = true ↔ s128 n := by simp [is_v0, s128]; omega
theorem cr_iff {n : Int} : cr_v0 n = true ↔ 0 ≤ n ∧ n < 4 := by simp [cr_v0]
theorem may_facts {r li la wh si ba qu qt pr sl : Int} (h : may_v0 r li la wh si ba qu qt pr sl = true) :
    r ≤ 4611686018427387904 ∧ s128 li ∧ s128 la ∧ s128 wh ∧ s128 si ∧ s128 ba ∧ s128 qu ∧ s128 sl := by
  unfold may_v0 at h
  simp only [Bool.and_eq_true, Bool.not_eq_true', decide_eq_false_iff_not, is_iff] at h
  obtain ⟨h0, h1, h2, h3, h4, h5⟩ := h
  refine ⟨by omega, h1, h2, h3, ?_⟩
  cases hs : si == 3 with
  | true =>
    rw [hs, cond_true] at h5
    have hs : si = 3 := by simpa using hs
    simp [bne] at h5
    exact ⟨by unfold s128; omega, by unfold s128; omega, by unfold s128; omega, h4⟩
  | false =>
    rw [hs, cond_false] at h5
    simp only [Bool.and_eq_true, cr_iff, beq_iff_eq] at h5
    obtain ⟨g1, g2, g3, g4, g5⟩ := h5
    refine ⟨?_, by unfold s128; omega, by unfold s128; omega, h4⟩
    unfold need_v1 at g1
    by_cases q1 : si = 1
    · subst q1; unfold s128; omega
    · by_cases q2 : si = 2
      · subst q2; unfold s128; omega
      · rw [show (si != 1) = true by simpa using q1, show (si != 2) = true by simpa using q2] at g1
        simp at g1
theorem wu (n : Int) : 0 ≤ IntKind.wrap .u64 n := by rw [IntKind.wrap_u64]; omega
theorem w64 {n : Int} (h : s128 n) : IntKind.wrap .u64 n / 1 % 256 = n := by unfold s128 at h; rw [IntKind.wrap_u64]; omega
theorem w08 {n : Int} (h : s128 n) : IntKind.wrap .u8 n = n := by unfold s128 at h; rw [IntKind.wrap_u8]; omega
theorem byt_eq {r li la wh si ba qu qt pr sl : Int} : byt_v0 r li la wh si ba qu qt pr sl = byD r li la wh si ba qu qt pr sl := by
  unfold byt_v0 byD
  cases hm : may_v0 r li la wh si ba qu qt pr sl with
  | false => rfl
  | true =>
    obtain ⟨_, h1, h2, h3, h4, h5, h6, h7⟩ := may_facts hm
    rw [w64 h1, w64 h2, w64 h3, w64 h4, w64 h5, w64 h6, w64 h7]
    rfl
theorem byt_pre_ok {r li la wh si ba qu qt pr sl : Int} (h0 : u64 r = true) (h7 : u64 qt = true) (h8 : u64 pr = true) : byt_pre r li la wh si ba qu qt pr sl = true := by
  rw [u64_iff] at h0 h7 h8
  unfold byt_pre
  generalize may_v0 r li la wh si ba qu qt pr sl = z
  simp only [okNum, decide_eq_true h0.1, decide_eq_true h7.1, decide_eq_true h8.1, decide_eq_true (wu _)]
  cases z <;> rfl
theorem rbyt_pre_ok {r li la wh si ba qu qt pr sl : Int} (h : okEn (entD r li la wh si ba qu qt pr sl) = true) (h0 : u64 r = true) : rbyt_pre r li la wh si ba qu qt pr sl = true := by
  have hm2 : rmay_pre r li la wh si qt pr = true := (may_eq h).2
  obtain ⟨h7, h8⟩ := okEn_ent h
  rw [u64_iff] at h0 h7 h8
  unfold rbyt_pre
  generalize rmay_v0 r li la wh si ba qu qt pr sl = z
  simp only [okNum, hm2, decide_eq_true h0.1, decide_eq_true h7.1, decide_eq_true h8.1, decide_eq_true h0.2, decide_eq_true h7.2, decide_eq_true h8.2]
  cases z <;> rfl
theorem rbyt_eq {r li la wh si ba qu qt pr sl : Int} (h : okEn (entD r li la wh si ba qu qt pr sl) = true) : rbyt_v0 r li la wh si ba qu qt pr sl = byD r li la wh si ba qu qt pr sl := by
  have hm1 : rmay_v0 r li la wh si ba qu qt pr sl = may_v0 r li la wh si ba qu qt pr sl := (may_eq h).1
  unfold rbyt_v0 byD
  rw [hm1]
  cases hm : may_v0 r li la wh si ba qu qt pr sl with
  | false => rfl
  | true =>
    obtain ⟨_, h1, h2, h3, h4, h5, h6, h7⟩ := may_facts hm
    rw [w08 h1, w08 h2, w08 h3, w08 h4, w08 h5, w08 h6, w08 h7]
    rfl
def C_bytc : FunT := fun args σ => match args, σ with
  | [.dat (.agg [.int .u64 r, .int .i64 li, .int .i64 la, .int .i64 wh, .int .i64 si, .int .i64 ba, .int .i64 qu, .int .u64 qt, .int .u64 pr, .int .i64 sl])], [] => .chk (okEn (entD r li la wh si ba qu qt pr sl) && u64 r) (.leaf ([.dat (.slc .one (byD r li la wh si ba qu qt pr sl))], []))
  | _, _ => .fail
theorem cbyt_ok' : FunOk Try.prog 16 (FunT.run C_bytc) := FunOk.of cbyt_ok (fun args σ r' h => by
  unfold C_bytc at h
  split at h
  · rename_i r li la wh si ba qu qt pr sl
    obtain ⟨h1, h⟩ := T.chk_some h
    have h1 := (Bool.and_eq_true _ _).mp h1
    obtain ⟨h7, h8⟩ := okEn_ent h1.1
    rw [← T.leaf_some h]
    show T.run (.chk (byt_pre r li la wh si ba qu qt pr sl) _) = _
    rw [byt_pre_ok h1.2 h7 h8, byt_eq]; rfl
  · simp [T.run_fail] at h)
theorem crbyt_ok' : FunOk Try.prog 17 (FunT.run C_bytc) := FunOk.of crbyt_ok (fun args σ r' h => by
  unfold C_bytc at h
  split at h
  · rename_i r li la wh si ba qu qt pr sl
    obtain ⟨h1, h⟩ := T.chk_some h
    have h1 := (Bool.and_eq_true _ _).mp h1
    rw [← T.leaf_some h]
    show T.run (.chk (rbyt_pre r li la wh si ba qu qt pr sl) _) = _
    rw [rbyt_pre_ok h1.1 h1.2, rbyt_eq h1.1]; rfl
  · simp [T.run_fail] at h)
theorem numV_numB {n : Int} (h : u64 n = true) : numV (numB n 8) = n := by
  rw [u64_iff] at h
  show (((((((0 * 256 + n / 72057594037927936 % 256) * 256 + n / 281474976710656 % 256) * 256 + n / 1099511627776 % 256) * 256 + n / 4294967296 % 256) * 256 + n / 16777216 % 256) * 256 + n / 65536 % 256) * 256 + n / 256 % 256) * 256 + n / 1 % 256 = n
  omega
theorem byteAt_snoc {n m : Int} (h0 : 0 ≤ m) (h1 : m < 256) (k : Nat) : byteAt (n * 256 + m) (k + 1) = byteAt n k := by
  unfold byteAt
  rw [show (2 : Int) ^ (8 * (k + 1)) = 256 * 2 ^ (8 * k) by rw [Nat.mul_add, Int.pow_add]; omega, ← Int.ediv_ediv_of_nonneg (by decide), show (n * 256 + m) / 256 = n by omega]
theorem numB_snoc {n m : Int} (h0 : 0 ≤ m) (h1 : m < 256) : ∀ k : Nat, numB (n * 256 + m) (k + 1) = numB n k ++ [w8 m]
  | 0 => by
    show [byteAt (n * 256 + m) 0] = [w8 m]
    unfold byteAt
    rw [show (2 : Int) ^ (8 * 0) = 1 by rfl, show (n * 256 + m) / 1 % 256 = m by omega]
  | k + 1 => by
    rw [numB, numB_snoc h0 h1 k, byteAt_snoc h0 h1]; rfl
theorem okU8_w8 {d : D} (h : okU8 d = true) : ∃ n, d = w8 n ∧ 0 ≤ n ∧ n < 256 := by
  have hb : isBytes [d] = true := okU8_bytes (by rw [List.all_cons, h]; rfl)
  obtain ⟨n, rfl⟩ := isBytes_mem hb (List.mem_singleton.2 rfl)
  simp only [okU8, Bool.and_eq_true, decide_eq_true_eq] at h
  exact ⟨n, rfl, h.2.1, Int.lt_add_one_of_le h.2.2⟩
theorem numB_take {l : List D} (h : l.all okU8 = true) : ∀ i : Nat, i ≤ l.length → numB (numV (l.take i)) i = l.take i
  | 0, _ => by rw [List.take_zero]; rfl
  | i + 1, hi => by
    obtain ⟨n, hn, h0, h1⟩ := okU8_w8 (List.all_eq_true.1 h _ (nthD_mem (show i < l.length by omega)))
    rw [numV_take (by omega), hn]
    show numB (numV (l.take i) * 256 + n) (i + 1) = _
    rw [numB_snoc h0 h1, numB_take h i (by omega), ← hn, take_succ_nth (by omega)]
theorem reE_byL {r li la wh si ba qu qt pr sl : Int} (h0 : u64 r = true) (h7 : u64 qt = true) (h8 : u64 pr = true) : reE (byL r li la wh si ba qu qt pr sl) = entD r li la wh si ba qu qt pr sl := by
  have a : ∀ n : Int, numV [w8 n] = n := fun n => by show 0 * 256 + n = n; omega
  show entD (numV (numB r 8)) (numV [w8 li]) (numV [w8 la]) (numV [w8 wh]) (numV [w8 si]) (numV [w8 ba]) (numV [w8 qu]) (numV (numB qt 8)) (numV (numB pr 8)) (numV [w8 sl]) = _
  rw [numV_numB h0, numV_numB h7, numV_numB h8, a, a, a, a, a, a, a]
theorem byL_reE {b : List D} (h : b.all okU8 = true) (hl : b.length = 31) : byL (nb b 0 8) (nb b 8 1) (nb b 9 1) (nb b 10 1) (nb b 11 1) (nb b 12 1) (nb b 13 1) (nb b 14 8) (nb b 22 8) (nb b 30 1) = b := by
  have g : ∀ k, (b.drop k).all okU8 = true := fun k => by
    rw [List.all_eq_true] at h ⊢
    exact fun d hd => h d (List.mem_of_mem_drop hd)
  have e : ∀ k n, k + n ≤ 31 → numB (nb b k n) n = (b.drop k).take n := fun k n hk => numB_take (g k) n (by rw [List.length_drop]; omega)
  have e1 : ∀ k, k + 1 ≤ 31 → [w8 (nb b k 1)] = (b.drop k).take 1 := fun k hk => by
    obtain ⟨n, hn, _, _⟩ := okU8_w8 (List.all_eq_true.1 h _ (nthD_mem (show k < b.length by omega)))
    have q : (b.drop k).take 1 = [w8 n] := by rw [drop_cons_nth (by omega), hn]; rfl
    rw [nb, q]
    show [w8 (0 * 256 + n)] = _
    rw [Int.zero_mul, Int.zero_add]
  have f1 : ∀ k (l : List D), k + 1 ≤ 31 → l = b.drop (k + 1) → w8 (nb b k 1) :: l = b.drop k := fun k l hk hl' => by
    rw [← List.singleton_append, e1 k hk, hl', ← List.drop_drop, List.take_append_drop]
  have f8 : ∀ k (l : List D), k + 8 ≤ 31 → l = b.drop (k + 8) → numB (nb b k 8) 8 ++ l = b.drop k := fun k l hk hl' => by
    rw [e k 8 hk, hl', ← List.drop_drop, List.take_append_drop]
  unfold byL
  exact f8 0 _ (by omega) (f1 8 _ (by omega) (f1 9 _ (by omega) (f1 10 _ (by omega) (f1 11 _ (by omega) (f1 12 _ (by omega) (f1 13 _ (by omega) (f8 14 _ (by omega) (f8 22 _ (by omega) (by rw [e1 30 (by omega), List.take_of_length_le (by rw [List.length_drop]; omega)])))))))))
end Go.Proofs.Ytdmmobjegfhneaa
