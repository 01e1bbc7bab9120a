/- Seat 20: the entry of any bytes, told shortly. -/
import Derived.Test.YtdmmobjegfhneaaL
namespace Go.Proofs.Ytdmmobjegfhneaa
open Go.AX
set_option maxRecDepth 100000
set_option maxHeartbeats 2000000
abbrev okB (b : List D) : Bool := b.all okU8 && decide (b.length ≤ 1099511627776)
abbrev nb (b : List D) (k n : Nat) : Int := numV ((b.drop k).take n)
def reE (b : List D) : D := entD (nb b 0 8) (nb b 8 1) (nb b 9 1) (nb b 10 1) (nb b 11 1) (nb b 12 1) (nb b 13 1) (nb b 14 8) (nb b 22 8) (nb b 30 1)
def reG (b : List D) : Bool := Nat.beq b.length 31 && mayD (reE b)
def reF (b : List D) (k n : Nat) : Int := bif reG b then nb b k n else 0
def reR (b : List D) : Int := bif decide (b.length < 31) then 12 else bif decide (31 < b.length) then 13 else bif mayD (reE b) then 0 else 2
abbrev reO (b : List D) : D := entD (reF b 0 8) (reF b 8 1) (reF b 9 1) (reF b 10 1) (reF b 11 1) (reF b 12 1) (reF b 13 1) (reF b 14 8) (reF b 22 8) (reF b 30 1)
theorem okB_drop {b : List D} (h : okB b = true) (j : Nat) : ((b.drop j).all okU8 = true) ∧ (b.drop j).length ≤ 1099511627776 := by
  simp only [okB, Bool.and_eq_true, decide_eq_true_eq] at h
  refine ⟨?_, by rw [List.length_drop]; omega⟩
  rw [List.all_eq_true] at h ⊢
  exact fun d hd => h.1 d (List.mem_of_mem_drop hd)
theorem okRd_d {b : List D} (h : okB b = true) (k : Int) (h1 : 1 ≤ k) (h2 : k ≤ 8) (j : Nat) : ((b.drop j).all okU8 && (decide ((b.drop j).length ≤ 1099511627776) && (decide (1 ≤ k) && decide (k ≤ 8)))) = true := by
  rw [(okB_drop h j).1, decide_eq_true (okB_drop h j).2, decide_eq_true h1, decide_eq_true h2]; rfl
theorem okRd_b {b : List D} (h : okB b = true) (k : Int) (h1 : 1 ≤ k) (h2 : k ≤ 8) : (b.all okU8 && (decide (b.length ≤ 1099511627776) && (decide (1 ≤ k) && decide (k ≤ 8)))) = true := okRd_d h k h1 h2 0
theorem nb_u8 {b : List D} (h : okB b = true) (k : Nat) : 0 ≤ nb b k 1 ∧ nb b k 1 < 256 := by
  by_cases hk : k < b.length
  · have := numV_lt (okB_drop h k).1 1 (by rw [List.length_drop]; omega)
    simpa using this
  · rw [nb, List.drop_eq_nil_of_le (by omega)]; exact ⟨Int.le_refl 0, by decide⟩
theorem nb_u64 {b : List D} (h : okB b = true) (k : Nat) : u64 (nb b k 8) = true := by
  rw [u64_iff]
  have : (b.drop k).take 8 = (b.drop k).take (min 8 (b.drop k).length) := by rw [List.take_eq_take_iff]; omega
  rw [nb, this]
  have h2 := numV_lt (okB_drop h k).1 (min 8 (b.drop k).length) (by omega)
  have h3 : (256 : Int) ^ (min 8 (b.drop k).length) ≤ 18446744073709551616 := by
    have : min 8 (b.drop k).length = 8 ∨ min 8 (b.drop k).length < 8 := by omega
    rcases this with h | h
    · rw [h]; decide
    · have := pow56 h; omega
  omega
theorem nb_w {b : List D} (h : okB b = true) (k : Nat) : IntKind.wrap .i64 (nb b k 1) = nb b k 1 := by
  have := nb_u8 h k
  rw [IntKind.wrap_i64]; omega
theorem endd_short (ds : List D) : endd_v0 ds 12 true = 12 := by simp [endd_v0, left_v0, fault_v0]
theorem endd_long (ds : List D) : endd_v0 ds 0 true = bif decide (0 < ds.length) then 13 else 0 := by simp [endd_v0, left_v0, fault_v0]
theorem rend_short (b : List D) (a : Int) : rend_v0 b a 12 = 12 := by simp [rend_v0]
theorem rend_long (b : List D) (a : Int) : rend_v0 b a 0 = bif decide (a < b.length) then 13 else 0 := by simp [rend_v0]
theorem reO_bad {b : List D} (h : reG b = false) : reO b = entD 0 0 0 0 0 0 0 0 0 0 := by simp only [reO, reF, h, cond_false]
theorem reG_len {b : List D} (h : b.length ≠ 31) : reG b = false := by
  unfold reG
  cases hb : Nat.beq b.length 31 with
  | true => exact absurd (Nat.eq_of_beq_eq_true hb) h
  | false => rfl
theorem mayR {b : List D} (h : okB b = true) : okEn (reE b) = true := by
  show (true && (u64 (nb b 14 8) && u64 (nb b 22 8))) = true
  rw [nb_u64 h, nb_u64 h]; rfl
theorem rea_eq {b : List D} (h : okB b = true) : runF (envOf tab SpK [] [] [(888888, 4, [.cut 12])]) true Try.f14 [.dat (.slc .one b)] [] = some ([.dat (reO b), .dat (.int .i64 (reR b))], []) := by
  rw [rea_raw]
  have e1 := fun k => nb_w h k
  simp only [nb] at e1
  simp only [List.drop_drop, Nat.reduceAdd, okRd, okRd_d h 1 (by decide) (by decide), okRd_d h 8 (by decide) (by decide), okRd_b h 8 (by decide) (by decide), okRd_b h 1 (by decide) (by decide), cond_true, e1, endd_short, endd_long]
  simp only [List.length_drop]
  rcases (by omega : b.length < 31 ∨ b.length = 31 ∨ 31 < b.length) with hl | hl | hl
  · rw [reO_bad (reG_len (by omega)), reR, decide_eq_true hl, cond_true]
    simp only [decide_eq_false (show ¬ (1 : Int) ≤ ((b.length - 30 : Nat) : Int) by omega), cond_false, Bool.cond_self]
  · have hm : reG b = mayD (reE b) := by unfold reG; rw [hl]; rfl
    simp only [hl, reR, reO, reF, hm]
    have hy : mayD (reE b) = may_v0 (numV (b.take 8)) (nb b 8 1) (nb b 9 1) (nb b 10 1) (nb b 11 1) (nb b 12 1) (nb b 13 1) (nb b 14 8) (nb b 22 8) (nb b 30 1) := rfl
    rw [hy]
    cases may_v0 (numV (b.take 8)) (nb b 8 1) (nb b 9 1) (nb b 10 1) (nb b 11 1) (nb b 12 1) (nb b 13 1) (nb b 14 8) (nb b 22 8) (nb b 30 1) <;> rfl
  · rw [reO_bad (reG_len (by omega)), reR, decide_eq_false (show ¬ b.length < 31 by omega), decide_eq_true hl, cond_true, cond_false]
    simp only [decide_eq_true (show (1 : Int) ≤ ((b.length - 30 : Nat) : Int) by omega), decide_eq_true (show (1 : Int) ≤ ((b.length - 8 : Nat) : Int) by omega), decide_eq_true (show (1 : Int) ≤ ((b.length - 9 : Nat) : Int) by omega), decide_eq_true (show (1 : Int) ≤ ((b.length - 10 : Nat) : Int) by omega), decide_eq_true (show (1 : Int) ≤ ((b.length - 11 : Nat) : Int) by omega), decide_eq_true (show (1 : Int) ≤ ((b.length - 12 : Nat) : Int) by omega), decide_eq_true (show (1 : Int) ≤ ((b.length - 13 : Nat) : Int) by omega), decide_eq_true (show (8 : Int) ≤ ((b.length - 14 : Nat) : Int) by omega), decide_eq_true (show (8 : Int) ≤ ((b.length - 22 : Nat) : Int) by omega), decide_eq_true (show (8 : Int) ≤ (b.length : Int) by omega), decide_eq_true (show 0 < b.length - 31 by omega), cond_true]
    rfl
theorem rrea_eq {b : List D} (h : okB b = true) : runF (envOf tab SpK [] [] []) true Try.f15 [.dat (.slc .one b)] [] = some ([.dat (reO b), .dat (.int .i64 (reR b))], []) := by
  rw [rrea_raw]
  have e1 := fun k => nb_w h k
  simp only [nb] at e1
  obtain ⟨m1, m2⟩ := may_eq (mayR h)
  simp only [okRd, okRd_b h 1 (by decide) (by decide), okRd_b h 8 (by decide) (by decide), cond_true, e1, rend_short, rend_long, Bool.true_and]
  rcases (by omega : b.length < 31 ∨ b.length = 31 ∨ 31 < b.length) with hl | hl | hl
  · rw [reO_bad (reG_len (by omega)), reR, decide_eq_true hl, cond_true]
    simp only [decide_eq_false (show ¬ (31 : Int) ≤ (b.length : Int) by omega), cond_false]
    rcases (by omega : b.length < 8 ∨ b.length = 8 ∨ b.length = 9 ∨ b.length = 10 ∨ b.length = 11 ∨ b.length = 12 ∨ b.length = 13 ∨ (14 ≤ b.length ∧ b.length < 22) ∨ (22 ≤ b.length ∧ b.length < 30) ∨ b.length = 30) with q | q | q | q | q | q | q | q | q | q
    all_goals simp (disch := omega) only [decide_eq_true, decide_eq_false, cond_true, cond_false]
    all_goals rfl
  · have hm : reG b = mayD (reE b) := by unfold reG; rw [hl]; rfl
    have hy : mayD (reE b) = rmay_v0 (numV (b.take 8)) (nb b 8 1) (nb b 9 1) (nb b 10 1) (nb b 11 1) (nb b 12 1) (nb b 13 1) (nb b 14 8) (nb b 22 8) (nb b 30 1) := m1.symm
    have hz : rmay_pre (numV (b.take 8)) (nb b 8 1) (nb b 9 1) (nb b 10 1) (nb b 11 1) (nb b 14 8) (nb b 22 8) = true := m2
    simp only [nb] at hz
    simp only [hl, reR, reO, reF, hm, hz]
    rw [hy]
    cases rmay_v0 (numV (b.take 8)) (nb b 8 1) (nb b 9 1) (nb b 10 1) (nb b 11 1) (nb b 12 1) (nb b 13 1) (nb b 14 8) (nb b 22 8) (nb b 30 1) <;> rfl
  · rw [reO_bad (reG_len (by omega)), reR, decide_eq_false (show ¬ b.length < 31 by omega), decide_eq_true hl, cond_true, cond_false]
    simp (disch := omega) only [decide_eq_true, cond_true]
    rfl
def C_rea : FunT := fun args σ => match args, σ with
  | [.dat (.slc .one b)], [] => .chk (okB b) (.leaf ([.dat (reO b), .dat (.int .i64 (reR b))], []))
  | _, _ => .fail
theorem crea_ok : FunOk Try.prog 14 (FunT.run C_rea) := by
  refine fun_ok (E := envOf tab SpK [] [] [(888888, 4, [.cut 12])]) (fz := true) (fn := Try.f14) (envOf_ok progOk SpK_ok) (by kernel_rfl) (by kernel_rfl) (loops_one (by kernel_rfl) (loop_unrolled (by kernel_rfl) (by kernel_rfl))) ?_
  intro args σ r h
  unfold C_rea at h
  split at h
  · obtain ⟨h1, h⟩ := T.chk_some h
    rw [← T.leaf_some h]; exact rea_eq h1
  · simp [T.run_fail] at h
def C_rrea : FunT := fun args σ => match args, σ with
  | [.dat (.slc .one b)], [] => .chk (okB b) (.leaf ([.dat (reO b), .dat (.int .i64 (reR b))], []))
  | _, _ => .fail
theorem crrea_ok : FunOk Try.prog 15 (FunT.run C_rrea) := by
  refine fun_ok (E := envOf tab SpK [] [] []) (fz := true) (fn := Try.f15) (envOf_ok progOk SpK_ok) (by kernel_rfl) (by kernel_rfl) (loops_none (by kernel_rfl)) ?_
  intro args σ r h
  unfold C_rrea at h
  split at h
  · obtain ⟨h1, h⟩ := T.chk_some h
    rw [← T.leaf_some h]; exact rrea_eq h1
  · simp [T.run_fail] at h
end Go.Proofs.Ytdmmobjegfhneaa
