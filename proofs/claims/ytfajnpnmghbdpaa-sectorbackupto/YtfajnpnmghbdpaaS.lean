/- Seat 08: SectorBack is true. -/
import Derived.Test.YtfajnpnmghbdpaaR
namespace Go.Proofs.Ytfajnpnmghbdpaa
open Go.AX
set_option maxRecDepth 100000

theorem seal_none {n : Int} {ds : List D} (h : (errS n ds != 0) = true) : sealR n ds = [] := by
  unfold errS at h
  unfold sealR
  cases g1 : mayB n with
  | false => rfl
  | true =>
    rw [g1, cond_true] at h
    cases g2 : decide ((ds.length : Int) > 108) with
    | true => rfl
    | false => rw [g2] at h; exact absurd h (by decide)

theorem back_true (n at_ turn : Int) (ds : List D) (hn : 0 ≤ n) (hd : okY ds = true) (t0 : 0 ≤ turn) (t1 : turn < 2 ^ 32) :
    runF E4 true Try.f4 [.dat (.int .u64 n), .dat (.slc .one ds), .dat (.int .i64 at_), .dat (.int .u32 turn)] [] = some ([.dat (.bool true)], []) := by
  rw [back_run]
  have tt : D.eqb (.bool true) (.bool true) = true := rfl
  have ff : D.eqb (.bool false) (.bool false) = true := rfl
  rw [hd, decide_eq_true hn, Bool.and_self, cond_true]
  cases g1 : errS n ds != 0 with
  | true =>
    rw [seal_none g1]; rfl
  | false =>
    have B := sect_seal (okY_spec hd).1 g1
    obtain ⟨m1, m2⟩ := errS_ok g1
    have hb0 := B.open'
    have hn0 : n ≠ 0 := by rintro rfl; exact absurd m1 (by decide)
    rw [if_neg hn0] at hb0
    obtain ⟨q1, q2, q3⟩ := open_seal m1 m2
    have hL : openL (sealR n ds) = fullD ds := by rw [seal_eq g1]; exact q3
    have hfl := fullD_len m2
    have hfill : okFill (fullD ds) (ds.length : Int) = true := by
      unfold okFill
      rw [decide_eq_true (show (0 : Int) ≤ (ds.length : Int) by omega), decide_eq_true (show (ds.length : Int) ≤ 108 by omega), decide_eq_true hfl, Int.toNat_natCast]
      show D.eqbL ((ds ++ List.replicate (108 - ds.length) zB).drop ds.length) _ = true
      rw [List.drop_left, D.eqbL_self]
    have hseg : seg (fullD ds) 0 (ds.length - 0) = ds := by
      rw [Nat.sub_zero]
      by_cases e : ds.length = 108
      · have : fullD ds = ds := by unfold fullD; rw [e]; simp
        rw [this, seg_full]
      · rw [seg_of _ 0 _ (by omega) (by omega), List.drop_zero]
        unfold fullD
        rw [List.take_left]
    obtain ⟨f1, f2⟩ := flipTo_ok B.ok at_ turn 32
    have fl : (flipTo (sealR n ds) at_ turn 32).length = 128 := f2.trans B.len
    have fs : seg (flipTo (sealR n ds) at_ turn 32) 0 128 = flipTo (sealR n ds) at_ turn 32 := seg_len fl
    have hok : okFlip (sealR n ds) turn = true := by
      unfold okFlip
      rw [B.ok, decide_eq_true B.len, decide_eq_true t0, decide_eq_true t1]; rfl
    have hfin : (at_ ≤ 896 ∨ 928 ≤ at_) → ((openE (flipTo (sealR n ds) at_ turn 32) == (0 : Int)) == decide (byteVs (flipTo (sealR n ds) at_ turn 32) = byteVs (sealR n ds))) = true := by
      intro hat
      have h1 := back_open B.ok B.len hb0.1 at_ turn hat
      by_cases e : flipTo (sealR n ds) at_ turn 32 = sealR n ds
      · rw [h1.2 e, e, decide_eq_true rfl]; rfl
      · have e1 : openE (flipTo (sealR n ds) at_ turn 32) ≠ 0 := fun h => e (h1.1 h)
        rw [decide_eq_false fun h => e ((byteVs_inj f1 B.ok).1 h), beq_eq_false_iff_ne.2 e1]; rfl
    have okY1 := okY_of B.ok (show (sealR n ds).length ≤ 2 ^ 40 by rw [B.len]; decide)
    have okY2 := okY_of f1 (show (flipTo (sealR n ds) at_ turn 32).length ≤ 2 ^ 40 by rw [fl]; decide)
    simp only [ff, okY1, okY2, hb0.1, hb0.2.1, hL, hfl, hseg, hfill, fl, fs, hok, B.len, okB_fits B.ok, okB_bytes B.ok, okB_bytes (okY_spec hd).1, okB_bytes f1, Int.toNat_natCast, Nat.zero_add, Nat.beq_refl, D.eqbL_self, decide_eq_true m2, decide_true, Bool.not_true, bne_self_eq_false, Bool.and_self, cond_true, cond_false, show (((108 : Nat) : Int) != 108) = false from rfl, show decide (128 * 1 ≤ 35184372088832) = true from rfl]
    by_cases c1 : at_ > 896
    · by_cases c2 : at_ < 928
      · simp only [decide_eq_true c1, decide_eq_true c2, beq_self_eq_true, cond_true]
      · have := hfin (.inr (by omega))
        simp only [decide_eq_true c1, decide_eq_false c2, beq_self_eq_true, cond_true, cond_false, this, tt, show (false != true) = true from rfl]
    · have := hfin (.inl (by omega))
      simp only [decide_eq_false c1, cond_true, cond_false, this, tt, show (false != true) = true from rfl, show (false == true) = false from rfl]

theorem back_loops : ∀ x ∈ fnLoops Try.f4, LoopOk E4 x.1 x.2 := by
  refine loops_all 2 (by kernel_rfl) fun i hi => ?_
  match i, hi with
  | 0, _ => exact fill_loopOk _ rfl
  | 1, _ => exact flip_loopOk _ rfl
  | n + 2, h => omega
theorem back_funOk : FunOk Try.prog 4 (runF E4 true Try.f4) :=
  run_funOk (E := E4) (fz := true) (fn := Try.f4) (envOf_ok progOk Sr_ok) (by kernel_rfl) (by kernel_rfl) back_loops

theorem back_law (xs : List D) (h : okAll tab 8 [22, 23, 3, 31] xs = true) (hs : sizeDL xs ≤ 1048576) : ∃ F, FunOk Try.prog 4 F ∧ F (xs.map .dat) [] = some ([.dat (.bool true)], []) := by
  obtain ⟨x0, xs, rfl, h0, h⟩ := okAll_cons h
  obtain ⟨x1, xs, rfl, h1, h⟩ := okAll_cons h
  obtain ⟨x2, xs, rfl, h2, h⟩ := okAll_cons h
  obtain ⟨x3, xs, rfl, h3, h⟩ := okAll_cons h
  obtain rfl := okAll_nil h
  obtain ⟨n, rfl, hn⟩ := okV_int (k := .u64) h0 rfl rfl
  obtain ⟨l, rfl, k1⟩ := okV_slc (s := .one) h1 rfl rfl rfl
  obtain ⟨a, rfl, ha⟩ := okV_int (k := .i64) h2 rfl rfl
  obtain ⟨t, rfl, ht⟩ := okV_int (k := .u32) h3 rfl rfl
  simp only [sizeDL, sizeD] at hs
  have := length_sizeDL l
  simp [Lit.wf, IntKind.min, IntKind.max, IntKind.signed, IntKind.bits] at hn ht
  refine ⟨_, back_funOk, ?_⟩
  exact back_true n a t l (by omega) (okV_okY k1 (by omega)) (by omega) (by omega)

end Go.Proofs.Ytfajnpnmghbdpaa
