/- Seat 08: SectorTorn is true. -/
import Derived.Test.YtfajnpnmghbdpaaL
import Derived.Test.YtfajnpnmghbdpaaM
namespace Go.Proofs.Ytfajnpnmghbdpaa
open Go.AX
set_option maxRecDepth 100000

theorem okB_take {l : List D} (h : l.all okB = true) (k : Nat) : (l.take k).all okB = true := by
  rw [List.all_eq_true] at h ⊢
  exact fun d hd => h d (List.mem_of_mem_take hd)
theorem okB_drop {l : List D} (h : l.all okB = true) (k : Nat) : (l.drop k).all okB = true := by
  rw [List.all_eq_true] at h ⊢
  exact fun d hd => h d (List.mem_of_mem_drop hd)

theorem replicate_byteVs : List.replicate (128 : Nat) (UInt8.ofNat 0) = byteVs zeros := by rfl

/-- All that the run asks of a torn sector. -/
structure Torn (old now : Int) (a b : List D) (k : Nat) : Prop where
  X : ∀ X, X = b.take k ++ a.drop k → (decide (byteVs X = byteVs b) = true ∧ openE X = 0 ∧ openN X = now ∧ (openL X).length = 108) ∨ (decide (byteVs X = byteVs b) = false ∧ decide (byteVs X = byteVs a) = true ∧ (if old = 0 then openE X = 2 else openE X = 0 ∧ openN X = old)) ∨ (decide (byteVs X = byteVs b) = false ∧ decide (byteVs X = byteVs a) = false ∧ openE X = 2)
theorem torn_ways {old now : Int} {a b : List D} (ha : Sect old a) (hb : Sect now b) (h0 : now ≠ 0) (hne : old ≠ now) (k : Nat) : Torn old now a b k := by
  constructor
  rintro X rfl
  have hx : (b.take k ++ a.drop k).all okB = true := by rw [List.all_append, okB_take hb.ok, okB_drop ha.ok]; rfl
  by_cases c1 : b.take k ++ a.drop k = b
  · have := hb.open'
    rw [if_neg h0] at this
    exact .inl ⟨decide_eq_true (by rw [c1]), by rw [c1]; exact this⟩
  · have d1 : decide (byteVs (b.take k ++ a.drop k) = byteVs b) = false := decide_eq_false fun h => c1 ((byteVs_inj hx hb.ok).1 h)
    by_cases c2 : b.take k ++ a.drop k = a
    · refine .inr (.inl ⟨d1, decide_eq_true (by rw [c2]), ?_⟩)
      have := ha.open'
      rw [c2]
      by_cases h : old = 0
      · rw [if_pos h] at this ⊢; exact this
      · rw [if_neg h] at this ⊢; exact ⟨this.1, this.2.1⟩
    · refine .inr (.inr ⟨d1, decide_eq_false fun h => c2 ((byteVs_inj hx ha.ok).1 h), ?_⟩)
      refine torn_none k ha.len hb.len ha.same hb.same ?_ c1 c2
      intro h
      apply hne
      rw [← ha.num, ← hb.num, h]

theorem torn_true (old now cut : Int) (ds bs : List D) (ho : 0 ≤ old) (hn : 0 ≤ now) (hd : okY ds = true) (hb : okY bs = true) :
    runF (envOf tab Sr [] [] H5) true Try.f5 [.dat (.int .u64 old), .dat (.int .u64 now), .dat (.slc .one ds), .dat (.slc .one bs), .dat (.int .i64 cut)] [] = some ([.dat (.bool true)], []) := by
  rw [torn_run]
  have tt : D.eqb (.bool true) (.bool true) = true := rfl
  have tf : D.eqb (.bool false) (.bool false) = true := rfl
  rw [hd, hb, decide_eq_true ho, decide_eq_true hn, Bool.and_self, cond_true, cond_true]
  cases g0 : old == 0 with
  | true =>
    have e0 : old = 0 := by simpa using g0
    subst e0
    rw [cond_true]
    cases g1 : errS now bs != 0 with
    | true => rfl
    | false =>
      cases g2 : (0 : Int) == now with
      | true => rfl
      | false =>
        have e2 : (0 : Int) ≠ now := by intro h; rw [h] at g2; simp at g2
        cases g3 : decide (cut < 0) with
        | true => rfl
        | false =>
          cases g4 : decide (cut > 128) with
          | true => rfl
          | false =>
            have e3 := of_decide_eq_false g3
            have e4 := of_decide_eq_false g4
            obtain ⟨k, rfl⟩ : ∃ k : Nat, cut = (k : Int) := ⟨cut.toNat, by omega⟩
            have B := sect_seal (okY_spec hb).1 g1
            have A := sect_zeros
            generalize hbb : sealR now bs = b at *
            have W := (torn_ways A B (Ne.symm e2) e2 k).X _ rfl
            have l1 : b.length = 128 := B.len
            have s1 : seg b 0 (k - 0) = b.take k := by
              cases h : Nat.beq k b.length with
              | true => rw [Nat.sub_zero, Nat.eq_of_beq_eq_true h, seg_full, List.take_length]
              | false =>
                have : k ≠ b.length := by rintro rfl; rw [Nat.beq_refl] at h; exact absurd h (by decide)
                rw [Nat.sub_zero, seg_of b 0 k (by omega) (by omega), List.drop_zero]
            have s2 : seg zeros k (128 - k) = zeros.drop k := by
              cases k with
              | zero => exact seg_full zeros
              | succ k => rw [seg_of zeros (k + 1) (128 - (k + 1)) (by rw [A.len]; omega) (by rw [A.len]; omega), List.take_of_length_le (by rw [List.length_drop, A.len]; omega)]
            have lt : (b.take k).length = k := by rw [List.length_take]; omega
            have ld : (zeros.drop k).length = 128 - k := by rw [List.length_drop, A.len]
            have lx : (b.take k ++ zeros.drop k).length = k + (128 - k) := by rw [List.length_append, lt, ld]
            have s3 : seg (b.take k ++ zeros.drop k) 0 (k + (128 - k)) = b.take k ++ zeros.drop k := by rw [← lx]; exact seg_full _
            have ok1 := okB_take B.ok k
            have ok2 := okB_drop A.ok k
            have okx : (b.take k ++ zeros.drop k).all okB = true := by rw [List.all_append, ok1, ok2]; rfl
            simp only [tf, l1, s1, s2, s3, lt, ld, lx, replicate_byteVs, Int.toNat_natCast, okB_fits ok1, okB_fits ok2, okB_bytes okx, okB_bytes B.ok, okY_of okx (by omega), D.eqb_self, Nat.zero_add, Nat.beq_refl, decide_eq_true (show (0 : Int) ≤ (k : Int) by omega), decide_eq_true (show k ≤ 128 by omega), decide_eq_true (show k * 1 ≤ 35184372088832 by omega), decide_eq_true (show (k + (128 - k)) * 1 ≤ 35184372088832 by omega),
              Bool.and_self, cond_true, cond_false, beq_self_eq_true, show (((128 : Nat) : Int) != 128) = false from rfl, show decide ((0 : Int) > 0) = false from rfl]
            rcases W with ⟨w1, w2, w3, w4⟩ | ⟨w1, w2, w3⟩ | ⟨w1, w2, w3⟩
            · simp only [w1, w2, w3, w4, tt, beq_self_eq_true, cond_true]
              rfl
            · rw [if_pos rfl] at w3
              simp only [w1, w2, w3, beq_self_eq_true, cond_true, cond_false]
              rfl
            · simp only [w1, w2, w3, tt, beq_self_eq_true, cond_true, cond_false]
  | false =>
    have e0 : old ≠ 0 := by intro h; rw [h] at g0; simp at g0
    rw [cond_false]
    cases g1' : errS old ds != 0 with
    | true => rfl
    | false =>
      cases g1 : errS now bs != 0 with
      | true => rfl
      | false =>
        cases g2 : old == now with
        | true => rfl
        | false =>
          have e2 : old ≠ now := by intro h; rw [h] at g2; simp at g2
          cases g3 : decide (cut < 0) with
          | true => rfl
          | false =>
            cases g4 : decide (cut > 128) with
            | true => rfl
            | false =>
              have e3 := of_decide_eq_false g3
              have e4 := of_decide_eq_false g4
              obtain ⟨k, rfl⟩ : ∃ k : Nat, cut = (k : Int) := ⟨cut.toNat, by omega⟩
              have B := sect_seal (okY_spec hb).1 g1
              have A := sect_seal (okY_spec hd).1 g1'
              have hz : now ≠ 0 := by rintro rfl; exact absurd (errS_ok g1).1 (by decide)
              generalize hbb : sealR now bs = b at *
              generalize haa : sealR old ds = a at *
              have l2 : a.length = 128 := A.len
              have W := (torn_ways A B hz e2 k).X _ rfl
              have l1 : b.length = 128 := B.len
              have s1 : seg b 0 (k - 0) = b.take k := by
                cases h : Nat.beq k b.length with
                | true => rw [Nat.sub_zero, Nat.eq_of_beq_eq_true h, seg_full, List.take_length]
                | false =>
                  have : k ≠ b.length := by rintro rfl; rw [Nat.beq_refl] at h; exact absurd h (by decide)
                  rw [Nat.sub_zero, seg_of b 0 k (by omega) (by omega), List.drop_zero]
              have s2 : seg a k (128 - k) = a.drop k := by
                cases k with
                | zero => rw [Nat.sub_zero, ← l2]; exact seg_full a
                | succ k => rw [seg_of a (k + 1) (128 - (k + 1)) (by rw [A.len]; omega) (by rw [A.len]; omega), List.take_of_length_le (by rw [List.length_drop, A.len]; omega)]
              have lt : (b.take k).length = k := by rw [List.length_take]; omega
              have ld : (a.drop k).length = 128 - k := by rw [List.length_drop, A.len]
              have lx : (b.take k ++ a.drop k).length = k + (128 - k) := by rw [List.length_append, lt, ld]
              have s3 : seg (b.take k ++ a.drop k) 0 (k + (128 - k)) = b.take k ++ a.drop k := by rw [← lx]; exact seg_full _
              have ok1 := okB_take B.ok k
              have ok2 := okB_drop A.ok k
              have okx : (b.take k ++ a.drop k).all okB = true := by rw [List.all_append, ok1, ok2]; rfl
              simp only [tf, l1, l2, decide_eq_true (show old > 0 by omega), decide_eq_true (Nat.le_refl 128), s1, s2, s3, lt, ld, lx, okB_bytes A.ok, Int.toNat_natCast, okB_fits ok1, okB_fits ok2, okB_bytes okx, okB_bytes B.ok, okY_of okx (by omega), D.eqb_self, Nat.zero_add, Nat.beq_refl, decide_eq_true (show (0 : Int) ≤ (k : Int) by omega), decide_eq_true (show k ≤ 128 by omega), decide_eq_true (show k * 1 ≤ 35184372088832 by omega), decide_eq_true (show (k + (128 - k)) * 1 ≤ 35184372088832 by omega),
                Bool.and_self, cond_true, cond_false, beq_self_eq_true, show (((128 : Nat) : Int) != 128) = false from rfl]
              rcases W with ⟨w1, w2, w3, w4⟩ | ⟨w1, w2, w3⟩ | ⟨w1, w2, w3⟩
              · simp only [w1, w2, w3, w4, tt, beq_self_eq_true, cond_true]
                rfl
              · rw [if_neg e0] at w3
                simp only [w1, w2, w3.1, w3.2, beq_self_eq_true, cond_true, cond_false]
                rfl
              · simp only [w1, w2, w3, tt, beq_self_eq_true, cond_true, cond_false]

theorem torn_funOk : FunOk Try.prog 5 (runF (envOf tab Sr [] [] H5) true Try.f5) :=
  run_funOk (E := envOf tab Sr [] [] H5) (fz := true) (fn := Try.f5) (envOf_ok progOk Sr_ok) (by kernel_rfl) (by kernel_rfl) (loops_none (by kernel_rfl))

theorem torn_law (xs : List D) (h : okAll tab 8 [22, 22, 23, 23, 3] xs = true) (hs : sizeDL xs ≤ 1048576) : ∃ F, FunOk Try.prog 5 F ∧ F (xs.map .dat) [] = some ([.dat (.bool true)], []) := by
  obtain ⟨x0, xs, rfl, h0, h⟩ := okAll_cons h
  obtain ⟨x1, xs, rfl, h1, h⟩ := okAll_cons h
  obtain ⟨x2, xs, rfl, h2, h⟩ := okAll_cons h
  obtain ⟨x3, xs, rfl, h3, h⟩ := okAll_cons h
  obtain ⟨x4, xs, rfl, h4, h⟩ := okAll_cons h
  obtain rfl := okAll_nil h
  obtain ⟨o, rfl, ho⟩ := okV_int (k := .u64) h0 rfl rfl
  obtain ⟨n, rfl, hn⟩ := okV_int (k := .u64) h1 rfl rfl
  obtain ⟨l, rfl, k1⟩ := okV_slc (s := .one) h2 rfl rfl rfl
  obtain ⟨b, rfl, k2⟩ := okV_slc (s := .one) h3 rfl rfl rfl
  obtain ⟨c, rfl, hc⟩ := okV_int (k := .i64) h4 rfl rfl
  simp only [sizeDL, sizeD] at hs
  have := length_sizeDL l
  have := length_sizeDL b
  simp [Lit.wf, IntKind.min, IntKind.max, IntKind.signed, IntKind.bits] at ho hn
  refine ⟨_, torn_funOk, ?_⟩
  exact torn_true o n c l b (by omega) (by omega) (okV_okY k1 (by omega)) (okV_okY k2 (by omega))

end Go.Proofs.Ytfajnpnmghbdpaa
