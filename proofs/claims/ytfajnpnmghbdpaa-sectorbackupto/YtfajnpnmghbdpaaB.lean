/- Seat 08: the sum. -/
import Derived.Test.YtfajnpnmghbdpaaA
namespace Go.Proofs.Ytfajnpnmghbdpaa
open Go.AX
set_option maxRecDepth 100000

/-! The sum, on words of 32 bits. -/
abbrev W32 := BitVec 32
def poly : W32 := 2197175160#32
def crcBit (x : W32) : W32 := bif x.getLsbD 0 then (x >>> 1) ^^^ poly else x >>> 1
def crcN : Nat → W32 → W32
  | 0, x => x
  | n + 1, x => crcBit (crcN n x)
def toI (x : W32) : Int := (x.toNat : Int)
def byteX (d : D) : W32 := BitVec.ofInt 32 (IntKind.wrap .u32 (D.getI d))
def crcTo (ds : List D) (r : W32) : Nat → W32
  | 0 => r
  | j + 1 => crcN 8 (crcTo ds r j ^^^ byteX (nthD ds j))

theorem ofI_toI (x : W32) : BitVec.ofInt 32 (toI x) = x := by
  unfold toI
  rw [BitVec.ofInt_natCast]
  exact BitVec.eq_of_toNat_eq (by simp)
theorem wrap_toI (x : W32) : IntKind.wrap .u32 (toI x) = toI x := by
  unfold toI
  have := x.isLt
  rw [IntKind.wrap_u32]; omega
theorem half_toI (x : W32) : Int.fdiv (toI x) 2 = toI (x >>> 1) := by
  unfold toI
  rw [Int.fdiv_eq_ediv_of_nonneg _ (by omega), BitVec.toNat_ushiftRight, Nat.shiftRight_eq_div_pow]
  omega
theorem toI_eq {x : W32} {r : Int} (h : IntKind.wrap .u32 r = r) (hx : x = BitVec.ofInt 32 r) : toI x = r := by
  subst hx
  rw [IntKind.wrap_u32] at h
  obtain ⟨n, rfl⟩ := Int.eq_ofNat_of_zero_le (show 0 ≤ r by omega)
  unfold toI
  rw [BitVec.ofInt_natCast, BitVec.toNat_ofNat, Nat.mod_eq_of_lt (by omega)]
theorem odd_toI (x : W32) : (IntKind.wrap .u32 ((BitVec.toNat (BitVec.ofInt 32 (toI x) &&& BitVec.ofInt 32 (1 : Int)) : Nat) : Int) == (1 : Int)) = x.getLsbD 0 := by
  rw [ofI_toI]
  have e : x &&& BitVec.ofInt 32 1 = bif x.getLsbD 0 then 1#32 else 0#32 := by
    apply BitVec.eq_of_getLsbD_eq
    intro i hi
    rw [BitVec.getLsbD_and, show BitVec.ofInt 32 1 = 1#32 from rfl]
    cases i with
    | zero => cases x.getLsbD 0 <;> rfl
    | succ i =>
      have h1 : (1#32 : BitVec 32).getLsbD (i + 1) = false := by simp
      rw [h1, Bool.and_false]
      cases x.getLsbD 0 with
      | true => exact h1.symm
      | false => simp
  rw [e]
  cases x.getLsbD 0 <;> rfl

def bits_fr (_ : Store) (ds : List D) (n j : Int) : (Int × Int) → Frame' := fun ⟨i, r⟩ => mkF 37 [(5, .dat (.int .u32 r)), (8, .dat (.int .i64 i)), (12, .dat (.slc .one ds)), (13, .dat (.int .i64 n)), (14, .dat (.int .i64 j))]
def bits_st (σ : Store) (_ : List D) (_ _ : Int) : (Int × Int) → Store := fun ⟨_, _⟩ => σ
def bits_step (σ : Store) (ds : List D) (n j : Int) : (Int × Int) → T ((Int × Int) ⊕ LOut) := fun ⟨i, r⟩ => 
  .br (i == (8 : Int)) (.leaf (.inr ((some (1 : Nat)), mkF (37 : Nat) [((5 : Nat), AV.dat (D.int IntKind.u32 r)), ((12 : Nat), AV.dat (D.slc Sh.one ds)), ((13 : Nat), AV.dat (D.int IntKind.i64 n)), ((14 : Nat), AV.dat (D.int IntKind.i64 j))], σ))) (
   .br (IntKind.wrap IntKind.u32 (↑(BitVec.toNat (BitVec.ofInt (32 : Nat) r &&& BitVec.ofInt (32 : Nat) (1 : Int))) : Int) == (1 : Int)) (.leaf (.inl ((IntKind.wrap IntKind.i64 (i + (1 : Int))), (IntKind.wrap IntKind.u32 (↑(BitVec.toNat (BitVec.ofInt (32 : Nat) (Int.fdiv r (2 : Int)) ^^^ BitVec.ofInt (32 : Nat) (2197175160 : Int))) : Int))))) (.leaf (.inl ((IntKind.wrap IntKind.i64 (i + (1 : Int))), (Int.fdiv r (2 : Int))))))
theorem bits_round (lp : Loops) (σ : Store) (ds : List D) (n j : Int) (i : Int) (r : Int) (K : Kt) : oneRound (envOf tab [] [] lp []) Try.f23 1 (σ.length) (mkF 37 [(5, .dat (.int .u32 r)), (8, .dat (.int .i64 i)), (12, .dat (.slc .one ds)), (13, .dat (.int .i64 n)), (14, .dat (.int .i64 j))]) (σ) K =
  (bif i == (8 : Int) then K (Exit.exit (1 : Nat)) (mkF (37 : Nat) [((5 : Nat), AV.dat (D.int IntKind.u32 r)), ((12 : Nat), AV.dat (D.slc Sh.one ds)), ((13 : Nat), AV.dat (D.int IntKind.i64 n)), ((14 : Nat), AV.dat (D.int IntKind.i64 j))]) (σ) else 
   (bif IntKind.wrap IntKind.u32 (↑(BitVec.toNat (BitVec.ofInt (32 : Nat) r &&& BitVec.ofInt (32 : Nat) (1 : Int))) : Int) == (1 : Int) then K (Exit.normal) (mkF (37 : Nat) [((5 : Nat), AV.dat (D.int IntKind.u32 (IntKind.wrap IntKind.u32 (↑(BitVec.toNat (BitVec.ofInt (32 : Nat) (Int.fdiv r (2 : Int)) ^^^ BitVec.ofInt (32 : Nat) (2197175160 : Int))) : Int)))), ((8 : Nat), AV.dat (D.int IntKind.i64 (IntKind.wrap IntKind.i64 (i + (1 : Int))))), ((12 : Nat), AV.dat (D.slc Sh.one ds)), ((13 : Nat), AV.dat (D.int IntKind.i64 n)), ((14 : Nat), AV.dat (D.int IntKind.i64 j)), ((22 : Nat), AV.dat (D.int IntKind.i64 i)), ((23 : Nat), AV.dat (D.int IntKind.i64 (IntKind.wrap IntKind.i64 (i + (1 : Int)))))]) (σ) else K (Exit.normal) (mkF (37 : Nat) [((5 : Nat), AV.dat (D.int IntKind.u32 (Int.fdiv r (2 : Int)))), ((8 : Nat), AV.dat (D.int IntKind.i64 (IntKind.wrap IntKind.i64 (i + (1 : Int))))), ((12 : Nat), AV.dat (D.slc Sh.one ds)), ((13 : Nat), AV.dat (D.int IntKind.i64 n)), ((14 : Nat), AV.dat (D.int IntKind.i64 j)), ((22 : Nat), AV.dat (D.int IntKind.i64 i)), ((23 : Nat), AV.dat (D.int IntKind.i64 (IntKind.wrap IntKind.i64 (i + (1 : Int)))))]) (σ))) := by kernel_rfl
theorem bits_hr (lp : Loops) (σ : Store) (ds : List D) (n j : Int) : ∀ (sA : (Int × Int)) (K : Kt) (N : (Int × Int) → Option Res), (∀ sB fr' σ', cleanF (liveAt Try.f23 1) 0 fr' = bits_fr σ ds n j sB → trim (σ.length) (bits_fr σ ds n j sB) σ' = bits_st σ ds n j sB → K .normal fr' σ' = N sB) →
    oneRound (envOf tab [] [] lp []) Try.f23 1 (σ.length) (bits_fr σ ds n j sA) (bits_st σ ds n j sA) K = (bits_step σ ds n j sA).k (LK K N) := by
  intro sA K N hN
  obtain ⟨i, r⟩ := sA
  exact (bits_round lp σ ds n j i r K).trans (cong2 rfl (cong2 (hN ((IntKind.wrap IntKind.i64 (i + (1 : Int))), (IntKind.wrap IntKind.u32 (↑(BitVec.toNat (BitVec.ofInt (32 : Nat) (Int.fdiv r (2 : Int)) ^^^ BitVec.ofInt (32 : Nat) (2197175160 : Int))) : Int))) _ _ (by kernel_rfl) (trim_self (Nat.le_refl _))) (hN ((IntKind.wrap IntKind.i64 (i + (1 : Int))), (Int.fdiv r (2 : Int))) _ _ (by kernel_rfl) (trim_self (Nat.le_refl _)))))
theorem bits_enter (σ : Store) (ds : List D) (n j : Int) (i : Int) (r : Int) (fr : Frame') (hl : Nat.beq fr.length 37 = true) (g5 : fr.getD 5 .undef = AV.dat (D.int IntKind.u32 r)) (g8 : fr.getD 8 .undef = AV.dat (D.int IntKind.i64 i)) (g12 : fr.getD 12 .undef = AV.dat (D.slc Sh.one ds)) (g13 : fr.getD 13 .undef = AV.dat (D.int IntKind.i64 n)) (g14 : fr.getD 14 .undef = AV.dat (D.int IntKind.i64 j)) : cleanF (liveAt Try.f23 1) 0 fr = bits_fr σ ds n j (i, r) := by
  have e : liveAt Try.f23 1 = [14, 13, 12, 5, 8] := by kernel_rfl
  rw [clean_mk (Nat.eq_of_beq_eq_true hl), e]
  show mkF 37 [(14, fr.getD 14 .undef), (13, fr.getD 13 .undef), (12, fr.getD 12 .undef), (5, fr.getD 5 .undef), (8, fr.getD 8 .undef)] = _
  rw [g14, g13, g12, g5, g8]
  kernel_rfl


theorem bits_closed (σ : Store) (ds : List D) (n j r : Int) (hc : decide (IntKind.wrap .u32 r = r) = true) :
    ∃ m, (iterT (bits_step σ ds n j) m (0, r)).run = T.run (.leaf (some 1, mkF 37 [(5, .dat (.int .u32 (toI (crcN 8 (BitVec.ofInt 32 r))))), (12, .dat (.slc .one ds)), (13, .dat (.int .i64 n)), (14, .dat (.int .i64 j))], σ)) := by
  have h0 := toI_eq (of_decide_eq_true hc) rfl
  have key := iter_range (step := bits_step σ ds n j) (n := 8) (o := (some 1, mkF 37 [(5, .dat (.int .u32 (toI (crcN 8 (BitVec.ofInt 32 r))))), (12, .dat (.slc .one ds)), (13, .dat (.int .i64 n)), (14, .dat (.int .i64 j))], σ)) (fun i => toI (crcN i (BitVec.ofInt 32 r))) (fun i hi => ?_) ?_
  · rw [show toI (crcN 0 (BitVec.ofInt 32 r)) = r from h0] at key
    exact key
  · unfold bits_step
    have e1 : ((i : Int) == 8) = false := beq_eq_false_iff_ne.2 (by omega)
    simp only [e1, odd_toI, half_toI, wrap_succ (show i < 2 ^ 62 by omega)]
    show _ = some (Sum.inl (_, toI (crcBit (crcN i (BitVec.ofInt 32 r)))))
    unfold crcBit
    cases (crcN i (BitVec.ofInt 32 r)).getLsbD 0 with
    | true =>
      have e2 : IntKind.wrap .u32 ((BitVec.toNat (BitVec.ofInt 32 (toI (crcN i (BitVec.ofInt 32 r) >>> 1)) ^^^ BitVec.ofInt 32 (2197175160 : Int)) : Nat) : Int) = toI (crcN i (BitVec.ofInt 32 r) >>> 1 ^^^ poly) := by
        rw [ofI_toI]; exact wrap_toI _
      rw [e2]; rfl
    | false => rfl
  · unfold bits_step
    simp only [show (((8 : Nat) : Int) == 8) = true from rfl]
    rfl

def L_bits : Frame' → Store → T (Exit × Frame' × Store) := fun fr σ => match fr.getD 5 .undef, fr.getD 8 .undef, fr.getD 12 .undef, fr.getD 13 .undef, fr.getD 14 .undef with
  | AV.dat (D.int IntKind.u32 r), AV.dat (D.int IntKind.i64 0), AV.dat (D.slc Sh.one ds), AV.dat (D.int IntKind.i64 n), AV.dat (D.int IntKind.i64 j) => .chk (Nat.beq fr.length 37 && (decide (IntKind.wrap .u32 r = r))) (T.bind (.leaf (some 1, mkF 37 [(5, .dat (.int .u32 (toI (crcN 8 (BitVec.ofInt 32 r))))), (12, .dat (.slc .one ds)), (13, .dat (.int .i64 n)), (14, .dat (.int .i64 j))], σ)) fun o => .leaf (outEx o.1, o.2.1, o.2.2))
  | _, _, _, _, _ => .fail
theorem bits_sem (lp : Loops) : ∀ fr σ p, (L_bits fr σ).run = some p → ∀ (K : Kt) r, K p.1 p.2.1 p.2.2 = some r → ∃ n, loopRun (envOf tab [] [] lp []) Try.f23 1 σ.length n (cleanF (liveAt Try.f23 1) 0 fr) σ K = some r := by
  intro fr σ p h K r hK
  unfold L_bits at h
  split at h
  · rename_i r ds n j g5 g8 g12 g13 g14
    obtain ⟨hc, h'⟩ := T.chk_some h
    rw [Bool.and_eq_true] at hc
    obtain ⟨hl, hc⟩ := hc
    obtain ⟨o, ho, h'⟩ := T.bind_some h'
    have hp := T.leaf_some h'
    subst hp
    obtain ⟨nF, hn⟩ : ∃ nF, (iterT (bits_step σ ds n j) nF ((0, r))).run = T.run (.leaf (some 1, mkF 37 [(5, .dat (.int .u32 (toI (crcN 8 (BitVec.ofInt 32 r))))), (12, .dat (.slc .one ds)), (13, .dat (.int .i64 n)), (14, .dat (.int .i64 j))], σ)) := bits_closed σ ds n j r hc
    rw [ho] at hn
    refine ⟨nF, ?_⟩
    have he : cleanF (liveAt Try.f23 1) 0 fr = bits_fr σ ds n j ((0, r)) := bits_enter σ ds n j _ _ fr hl g5 g8 g12 g13 g14
    refine (iter_ok (base := σ.length) (bits_hr lp σ ds n j) K nF ((0, r)) _ _ (by rw [clean_clean]; exact he) (trim_self (Nat.le_refl _))).trans ?_
    rw [T.k_run hn]
    exact hK
  · simp [T.run_fail] at h
theorem bits_loopOk (lp : Loops) (hk : Loops.get lp 8 = some L_bits) : LoopOk (envOf tab [] [] lp []) (loopAt Try.f23 1).1 (loopAt Try.f23 1).2 := loop_ok (L := L_bits) hk (bits_sem lp)


def on_fr (_ : Store) (ds : List D) (n : Int) : (Int × Int) → Frame' := fun ⟨j, r⟩ => mkF 37 [(5, .dat (.int .u32 r)), (12, .dat (.slc .one ds)), (13, .dat (.int .i64 n)), (14, .dat (.int .i64 j))]
def on_st (σ : Store) (_ : List D) (_ : Int) : (Int × Int) → Store := fun ⟨_, _⟩ => σ
def on_step (σ : Store) (ds : List D) (n : Int) : (Int × Int) → T ((Int × Int) ⊕ LOut) := fun ⟨j, r⟩ => 
  .br (decide (j < n)) (
   .chk (decide ((0 : Int) ≤ j)) (
    .chk (decide (Int.toNat j < List.length ds)) (
     .chk (okE (Ek.int IntKind.u8) (nthD ds (Int.toNat j))) (
      .chk (decide (IntKind.wrap IntKind.u32 (IntKind.wrap IntKind.u32 (↑(BitVec.toNat (BitVec.ofInt (32 : Nat) r ^^^ BitVec.ofInt (32 : Nat) (IntKind.wrap IntKind.u32 (D.getI (nthD ds (Int.toNat j)))))) : Int)) = IntKind.wrap IntKind.u32 (↑(BitVec.toNat (BitVec.ofInt (32 : Nat) r ^^^ BitVec.ofInt (32 : Nat) (IntKind.wrap IntKind.u32 (D.getI (nthD ds (Int.toNat j)))))) : Int))) (.leaf (.inl ((IntKind.wrap IntKind.i64 (j + (1 : Int))), (toI (crcN (8 : Nat) (BitVec.ofInt (32 : Nat) (IntKind.wrap IntKind.u32 (↑(BitVec.toNat (BitVec.ofInt (32 : Nat) r ^^^ BitVec.ofInt (32 : Nat) (IntKind.wrap IntKind.u32 (D.getI (nthD ds (Int.toNat j)))))) : Int)))))))))))) (.leaf (.inr ((some (0 : Nat)), mkF (37 : Nat) [((5 : Nat), AV.dat (D.int IntKind.u32 r))], σ)))
theorem on_round (lp : Loops) (σ : Store) (ds : List D) (n : Int) (j : Int) (r : Int) (K : Kt) : oneRound (envOf tab [] [] ((8, L_bits) :: lp) []) Try.f23 0 (σ.length) (mkF 37 [(5, .dat (.int .u32 r)), (12, .dat (.slc .one ds)), (13, .dat (.int .i64 n)), (14, .dat (.int .i64 j))]) (σ) K =
  (bif decide (j < n) then 
   (bif decide ((0 : Int) ≤ j) then 
    (bif decide (Int.toNat j < List.length ds) then 
     (bif okE (Ek.int IntKind.u8) (nthD ds (Int.toNat j)) then 
      (bif decide (IntKind.wrap IntKind.u32 (IntKind.wrap IntKind.u32 (↑(BitVec.toNat (BitVec.ofInt (32 : Nat) r ^^^ BitVec.ofInt (32 : Nat) (IntKind.wrap IntKind.u32 (D.getI (nthD ds (Int.toNat j)))))) : Int)) = IntKind.wrap IntKind.u32 (↑(BitVec.toNat (BitVec.ofInt (32 : Nat) r ^^^ BitVec.ofInt (32 : Nat) (IntKind.wrap IntKind.u32 (D.getI (nthD ds (Int.toNat j)))))) : Int)) then K (Exit.normal) (mkF (37 : Nat) [((5 : Nat), AV.dat (D.int IntKind.u32 (toI (crcN (8 : Nat) (BitVec.ofInt (32 : Nat) (IntKind.wrap IntKind.u32 (↑(BitVec.toNat (BitVec.ofInt (32 : Nat) r ^^^ BitVec.ofInt (32 : Nat) (IntKind.wrap IntKind.u32 (D.getI (nthD ds (Int.toNat j)))))) : Int))))))), ((12 : Nat), AV.dat (D.slc Sh.one ds)), ((13 : Nat), AV.dat (D.int IntKind.i64 n)), ((14 : Nat), AV.dat (D.int IntKind.i64 (IntKind.wrap IntKind.i64 (j + (1 : Int))))), ((15 : Nat), AV.dat (D.bool (decide (j < n)))), ((34 : Nat), AV.dat (D.int IntKind.i64 (IntKind.wrap IntKind.i64 (j + (1 : Int)))))]) (σ) else none) else none) else none) else none) else K (Exit.exit (0 : Nat)) (mkF (37 : Nat) [((5 : Nat), AV.dat (D.int IntKind.u32 r))]) (σ)) := by kernel_rfl
theorem on_hr (lp : Loops) (σ : Store) (ds : List D) (n : Int) : ∀ (sA : (Int × Int)) (K : Kt) (N : (Int × Int) → Option Res), (∀ sB fr' σ', cleanF (liveAt Try.f23 0) 0 fr' = on_fr σ ds n sB → trim (σ.length) (on_fr σ ds n sB) σ' = on_st σ ds n sB → K .normal fr' σ' = N sB) →
    oneRound (envOf tab [] [] ((8, L_bits) :: lp) []) Try.f23 0 (σ.length) (on_fr σ ds n sA) (on_st σ ds n sA) K = (on_step σ ds n sA).k (LK K N) := by
  intro sA K N hN
  obtain ⟨j, r⟩ := sA
  exact (on_round lp σ ds n j r K).trans (cong2 (cong2 (cong2 (cong2 (cong2 (hN ((IntKind.wrap IntKind.i64 (j + (1 : Int))), (toI (crcN (8 : Nat) (BitVec.ofInt (32 : Nat) (IntKind.wrap IntKind.u32 (↑(BitVec.toNat (BitVec.ofInt (32 : Nat) r ^^^ BitVec.ofInt (32 : Nat) (IntKind.wrap IntKind.u32 (D.getI (nthD ds (Int.toNat j)))))) : Int)))))) _ _ (by kernel_rfl) (trim_self (Nat.le_refl _))) rfl) rfl) rfl) rfl) rfl)
theorem on_enter (σ : Store) (ds : List D) (n : Int) (j : Int) (r : Int) (fr : Frame') (hl : Nat.beq fr.length 37 = true) (g5 : fr.getD 5 .undef = AV.dat (D.int IntKind.u32 r)) (g12 : fr.getD 12 .undef = AV.dat (D.slc Sh.one ds)) (g13 : fr.getD 13 .undef = AV.dat (D.int IntKind.i64 n)) (g14 : fr.getD 14 .undef = AV.dat (D.int IntKind.i64 j)) : cleanF (liveAt Try.f23 0) 0 fr = on_fr σ ds n (j, r) := by
  have e : liveAt Try.f23 0 = [13, 12, 14, 5] := by kernel_rfl
  rw [clean_mk (Nat.eq_of_beq_eq_true hl), e]
  show mkF 37 [(13, fr.getD 13 .undef), (12, fr.getD 12 .undef), (14, fr.getD 14 .undef), (5, fr.getD 5 .undef)] = _
  rw [g13, g12, g14, g5]
  kernel_rfl


def okB8 (ds : List D) : Bool := ds.all (okE (.int .u8)) && decide (ds.length ≤ 2 ^ 40)
theorem okB8_spec {ds : List D} (h : okB8 ds = true) : ds.all (okE (.int .u8)) = true ∧ ds.length ≤ 2 ^ 40 := by
  unfold okB8 at h
  simpa only [Bool.and_eq_true, decide_eq_true_eq] using h

theorem xor_toI (x y : W32) : IntKind.wrap .u32 ((BitVec.toNat (x ^^^ y) : Nat) : Int) = toI (x ^^^ y) := wrap_toI (x ^^^ y)

theorem on_closed (σ : Store) (ds : List D) (n r : Int) (hc : (decide (n = (ds.length : Int)) && okB8 ds && decide (IntKind.wrap .u32 r = r)) = true) :
    ∃ m, (iterT (on_step σ ds n) m (0, r)).run = T.run (.leaf (some 0, mkF 37 [(5, .dat (.int .u32 (toI (crcTo ds (BitVec.ofInt 32 r) ds.length))))], σ)) := by
  simp only [Bool.and_eq_true, decide_eq_true_eq] at hc
  obtain ⟨⟨rfl, hd⟩, hr⟩ := hc
  obtain ⟨h1, h2⟩ := okB8_spec hd
  have h0 := toI_eq hr rfl
  have key := iter_range (step := on_step σ ds ds.length) (n := ds.length) (o := (some 0, mkF 37 [(5, .dat (.int .u32 (toI (crcTo ds (BitVec.ofInt 32 r) ds.length))))], σ)) (fun i => toI (crcTo ds (BitVec.ofInt 32 r) i)) (fun i hi => ?_) ?_
  · rw [show toI (crcTo ds (BitVec.ofInt 32 r) 0) = r from h0] at key
    exact key
  · unfold on_step
    simp only [decide_eq_true (show (i : Int) < (ds.length : Int) by omega), decide_eq_true (show (0 : Int) ≤ (i : Int) by omega), Int.toNat_natCast, decide_eq_true hi, allE_nth h1 hi, ofI_toI, xor_toI, wrap_toI, decide_true, wrap_succ (show i < 2 ^ 62 by omega)]
    rfl
  · unfold on_step
    simp only [decide_eq_false (show ¬ (ds.length : Int) < (ds.length : Int) by omega)]
    rfl

def L_on : Frame' → Store → T (Exit × Frame' × Store) := fun fr σ => match fr.getD 5 .undef, fr.getD 12 .undef, fr.getD 13 .undef, fr.getD 14 .undef with
  | AV.dat (D.int IntKind.u32 r), AV.dat (D.slc Sh.one ds), AV.dat (D.int IntKind.i64 n), AV.dat (D.int IntKind.i64 0) => .chk (Nat.beq fr.length 37 && (decide (n = (ds.length : Int)) && okB8 ds && decide (IntKind.wrap .u32 r = r))) (T.bind (.leaf (some 0, mkF 37 [(5, .dat (.int .u32 (toI (crcTo ds (BitVec.ofInt 32 r) ds.length))))], σ)) fun o => .leaf (outEx o.1, o.2.1, o.2.2))
  | _, _, _, _ => .fail
theorem on_sem (lp : Loops) : ∀ fr σ p, (L_on fr σ).run = some p → ∀ (K : Kt) r, K p.1 p.2.1 p.2.2 = some r → ∃ n, loopRun (envOf tab [] [] ((8, L_bits) :: lp) []) Try.f23 0 σ.length n (cleanF (liveAt Try.f23 0) 0 fr) σ K = some r := by
  intro fr σ p h K r hK
  unfold L_on at h
  split at h
  · rename_i r ds n g5 g12 g13 g14
    obtain ⟨hc, h'⟩ := T.chk_some h
    rw [Bool.and_eq_true] at hc
    obtain ⟨hl, hc⟩ := hc
    obtain ⟨o, ho, h'⟩ := T.bind_some h'
    have hp := T.leaf_some h'
    subst hp
    obtain ⟨nF, hn⟩ : ∃ nF, (iterT (on_step σ ds n) nF ((0, r))).run = T.run (.leaf (some 0, mkF 37 [(5, .dat (.int .u32 (toI (crcTo ds (BitVec.ofInt 32 r) ds.length))))], σ)) := on_closed σ ds n r hc
    rw [ho] at hn
    refine ⟨nF, ?_⟩
    have he : cleanF (liveAt Try.f23 0) 0 fr = on_fr σ ds n ((0, r)) := on_enter σ ds n _ _ fr hl g5 g12 g13 g14
    refine (iter_ok (base := σ.length) (on_hr lp σ ds n) K nF ((0, r)) _ _ (by rw [clean_clean]; exact he) (trim_self (Nat.le_refl _))).trans ?_
    rw [T.k_run hn]
    exact hK
  · simp [T.run_fail] at h
theorem on_loopOk (lp : Loops) (hk : Loops.get lp 3 = some L_on) : LoopOk (envOf tab [] [] ((8, L_bits) :: lp) []) (loopAt Try.f23 0).1 (loopAt Try.f23 0).2 := loop_ok (L := L_on) hk (on_sem lp)


abbrev E_on : Env := envOf tab [] [] [(8, L_bits), (3, L_on)] []
theorem on_loops : ∀ x ∈ fnLoops Try.f23, LoopOk E_on x.1 x.2 := by
  refine loops_all 2 (by kernel_rfl) fun i hi => ?_
  match i, hi with
  | 0, _ => exact on_loopOk _ rfl
  | 1, _ => exact bits_loopOk _ rfl
  | n + 2, h => omega

def S_on : FunT := fun args σ => match args, σ with
  | [AV.dat (D.int IntKind.u32 r), AV.dat (D.slc Sh.one ds)], [] => 
    .chk (decide ((↑(List.length ds) : Int) = (↑(List.length ds) : Int)) && okB8 ds && decide (IntKind.wrap IntKind.u32 (IntKind.wrap IntKind.u32 (↑(BitVec.toNat (BitVec.ofInt (32 : Nat) (4294967295 : Int) ^^^ BitVec.ofInt (32 : Nat) r)) : Int)) = IntKind.wrap IntKind.u32 (↑(BitVec.toNat (BitVec.ofInt (32 : Nat) (4294967295 : Int) ^^^ BitVec.ofInt (32 : Nat) r)) : Int))) (.leaf ([AV.dat (D.int IntKind.u32 (IntKind.wrap IntKind.u32 (↑(BitVec.toNat (BitVec.ofInt (32 : Nat) (4294967295 : Int) ^^^ BitVec.ofInt (32 : Nat) (toI (crcTo ds (BitVec.ofInt (32 : Nat) (IntKind.wrap IntKind.u32 (↑(BitVec.toNat (BitVec.ofInt (32 : Nat) (4294967295 : Int) ^^^ BitVec.ofInt (32 : Nat) r)) : Int))) (List.length ds))))) : Int)))], []))
  | _, _ => .fail
theorem on_case0 (ds : List D) (r : Int) : runF (E_on) true Try.f23 [.dat (.int .u32 r), .dat (.slc .one ds)] [] = FunT.run S_on [.dat (.int .u32 r), .dat (.slc .one ds)] [] := by kernel_rfl
theorem on_ok : FunOk Try.prog 23 (FunT.run S_on) := by
  refine fun_ok (E := E_on) (fz := true) (fn := Try.f23) (envOf_ok progOk (.nil _)) (by kernel_rfl) (by kernel_rfl) on_loops ?_
  intro args σ r h
  unfold S_on at h
  split at h
  · exact (on_case0 _ _).trans h
  · simp [T.run_fail] at h


def sumI (ds : List D) : Int := toI (~~~ crcTo ds (BitVec.ofInt 32 4294967295) ds.length)

/-! The document's. -/
def bitAt (ds : List D) (i : Nat) : Bool := (byteX (nthD ds (i / 8))).getLsbD (i % 8)
def refBit (x : W32) (b : Bool) : W32 := bif x.getLsbD 0 != b then (x >>> 1) ^^^ poly else x >>> 1
def refTo (ds : List D) (r : W32) : Nat → W32
  | 0 => r
  | i + 1 => refBit (refTo ds r i) (bitAt ds i)

def run_fr (_ : Store) (ds : List D) : (Int × Int) → Frame' := fun ⟨i, r⟩ => mkF 36 [(0, .dat (.int .u32 r)), (1, .dat (.slc .one ds)), (5, .dat (.int .i64 i))]
def run_st (σ : Store) (_ : List D) : (Int × Int) → Store := fun ⟨_, _⟩ => σ
def run_step (σ : Store) (ds : List D) : (Int × Int) → T ((Int × Int) ⊕ LOut) := fun ⟨i, r⟩ => 
  .br (decide (i < IntKind.wrap IntKind.i64 ((8 : Int) * (↑(List.length ds) : Int)))) (
   .chk (decide ((0 : Int) ≤ IntKind.wrap IntKind.i64 (Int.tdiv i (8 : Int)))) (
    .chk (decide (Int.toNat (IntKind.wrap IntKind.i64 (Int.tdiv i (8 : Int))) < List.length ds)) (
     .chk (okE (Ek.int IntKind.u8) (nthD ds (Int.toNat (IntKind.wrap IntKind.i64 (Int.tdiv i (8 : Int)))))) (
      .chk (decide ((0 : Int) ≤ IntKind.wrap IntKind.u64 (Int.tmod i (8 : Int)))) (
       .br (Int.tmod r (2 : Int) != Int.tmod (Int.fdiv (IntKind.wrap IntKind.u32 (D.getI (nthD ds (Int.toNat (IntKind.wrap IntKind.i64 (Int.tdiv i (8 : Int))))))) ((2 : Int) ^ min (Int.toNat (IntKind.wrap IntKind.u64 (Int.tmod i (8 : Int)))) (32 : Nat))) (2 : Int)) (.leaf (.inl ((IntKind.wrap IntKind.i64 (i + (1 : Int))), (IntKind.wrap IntKind.u32 (↑(BitVec.toNat (BitVec.ofInt (32 : Nat) (IntKind.wrap IntKind.u32 (Int.tdiv r (2 : Int))) ^^^ BitVec.ofInt (32 : Nat) (2197175160 : Int))) : Int))))) (.leaf (.inl ((IntKind.wrap IntKind.i64 (i + (1 : Int))), (IntKind.wrap IntKind.u32 (Int.tdiv r (2 : Int))))))))))) (.leaf (.inr ((some (0 : Nat)), mkF (36 : Nat) [((0 : Nat), AV.dat (D.int IntKind.u32 r))], σ)))
theorem run_round (lp : Loops) (σ : Store) (ds : List D) (i : Int) (r : Int) (K : Kt) : oneRound (envOf tab [] [] lp []) Try.f25 0 (σ.length) (mkF 36 [(0, .dat (.int .u32 r)), (1, .dat (.slc .one ds)), (5, .dat (.int .i64 i))]) (σ) K =
  (bif decide (i < IntKind.wrap IntKind.i64 ((8 : Int) * (↑(List.length ds) : Int))) then 
   (bif decide ((0 : Int) ≤ IntKind.wrap IntKind.i64 (Int.tdiv i (8 : Int))) then 
    (bif decide (Int.toNat (IntKind.wrap IntKind.i64 (Int.tdiv i (8 : Int))) < List.length ds) then 
     (bif okE (Ek.int IntKind.u8) (nthD ds (Int.toNat (IntKind.wrap IntKind.i64 (Int.tdiv i (8 : Int))))) then 
      (bif decide ((0 : Int) ≤ IntKind.wrap IntKind.u64 (Int.tmod i (8 : Int))) then 
       (bif Int.tmod r (2 : Int) != Int.tmod (Int.fdiv (IntKind.wrap IntKind.u32 (D.getI (nthD ds (Int.toNat (IntKind.wrap IntKind.i64 (Int.tdiv i (8 : Int))))))) ((2 : Int) ^ min (Int.toNat (IntKind.wrap IntKind.u64 (Int.tmod i (8 : Int)))) (32 : Nat))) (2 : Int) then K (Exit.normal) (mkF (36 : Nat) [((0 : Nat), AV.dat (D.int IntKind.u32 (IntKind.wrap IntKind.u32 (↑(BitVec.toNat (BitVec.ofInt (32 : Nat) (IntKind.wrap IntKind.u32 (Int.tdiv r (2 : Int))) ^^^ BitVec.ofInt (32 : Nat) (2197175160 : Int))) : Int)))), ((1 : Nat), AV.dat (D.slc Sh.one ds)), ((5 : Nat), AV.dat (D.int IntKind.i64 (IntKind.wrap IntKind.i64 (i + (1 : Int))))), ((13 : Nat), AV.dat (D.int IntKind.i64 i)), ((14 : Nat), AV.dat (D.int IntKind.i64 (IntKind.wrap IntKind.i64 (i + (1 : Int)))))]) (σ) else K (Exit.normal) (mkF (36 : Nat) [((0 : Nat), AV.dat (D.int IntKind.u32 (IntKind.wrap IntKind.u32 (Int.tdiv r (2 : Int))))), ((1 : Nat), AV.dat (D.slc Sh.one ds)), ((5 : Nat), AV.dat (D.int IntKind.i64 (IntKind.wrap IntKind.i64 (i + (1 : Int))))), ((13 : Nat), AV.dat (D.int IntKind.i64 i)), ((14 : Nat), AV.dat (D.int IntKind.i64 (IntKind.wrap IntKind.i64 (i + (1 : Int)))))]) (σ)) else none) else none) else none) else none) else K (Exit.exit (0 : Nat)) (mkF (36 : Nat) [((0 : Nat), AV.dat (D.int IntKind.u32 r))]) (σ)) := by kernel_rfl
theorem run_hr (lp : Loops) (σ : Store) (ds : List D) : ∀ (sA : (Int × Int)) (K : Kt) (N : (Int × Int) → Option Res), (∀ sB fr' σ', cleanF (liveAt Try.f25 0) 0 fr' = run_fr σ ds sB → trim (σ.length) (run_fr σ ds sB) σ' = run_st σ ds sB → K .normal fr' σ' = N sB) →
    oneRound (envOf tab [] [] lp []) Try.f25 0 (σ.length) (run_fr σ ds sA) (run_st σ ds sA) K = (run_step σ ds sA).k (LK K N) := by
  intro sA K N hN
  obtain ⟨i, r⟩ := sA
  exact (run_round lp σ ds i r K).trans (cong2 (cong2 (cong2 (cong2 (cong2 (cong2 (hN ((IntKind.wrap IntKind.i64 (i + (1 : Int))), (IntKind.wrap IntKind.u32 (↑(BitVec.toNat (BitVec.ofInt (32 : Nat) (IntKind.wrap IntKind.u32 (Int.tdiv r (2 : Int))) ^^^ BitVec.ofInt (32 : Nat) (2197175160 : Int))) : Int))) _ _ (by kernel_rfl) (trim_self (Nat.le_refl _))) (hN ((IntKind.wrap IntKind.i64 (i + (1 : Int))), (IntKind.wrap IntKind.u32 (Int.tdiv r (2 : Int)))) _ _ (by kernel_rfl) (trim_self (Nat.le_refl _)))) rfl) rfl) rfl) rfl) rfl)
theorem run_enter (σ : Store) (ds : List D) (i : Int) (r : Int) (fr : Frame') (hl : Nat.beq fr.length 36 = true) (g0 : fr.getD 0 .undef = AV.dat (D.int IntKind.u32 r)) (g1 : fr.getD 1 .undef = AV.dat (D.slc Sh.one ds)) (g5 : fr.getD 5 .undef = AV.dat (D.int IntKind.i64 i)) : cleanF (liveAt Try.f25 0) 0 fr = run_fr σ ds (i, r) := by
  have e : liveAt Try.f25 0 = [1, 5, 0] := by kernel_rfl
  rw [clean_mk (Nat.eq_of_beq_eq_true hl), e]
  show mkF 36 [(1, fr.getD 1 .undef), (5, fr.getD 5 .undef), (0, fr.getD 0 .undef)] = _
  rw [g1, g5, g0]
  kernel_rfl


theorem byteI_toI (d : D) : IntKind.wrap .u32 (D.getI d) = toI (byteX d) := by
  have h : IntKind.wrap .u32 (IntKind.wrap .u32 (D.getI d)) = IntKind.wrap .u32 (D.getI d) := by
    rw [IntKind.wrap_u32, IntKind.wrap_u32]; omega
  exact (toI_eq h rfl).symm

theorem mod2_toI (x : W32) : Int.tmod (toI x) 2 = if x.getLsbD 0 then 1 else 0 := by
  unfold toI
  rw [Int.tmod_eq_emod_of_nonneg (by omega)]
  have h : x.getLsbD 0 = decide (x.toNat % 2 = 1) := by
    rw [← BitVec.testBit_toNat, Nat.testBit_zero]
  rw [h]
  by_cases h2 : x.toNat % 2 = 1
  · rw [decide_eq_true h2, if_pos rfl]; omega
  · rw [decide_eq_false h2]; simp; omega

theorem shift_toI (x : W32) (k : Nat) (hk : k ≤ 32) : Int.fdiv (toI x) (2 ^ min k 32) = toI (x >>> k) := by
  unfold toI
  rw [Nat.min_eq_left hk, show (2 : Int) ^ k = ((2 ^ k : Nat) : Int) by push_cast; rfl, Int.fdiv_eq_ediv_of_nonneg _ (Int.natCast_nonneg _), BitVec.toNat_ushiftRight, Nat.shiftRight_eq_div_pow]
  push_cast; rfl

theorem tdiv2_toI (x : W32) : IntKind.wrap .u32 (Int.tdiv (toI x) 2) = toI (x >>> 1) := by
  rw [← half_toI, ← Int.fdiv_eq_tdiv_of_nonneg (by unfold toI; omega) (by omega)]
  rw [half_toI]; exact wrap_toI _

theorem run_closed (σ : Store) (ds : List D) (r : Int) (hc : (okB8 ds && decide (IntKind.wrap .u32 r = r)) = true) :
    ∃ m, (iterT (run_step σ ds) m (0, r)).run = T.run (.leaf (some 0, mkF 36 [(0, .dat (.int .u32 (toI (refTo ds (BitVec.ofInt 32 r) (8 * ds.length)))))], σ)) := by
  simp only [Bool.and_eq_true, decide_eq_true_eq] at hc
  obtain ⟨hd, hr⟩ := hc
  obtain ⟨h1, h2⟩ := okB8_spec hd
  have h0 := toI_eq hr rfl
  have hn : IntKind.wrap .i64 (8 * (ds.length : Int)) = ((8 * ds.length : Nat) : Int) := by rw [IntKind.wrap_i64]; omega
  have key := iter_range (step := run_step σ ds) (n := 8 * ds.length) (o := (some 0, mkF 36 [(0, .dat (.int .u32 (toI (refTo ds (BitVec.ofInt 32 r) (8 * ds.length)))))], σ)) (fun i => toI (refTo ds (BitVec.ofInt 32 r) i)) (fun i hi => ?_) ?_
  · rw [show toI (refTo ds (BitVec.ofInt 32 r) 0) = r from h0] at key
    exact key
  · have hi8 : i / 8 < ds.length := by omega
    have e1 : IntKind.wrap .i64 (Int.tdiv (i : Int) 8) = ((i / 8 : Nat) : Int) := by
      rw [Int.tdiv_eq_ediv_of_nonneg (by omega), IntKind.wrap_i64]; omega
    have e2 : IntKind.wrap .u64 (Int.tmod (i : Int) 8) = ((i % 8 : Nat) : Int) := by
      rw [Int.tmod_eq_emod_of_nonneg (by omega), IntKind.wrap_u64]; omega
    have e3 : Int.tmod (toI (byteX (nthD ds (i / 8)) >>> (i % 8))) 2 = if bitAt ds i then 1 else 0 := by
      rw [mod2_toI, BitVec.getLsbD_ushiftRight]; rfl
    unfold run_step
    simp only [hn, decide_eq_true (show (i : Int) < ((8 * ds.length : Nat) : Int) by omega), e1, e2, decide_eq_true (show (0 : Int) ≤ ((i / 8 : Nat) : Int) by omega), decide_eq_true (show (0 : Int) ≤ ((i % 8 : Nat) : Int) by omega), Int.toNat_natCast, decide_eq_true hi8, allE_nth h1 hi8, wrap_succ (show i < 2 ^ 62 by omega), byteI_toI, shift_toI _ _ (show i % 8 ≤ 32 by omega), e3, mod2_toI, tdiv2_toI, ofI_toI]
    show _ = some (Sum.inl (_, toI (refBit (refTo ds (BitVec.ofInt 32 r) i) (bitAt ds i))))
    unfold refBit
    have e4 : IntKind.wrap .u32 ((BitVec.toNat (refTo ds (BitVec.ofInt 32 r) i >>> 1 ^^^ BitVec.ofInt 32 (2197175160 : Int)) : Nat) : Int) = toI (refTo ds (BitVec.ofInt 32 r) i >>> 1 ^^^ poly) := wrap_toI _
    rw [e4]
    cases (refTo ds (BitVec.ofInt 32 r) i).getLsbD 0 <;> cases bitAt ds i <;> rfl
  · unfold run_step
    simp only [hn, decide_eq_false (show ¬ ((8 * ds.length : Nat) : Int) < ((8 * ds.length : Nat) : Int) by omega)]
    rfl

def L_run : Frame' → Store → T (Exit × Frame' × Store) := fun fr σ => match fr.getD 0 .undef, fr.getD 1 .undef, fr.getD 5 .undef with
  | AV.dat (D.int IntKind.u32 r), AV.dat (D.slc Sh.one ds), AV.dat (D.int IntKind.i64 0) => .chk (Nat.beq fr.length 36 && (okB8 ds && decide (IntKind.wrap .u32 r = r))) (T.bind (.leaf (some 0, mkF 36 [(0, .dat (.int .u32 (toI (refTo ds (BitVec.ofInt 32 r) (8 * ds.length)))))], σ)) fun o => .leaf (outEx o.1, o.2.1, o.2.2))
  | _, _, _ => .fail
theorem run_sem (lp : Loops) : ∀ fr σ p, (L_run fr σ).run = some p → ∀ (K : Kt) r, K p.1 p.2.1 p.2.2 = some r → ∃ n, loopRun (envOf tab [] [] lp []) Try.f25 0 σ.length n (cleanF (liveAt Try.f25 0) 0 fr) σ K = some r := by
  intro fr σ p h K r hK
  unfold L_run at h
  split at h
  · rename_i r ds g0 g1 g5
    obtain ⟨hc, h'⟩ := T.chk_some h
    rw [Bool.and_eq_true] at hc
    obtain ⟨hl, hc⟩ := hc
    obtain ⟨o, ho, h'⟩ := T.bind_some h'
    have hp := T.leaf_some h'
    subst hp
    obtain ⟨nF, hn⟩ : ∃ nF, (iterT (run_step σ ds) nF ((0, r))).run = T.run (.leaf (some 0, mkF 36 [(0, .dat (.int .u32 (toI (refTo ds (BitVec.ofInt 32 r) (8 * ds.length)))))], σ)) := run_closed σ ds r hc
    rw [ho] at hn
    refine ⟨nF, ?_⟩
    have he : cleanF (liveAt Try.f25 0) 0 fr = run_fr σ ds ((0, r)) := run_enter σ ds _ _ fr hl g0 g1 g5
    refine (iter_ok (base := σ.length) (run_hr lp σ ds) K nF ((0, r)) _ _ (by rw [clean_clean]; exact he) (trim_self (Nat.le_refl _))).trans ?_
    rw [T.k_run hn]
    exact hK
  · simp [T.run_fail] at h
theorem run_loopOk (lp : Loops) (hk : Loops.get lp 2 = some L_run) : LoopOk (envOf tab [] [] lp []) (loopAt Try.f25 0).1 (loopAt Try.f25 0).2 := loop_ok (L := L_run) hk (run_sem lp)


def S_run : FunT := fun args σ => match args, σ with
  | [AV.dat (D.int IntKind.u32 r), AV.dat (D.slc Sh.one ds)], [] => 
    .chk (okB8 ds && decide (IntKind.wrap IntKind.u32 r = r)) (.leaf ([AV.dat (D.int IntKind.u32 (toI (refTo ds (BitVec.ofInt (32 : Nat) r) ((8 : Nat) * List.length ds))))], []))
  | _, _ => .fail
theorem run_case0 (ds : List D) (r : Int) : runF (envOf tab [] [] [(2, L_run)] []) true Try.f25 [.dat (.int .u32 r), .dat (.slc .one ds)] [] = FunT.run S_run [.dat (.int .u32 r), .dat (.slc .one ds)] [] := by kernel_rfl
theorem run_ok : FunOk Try.prog 25 (FunT.run S_run) := by
  refine fun_ok (E := envOf tab [] [] [(2, L_run)] []) (fz := true) (fn := Try.f25) (envOf_ok progOk (.nil _)) (by kernel_rfl) (by kernel_rfl) (loops_one (by kernel_rfl) (run_loopOk _ rfl)) ?_
  intro args σ r h
  unfold S_run at h
  split at h
  · exact (run_case0 _ _).trans h
  · simp [T.run_fail] at h


def S_of : FunT := fun args σ => match args, σ with
  | [AV.dat (D.slc Sh.one ds)], [] => 
    .chk (decide ((↑(List.length ds) : Int) = (↑(List.length ds) : Int)) && okB8 ds && true) (.leaf ([AV.dat (D.int IntKind.u32 (IntKind.wrap IntKind.u32 (↑(BitVec.toNat (BitVec.ofInt (32 : Nat) (4294967295 : Int) ^^^ BitVec.ofInt (32 : Nat) (toI (crcTo ds (BitVec.ofInt (32 : Nat) (4294967295 : Int)) (List.length ds))))) : Int)))], []))
  | _, _ => .fail
theorem of_case0 (ds : List D) : runF (envOf tab [(23, S_on)] [] [] []) true Try.f13 [.dat (.slc .one ds)] [] = FunT.run S_of [.dat (.slc .one ds)] [] := by kernel_rfl
theorem of_ok : FunOk Try.prog 13 (FunT.run S_of) := by
  refine fun_ok (E := envOf tab [(23, S_on)] [] [] []) (fz := true) (fn := Try.f13) (envOf_ok progOk (.cons on_ok (.nil _))) (by kernel_rfl) (by kernel_rfl) (loops_none (by kernel_rfl)) ?_
  intro args σ r h
  unfold S_of at h
  split at h
  · exact (of_case0 _).trans h
  · simp [T.run_fail] at h

def S_rof : FunT := fun args σ => match args, σ with
  | [AV.dat (D.slc Sh.one ds)], [] => 
    .chk (okB8 ds && true) (.leaf ([AV.dat (D.int IntKind.u32 (IntKind.wrap IntKind.u32 (↑(BitVec.toNat (BitVec.ofInt (32 : Nat) (toI (refTo ds (BitVec.ofInt (32 : Nat) (4294967295 : Int)) ((8 : Nat) * List.length ds))) ^^^ BitVec.ofInt (32 : Nat) (4294967295 : Int))) : Int)))], []))
  | _, _ => .fail
theorem rof_case0 (ds : List D) : runF (envOf tab [(25, S_run)] [] [] []) true Try.f15 [.dat (.slc .one ds)] [] = FunT.run S_rof [.dat (.slc .one ds)] [] := by kernel_rfl
theorem rof_ok : FunOk Try.prog 15 (FunT.run S_rof) := by
  refine fun_ok (E := envOf tab [(25, S_run)] [] [] []) (fz := true) (fn := Try.f15) (envOf_ok progOk (.cons run_ok (.nil _))) (by kernel_rfl) (by kernel_rfl) (loops_none (by kernel_rfl)) ?_
  intro args σ r h
  unfold S_rof at h
  split at h
  · exact (rof_case0 _).trans h
  · simp [T.run_fail] at h


end Go.Proofs.Ytfajnpnmghbdpaa
