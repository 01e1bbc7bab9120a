/- Seat 08: SectorBack's loops. -/
import Derived.Test.YtfajnpnmghbdpaaN
import Derived.Test.YtfajnpnmghbdpaaAx28
namespace Go.Proofs.Ytfajnpnmghbdpaa
open Go.AX
set_option maxRecDepth 100000

abbrev H4 : Hints := [(999999, 28, [.is 28 (aBool true)]), (999999, 32, [.is 32 (aBool true)]), (999999, 41, [.is 41 (aBool false)]), (999999, 45, [.is 45 (aBool false)]), (999999, 50, [.is 50 (aBool false)]), (999999, 60, [.is 60 (aBool false)]), (999999, 72, [.is 72 (aBool false)]), (999999, 79, [.is 79 (aBool true)]), (999999, 126, [.is 126 (aBool true)]), (999999, 135, [.is 135 (aBool true)])]

def fill_fr (_ : Store) (b l : List D) (at_ turn : Int) : Int → Frame' := fun i => mkF 137 [(2, .dat (.int .i64 at_)), (3, .dat (.int .u32 turn)), (9, .dat (.slc .one b)), (12, .dat (.slc .one l)), (14, .dat (.int .i64 i))]
def fill_st (σ : Store) (_ _ : List D) (_ _ : Int) : Int → Store := fun _ => σ
def fill_step (σ : Store) (b l : List D) (at_ turn : Int) : Int → T (Int ⊕ LOut) := fun i => 
  .br (decide (i < (108 : Int))) (
   .chk (decide ((0 : Int) ≤ i)) (
    .chk (decide (Int.toNat i < List.length l)) (
     .chk (okE (Ek.int IntKind.u8) (nthD l (Int.toNat i))) (
      .chk (D.eqb (D.bool (D.getI (nthD l (Int.toNat i)) != (0 : Int))) (D.bool false)) (.leaf (.inl (IntKind.wrap IntKind.i64 (i + (1 : Int))))))))) (.leaf (.inr ((some (0 : Nat)), mkF (137 : Nat) [((2 : Nat), AV.dat (D.int IntKind.i64 at_)), ((3 : Nat), AV.dat (D.int IntKind.u32 turn)), ((9 : Nat), AV.dat (D.slc Sh.one b))], σ)))
theorem fill_round (lp : Loops) (σ : Store) (b l : List D) (at_ turn : Int) (i : Int) (K : Kt) : oneRound (envOf tab Sr [] lp H4) Try.f4 0 (σ.length) (mkF 137 [(2, .dat (.int .i64 at_)), (3, .dat (.int .u32 turn)), (9, .dat (.slc .one b)), (12, .dat (.slc .one l)), (14, .dat (.int .i64 i))]) (σ) K =
  (bif decide (i < (108 : Int)) then 
   (bif decide ((0 : Int) ≤ i) then 
    (bif decide (Int.toNat i < List.length l) then 
     (bif okE (Ek.int IntKind.u8) (nthD l (Int.toNat i)) then 
      (bif D.eqb (D.bool (D.getI (nthD l (Int.toNat i)) != (0 : Int))) (D.bool false) then K (Exit.normal) (mkF (137 : Nat) [((2 : Nat), AV.dat (D.int IntKind.i64 at_)), ((3 : Nat), AV.dat (D.int IntKind.u32 turn)), ((9 : Nat), AV.dat (D.slc Sh.one b)), ((12 : Nat), AV.dat (D.slc Sh.one l)), ((14 : Nat), AV.dat (D.int IntKind.i64 (IntKind.wrap IntKind.i64 (i + (1 : Int))))), ((66 : Nat), AV.dat (D.int IntKind.i64 i)), ((67 : Nat), AV.dat (D.int IntKind.i64 (IntKind.wrap IntKind.i64 (i + (1 : Int)))))]) (σ) else none) else none) else none) else none) else K (Exit.exit (0 : Nat)) (mkF (137 : Nat) [((2 : Nat), AV.dat (D.int IntKind.i64 at_)), ((3 : Nat), AV.dat (D.int IntKind.u32 turn)), ((9 : Nat), AV.dat (D.slc Sh.one b))]) (σ)) := by kernel_rfl
theorem fill_hr (lp : Loops) (σ : Store) (b l : List D) (at_ turn : Int) : ∀ (sA : Int) (K : Kt) (N : Int → Option Res), (∀ sB fr' σ', cleanF (liveAt Try.f4 0) 0 fr' = fill_fr σ b l at_ turn sB → trim (σ.length) (fill_fr σ b l at_ turn sB) σ' = fill_st σ b l at_ turn sB → K .normal fr' σ' = N sB) →
    oneRound (envOf tab Sr [] lp H4) Try.f4 0 (σ.length) (fill_fr σ b l at_ turn sA) (fill_st σ b l at_ turn sA) K = (fill_step σ b l at_ turn sA).k (LK K N) := by
  intro i K N hN
  exact (fill_round lp σ b l at_ turn i K).trans (cong2 (cong2 (cong2 (cong2 (cong2 (hN (IntKind.wrap IntKind.i64 (i + (1 : Int))) _ _ (by kernel_rfl) (trim_self (Nat.le_refl _))) rfl) rfl) rfl) rfl) rfl)
theorem fill_enter (σ : Store) (b l : List D) (at_ turn : Int) (i : Int) (fr : Frame') (hl : Nat.beq fr.length 137 = true) (g2 : fr.getD 2 .undef = AV.dat (D.int IntKind.i64 at_)) (g3 : fr.getD 3 .undef = AV.dat (D.int IntKind.u32 turn)) (g9 : fr.getD 9 .undef = AV.dat (D.slc Sh.one b)) (g12 : fr.getD 12 .undef = AV.dat (D.slc Sh.one l)) (g14 : fr.getD 14 .undef = AV.dat (D.int IntKind.i64 i)) : cleanF (liveAt Try.f4 0) 0 fr = fill_fr σ b l at_ turn i := by
  have e : liveAt Try.f4 0 = [12, 14, 3, 2, 9] := by kernel_rfl
  rw [clean_mk (Nat.eq_of_beq_eq_true hl), e]
  show mkF 137 [(12, fr.getD 12 .undef), (14, fr.getD 14 .undef), (3, fr.getD 3 .undef), (2, fr.getD 2 .undef), (9, fr.getD 9 .undef)] = _
  rw [g12, g14, g3, g2, g9]
  kernel_rfl


def okFill (l : List D) (i : Int) : Bool := decide (0 ≤ i) && decide (i ≤ 108) && decide (l.length = 108) && D.eqbL (l.drop i.toNat) (List.replicate (108 - i.toNat) zB)

theorem fill_closed (σ : Store) (b l : List D) (at_ turn i : Int) (hc : okFill l i = true) :
    ∃ m, (iterT (fill_step σ b l at_ turn) m i).run = T.run (.leaf (some 0, mkF 137 [(2, .dat (.int .i64 at_)), (3, .dat (.int .u32 turn)), (9, .dat (.slc .one b))], σ)) := by
  unfold okFill at hc
  simp only [Bool.and_eq_true, decide_eq_true_eq] at hc
  obtain ⟨⟨⟨h1, h2⟩, h3⟩, h4⟩ := hc
  obtain ⟨a, rfl⟩ : ∃ a : Nat, i = (a : Int) := ⟨i.toNat, by omega⟩
  rw [Int.toNat_natCast] at h4
  have h4 := D.eqL_of_eqb h4
  refine iter_countFrom (n := 108) (by omega) (fun k hk hk2 => ?_) ?_
  · have hz : nthD l k = zB := by
      have e : (l.drop a)[k - a]? = (List.replicate (108 - a) zB)[k - a]? := by rw [h4]
      rw [List.getElem?_drop, show a + (k - a) = k by omega, List.getElem?_replicate, if_pos (by omega)] at e
      unfold nthD
      rw [List.getD_eq_getElem?_getD, e]; rfl
    unfold fill_step
    simp only [decide_eq_true (show (k : Int) < 108 by omega), decide_eq_true (show (0 : Int) ≤ (k : Int) by omega), Int.toNat_natCast, h3, decide_eq_true hk2, hz, wrap_succ (show k < 2 ^ 62 by omega)]
    rfl
  · unfold fill_step
    simp only [show decide (((108 : Nat) : Int) < 108) = false from rfl]
    rfl

def L_fill : Frame' → Store → T (Exit × Frame' × Store) := fun fr σ => match fr.getD 2 .undef, fr.getD 3 .undef, fr.getD 9 .undef, fr.getD 12 .undef, fr.getD 14 .undef with
  | AV.dat (D.int IntKind.i64 at_), AV.dat (D.int IntKind.u32 turn), AV.dat (D.slc Sh.one b), AV.dat (D.slc Sh.one l), AV.dat (D.int IntKind.i64 i) => .chk (Nat.beq fr.length 137 && (okFill l i)) (T.bind (.leaf (some 0, mkF 137 [(2, .dat (.int .i64 at_)), (3, .dat (.int .u32 turn)), (9, .dat (.slc .one b))], σ)) fun o => .leaf (outEx o.1, o.2.1, o.2.2))
  | _, _, _, _, _ => .fail
theorem fill_sem (lp : Loops) : ∀ fr σ p, (L_fill fr σ).run = some p → ∀ (K : Kt) r, K p.1 p.2.1 p.2.2 = some r → ∃ n, loopRun (envOf tab Sr [] lp H4) Try.f4 0 σ.length n (cleanF (liveAt Try.f4 0) 0 fr) σ K = some r := by
  intro fr σ p h K r hK
  unfold L_fill at h
  split at h
  · rename_i at_ turn b l i g2 g3 g9 g12 g14
    obtain ⟨hc, h'⟩ := T.chk_some h
    rw [Bool.and_eq_true] at hc
    obtain ⟨hl, hc⟩ := hc
    obtain ⟨o, ho, h'⟩ := T.bind_some h'
    have hp := T.leaf_some h'
    subst hp
    obtain ⟨nF, hn⟩ : ∃ nF, (iterT (fill_step σ b l at_ turn) nF (i)).run = T.run (.leaf (some 0, mkF 137 [(2, .dat (.int .i64 at_)), (3, .dat (.int .u32 turn)), (9, .dat (.slc .one b))], σ)) := fill_closed σ b l at_ turn i hc
    rw [ho] at hn
    refine ⟨nF, ?_⟩
    have he : cleanF (liveAt Try.f4 0) 0 fr = fill_fr σ b l at_ turn (i) := fill_enter σ b l at_ turn _ fr hl g2 g3 g9 g12 g14
    refine (iter_ok (base := σ.length) (fill_hr lp σ b l at_ turn) K nF (i) _ _ (by rw [clean_clean]; exact he) (trim_self (Nat.le_refl _))).trans ?_
    rw [T.k_run hn]
    exact hK
  · simp [T.run_fail] at h
theorem fill_loopOk (lp : Loops) (hk : Loops.get lp 8 = some L_fill) : LoopOk (envOf tab Sr [] lp H4) (loopAt Try.f4 0).1 (loopAt Try.f4 0).2 := loop_ok (L := L_fill) hk (fill_sem lp)


def flip_fr (b : List D) (at_ turn : Int) : (Int × Nat × Nat × List D) → Frame' := fun ⟨i, m, k, _⟩ => mkF 137 [(2, .dat (.int .i64 at_)), (3, .dat (.int .u32 turn)), (9, .dat (.slc .one b)), (15, .sref .one 0 m [] 0 k), (16, .dat (.int .i64 i))]
def flip_st (_ : List D) (_ _ : Int) : (Int × Nat × Nat × List D) → Store := fun ⟨_, _, _, out⟩ => [mkDyn .one out]
def flip_step (b : List D) (at_ turn : Int) : (Int × Nat × Nat × List D) → T ((Int × Nat × Nat × List D) ⊕ LOut) := fun ⟨i, m, k, out⟩ => 
  .br (decide (i < (32 : Int))) (
   .br (decide (at_ < (0 : Int)) == false) (
    .br (decide (at_ < (0 : Int))) (.leaf (.inl ((IntKind.wrap IntKind.i64 (i + (1 : Int))), (m), (k), (out)))) (
     .br (decide (at_ > IntKind.wrap IntKind.i64 (IntKind.wrap IntKind.i64 (IntKind.wrap IntKind.i64 ((8 : Int) * (↑k : Int)) - (1 : Int)) - i)) == false) (
      .chk (decide ((0 : Int) ≤ i)) (
       .br (decide (at_ > IntKind.wrap IntKind.i64 (IntKind.wrap IntKind.i64 (IntKind.wrap IntKind.i64 ((8 : Int) * (↑k : Int)) - (1 : Int)) - i))) (.leaf (.inl ((IntKind.wrap IntKind.i64 (i + (1 : Int))), (m), (k), (out)))) (
        .br (IntKind.wrap IntKind.u32 (↑(BitVec.toNat (BitVec.ofInt (32 : Nat) (Int.fdiv turn ((2 : Int) ^ min (Int.toNat i) (32 : Nat))) &&& BitVec.ofInt (32 : Nat) (1 : Int))) : Int) == (0 : Int)) (.leaf (.inl ((IntKind.wrap IntKind.i64 (i + (1 : Int))), (m), (k), (out)))) (
         .chk (decide ((0 : Int) ≤ IntKind.wrap IntKind.i64 (Int.tdiv (IntKind.wrap IntKind.i64 (at_ + i)) (8 : Int)))) (
          .chk (decide (IntKind.wrap IntKind.i64 (Int.tdiv (IntKind.wrap IntKind.i64 (at_ + i)) (8 : Int)) < (↑k : Int))) (
           .chk (Nat.beq (List.length out) m && true) (
            .chk (decide ((0 : Nat) + Int.toNat (IntKind.wrap IntKind.i64 (Int.tdiv (IntKind.wrap IntKind.i64 (at_ + i)) (8 : Int))) < List.length out)) (
             .chk (okE (Ek.int IntKind.u8) (nthD out ((0 : Nat) + Int.toNat (IntKind.wrap IntKind.i64 (Int.tdiv (IntKind.wrap IntKind.i64 (at_ + i)) (8 : Int)))))) (
              .chk (decide ((0 : Int) ≤ Int.tmod (IntKind.wrap IntKind.i64 (at_ + i)) (8 : Int))) (
               .chk (decide ((0 : Int) ≤ IntKind.wrap IntKind.i64 (Int.tdiv (IntKind.wrap IntKind.i64 (at_ + i)) (8 : Int)))) (
                .chk (decide (IntKind.wrap IntKind.i64 (Int.tdiv (IntKind.wrap IntKind.i64 (at_ + i)) (8 : Int)) < (↑k : Int))) (
                 .chk (Nat.beq (List.length out) m && true && true) (
                  .chk (decide ((0 : Nat) + Int.toNat (IntKind.wrap IntKind.i64 (Int.tdiv (IntKind.wrap IntKind.i64 (at_ + i)) (8 : Int))) < List.length out)) (
                   .chk (Sh.eqb (D.shape (nthD out ((0 : Nat) + Int.toNat (IntKind.wrap IntKind.i64 (Int.tdiv (IntKind.wrap IntKind.i64 (at_ + i)) (8 : Int)))))) Sh.one) (.leaf (.inl ((IntKind.wrap IntKind.i64 (i + (1 : Int))), (m), (k), (List.set out ((0 : Nat) + Int.toNat (IntKind.wrap IntKind.i64 (Int.tdiv (IntKind.wrap IntKind.i64 (at_ + i)) (8 : Int)))) (D.int IntKind.u8 (IntKind.wrap IntKind.u8 (↑(BitVec.toNat (BitVec.ofInt (8 : Nat) (D.getI (nthD out ((0 : Nat) + Int.toNat (IntKind.wrap IntKind.i64 (Int.tdiv (IntKind.wrap IntKind.i64 (at_ + i)) (8 : Int)))))) ^^^ BitVec.ofInt (8 : Nat) (IntKind.wrap IntKind.u8 ((1 : Int) * (2 : Int) ^ min (Int.toNat (Int.tmod (IntKind.wrap IntKind.i64 (at_ + i)) (8 : Int))) (8 : Nat))))) : Int))))))))))))))))))))) (
      .chk (decide (at_ > IntKind.wrap IntKind.i64 (IntKind.wrap IntKind.i64 (IntKind.wrap IntKind.i64 ((8 : Int) * (↑k : Int)) - (1 : Int)) - i))) (.leaf (.inl ((IntKind.wrap IntKind.i64 (i + (1 : Int))), (m), (k), (out))))))) (
    .chk (decide (at_ < (0 : Int))) (.leaf (.inl ((IntKind.wrap IntKind.i64 (i + (1 : Int))), (m), (k), (out)))))) (.leaf (.inr ((some (2 : Nat)), mkF (137 : Nat) [((9 : Nat), AV.dat (D.slc Sh.one b)), ((15 : Nat), AV.sref Sh.one (0 : Nat) m [] (0 : Nat) k)], [{ sh := Sh.arr Sh.one (0 : Nat), dyn := true, frz := false, v := AV.dat (D.arr Sh.one out) }])))
theorem flip_round (lp : Loops) (b : List D) (at_ turn : Int) (i : Int) (m k : Nat) (out : List D) (K : Kt) : oneRound (envOf tab Sr [] lp H4) Try.f4 1 (1) (mkF 137 [(2, .dat (.int .i64 at_)), (3, .dat (.int .u32 turn)), (9, .dat (.slc .one b)), (15, .sref .one 0 m [] 0 k), (16, .dat (.int .i64 i))]) ([mkDyn .one out]) K =
  (bif decide (i < (32 : Int)) then 
   (bif decide (at_ < (0 : Int)) == false then 
    (bif decide (at_ < (0 : Int)) then K (Exit.normal) (mkF (137 : Nat) [((2 : Nat), AV.dat (D.int IntKind.i64 at_)), ((3 : Nat), AV.dat (D.int IntKind.u32 turn)), ((9 : Nat), AV.dat (D.slc Sh.one b)), ((15 : Nat), AV.sref Sh.one (0 : Nat) m [] (0 : Nat) k), ((16 : Nat), AV.dat (D.int IntKind.i64 (IntKind.wrap IntKind.i64 (i + (1 : Int))))), ((85 : Nat), AV.dat (D.int IntKind.i64 i)), ((86 : Nat), AV.dat (D.int IntKind.i64 (IntKind.wrap IntKind.i64 (i + (1 : Int)))))]) ([{ sh := Sh.arr Sh.one (0 : Nat), dyn := true, frz := false, v := AV.dat (D.arr Sh.one out) }]) else 
     (bif decide (at_ > IntKind.wrap IntKind.i64 (IntKind.wrap IntKind.i64 (IntKind.wrap IntKind.i64 ((8 : Int) * (↑k : Int)) - (1 : Int)) - i)) == false then 
      (bif decide ((0 : Int) ≤ i) then 
       (bif decide (at_ > IntKind.wrap IntKind.i64 (IntKind.wrap IntKind.i64 (IntKind.wrap IntKind.i64 ((8 : Int) * (↑k : Int)) - (1 : Int)) - i)) then K (Exit.normal) (mkF (137 : Nat) [((2 : Nat), AV.dat (D.int IntKind.i64 at_)), ((3 : Nat), AV.dat (D.int IntKind.u32 turn)), ((9 : Nat), AV.dat (D.slc Sh.one b)), ((15 : Nat), AV.sref Sh.one (0 : Nat) m [] (0 : Nat) k), ((16 : Nat), AV.dat (D.int IntKind.i64 (IntKind.wrap IntKind.i64 (i + (1 : Int))))), ((85 : Nat), AV.dat (D.int IntKind.i64 i)), ((86 : Nat), AV.dat (D.int IntKind.i64 (IntKind.wrap IntKind.i64 (i + (1 : Int)))))]) ([{ sh := Sh.arr Sh.one (0 : Nat), dyn := true, frz := false, v := AV.dat (D.arr Sh.one out) }]) else 
        (bif IntKind.wrap IntKind.u32 (↑(BitVec.toNat (BitVec.ofInt (32 : Nat) (Int.fdiv turn ((2 : Int) ^ min (Int.toNat i) (32 : Nat))) &&& BitVec.ofInt (32 : Nat) (1 : Int))) : Int) == (0 : Int) then K (Exit.normal) (mkF (137 : Nat) [((2 : Nat), AV.dat (D.int IntKind.i64 at_)), ((3 : Nat), AV.dat (D.int IntKind.u32 turn)), ((9 : Nat), AV.dat (D.slc Sh.one b)), ((15 : Nat), AV.sref Sh.one (0 : Nat) m [] (0 : Nat) k), ((16 : Nat), AV.dat (D.int IntKind.i64 (IntKind.wrap IntKind.i64 (i + (1 : Int))))), ((85 : Nat), AV.dat (D.int IntKind.i64 i)), ((86 : Nat), AV.dat (D.int IntKind.i64 (IntKind.wrap IntKind.i64 (i + (1 : Int)))))]) ([{ sh := Sh.arr Sh.one (0 : Nat), dyn := true, frz := false, v := AV.dat (D.arr Sh.one out) }]) else 
         (bif decide ((0 : Int) ≤ IntKind.wrap IntKind.i64 (Int.tdiv (IntKind.wrap IntKind.i64 (at_ + i)) (8 : Int))) then 
          (bif decide (IntKind.wrap IntKind.i64 (Int.tdiv (IntKind.wrap IntKind.i64 (at_ + i)) (8 : Int)) < (↑k : Int)) then 
           (bif Nat.beq (List.length out) m && true then 
            (bif decide ((0 : Nat) + Int.toNat (IntKind.wrap IntKind.i64 (Int.tdiv (IntKind.wrap IntKind.i64 (at_ + i)) (8 : Int))) < List.length out) then 
             (bif okE (Ek.int IntKind.u8) (nthD out ((0 : Nat) + Int.toNat (IntKind.wrap IntKind.i64 (Int.tdiv (IntKind.wrap IntKind.i64 (at_ + i)) (8 : Int))))) then 
              (bif decide ((0 : Int) ≤ Int.tmod (IntKind.wrap IntKind.i64 (at_ + i)) (8 : Int)) then 
               (bif decide ((0 : Int) ≤ IntKind.wrap IntKind.i64 (Int.tdiv (IntKind.wrap IntKind.i64 (at_ + i)) (8 : Int))) then 
                (bif decide (IntKind.wrap IntKind.i64 (Int.tdiv (IntKind.wrap IntKind.i64 (at_ + i)) (8 : Int)) < (↑k : Int)) then 
                 (bif Nat.beq (List.length out) m && true && true then 
                  (bif decide ((0 : Nat) + Int.toNat (IntKind.wrap IntKind.i64 (Int.tdiv (IntKind.wrap IntKind.i64 (at_ + i)) (8 : Int))) < List.length out) then 
                   (bif Sh.eqb (D.shape (nthD out ((0 : Nat) + Int.toNat (IntKind.wrap IntKind.i64 (Int.tdiv (IntKind.wrap IntKind.i64 (at_ + i)) (8 : Int)))))) Sh.one then K (Exit.normal) (mkF (137 : Nat) [((2 : Nat), AV.dat (D.int IntKind.i64 at_)), ((3 : Nat), AV.dat (D.int IntKind.u32 turn)), ((9 : Nat), AV.dat (D.slc Sh.one b)), ((15 : Nat), AV.sref Sh.one (0 : Nat) m [] (0 : Nat) k), ((16 : Nat), AV.dat (D.int IntKind.i64 (IntKind.wrap IntKind.i64 (i + (1 : Int))))), ((85 : Nat), AV.dat (D.int IntKind.i64 i)), ((86 : Nat), AV.dat (D.int IntKind.i64 (IntKind.wrap IntKind.i64 (i + (1 : Int)))))]) ([{ sh := Sh.arr Sh.one (0 : Nat), dyn := true, frz := false, v := AV.dat (D.arr Sh.one (List.set out ((0 : Nat) + Int.toNat (IntKind.wrap IntKind.i64 (Int.tdiv (IntKind.wrap IntKind.i64 (at_ + i)) (8 : Int)))) (D.int IntKind.u8 (IntKind.wrap IntKind.u8 (↑(BitVec.toNat (BitVec.ofInt (8 : Nat) (D.getI (nthD out ((0 : Nat) + Int.toNat (IntKind.wrap IntKind.i64 (Int.tdiv (IntKind.wrap IntKind.i64 (at_ + i)) (8 : Int)))))) ^^^ BitVec.ofInt (8 : Nat) (IntKind.wrap IntKind.u8 ((1 : Int) * (2 : Int) ^ min (Int.toNat (Int.tmod (IntKind.wrap IntKind.i64 (at_ + i)) (8 : Int))) (8 : Nat))))) : Int))))) }]) else none) else none) else none) else none) else none) else none) else none) else none) else none) else none) else none))) else none) else 
      (bif decide (at_ > IntKind.wrap IntKind.i64 (IntKind.wrap IntKind.i64 (IntKind.wrap IntKind.i64 ((8 : Int) * (↑k : Int)) - (1 : Int)) - i)) then K (Exit.normal) (mkF (137 : Nat) [((2 : Nat), AV.dat (D.int IntKind.i64 at_)), ((3 : Nat), AV.dat (D.int IntKind.u32 turn)), ((9 : Nat), AV.dat (D.slc Sh.one b)), ((15 : Nat), AV.sref Sh.one (0 : Nat) m [] (0 : Nat) k), ((16 : Nat), AV.dat (D.int IntKind.i64 (IntKind.wrap IntKind.i64 (i + (1 : Int))))), ((85 : Nat), AV.dat (D.int IntKind.i64 i)), ((86 : Nat), AV.dat (D.int IntKind.i64 (IntKind.wrap IntKind.i64 (i + (1 : Int)))))]) ([{ sh := Sh.arr Sh.one (0 : Nat), dyn := true, frz := false, v := AV.dat (D.arr Sh.one out) }]) else none))) else 
    (bif decide (at_ < (0 : Int)) then K (Exit.normal) (mkF (137 : Nat) [((2 : Nat), AV.dat (D.int IntKind.i64 at_)), ((3 : Nat), AV.dat (D.int IntKind.u32 turn)), ((9 : Nat), AV.dat (D.slc Sh.one b)), ((15 : Nat), AV.sref Sh.one (0 : Nat) m [] (0 : Nat) k), ((16 : Nat), AV.dat (D.int IntKind.i64 (IntKind.wrap IntKind.i64 (i + (1 : Int))))), ((85 : Nat), AV.dat (D.int IntKind.i64 i)), ((86 : Nat), AV.dat (D.int IntKind.i64 (IntKind.wrap IntKind.i64 (i + (1 : Int)))))]) ([{ sh := Sh.arr Sh.one (0 : Nat), dyn := true, frz := false, v := AV.dat (D.arr Sh.one out) }]) else none)) else K (Exit.exit (2 : Nat)) (mkF (137 : Nat) [((9 : Nat), AV.dat (D.slc Sh.one b)), ((15 : Nat), AV.sref Sh.one (0 : Nat) m [] (0 : Nat) k)]) ([{ sh := Sh.arr Sh.one (0 : Nat), dyn := true, frz := false, v := AV.dat (D.arr Sh.one out) }])) := by kernel_rfl
theorem flip_hr (lp : Loops) (b : List D) (at_ turn : Int) : ∀ (sA : (Int × Nat × Nat × List D)) (K : Kt) (N : (Int × Nat × Nat × List D) → Option Res), (∀ sB fr' σ', cleanF (liveAt Try.f4 1) 0 fr' = flip_fr b at_ turn sB → trim (1) (flip_fr b at_ turn sB) σ' = flip_st b at_ turn sB → K .normal fr' σ' = N sB) →
    oneRound (envOf tab Sr [] lp H4) Try.f4 1 (1) (flip_fr b at_ turn sA) (flip_st b at_ turn sA) K = (flip_step b at_ turn sA).k (LK K N) := by
  intro sA K N hN
  obtain ⟨i, m, k, out⟩ := sA
  exact (flip_round lp b at_ turn i m k out K).trans (cong2 (cong2 (cong2 (hN ((IntKind.wrap IntKind.i64 (i + (1 : Int))), (m), (k), (out)) _ _ (by kernel_rfl) (by kernel_rfl)) (cong2 (cong2 (cong2 (hN ((IntKind.wrap IntKind.i64 (i + (1 : Int))), (m), (k), (out)) _ _ (by kernel_rfl) (by kernel_rfl)) (cong2 (hN ((IntKind.wrap IntKind.i64 (i + (1 : Int))), (m), (k), (out)) _ _ (by kernel_rfl) (by kernel_rfl)) (cong2 (cong2 (cong2 (cong2 (cong2 (cong2 (cong2 (cong2 (cong2 (cong2 (cong2 (hN ((IntKind.wrap IntKind.i64 (i + (1 : Int))), (m), (k), (List.set out ((0 : Nat) + Int.toNat (IntKind.wrap IntKind.i64 (Int.tdiv (IntKind.wrap IntKind.i64 (at_ + i)) (8 : Int)))) (D.int IntKind.u8 (IntKind.wrap IntKind.u8 (↑(BitVec.toNat (BitVec.ofInt (8 : Nat) (D.getI (nthD out ((0 : Nat) + Int.toNat (IntKind.wrap IntKind.i64 (Int.tdiv (IntKind.wrap IntKind.i64 (at_ + i)) (8 : Int)))))) ^^^ BitVec.ofInt (8 : Nat) (IntKind.wrap IntKind.u8 ((1 : Int) * (2 : Int) ^ min (Int.toNat (Int.tmod (IntKind.wrap IntKind.i64 (at_ + i)) (8 : Int))) (8 : Nat))))) : Int))))) _ _ (by kernel_rfl) (by kernel_rfl)) rfl) rfl) rfl) rfl) rfl) rfl) rfl) rfl) rfl) rfl) rfl))) rfl) (cong2 (hN ((IntKind.wrap IntKind.i64 (i + (1 : Int))), (m), (k), (out)) _ _ (by kernel_rfl) (by kernel_rfl)) rfl))) (cong2 (hN ((IntKind.wrap IntKind.i64 (i + (1 : Int))), (m), (k), (out)) _ _ (by kernel_rfl) (by kernel_rfl)) rfl)) rfl)
theorem flip_enter (b : List D) (at_ turn : Int) (i : Int) (m k : Nat) (out : List D) (fr : Frame') (hl : Nat.beq fr.length 137 = true) (g2 : fr.getD 2 .undef = AV.dat (D.int IntKind.i64 at_)) (g3 : fr.getD 3 .undef = AV.dat (D.int IntKind.u32 turn)) (g9 : fr.getD 9 .undef = AV.dat (D.slc Sh.one b)) (g15 : fr.getD 15 .undef = AV.sref Sh.one 0 m [] 0 k) (g16 : fr.getD 16 .undef = AV.dat (D.int IntKind.i64 i)) : cleanF (liveAt Try.f4 1) 0 fr = flip_fr b at_ turn (i, m, k, out) := by
  have e : liveAt Try.f4 1 = [3, 2, 16, 15, 9] := by kernel_rfl
  rw [clean_mk (Nat.eq_of_beq_eq_true hl), e]
  show mkF 137 [(3, fr.getD 3 .undef), (2, fr.getD 2 .undef), (16, fr.getD 16 .undef), (15, fr.getD 15 .undef), (9, fr.getD 9 .undef)] = _
  rw [g3, g2, g16, g15, g9]
  kernel_rfl


def flipB (d : D) (k : Nat) : D := .int .u8 (IntKind.wrap .u8 ((BitVec.toNat (BitVec.ofInt 8 (D.getI d) ^^^ BitVec.ofInt 8 (IntKind.wrap .u8 (1 * 2 ^ min k 8))) : Nat) : Int))
def flipS (c : List D) (j : Nat) : List D := c.set (j / 8) (flipB (nthD c (j / 8)) (j % 8))
def bitT (turn : Int) (i : Nat) : Bool := (BitVec.ofInt 32 turn).getLsbD i
def skipI (at_ turn : Int) (i : Nat) : Bool := decide (at_ < 0) || decide (at_ > 1023 - (i : Int)) || !bitT turn i
def flipTo (b : List D) (at_ turn : Int) : Nat → List D
  | 0 => b
  | i + 1 => bif skipI at_ turn i then flipTo b at_ turn i else flipS (flipTo b at_ turn i) (at_ + (i : Int)).toNat

theorem flipB_ok (d : D) (k : Nat) : okB (flipB d k) = true := by
  unfold flipB okB
  simp only [Bool.and_eq_true, decide_eq_true_eq]
  rw [IntKind.wrap_u8]
  omega
theorem nthD_okB {l : List D} {i : Nat} (h : l.all okB = true) (hi : i < l.length) : okB (nthD l i) = true := List.all_eq_true.1 h _ (nthD_mem hi)
theorem flipTo_ok {b : List D} (h : b.all okB = true) (at_ turn : Int) : ∀ i, (flipTo b at_ turn i).all okB = true ∧ (flipTo b at_ turn i).length = b.length
  | 0 => ⟨h, rfl⟩
  | i + 1 => by
    obtain ⟨h1, h2⟩ := flipTo_ok h at_ turn i
    unfold flipTo
    cases skipI at_ turn i with
    | true => exact ⟨h1, h2⟩
    | false =>
      unfold flipS
      refine ⟨?_, by rw [cond_false, List.length_set]; exact h2⟩
      rw [cond_false, List.all_eq_true]
      intro d hd
      rcases List.mem_or_eq_of_mem_set hd with hd | rfl
      · exact List.all_eq_true.1 h1 d hd
      · exact flipB_ok _ _

theorem odd_bit (turn : Int) (h0 : 0 ≤ turn) (h1 : turn < 2 ^ 32) (i : Nat) (hi : i < 32) :
    (IntKind.wrap .u32 ((BitVec.toNat (BitVec.ofInt 32 (Int.fdiv turn ((2 : Int) ^ min (Int.toNat (i : Int)) 32)) &&& BitVec.ofInt 32 (1 : Int)) : Nat) : Int) == (0 : Int)) = !bitT turn i := by
  have e : turn = toI (BitVec.ofInt 32 turn) := by
    refine (toI_eq ?_ rfl).symm
    rw [IntKind.wrap_u32]; omega
  unfold bitT
  generalize BitVec.ofInt 32 turn = t at *
  rw [e, Int.toNat_natCast, shift_toI _ _ (by omega), ofI_toI]
  have := odd_toI (t >>> i)
  rw [ofI_toI, BitVec.getLsbD_ushiftRight, Nat.add_zero] at this
  rw [← this]
  have hm : (t >>> i &&& BitVec.ofInt 32 1).toNat = 0 ∨ (t >>> i &&& BitVec.ofInt 32 1).toNat = 1 := by
    rw [BitVec.toNat_and, show (BitVec.ofInt 32 1).toNat = 1 from rfl, Nat.and_one_is_mod]
    omega
  rcases hm with hm | hm <;> rw [hm] <;> rfl

theorem okB_shape {d : D} (h : okB d = true) : D.shape d = .one := by
  obtain ⟨n, rfl, _, _⟩ := okB_spec h; rfl
theorem okB_okE {d : D} (h : okB d = true) : okE (.int .u8) d = true := by
  obtain ⟨n, rfl, _, _⟩ := okB_spec h; rfl

def okFlip (b : List D) (turn : Int) : Bool := b.all okB && decide (b.length = 128) && decide (0 ≤ turn) && decide (turn < 2 ^ 32)

theorem flip_closed (b : List D) (at_ turn : Int) (m k : Nat) (c : List D) (hc : (okFlip b turn && Nat.beq m 128 && Nat.beq k 128 && D.eqbL c b) = true) :
    ∃ z, (iterT (flip_step b at_ turn) z (0, m, k, c)).run = T.run (.leaf (some 2, mkF 137 [(9, .dat (.slc .one b)), (15, .sref .one 0 m [] 0 k)], [mkDyn .one (flipTo b at_ turn 32)])) := by
  unfold okFlip at hc
  simp only [Bool.and_eq_true, decide_eq_true_eq] at hc
  obtain ⟨⟨⟨⟨⟨⟨h1, h2⟩, h3⟩, h4⟩, hm⟩, hk⟩, hcb⟩ := hc
  obtain rfl := Nat.eq_of_beq_eq_true hm
  obtain rfl := Nat.eq_of_beq_eq_true hk
  obtain rfl := (D.eqL_of_eqb hcb).symm
  refine iter_range (n := 32) (fun i => (128, 128, flipTo b at_ turn i)) (fun i hi => ?_) ?_
  · obtain ⟨g1, g2⟩ := flipTo_ok h1 at_ turn i
    have e1 : IntKind.wrap .i64 (IntKind.wrap .i64 (IntKind.wrap .i64 ((8 : Int) * ((128 : Nat) : Int)) - (1 : Int)) - (i : Int)) = 1023 - (i : Int) := by
      rw [IntKind.wrap_i64, IntKind.wrap_i64, IntKind.wrap_i64]; omega
    show _ = some (Sum.inl (_, 128, 128, bif skipI at_ turn i then flipTo b at_ turn i else flipS (flipTo b at_ turn i) (at_ + (i : Int)).toNat))
    unfold flip_step skipI
    simp only [decide_eq_true (show (i : Int) < 32 by omega), e1, odd_bit turn h3 h4 i hi, wrap_succ (show i < 2 ^ 62 by omega), decide_eq_true (show (0 : Int) ≤ (i : Int) by omega)]
    by_cases c1 : at_ < 0
    · simp only [decide_eq_true c1]; rfl
    · by_cases c2 : at_ > 1023 - (i : Int)
      · simp only [decide_eq_false c1, decide_eq_true c2]; rfl
      · cases hb : bitT turn i with
        | false => simp only [decide_eq_false c1, decide_eq_false c2]; rfl
        | true =>
          obtain ⟨a, rfl⟩ : ∃ a : Nat, at_ = (a : Int) := ⟨at_.toNat, by omega⟩
          have w1 : IntKind.wrap .i64 ((a : Int) + (i : Int)) = ((a + i : Nat) : Int) := by rw [IntKind.wrap_i64]; omega
          have w2 : IntKind.wrap .i64 (Int.tdiv ((a + i : Nat) : Int) 8) = (((a + i) / 8 : Nat) : Int) := by
            rw [Int.tdiv_eq_ediv_of_nonneg (by omega), IntKind.wrap_i64]; omega
          have w3 : Int.tmod ((a + i : Nat) : Int) 8 = (((a + i) % 8 : Nat) : Int) := by
            rw [Int.tmod_eq_emod_of_nonneg (by omega)]; omega
          have w4 : ((a : Int) + (i : Int)).toNat = a + i := by omega
          have hl : (a + i) / 8 < (flipTo b (a : Int) turn i).length := by rw [g2, h2]; omega
          have k1 := nthD_okB g1 hl
          simp only [decide_eq_false c1, decide_eq_false c2, w1, w2, w3, w4, Int.toNat_natCast, Nat.zero_add, decide_eq_true (show (0 : Int) ≤ (((a + i) / 8 : Nat) : Int) by omega), decide_eq_true (show (0 : Int) ≤ (((a + i) % 8 : Nat) : Int) by omega), decide_eq_true (show (((a + i) / 8 : Nat) : Int) < ((128 : Nat) : Int) by omega), decide_eq_true hl, beq_len (g2.trans h2), okB_okE k1, okB_shape k1]
          rfl
  · unfold flip_step
    simp only [show decide (((32 : Nat) : Int) < 32) = false from rfl]
    rfl

def L_flip : Frame' → Store → T (Exit × Frame' × Store) := fun fr σ => match fr.getD 2 .undef, fr.getD 3 .undef, fr.getD 9 .undef, fr.getD 15 .undef, fr.getD 16 .undef, σ with
  | AV.dat (D.int IntKind.i64 at_), AV.dat (D.int IntKind.u32 turn), AV.dat (D.slc Sh.one b), AV.sref Sh.one 0 m [] 0 k, AV.dat (D.int IntKind.i64 0), [{ sh := Sh.arr Sh.one 0, dyn := true, frz := false, v := AV.dat (D.arr Sh.one c) }] => .chk (Nat.beq fr.length 137 && (okFlip b turn && Nat.beq m 128 && Nat.beq k 128 && D.eqbL c b)) (T.bind (.leaf (some 2, mkF 137 [(9, .dat (.slc .one b)), (15, .sref .one 0 m [] 0 k)], [mkDyn .one (flipTo b at_ turn 32)])) fun o => .leaf (outEx o.1, o.2.1, o.2.2))
  | _, _, _, _, _, _ => .fail
theorem flip_sem (lp : Loops) : ∀ fr σ p, (L_flip fr σ).run = some p → ∀ (K : Kt) r, K p.1 p.2.1 p.2.2 = some r → ∃ n, loopRun (envOf tab Sr [] lp H4) Try.f4 1 σ.length n (cleanF (liveAt Try.f4 1) 0 fr) σ K = some r := by
  intro fr σ p h K r hK
  unfold L_flip at h
  split at h
  · rename_i at_ turn b m k c g2 g3 g9 g15 g16
    obtain ⟨hc, h'⟩ := T.chk_some h
    rw [Bool.and_eq_true] at hc
    obtain ⟨hl, hc⟩ := hc
    obtain ⟨o, ho, h'⟩ := T.bind_some h'
    have hp := T.leaf_some h'
    subst hp
    obtain ⟨nF, hn⟩ : ∃ nF, (iterT (flip_step b at_ turn) nF ((0, m, k, c))).run = T.run (.leaf (some 2, mkF 137 [(9, .dat (.slc .one b)), (15, .sref .one 0 m [] 0 k)], [mkDyn .one (flipTo b at_ turn 32)])) := flip_closed b at_ turn m k c hc
    rw [ho] at hn
    refine ⟨nF, ?_⟩
    have he : cleanF (liveAt Try.f4 1) 0 fr = flip_fr b at_ turn ((0, m, k, c)) := flip_enter b at_ turn _ _ _ _ fr hl g2 g3 g9 g15 g16
    refine (iter_ok (base := 1) (flip_hr lp b at_ turn) K nF ((0, m, k, c)) _ _ (by rw [clean_clean]; exact he) (by kernel_rfl)).trans ?_
    rw [T.k_run hn]
    exact hK
  · simp [T.run_fail] at h
theorem flip_loopOk (lp : Loops) (hk : Loops.get lp 16 = some L_flip) : LoopOk (envOf tab Sr [] lp H4) (loopAt Try.f4 1).1 (loopAt Try.f4 1).2 := loop_ok (L := L_flip) hk (flip_sem lp)


end Go.Proofs.Ytfajnpnmghbdpaa
