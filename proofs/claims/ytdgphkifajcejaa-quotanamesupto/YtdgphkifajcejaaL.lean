/- Seat 06: QuotaNames. -/
import Derived.Test.YtdgphkifajcejaaH
namespace Go.Proofs.Ytdgphkifajcejaa
open Go.AX
set_option maxRecDepth 100000

def C_alive : FunT := fun args σ => match args, σ with
  | [], [] => .leaf ([.dat (.bool true)], [])
  | _, _ => .fail
theorem alive_ok : FunOk Try.prog 14 (FunT.run C_alive) := by
  refine fun_ok (E := envOf tab Sq [] [] []) (fz := true) (fn := Try.f14) (envOf_ok progOk Sq_ok) (by kernel_rfl) (by kernel_rfl) (loops_none (by kernel_rfl)) ?_
  intro args σ r h
  unfold C_alive at h
  split at h
  · exact alive_run.trans h
  · simp [T.run_fail] at h

abbrev St : Specs := [(14, C_alive), (19, S_tof), (21, C_tput), (22, C_thas), (23, S_tcount)]
theorem St_ok : SpecsOk Try.prog St := .cons alive_ok (.cons tof_ok (.cons ctput_ok (.cons cthas_ok (.cons tcount_ok (.nil _)))))
abbrev H5 : Hints := [(9, 0, [.kill 66, .cut 2]), (999999, 111, [.is 111 (aBool false)]), (999999, 15, [.is 15 (aBool false)]), (999999, 31, [.is 31 (aBool true)]), (999999, 34, [.is 34 (aBool true)]), (999999, 39, [.is 39 (aBool true)]), (999999, 44, [.is 44 (aBool false)]), (999999, 48, [.is 48 (aBool false)]), (999999, 54, [.is 54 (aBool false)]), (999999, 62, [.is 62 (aBool false)]), (999999, 72, [.is 72 (aBool false)]), (999999, 97, [.is 97 (aBool false)]), (999999, 114, [.is 114 (aBool true)]), (999999, 119, [.is 119 (aBool true)])]

def names_fr (l _ next : List D) (at_ _ : Int) (_ : ByteArray) : (Int × Int) → Frame' := fun ⟨k, many⟩ => mkF 121 [(0, .dat (.slc (.agg [.one, .one]) l)), (1, .dat (.int .i64 at_)), (7, pR 1), (8, .dat (.slc (.agg [.one, .one]) next)), (10, .dat (.int .i64 many)), (11, .dat (.int .i64 k))]
def names_st (_ lr _ : List D) (_ n : Int) (s : ByteArray) : (Int × Int) → Store := fun ⟨_, _⟩ => [⟨.agg [.one, .one], false, false, .dat (.agg [.str s, .int .i64 n])⟩, trowB 20 lr]
def names_step (l lr next : List D) (at_ n : Int) (s : ByteArray) : (Int × Int) → T ((Int × Int) ⊕ LOut) := fun ⟨k, many⟩ => 
  .br (decide (k < (↑(List.length l) : Int))) (
   .chk (decide ((0 : Int) ≤ k)) (
    .chk (decide (Int.toNat k < List.length l)) (
     .chk (okE (Ek.agg [Ek.str, Ek.int IntKind.i64]) (nthD l (Int.toNat k))) (
      .br (!decide (Array.toList (ByteArray.data (D.getS (nthD (D.getL (nthD l (Int.toNat k))) (0 : Nat)))) = [])) (
       .chk (okT lr) (
        .chk (decide ((0 : Int) ≤ k)) (
         .chk (decide (Int.toNat k < List.length l)) (
          .chk (okE (Ek.agg [Ek.str, Ek.int IntKind.i64]) (nthD l (Int.toNat k))) (
           .chk (D.eqb (D.bool (true != (thasB lr k == !decide (Array.toList (ByteArray.data (D.getS (nthD (D.getL (nthD l (Int.toNat k))) (0 : Nat)))) = [])))) (D.bool false)) (
            .br (k != at_) (
             .chk (decide ((0 : Int) ≤ k)) (
              .chk (decide (Int.toNat k < List.length next)) (
               .chk (okE (Ek.agg [Ek.str, Ek.int IntKind.i64]) (nthD next (Int.toNat k))) (
                .chk (decide ((0 : Int) ≤ k)) (
                 .chk (decide (Int.toNat k < List.length l)) (
                  .chk (okE (Ek.agg [Ek.str, Ek.int IntKind.i64]) (nthD l (Int.toNat k))) (
                   .chk (D.eqb (D.bool (true != (decide (Array.toList (ByteArray.data (D.getS (nthD (D.getL (nthD next (Int.toNat k))) (0 : Nat)))) = Array.toList (ByteArray.data (D.getS (nthD (D.getL (nthD l (Int.toNat k))) (0 : Nat))))) && (D.getI (nthD (D.getL (nthD next (Int.toNat k))) (1 : Nat)) == D.getI (nthD (D.getL (nthD l (Int.toNat k))) (1 : Nat)) && true)))) (D.bool false)) (.leaf (.inl ((IntKind.wrap IntKind.i64 (k + (1 : Int))), (IntKind.wrap IntKind.i64 (many + (1 : Int))))))))))))) (.leaf (.inl ((IntKind.wrap IntKind.i64 (k + (1 : Int))), (IntKind.wrap IntKind.i64 (many + (1 : Int)))))))))))) (
       .chk (okT lr) (
        .chk (decide ((0 : Int) ≤ k)) (
         .chk (decide (Int.toNat k < List.length l)) (
          .chk (okE (Ek.agg [Ek.str, Ek.int IntKind.i64]) (nthD l (Int.toNat k))) (
           .chk (D.eqb (D.bool (true != (thasB lr k == !decide (Array.toList (ByteArray.data (D.getS (nthD (D.getL (nthD l (Int.toNat k))) (0 : Nat)))) = [])))) (D.bool false)) (
            .br (k != at_) (
             .chk (decide ((0 : Int) ≤ k)) (
              .chk (decide (Int.toNat k < List.length next)) (
               .chk (okE (Ek.agg [Ek.str, Ek.int IntKind.i64]) (nthD next (Int.toNat k))) (
                .chk (decide ((0 : Int) ≤ k)) (
                 .chk (decide (Int.toNat k < List.length l)) (
                  .chk (okE (Ek.agg [Ek.str, Ek.int IntKind.i64]) (nthD l (Int.toNat k))) (
                   .chk (D.eqb (D.bool (true != (decide (Array.toList (ByteArray.data (D.getS (nthD (D.getL (nthD next (Int.toNat k))) (0 : Nat)))) = Array.toList (ByteArray.data (D.getS (nthD (D.getL (nthD l (Int.toNat k))) (0 : Nat))))) && (D.getI (nthD (D.getL (nthD next (Int.toNat k))) (1 : Nat)) == D.getI (nthD (D.getL (nthD l (Int.toNat k))) (1 : Nat)) && true)))) (D.bool false)) (.leaf (.inl ((IntKind.wrap IntKind.i64 (k + (1 : Int))), (many))))))))))) (.leaf (.inl ((IntKind.wrap IntKind.i64 (k + (1 : Int))), (many)))))))))))))) (.leaf (.inr ((some (0 : Nat)), mkF (121 : Nat) [((7 : Nat), AV.ptr (Sh.agg [Sh.one, Sh.one]) (1 : Nat) (0 : Nat) []), ((10 : Nat), AV.dat (D.int IntKind.i64 many))], [{ sh := Sh.agg [Sh.one, Sh.one], dyn := false, frz := false, v := AV.dat (D.agg [D.str s, D.int IntKind.i64 n]) }, { sh := Sh.agg [Sh.one, Sh.one], dyn := false, frz := false, v := AV.dat (D.agg [D.slc (Sh.agg [Sh.one, Sh.one]) lr, D.fn (Fn.func (20 : Nat)) [] []]) }])))
theorem names_round (lp : Loops) (l lr next : List D) (at_ n : Int) (s : ByteArray) (k many : Int) (K : Kt) : oneRound (envOf tab St [] lp H5) Try.f5 0 (2) (mkF 121 [(0, .dat (.slc (.agg [.one, .one]) l)), (1, .dat (.int .i64 at_)), (7, pR 1), (8, .dat (.slc (.agg [.one, .one]) next)), (10, .dat (.int .i64 many)), (11, .dat (.int .i64 k))]) ([⟨.agg [.one, .one], false, false, .dat (.agg [.str s, .int .i64 n])⟩, trowB 20 lr]) K =
  (bif decide (k < (↑(List.length l) : Int)) then 
   (bif decide ((0 : Int) ≤ k) then 
    (bif decide (Int.toNat k < List.length l) then 
     (bif okE (Ek.agg [Ek.str, Ek.int IntKind.i64]) (nthD l (Int.toNat k)) then 
      (bif !decide (Array.toList (ByteArray.data (D.getS (nthD (D.getL (nthD l (Int.toNat k))) (0 : Nat)))) = []) then 
       (bif okT lr then 
        (bif decide ((0 : Int) ≤ k) then 
         (bif decide (Int.toNat k < List.length l) then 
          (bif okE (Ek.agg [Ek.str, Ek.int IntKind.i64]) (nthD l (Int.toNat k)) then 
           (bif D.eqb (D.bool (true != (thasB lr k == !decide (Array.toList (ByteArray.data (D.getS (nthD (D.getL (nthD l (Int.toNat k))) (0 : Nat)))) = [])))) (D.bool false) then 
            (bif k != at_ then 
             (bif decide ((0 : Int) ≤ k) then 
              (bif decide (Int.toNat k < List.length next) then 
               (bif okE (Ek.agg [Ek.str, Ek.int IntKind.i64]) (nthD next (Int.toNat k)) then 
                (bif decide ((0 : Int) ≤ k) then 
                 (bif decide (Int.toNat k < List.length l) then 
                  (bif okE (Ek.agg [Ek.str, Ek.int IntKind.i64]) (nthD l (Int.toNat k)) then 
                   (bif D.eqb (D.bool (true != (decide (Array.toList (ByteArray.data (D.getS (nthD (D.getL (nthD next (Int.toNat k))) (0 : Nat)))) = Array.toList (ByteArray.data (D.getS (nthD (D.getL (nthD l (Int.toNat k))) (0 : Nat))))) && (D.getI (nthD (D.getL (nthD next (Int.toNat k))) (1 : Nat)) == D.getI (nthD (D.getL (nthD l (Int.toNat k))) (1 : Nat)) && true)))) (D.bool false) then K (Exit.normal) (mkF (121 : Nat) [((0 : Nat), AV.dat (D.slc (Sh.agg [Sh.one, Sh.one]) l)), ((1 : Nat), AV.dat (D.int IntKind.i64 at_)), ((7 : Nat), AV.ptr (Sh.agg [Sh.one, Sh.one]) (1 : Nat) (0 : Nat) []), ((8 : Nat), AV.dat (D.slc (Sh.agg [Sh.one, Sh.one]) next)), ((10 : Nat), AV.dat (D.int IntKind.i64 (IntKind.wrap IntKind.i64 (many + (1 : Int))))), ((11 : Nat), AV.dat (D.int IntKind.i64 (IntKind.wrap IntKind.i64 (k + (1 : Int))))), ((78 : Nat), AV.dat (D.int IntKind.i64 k)), ((79 : Nat), AV.dat (D.int IntKind.i64 (IntKind.wrap IntKind.i64 (k + (1 : Int)))))]) ([{ sh := Sh.agg [Sh.one, Sh.one], dyn := false, frz := false, v := AV.dat (D.agg [D.str s, D.int IntKind.i64 n]) }, { sh := Sh.agg [Sh.one, Sh.one], dyn := false, frz := false, v := AV.dat (D.agg [D.slc (Sh.agg [Sh.one, Sh.one]) lr, D.fn (Fn.func (20 : Nat)) [] []]) }]) else none) else none) else none) else none) else none) else none) else none) else K (Exit.normal) (mkF (121 : Nat) [((0 : Nat), AV.dat (D.slc (Sh.agg [Sh.one, Sh.one]) l)), ((1 : Nat), AV.dat (D.int IntKind.i64 at_)), ((7 : Nat), AV.ptr (Sh.agg [Sh.one, Sh.one]) (1 : Nat) (0 : Nat) []), ((8 : Nat), AV.dat (D.slc (Sh.agg [Sh.one, Sh.one]) next)), ((10 : Nat), AV.dat (D.int IntKind.i64 (IntKind.wrap IntKind.i64 (many + (1 : Int))))), ((11 : Nat), AV.dat (D.int IntKind.i64 (IntKind.wrap IntKind.i64 (k + (1 : Int))))), ((78 : Nat), AV.dat (D.int IntKind.i64 k)), ((79 : Nat), AV.dat (D.int IntKind.i64 (IntKind.wrap IntKind.i64 (k + (1 : Int)))))]) ([{ sh := Sh.agg [Sh.one, Sh.one], dyn := false, frz := false, v := AV.dat (D.agg [D.str s, D.int IntKind.i64 n]) }, { sh := Sh.agg [Sh.one, Sh.one], dyn := false, frz := false, v := AV.dat (D.agg [D.slc (Sh.agg [Sh.one, Sh.one]) lr, D.fn (Fn.func (20 : Nat)) [] []]) }])) else none) else none) else none) else none) else none) else 
       (bif okT lr then 
        (bif decide ((0 : Int) ≤ k) then 
         (bif decide (Int.toNat k < List.length l) then 
          (bif okE (Ek.agg [Ek.str, Ek.int IntKind.i64]) (nthD l (Int.toNat k)) then 
           (bif D.eqb (D.bool (true != (thasB lr k == !decide (Array.toList (ByteArray.data (D.getS (nthD (D.getL (nthD l (Int.toNat k))) (0 : Nat)))) = [])))) (D.bool false) then 
            (bif k != at_ then 
             (bif decide ((0 : Int) ≤ k) then 
              (bif decide (Int.toNat k < List.length next) then 
               (bif okE (Ek.agg [Ek.str, Ek.int IntKind.i64]) (nthD next (Int.toNat k)) then 
                (bif decide ((0 : Int) ≤ k) then 
                 (bif decide (Int.toNat k < List.length l) then 
                  (bif okE (Ek.agg [Ek.str, Ek.int IntKind.i64]) (nthD l (Int.toNat k)) then 
                   (bif D.eqb (D.bool (true != (decide (Array.toList (ByteArray.data (D.getS (nthD (D.getL (nthD next (Int.toNat k))) (0 : Nat)))) = Array.toList (ByteArray.data (D.getS (nthD (D.getL (nthD l (Int.toNat k))) (0 : Nat))))) && (D.getI (nthD (D.getL (nthD next (Int.toNat k))) (1 : Nat)) == D.getI (nthD (D.getL (nthD l (Int.toNat k))) (1 : Nat)) && true)))) (D.bool false) then K (Exit.normal) (mkF (121 : Nat) [((0 : Nat), AV.dat (D.slc (Sh.agg [Sh.one, Sh.one]) l)), ((1 : Nat), AV.dat (D.int IntKind.i64 at_)), ((7 : Nat), AV.ptr (Sh.agg [Sh.one, Sh.one]) (1 : Nat) (0 : Nat) []), ((8 : Nat), AV.dat (D.slc (Sh.agg [Sh.one, Sh.one]) next)), ((10 : Nat), AV.dat (D.int IntKind.i64 many)), ((11 : Nat), AV.dat (D.int IntKind.i64 (IntKind.wrap IntKind.i64 (k + (1 : Int))))), ((78 : Nat), AV.dat (D.int IntKind.i64 k)), ((79 : Nat), AV.dat (D.int IntKind.i64 (IntKind.wrap IntKind.i64 (k + (1 : Int)))))]) ([{ sh := Sh.agg [Sh.one, Sh.one], dyn := false, frz := false, v := AV.dat (D.agg [D.str s, D.int IntKind.i64 n]) }, { sh := Sh.agg [Sh.one, Sh.one], dyn := false, frz := false, v := AV.dat (D.agg [D.slc (Sh.agg [Sh.one, Sh.one]) lr, D.fn (Fn.func (20 : Nat)) [] []]) }]) else none) else none) else none) else none) else none) else none) else none) else K (Exit.normal) (mkF (121 : Nat) [((0 : Nat), AV.dat (D.slc (Sh.agg [Sh.one, Sh.one]) l)), ((1 : Nat), AV.dat (D.int IntKind.i64 at_)), ((7 : Nat), AV.ptr (Sh.agg [Sh.one, Sh.one]) (1 : Nat) (0 : Nat) []), ((8 : Nat), AV.dat (D.slc (Sh.agg [Sh.one, Sh.one]) next)), ((10 : Nat), AV.dat (D.int IntKind.i64 many)), ((11 : Nat), AV.dat (D.int IntKind.i64 (IntKind.wrap IntKind.i64 (k + (1 : Int))))), ((78 : Nat), AV.dat (D.int IntKind.i64 k)), ((79 : Nat), AV.dat (D.int IntKind.i64 (IntKind.wrap IntKind.i64 (k + (1 : Int)))))]) ([{ sh := Sh.agg [Sh.one, Sh.one], dyn := false, frz := false, v := AV.dat (D.agg [D.str s, D.int IntKind.i64 n]) }, { sh := Sh.agg [Sh.one, Sh.one], dyn := false, frz := false, v := AV.dat (D.agg [D.slc (Sh.agg [Sh.one, Sh.one]) lr, D.fn (Fn.func (20 : Nat)) [] []]) }])) else none) else none) else none) else none) else none)) else none) else none) else none) else K (Exit.exit (0 : Nat)) (mkF (121 : Nat) [((7 : Nat), AV.ptr (Sh.agg [Sh.one, Sh.one]) (1 : Nat) (0 : Nat) []), ((10 : Nat), AV.dat (D.int IntKind.i64 many))]) ([{ sh := Sh.agg [Sh.one, Sh.one], dyn := false, frz := false, v := AV.dat (D.agg [D.str s, D.int IntKind.i64 n]) }, { sh := Sh.agg [Sh.one, Sh.one], dyn := false, frz := false, v := AV.dat (D.agg [D.slc (Sh.agg [Sh.one, Sh.one]) lr, D.fn (Fn.func (20 : Nat)) [] []]) }])) := by kernel_rfl
theorem names_hr (lp : Loops) (l lr next : List D) (at_ n : Int) (s : ByteArray) : ∀ (sA : (Int × Int)) (K : Kt) (N : (Int × Int) → Option Res), (∀ sB fr' σ', cleanF (liveAt Try.f5 0) 0 fr' = names_fr l lr next at_ n s sB → trim (2) (names_fr l lr next at_ n s sB) σ' = names_st l lr next at_ n s sB → K .normal fr' σ' = N sB) →
    oneRound (envOf tab St [] lp H5) Try.f5 0 (2) (names_fr l lr next at_ n s sA) (names_st l lr next at_ n s sA) K = (names_step l lr next at_ n s sA).k (LK K N) := by
  intro sA K N hN
  obtain ⟨k, many⟩ := sA
  exact (names_round lp l lr next at_ n s k many K).trans (cong2 (cong2 (cong2 (cong2 (cong2 (cong2 (cong2 (cong2 (cong2 (cong2 (cong2 (cong2 (cong2 (cong2 (cong2 (cong2 (cong2 (cong2 (hN ((IntKind.wrap IntKind.i64 (k + (1 : Int))), (IntKind.wrap IntKind.i64 (many + (1 : Int)))) _ _ (by kernel_rfl) (by kernel_rfl)) rfl) rfl) rfl) rfl) rfl) rfl) rfl) (hN ((IntKind.wrap IntKind.i64 (k + (1 : Int))), (IntKind.wrap IntKind.i64 (many + (1 : Int)))) _ _ (by kernel_rfl) (by kernel_rfl))) rfl) rfl) rfl) rfl) rfl) (cong2 (cong2 (cong2 (cong2 (cong2 (cong2 (cong2 (cong2 (cong2 (cong2 (cong2 (cong2 (cong2 (hN ((IntKind.wrap IntKind.i64 (k + (1 : Int))), (many)) _ _ (by kernel_rfl) (by kernel_rfl)) rfl) rfl) rfl) rfl) rfl) rfl) rfl) (hN ((IntKind.wrap IntKind.i64 (k + (1 : Int))), (many)) _ _ (by kernel_rfl) (by kernel_rfl))) rfl) rfl) rfl) rfl) rfl)) rfl) rfl) rfl) rfl)
theorem names_enter (l lr next : List D) (at_ n : Int) (s : ByteArray) (k many : Int) (fr : Frame') (hl : Nat.beq fr.length 121 = true) (g0 : fr.getD 0 .undef = AV.dat (D.slc (Sh.agg [Sh.one, Sh.one]) l)) (g1 : fr.getD 1 .undef = AV.dat (D.int IntKind.i64 at_)) (g7 : fr.getD 7 .undef = AV.ptr (Sh.agg [Sh.one, Sh.one]) 1 0 []) (g8 : fr.getD 8 .undef = AV.dat (D.slc (Sh.agg [Sh.one, Sh.one]) next)) (g10 : fr.getD 10 .undef = AV.dat (D.int IntKind.i64 many)) (g11 : fr.getD 11 .undef = AV.dat (D.int IntKind.i64 k)) : cleanF (liveAt Try.f5 0) 0 fr = names_fr l lr next at_ n s (k, many) := by
  have e : liveAt Try.f5 0 = [1, 8, 0, 11, 7, 10] := by kernel_rfl
  rw [clean_mk (Nat.eq_of_beq_eq_true hl), e]
  show mkF 121 [(1, fr.getD 1 .undef), (8, fr.getD 8 .undef), (0, fr.getD 0 .undef), (11, fr.getD 11 .undef), (7, fr.getD 7 .undef), (10, fr.getD 10 .undef)] = _
  rw [g1, g8, g0, g11, g7, g10]
  kernel_rfl


abbrev itD (s : ByteArray) (n : Int) : D := .agg [.str s, .int .i64 n]
abbrev boxX (s : ByteArray) (n : Int) : Blk := ⟨.agg [.one, .one], false, false, .dat (.agg [.str s, .int .i64 n])⟩
abbrev nmB (d : D) : Bool := !decide (Array.toList (ByteArray.data (D.getS (nthD (D.getL d) 0))) = [])
abbrev sameT (a b : D) : Bool := decide (Array.toList (ByteArray.data (D.getS (nthD (D.getL a) 0))) = Array.toList (ByteArray.data (D.getS (nthD (D.getL b) 0)))) && (D.getI (nthD (D.getL a) 1) == D.getI (nthD (D.getL b) 1) && true)
theorem sameT_self (a : D) : sameT a a = true := by
  show (decide _ && _) = true
  rw [decide_eq_true rfl, beq_self_eq_true]; rfl

theorem names_closed (l lr next : List D) (at_ n : Int) (s : ByteArray) (hc : (D.eqbL lr l && okT l && inB l at_ && D.eqbL next (l.set at_.toNat (itD s n))) = true) :
    ∃ m, (iterT (names_step l lr next at_ n s) m (0, 0)).run = T.run (.leaf (some 0, mkF 121 [(7, pR 1), (10, .dat (.int .i64 ((tslotsTo l l.length).length : Nat)))], [boxX s n, trowB 20 lr])) := by
  simp only [Bool.and_eq_true] at hc
  obtain ⟨⟨⟨hlr, hl⟩, hi⟩, hn⟩ := hc
  obtain rfl : l = lr := (D.eqL_of_eqb hlr).symm
  obtain ⟨h1, h2⟩ := okT_spec hl
  obtain ⟨g1, g2⟩ := inB_spec hi
  have hn := D.eqL_of_eqb hn
  refine iter_range (n := l.length) (fun k => (((tslotsTo l k).length : Nat) : Int)) (fun k hk => ?_) ?_
  · have hlen : k < next.length := by rw [hn, List.length_set]; exact hk
    have c1 := allE_nth h1 hk
    have hnx : nthD next k = if at_.toNat = k then itD s n else nthD l k := by
      rw [hn]
      unfold nthD
      rw [List.getD_eq_getElem?_getD, List.getD_eq_getElem?_getD, List.getElem?_set]
      by_cases h : at_.toNat = k
      · subst h; simp [hk]
      · simp [h]
    have c2 : okE ekT (nthD next k) = true := by
      rw [hnx]
      by_cases h : at_.toNat = k
      · rw [if_pos h]; rfl
      · rw [if_neg h]; exact c1
    have c3 : thasB l (k : Int) = nmB (nthD l k) := thasB_nat hk
    have c4 : (true != (nmB (nthD l k) == nmB (nthD l k))) = false := by rw [beq_self_eq_true]; rfl
    have hw : (((tslotsTo l (k + 1)).length : Nat) : Int) = bif nmB (nthD l k) then IntKind.wrap .i64 (((tslotsTo l k).length : Nat) + 1) else ((tslotsTo l k).length : Nat) := by
      have := tslotsTo_len l k
      rw [tslotsTo_succ]
      show (((bif nmB (nthD l k) then _ else _ : List D).length : Nat) : Int) = _
      cases nmB (nthD l k) with
      | true => rw [cond_true, cond_true, List.length_append, wrap_succ (by omega)]; rfl
      | false => rfl
    have hd : nmB (nthD l k) = (!decide (Array.toList (ByteArray.data (D.getS (nthD (D.getL (nthD l k)) 0))) = [])) := rfl
    unfold names_step
    simp only [decide_eq_true (show (k : Int) < (l.length : Int) by omega), decide_eq_true (show (0 : Int) ≤ (k : Int) by omega), Int.toNat_natCast, decide_eq_true hk, decide_eq_true hlen, c1, c2, hl, c3, c4, wrap_succ (show k < 2 ^ 62 by omega), hw]
    by_cases hka : (k : Int) = at_
    · have e1 : ((k : Int) != at_) = false := by rw [hka]; exact bne_self_eq_false _
      rw [e1, hd]
      cases (!decide (Array.toList (ByteArray.data (D.getS (nthD (D.getL (nthD l k)) 0))) = [])) <;> rfl
    · have e1 : ((k : Int) != at_) = true := bne_iff_ne.2 hka
      have e2 : nthD next k = nthD l k := by rw [hnx, if_neg (by omega)]
      have e3 : sameT (nthD next k) (nthD l k) = true := (congrArg (fun z => sameT z (nthD l k)) e2).trans (sameT_self _)
      have e4 : (true != sameT (nthD next k) (nthD l k)) = false := by rw [e3]; rfl
      rw [e1]
      simp only [e4]
      rw [hd]
      cases (!decide (Array.toList (ByteArray.data (D.getS (nthD (D.getL (nthD l k)) 0))) = [])) <;> rfl
  · unfold names_step
    simp only [decide_eq_false (show ¬ (l.length : Int) < (l.length : Int) by omega)]
    rfl

def L_names : Frame' → Store → T (Exit × Frame' × Store) := fun fr σ => match fr.getD 0 .undef, fr.getD 1 .undef, fr.getD 7 .undef, fr.getD 8 .undef, fr.getD 10 .undef, fr.getD 11 .undef, σ with
  | AV.dat (D.slc (Sh.agg [Sh.one, Sh.one]) l), AV.dat (D.int IntKind.i64 at_), AV.ptr (Sh.agg [Sh.one, Sh.one]) 1 0 [], AV.dat (D.slc (Sh.agg [Sh.one, Sh.one]) next), AV.dat (D.int IntKind.i64 0), AV.dat (D.int IntKind.i64 0), [{ sh := Sh.agg [Sh.one, Sh.one], dyn := false, frz := false, v := AV.dat (D.agg [D.str s, D.int IntKind.i64 n]) }, { sh := Sh.agg [Sh.one, Sh.one], dyn := false, frz := false, v := AV.dat (D.agg [D.slc (Sh.agg [Sh.one, Sh.one]) lr, D.fn (Fn.func 20) [] []]) }] => .chk (Nat.beq fr.length 121 && (D.eqbL lr l && okT l && inB l at_ && D.eqbL next (l.set at_.toNat (itD s n)))) (T.bind (.leaf (some 0, mkF 121 [(7, pR 1), (10, .dat (.int .i64 ((tslotsTo l l.length).length : Nat)))], [boxX s n, trowB 20 lr])) fun o => .leaf (outEx o.1, o.2.1, o.2.2))
  | _, _, _, _, _, _, _ => .fail
theorem names_sem (lp : Loops) : ∀ fr σ p, (L_names fr σ).run = some p → ∀ (K : Kt) r, K p.1 p.2.1 p.2.2 = some r → ∃ n, loopRun (envOf tab St [] lp H5) Try.f5 0 σ.length n (cleanF (liveAt Try.f5 0) 0 fr) σ K = some r := by
  intro fr σ p h K r hK
  unfold L_names at h
  split at h
  · rename_i l at_ next s n lr g0 g1 g7 g8 g10 g11
    obtain ⟨hc, h'⟩ := T.chk_some h
    rw [Bool.and_eq_true] at hc
    obtain ⟨hl, hc⟩ := hc
    obtain ⟨o, ho, h'⟩ := T.bind_some h'
    have hp := T.leaf_some h'
    subst hp
    obtain ⟨nF, hn⟩ : ∃ nF, (iterT (names_step l lr next at_ n s) nF ((0, 0))).run = T.run (.leaf (some 0, mkF 121 [(7, pR 1), (10, .dat (.int .i64 ((tslotsTo l l.length).length : Nat)))], [boxX s n, trowB 20 lr])) := names_closed l lr next at_ n s hc
    rw [ho] at hn
    refine ⟨nF, ?_⟩
    have he : cleanF (liveAt Try.f5 0) 0 fr = names_fr l lr next at_ n s ((0, 0)) := names_enter l lr next at_ n s _ _ fr hl g0 g1 g7 g8 g10 g11
    refine (iter_ok (base := 2) (names_hr lp l lr next at_ n s) K nF ((0, 0)) _ _ (by rw [clean_clean]; exact he) (by kernel_rfl)).trans ?_
    rw [T.k_run hn]
    exact hK
  · simp [T.run_fail] at h
theorem names_loopOk (lp : Loops) (hk : Loops.get lp 11 = some L_names) : LoopOk (envOf tab St [] lp H5) (loopAt Try.f5 0).1 (loopAt Try.f5 0).2 := loop_ok (L := L_names) hk (names_sem lp)


abbrev E5 : Env := envOf tab St [] [(11, L_names)] H5
theorem names_run (l : List D) (at_ n : Int) (s : ByteArray) : runF E5 true Try.f5 [.dat (.slc (.agg [.one, .one]) l), .dat (.int .i64 at_), .dat (.agg [.str s, .int .i64 n])] [] =
  (bif fits (Sh.agg [Sh.one, Sh.one]) l && decide (List.length l * (24 : Nat) ≤ (35184372088832 : Nat)) then 
   (bif okT l then 
    (bif decide (at_ < (0 : Int)) == false then 
     (bif decide (at_ < (0 : Int)) then 
      (bif D.eqb (D.bool ((bif inB l at_ then (0 : Int) else (1 : Int)) == (1 : Int))) (D.bool true) then 
       (bif D.eqb (D.bool ((↑(List.length (tputL l at_ (D.agg [D.str s, D.int IntKind.i64 n]))) : Int) == (0 : Int))) (D.bool true) then 
        (bif okT l then 
         (bif D.eqb (D.bool (thasB l at_)) (D.bool false) then some ([AV.dat (D.bool true)], []) else none) else none) else none) else none) else 
      (bif decide (at_ ≥ (↑(List.length l) : Int)) then 
       (bif D.eqb (D.bool ((bif inB l at_ then (0 : Int) else (1 : Int)) == (1 : Int))) (D.bool true) then 
        (bif D.eqb (D.bool ((↑(List.length (tputL l at_ (D.agg [D.str s, D.int IntKind.i64 n]))) : Int) == (0 : Int))) (D.bool true) then 
         (bif okT l then 
          (bif D.eqb (D.bool (thasB l at_)) (D.bool false) then some ([AV.dat (D.bool true)], []) else none) else none) else none) else none) else 
       (bif D.eqb (D.bool ((bif inB l at_ then (0 : Int) else (1 : Int)) != (0 : Int))) (D.bool false) then 
        (bif D.eqb (D.bool ((↑(List.length (tputL l at_ (D.agg [D.str s, D.int IntKind.i64 n]))) : Int) != (↑(List.length l) : Int))) (D.bool false) then 
         (bif decide ((0 : Int) ≤ at_) then 
          (bif decide (Int.toNat at_ < List.length (tputL l at_ (D.agg [D.str s, D.int IntKind.i64 n]))) then 
           (bif okE (Ek.agg [Ek.str, Ek.int IntKind.i64]) (nthD (tputL l at_ (D.agg [D.str s, D.int IntKind.i64 n])) (Int.toNat at_)) then 
            (bif D.eqb (D.bool (true != (decide (Array.toList (ByteArray.data (D.getS (nthD (D.getL (nthD (tputL l at_ (D.agg [D.str s, D.int IntKind.i64 n])) (Int.toNat at_))) (0 : Nat)))) = Array.toList (ByteArray.data s)) && (D.getI (nthD (D.getL (nthD (tputL l at_ (D.agg [D.str s, D.int IntKind.i64 n])) (Int.toNat at_))) (1 : Nat)) == n && true)))) (D.bool false) then 
             (bif fits (Sh.agg [Sh.one, Sh.one]) (tputL l at_ (D.agg [D.str s, D.int IntKind.i64 n])) && decide (List.length (tputL l at_ (D.agg [D.str s, D.int IntKind.i64 n])) * (24 : Nat) ≤ (35184372088832 : Nat)) then 
              (bif okT (tputL l at_ (D.agg [D.str s, D.int IntKind.i64 n])) then 
               (bif D.eqb (D.str s) (D.str s) && (D.eqb (D.str s) (D.str s) && true) then 
                (bif D.eqb (D.bool (true != (thasB (tputL l at_ (D.agg [D.str s, D.int IntKind.i64 n])) at_ == !decide (Array.toList (ByteArray.data s) = [])))) (D.bool false) then 
                 (bif D.eqbL l l && okT l && inB l at_ && D.eqbL (tputL l at_ (D.agg [D.str s, D.int IntKind.i64 n])) (List.set l (Int.toNat at_) (D.agg [D.str s, D.int IntKind.i64 n])) then 
                  (bif okT l then 
                   (bif D.eqb (D.bool ((↑(List.length (tslotsTo l (List.length l))) : Int) == (↑(List.length (tslotsTo l (List.length l))) : Int))) (D.bool true) then some ([AV.dat (D.bool true)], []) else none) else none) else none) else none) else none) else none) else none) else none) else none) else none) else none) else none) else none))) else 
     (bif decide (at_ < (0 : Int)) then 
      (bif D.eqb (D.bool ((bif inB l at_ then (0 : Int) else (1 : Int)) == (1 : Int))) (D.bool true) then 
       (bif D.eqb (D.bool ((↑(List.length (tputL l at_ (D.agg [D.str s, D.int IntKind.i64 n]))) : Int) == (0 : Int))) (D.bool true) then 
        (bif okT l then 
         (bif D.eqb (D.bool (thasB l at_)) (D.bool false) then some ([AV.dat (D.bool true)], []) else none) else none) else none) else none) else none)) else none) else none) := by kernel_rfl

end Go.Proofs.Ytdgphkifajcejaa
