/- Seat 07: flush, crash. -/
import Derived.Test.YthhipekbkodjoaaC
namespace Go.Proofs.Ythhipekbkodjoaa
open Go.AX
set_option maxRecDepth 100000
abbrev okSec (d : D) : Bool := okS (.arr .one 128) d && ((D.getL d).length == 128)
abbrev okSf (k : Nat) (sf : List D) : Bool := (sf.length == k) && sf.all okSec
abbrev okWk (k : Nat) (w : D) : Bool := okW w && (decide (0 ≤ wAt w) && (decide (wAt w < (k : Int)) && fits .one (wWas w)))
abbrev okDk (m k : Nat) (ws sf : List D) : Bool := (m == k) && (okSf k sf && (ws.all (okWk k) && decide (ws.length ≤ 1099511627776)))
abbrev okU8 (d : D) : Bool := okE (.int .u8) d && (decide (0 ≤ D.getI d) && decide (D.getI d ≤ 255))
theorem okDk_spec {m k : Nat} {ws sf : List D} (h : okDk m k ws sf = true) : m = k ∧ sf.length = k ∧ sf.all okSec = true ∧ ws.all (okWk k) = true ∧ ws.length ≤ 1099511627776 := by
  simp only [okDk, okSf, Bool.and_eq_true, beq_iff_eq, decide_eq_true_eq] at h
  exact ⟨h.1, h.2.1.1, h.2.1.2, h.2.2.1, h.2.2.2⟩
theorem okWk_nth {k : Nat} {ws : List D} (h : ws.all (okWk k) = true) {i : Nat} (hi : i < ws.length) : okE k67 (nthD ws i) = true ∧ (wWas (nthD ws i)).length = 128 ∧ 0 ≤ wAt (nthD ws i) ∧ wAt (nthD ws i) < (k : Int) ∧ fits .one (wWas (nthD ws i)) = true := by
  have := List.all_eq_true.1 h _ (nthD_mem hi)
  simp only [okWk, okW, Bool.and_eq_true, beq_iff_eq, decide_eq_true_eq] at this
  exact ⟨this.1.1, this.1.2, this.2.1, this.2.2.1, this.2.2.2⟩
theorem okSec_nth {sf : List D} (h : sf.all okSec = true) {i : Nat} (hi : i < sf.length) : okS (.arr .one 128) (nthD sf i) = true ∧ (D.getL (nthD sf i)).length = 128 := by
  have := List.all_eq_true.1 h _ (nthD_mem hi)
  simpa only [okSec, Bool.and_eq_true, beq_iff_eq] using this
theorem okSec_arr {l : List D} (h : l.length = 128) : okSec (.arr .one l) = true := by
  simp only [okSec, D.getL, h]
  rfl
theorem okSf_set {sf : List D} (h : sf.all okSec = true) (j : Nat) {l : List D} (hl : l.length = 128) : (sf.set j (.arr .one l)).all okSec = true := by
  rw [List.all_eq_true] at h ⊢
  intro x hx
  rcases List.mem_or_eq_of_mem_set hx with hx | rfl
  · exact h x hx
  · exact okSec_arr hl
def setW (sf : List D) (w : D) : List D := sf.set (wAt w).toNat (.arr .one (wWas w))
def cut16 (c : Int) : Int := if 128 < 8 * c then 128 else 8 * c
def trW (c : Int) (sf : List D) (w : D) : List D :=
  bif Nat.beq (cut16 c).toNat 0 then sf else sf.set (wAt w).toNat (.arr .one ((wWas w).take (cut16 c).toNat ++ (D.getL (nthD sf (wAt w).toNat)).drop (cut16 c).toNat))
def trTo (ch ws sf : List D) : Nat → List D
  | 0 => sf
  | i + 1 => trW (D.getI (nthD ch i)) (trTo ch ws sf i) (nthD ws i)
theorem cut16_le (c : Int) : (cut16 c).toNat ≤ 128 := by unfold cut16; split <;> omega
theorem trW_ok {k : Nat} {c : Int} {sf : List D} {w : D} (h0 : sf.length = k) (h1 : sf.all okSec = true) (hw : (wWas w).length = 128) (ha : 0 ≤ wAt w) (hb : wAt w < (k : Int)) : (trW c sf w).length = k ∧ (trW c sf w).all okSec = true := by
  unfold trW
  cases Nat.beq (cut16 c).toNat 0 with
  | true => exact ⟨h0, h1⟩
  | false =>
    refine ⟨by rw [cond_false, List.length_set]; exact h0, okSf_set h1 _ ?_⟩
    have h2 := (okSec_nth h1 (i := (wAt w).toNat) (by omega)).2
    have h3 := cut16_le c
    rw [List.length_append, List.length_take, List.length_drop]
    omega
theorem trTo_ok {k : Nat} {ch ws sf : List D} (h0 : sf.length = k) (h1 : sf.all okSec = true) (hw : ws.all (okWk k) = true) : ∀ i, i ≤ ws.length → (trTo ch ws sf i).length = k ∧ (trTo ch ws sf i).all okSec = true
  | 0, _ => ⟨h0, h1⟩
  | i + 1, hi => by
    obtain ⟨h2, h3⟩ := trTo_ok (ch := ch) h0 h1 hw i (by omega)
    obtain ⟨_, g1, g2, g3, _⟩ := okWk_nth hw (i := i) (by omega)
    exact trW_ok h2 h3 g1 g2 g3
def fl_fr (_m _k : Nat) (_ws ws2 : List D) (_f n : Int) (_u : Bool) : (Int × List D) → Frame' := fun ⟨i, _⟩ => mkF 35 [(0, dP), (16, .dat (.slc s67 ws2)), (17, .dat (.int .i64 n)), (18, .dat (.int .i64 i))]
def fl_st (m k : Nat) (ws _ws2 : List D) (f _n : Int) (u : Bool) : (Int × List D) → Store := fun ⟨_, sf⟩ => [dB m k ws f u, sB sf]
def fl_step (m k : Nat) (ws ws2 : List D) (f n : Int) (u : Bool) : (Int × List D) → T ((Int × List D) ⊕ LOut) := fun ⟨i, sf⟩ =>
  .chk (!decide (i < n) || decide (0 ≤ i) && (decide (Int.toNat i < List.length ws2) && (okE (Ek.agg [Ek.int IntKind.i64, Ek.arr Sh.one]) (nthD ws2 (Int.toNat i)) && (Sh.eqb (s67) (Sh.agg [Sh.one, Sh.arr Sh.one (List.length (D.getL (nthD (D.getL (nthD ws2 (Int.toNat i))) 1)))]) && (decide (0 ≤ D.getI (nthD (D.getL (nthD ws2 (Int.toNat i))) 0)) && (decide (D.getI (nthD (D.getL (nthD ws2 (Int.toNat i))) 0) < (↑k : Int)) && (Nat.beq (List.length sf) m && (decide (0 + Int.toNat (D.getI (nthD (D.getL (nthD ws2 (Int.toNat i))) 0)) < List.length sf) && (okS (Sh.arr Sh.one 128) (nthD sf (0 + Int.toNat (D.getI (nthD (D.getL (nthD ws2 (Int.toNat i))) 0)))) && Sh.eqb (Sh.arr Sh.one (List.length (D.getL (nthD sf (0 + Int.toNat (D.getI (nthD (D.getL (nthD ws2 (Int.toNat i))) 0))))))) (Sh.arr Sh.one (List.length (D.getL (nthD (D.getL (nthD ws2 (Int.toNat i))) 1))))))))))))) (
   .br (!decide (i < n)) (.leaf (.inr ((some 0), mkF 35 [(0, AV.ptr (s61) 0 0 [])], [{ sh := s61, dyn := false, frz := false, v := AV.agg [AV.sref (Sh.arr Sh.one 128) 1 m [] 0 k, .dat (.slc (s67) ws), .dat (.int .i64 f), .dat (.bool u)] }, { sh := Sh.arr (Sh.arr Sh.one 128) 0, dyn := true, frz := false, v := .dat (.arr (Sh.arr Sh.one 128) sf) }]))) (.leaf (.inl ((IntKind.wrap IntKind.i64 (i + 1)), (List.set sf (0 + Int.toNat (D.getI (nthD (D.getL (nthD ws2 (Int.toNat i))) 0))) (D.arr Sh.one (D.getL (nthD (D.getL (nthD ws2 (Int.toNat i))) 1))))))))
theorem fl_round (lp : Loops) (m k : Nat) (ws ws2 : List D) (f n : Int) (u : Bool) (i : Int) (sf : List D) (K : Kt) : oneRound (envOf tab SpC [] lp []) Try.f13 0 (2) (mkF 35 [(0, dP), (16, .dat (.slc s67 ws2)), (17, .dat (.int .i64 n)), (18, .dat (.int .i64 i))]) ([dB m k ws f u, sB sf]) K =
  (bif decide (i < n) then
   (bif decide (0 ≤ i) then
    (bif decide (Int.toNat i < List.length ws2) then
     (bif okE (Ek.agg [Ek.int IntKind.i64, Ek.arr Sh.one]) (nthD ws2 (Int.toNat i)) then
      (bif Sh.eqb (s67) (Sh.agg [Sh.one, Sh.arr Sh.one (List.length (D.getL (nthD (D.getL (nthD ws2 (Int.toNat i))) 1)))]) then
       (bif decide (0 ≤ D.getI (nthD (D.getL (nthD ws2 (Int.toNat i))) 0)) then
        (bif decide (D.getI (nthD (D.getL (nthD ws2 (Int.toNat i))) 0) < (↑k : Int)) then
         (bif Nat.beq (List.length sf) m && true && true && true then
          (bif decide (0 + Int.toNat (D.getI (nthD (D.getL (nthD ws2 (Int.toNat i))) 0)) < List.length sf) then
           (bif okS (Sh.arr Sh.one 128) (nthD sf (0 + Int.toNat (D.getI (nthD (D.getL (nthD ws2 (Int.toNat i))) 0)))) then
            (bif Sh.eqb (Sh.arr Sh.one (List.length (D.getL (nthD sf (0 + Int.toNat (D.getI (nthD (D.getL (nthD ws2 (Int.toNat i))) 0))))))) (Sh.arr Sh.one (List.length (D.getL (nthD (D.getL (nthD ws2 (Int.toNat i))) 1)))) then K (Exit.normal) (mkF 35 [(0, AV.ptr (s61) 0 0 []), (16, .dat (.slc (s67) ws2)), (17, .dat (.int .i64 n)), (18, .dat (.int .i64 (IntKind.wrap IntKind.i64 (i + 1)))), (19, .dat (.bool (decide (i < n)))), (31, .dat (.int .i64 (IntKind.wrap IntKind.i64 (i + 1))))]) ([{ sh := s61, dyn := false, frz := false, v := AV.agg [AV.sref (Sh.arr Sh.one 128) 1 m [] 0 k, .dat (.slc (s67) ws), .dat (.int .i64 f), .dat (.bool u)] }, { sh := Sh.arr (Sh.arr Sh.one 128) 0, dyn := true, frz := false, v := .dat (.arr (Sh.arr Sh.one 128) (List.set sf (0 + Int.toNat (D.getI (nthD (D.getL (nthD ws2 (Int.toNat i))) 0))) (D.arr Sh.one (D.getL (nthD (D.getL (nthD ws2 (Int.toNat i))) 1))))) }, { sh := s67, dyn := false, frz := false, v := .dat (.agg [D.int .i64 (D.getI (nthD (D.getL (nthD ws2 (Int.toNat i))) 0)), D.arr Sh.one (D.getL (nthD (D.getL (nthD ws2 (Int.toNat i))) 1))]) }]) else none) else none) else none) else none) else none) else none) else none) else none) else none) else none) else K (Exit.exit 0) (mkF 35 [(0, AV.ptr (s61) 0 0 [])]) ([{ sh := s61, dyn := false, frz := false, v := AV.agg [AV.sref (Sh.arr Sh.one 128) 1 m [] 0 k, .dat (.slc (s67) ws), .dat (.int .i64 f), .dat (.bool u)] }, { sh := Sh.arr (Sh.arr Sh.one 128) 0, dyn := true, frz := false, v := .dat (.arr (Sh.arr Sh.one 128) sf) }])) := by kernel_rfl
theorem fl_hr (lp : Loops) (m k : Nat) (ws ws2 : List D) (f n : Int) (u : Bool) : ∀ (sA : (Int × List D)) (K : Kt) (N : (Int × List D) → Option Res), (∀ sB fr' σ', cleanF (liveAt Try.f13 0) 0 fr' = fl_fr m k ws ws2 f n u sB → trim (2) (fl_fr m k ws ws2 f n u sB) σ' = fl_st m k ws ws2 f n u sB → K .normal fr' σ' = N sB) →
    oneRound (envOf tab SpC [] lp []) Try.f13 0 (2) (fl_fr m k ws ws2 f n u sA) (fl_st m k ws ws2 f n u sA) K = (fl_step m k ws ws2 f n u sA).k (LK K N) := by
  intro sA K N hN
  obtain ⟨i, sf⟩ := sA
  refine (fl_round lp m k ws ws2 f n u i sf K).trans ?_
  show _ = T.k ((
  .chk (!decide (i < n) || decide (0 ≤ i) && (decide (Int.toNat i < List.length ws2) && (okE (Ek.agg [Ek.int IntKind.i64, Ek.arr Sh.one]) (nthD ws2 (Int.toNat i)) && (Sh.eqb (s67) (Sh.agg [Sh.one, Sh.arr Sh.one (List.length (D.getL (nthD (D.getL (nthD ws2 (Int.toNat i))) 1)))]) && (decide (0 ≤ D.getI (nthD (D.getL (nthD ws2 (Int.toNat i))) 0)) && (decide (D.getI (nthD (D.getL (nthD ws2 (Int.toNat i))) 0) < (↑k : Int)) && (Nat.beq (List.length sf) m && (decide (0 + Int.toNat (D.getI (nthD (D.getL (nthD ws2 (Int.toNat i))) 0)) < List.length sf) && (okS (Sh.arr Sh.one 128) (nthD sf (0 + Int.toNat (D.getI (nthD (D.getL (nthD ws2 (Int.toNat i))) 0)))) && Sh.eqb (Sh.arr Sh.one (List.length (D.getL (nthD sf (0 + Int.toNat (D.getI (nthD (D.getL (nthD ws2 (Int.toNat i))) 0))))))) (Sh.arr Sh.one (List.length (D.getL (nthD (D.getL (nthD ws2 (Int.toNat i))) 1))))))))))))) (
   .br (!decide (i < n)) (.leaf (.inr ((some 0), mkF 35 [(0, AV.ptr (s61) 0 0 [])], [{ sh := s61, dyn := false, frz := false, v := AV.agg [AV.sref (Sh.arr Sh.one 128) 1 m [] 0 k, .dat (.slc (s67) ws), .dat (.int .i64 f), .dat (.bool u)] }, { sh := Sh.arr (Sh.arr Sh.one 128) 0, dyn := true, frz := false, v := .dat (.arr (Sh.arr Sh.one 128) sf) }]))) (.leaf (.inl ((IntKind.wrap IntKind.i64 (i + 1)), (List.set sf (0 + Int.toNat (D.getI (nthD (D.getL (nthD ws2 (Int.toNat i))) 0))) (D.arr Sh.one (D.getL (nthD (D.getL (nthD ws2 (Int.toNat i))) 1))))))))) : T ((Int × List D) ⊕ LOut)) (LK K N)
  generalize (decide (0 + Int.toNat (D.getI (nthD (D.getL (nthD ws2 (Int.toNat i))) 0)) < List.length sf)) = z0
  generalize (Sh.eqb (Sh.arr Sh.one (List.length (D.getL (nthD sf (0 + Int.toNat (D.getI (nthD (D.getL (nthD ws2 (Int.toNat i))) 0))))))) (Sh.arr Sh.one (List.length (D.getL (nthD (D.getL (nthD ws2 (Int.toNat i))) 1))))) = z1
  generalize (Sh.eqb (s67) (Sh.agg [Sh.one, Sh.arr Sh.one (List.length (D.getL (nthD (D.getL (nthD ws2 (Int.toNat i))) 1)))])) = z2
  generalize (decide (0 ≤ D.getI (nthD (D.getL (nthD ws2 (Int.toNat i))) 0))) = z3
  generalize (decide (D.getI (nthD (D.getL (nthD ws2 (Int.toNat i))) 0) < (↑k : Int))) = z4
  generalize (okS (Sh.arr Sh.one 128) (nthD sf (0 + Int.toNat (D.getI (nthD (D.getL (nthD ws2 (Int.toNat i))) 0))))) = z5
  generalize (decide (0 ≤ i)) = z6
  generalize (okE (Ek.agg [Ek.int IntKind.i64, Ek.arr Sh.one]) (nthD ws2 (Int.toNat i))) = z7
  generalize (decide (Int.toNat i < List.length ws2)) = z8
  generalize (decide (i < n)) = z9
  generalize (Nat.beq (List.length sf) m) = z10
  cases z9 with
  | true =>
   cases z6 with
   | true =>
    cases z8 with
    | true =>
     cases z7 with
     | true =>
      cases z2 with
      | true =>
       cases z3 with
       | true =>
        cases z4 with
        | true =>
         cases z10 with
         | true =>
          cases z0 with
          | true =>
           cases z5 with
           | true =>
            cases z1 with
            | true =>
             exact hN _ _ _ (by kernel_rfl) (by kernel_rfl)
            | false =>
             rfl
           | false =>
            rfl
          | false =>
           rfl
         | false =>
          rfl
        | false =>
         rfl
       | false =>
        rfl
      | false =>
       rfl
     | false =>
      rfl
    | false =>
     rfl
   | false =>
    rfl
  | false =>
   rfl
theorem fl_enter (m k : Nat) (ws ws2 : List D) (f n : Int) (u : Bool) (i : Int) (sf : List D) (fr : Frame') (hl : Nat.beq fr.length 35 = true) (g0 : fr.getD 0 .undef = AV.ptr (s61) 0 0 []) (g16 : fr.getD 16 .undef = .dat (.slc (s67) ws2)) (g17 : fr.getD 17 .undef = .dat (.int .i64 n)) (g18 : fr.getD 18 .undef = .dat (.int .i64 i)) : cleanF (liveAt Try.f13 0) 0 fr = fl_fr m k ws ws2 f n u (i, sf) := by
  have e : liveAt Try.f13 0 = [17, 16, 18, 0] := by kernel_rfl
  rw [clean_mk (Nat.eq_of_beq_eq_true hl), e]
  show mkF 35 [(17, fr.getD 17 .undef), (16, fr.getD 16 .undef), (18, fr.getD 18 .undef), (0, fr.getD 0 .undef)] = _
  rw [g17, g16, g18, g0]
  kernel_rfl
theorem fl_closed (m k : Nat) (ws ws2 : List D) (f n : Int) (u : Bool) (sf0 : List D) (hc : (decide (n = (ws2.length : Int)) && okDk m k ws2 sf0) = true) :
    ∃ z, (iterT (fl_step m k ws ws2 f n u) z (0, sf0)).run = T.run (.leaf (some 0, mkF 35 [(0, dP)], [dB m k ws f u, sB (ws2.foldl setW sf0)])) := by
  rw [Bool.and_eq_true, decide_eq_true_eq] at hc
  obtain ⟨rfl, hx⟩ := hc
  obtain ⟨rfl, h0, h1, h2, h3⟩ := okDk_spec hx
  refine iter_fold (f := setW) (o := fun s => (some 0, mkF 35 [(0, dP)], [dB m m ws f u, sB s])) (fun _ s => s.length = m ∧ s.all okSec = true) (fun i s hi hs => ?_) (fun s hs => ?_) sf0 ⟨h0, h1⟩
  · obtain ⟨g0, g1, g2, g3, g4⟩ := okWk_nth h2 hi
    have g5 : (wAt (nthD ws2 i)).toNat < s.length := by omega
    obtain ⟨g6, g7⟩ := okSec_nth hs.2 g5
    have g8 : Sh.eqb s67 (.agg [.one, .arr .one (wWas (nthD ws2 i)).length]) = true := by rw [g1]; rfl
    have g9 : Sh.eqb (.arr .one (D.getL (nthD s (wAt (nthD ws2 i)).toNat)).length) (.arr .one (wWas (nthD ws2 i)).length) = true := by rw [g1, g7]; rfl
    refine ⟨?_, by unfold setW; rw [List.length_set]; exact hs.1, okSf_set hs.2 _ g1⟩
    unfold fl_step
    simp only [decide_eq_true (show (i : Int) < (ws2.length : Int) by omega), decide_eq_true (show (0 : Int) ≤ (i : Int) by omega), Int.toNat_natCast, decide_eq_true hi, g0, g8, decide_eq_true g2, decide_eq_true g3, hs.1, Nat.beq_refl, Nat.zero_add, decide_eq_true (show (wAt (nthD ws2 i)).toNat < m by omega), g6, g9, wrap_succ (show i < 2 ^ 62 by omega), Bool.not_true, Bool.or_true, Bool.and_true, T.run_br, T.run_chk, T.run_leaf, cond_true, cond_false]
    rfl
  · unfold fl_step
    simp only [decide_eq_false (show ¬ (ws2.length : Int) < (ws2.length : Int) by omega)]
    rfl
def L_fl : Frame' → Store → T (Exit × Frame' × Store) := fun fr σ => match fr.getD 0 .undef, fr.getD 16 .undef, fr.getD 17 .undef, fr.getD 18 .undef, σ with
  | AV.ptr (Sh.agg [Sh.one, Sh.one, Sh.one, Sh.one]) 0 0 [], AV.dat (D.slc (Sh.agg [Sh.one, Sh.arr Sh.one 128]) ws2), AV.dat (D.int IntKind.i64 n), AV.dat (D.int IntKind.i64 0), [{ sh := Sh.agg [Sh.one, Sh.one, Sh.one, Sh.one], dyn := false, frz := false, v := AV.agg [AV.sref (Sh.arr Sh.one 128) 1 m [] 0 k, AV.dat (D.slc (Sh.agg [Sh.one, Sh.arr Sh.one 128]) ws), AV.dat (D.int IntKind.i64 f), AV.dat (D.bool u)] }, { sh := Sh.arr (Sh.arr Sh.one 128) 0, dyn := true, frz := false, v := AV.dat (D.arr (Sh.arr Sh.one 128) sf) }] => .chk (Nat.beq fr.length 35 && (decide (n = (ws2.length : Int)) && okDk m k ws2 sf)) (T.bind (.leaf (some 0, mkF 35 [(0, dP)], [dB m k ws f u, sB (ws2.foldl setW sf)])) fun o => .leaf (outEx o.1, o.2.1, o.2.2))
  | _, _, _, _, _ => .fail
theorem fl_sem (lp : Loops) : ∀ fr σ p, (L_fl fr σ).run = some p → ∀ (K : Kt) r, K p.1 p.2.1 p.2.2 = some r → ∃ n, loopRun (envOf tab SpC [] lp []) Try.f13 0 σ.length n (cleanF (liveAt Try.f13 0) 0 fr) σ K = some r := by
  intro fr σ p h K r hK
  unfold L_fl at h
  split at h
  · rename_i ws2 n m k ws f u sf g0 g16 g17 g18
    obtain ⟨hc, h'⟩ := T.chk_some h
    rw [Bool.and_eq_true] at hc
    obtain ⟨hl, hc⟩ := hc
    obtain ⟨o, ho, h'⟩ := T.bind_some h'
    have hp := T.leaf_some h'
    subst hp
    obtain ⟨nF, hn⟩ : ∃ nF, (iterT (fl_step m k ws ws2 f n u) nF ((0, sf))).run = T.run (.leaf (some 0, mkF 35 [(0, dP)], [dB m k ws f u, sB (ws2.foldl setW sf)])) := fl_closed m k ws ws2 f n u sf hc
    rw [ho] at hn
    refine ⟨nF, ?_⟩
    have he : cleanF (liveAt Try.f13 0) 0 fr = fl_fr m k ws ws2 f n u ((0, sf)) := fl_enter m k ws ws2 f n u _ _ fr hl g0 g16 g17 g18
    refine (iter_ok (base := 2) (fl_hr lp m k ws ws2 f n u) K nF ((0, sf)) _ _ (by rw [clean_clean]; exact he) (by kernel_rfl)).trans ?_
    rw [T.k_run hn]
    exact hK
  · simp [T.run_fail] at h
theorem fl_loopOk {k : Nat} (lp : Loops) (hk : Loops.get lp 7 = some L_fl) : LoopOkN Try.prog k (envOf tab SpC [] lp []) (loopAt Try.f13 0).1 (loopAt Try.f13 0).2 := loop_okN (L := L_fl) (by kernel_rfl) hk (fl_sem lp)
def flush_pre (m : Nat) (k : Nat) (ws : List D) (sf : List D) : Bool := decide ((↑(List.length ws) : Int) = (↑(List.length ws) : Int)) && okDk m k ws sf
def C_flush : FunT := fun args σ => match args, σ with
  | [AV.ptr (Sh.agg [Sh.one, Sh.one, Sh.one, Sh.one]) 0 0 []], [{ sh := Sh.agg [Sh.one, Sh.one, Sh.one, Sh.one], dyn := false, frz := false, v := AV.agg [AV.sref (Sh.arr Sh.one 128) 1 m [] 0 k, AV.dat (D.slc (Sh.agg [Sh.one, Sh.arr Sh.one 128]) ws), AV.dat (D.int IntKind.i64 f), AV.dat (D.bool u)] }, { sh := Sh.arr (Sh.arr Sh.one 128) 0, dyn := true, frz := false, v := AV.dat (D.arr (Sh.arr Sh.one 128) sf) }] =>
    .br (able_v0 k 0 u != 0) (.leaf ([.dat (.int .i64 (able_v0 k 0 u))], [{ sh := s61, dyn := false, frz := false, v := AV.agg [AV.sref (Sh.arr Sh.one 128) 1 m [] 0 k, .dat (.slc (s67) ws), .dat (.int .i64 f), .dat (.bool u)] }, { sh := Sh.arr (Sh.arr Sh.one 128) 0, dyn := true, frz := false, v := .dat (.arr (Sh.arr Sh.one 128) sf) }])) (
     .br (burns_v0 f) (.leaf ([.dat (.int .i64 15)], [{ sh := s61, dyn := false, frz := false, v := AV.agg [AV.sref (Sh.arr Sh.one 128) 1 m [] 0 k, .dat (.slc (s67) ws), .dat (.int .i64 (burns_v1 f)), .dat (.bool (burns_v2 f u))] }, { sh := Sh.arr (Sh.arr Sh.one 128) 0, dyn := true, frz := false, v := .dat (.arr (Sh.arr Sh.one 128) sf) }])) (.chk ((flush_pre m k ws sf)) (.leaf ([.dat (.int .i64 0)], [{ sh := s61, dyn := false, frz := false, v := AV.agg [AV.sref (Sh.arr Sh.one 128) 1 m [] 0 k, AV.fslc (s67) [], .dat (.int .i64 (burns_v1 f)), .dat (.bool (burns_v2 f u))] }, { sh := Sh.arr (Sh.arr Sh.one 128) 0, dyn := true, frz := false, v := .dat (.arr (Sh.arr Sh.one 128) (List.foldl setW sf ws)) }]))))
  | [AV.dat D.nilp], [] => .leaf ([AV.dat (D.int IntKind.i64 11)], [])
  | _, _ => .fail
theorem flush_raw0 (m k : Nat) (ws sf : List D) (f : Int) (u : Bool) : runF (envOf tab SpC [] [(7, L_fl)] []) true Try.f13 [dP] [dB m k ws f u, sB sf] =
  (bif able_v0 k 0 u != 0 then some ([.dat (.int .i64 (able_v0 k 0 u))], [{ sh := s61, dyn := false, frz := false, v := AV.agg [AV.sref (Sh.arr Sh.one 128) 1 m [] 0 k, .dat (.slc (s67) ws), .dat (.int .i64 f), .dat (.bool u)] }, { sh := Sh.arr (Sh.arr Sh.one 128) 0, dyn := true, frz := false, v := .dat (.arr (Sh.arr Sh.one 128) sf) }]) else
   (bif burns_v0 f then some ([.dat (.int .i64 15)], [{ sh := s61, dyn := false, frz := false, v := AV.agg [AV.sref (Sh.arr Sh.one 128) 1 m [] 0 k, .dat (.slc (s67) ws), .dat (.int .i64 (burns_v1 f)), .dat (.bool (burns_v2 f u))] }, { sh := Sh.arr (Sh.arr Sh.one 128) 0, dyn := true, frz := false, v := .dat (.arr (Sh.arr Sh.one 128) sf) }]) else
    (bif decide ((↑(List.length ws) : Int) = (↑(List.length ws) : Int)) && okDk m k ws sf then some ([.dat (.int .i64 0)], [{ sh := s61, dyn := false, frz := false, v := AV.agg [AV.sref (Sh.arr Sh.one 128) 1 m [] 0 k, AV.fslc (s67) [], .dat (.int .i64 (burns_v1 f)), .dat (.bool (burns_v2 f u))] }, { sh := Sh.arr (Sh.arr Sh.one 128) 0, dyn := true, frz := false, v := .dat (.arr (Sh.arr Sh.one 128) (List.foldl setW sf ws)) }]) else none))) := by kernel_rfl
theorem flush_case0 (m k : Nat) (ws sf : List D) (f : Int) (u : Bool) : runF (envOf tab SpC [] [(7, L_fl)] []) true Try.f13 [dP] [dB m k ws f u, sB sf] = FunT.run C_flush [dP] [dB m k ws f u, sB sf] := (flush_raw0 m k ws sf f u).trans (by
  show _ = (cond (able_v0 k 0 u != 0) (some (([.dat (.int .i64 (able_v0 k 0 u))], [{ sh := s61, dyn := false, frz := false, v := AV.agg [AV.sref (Sh.arr Sh.one 128) 1 m [] 0 k, .dat (.slc (s67) ws), .dat (.int .i64 f), .dat (.bool u)] }, { sh := Sh.arr (Sh.arr Sh.one 128) 0, dyn := true, frz := false, v := .dat (.arr (Sh.arr Sh.one 128) sf) }]) : Res)) (cond (burns_v0 f) (some (([.dat (.int .i64 15)], [{ sh := s61, dyn := false, frz := false, v := AV.agg [AV.sref (Sh.arr Sh.one 128) 1 m [] 0 k, .dat (.slc (s67) ws), .dat (.int .i64 (burns_v1 f)), .dat (.bool (burns_v2 f u))] }, { sh := Sh.arr (Sh.arr Sh.one 128) 0, dyn := true, frz := false, v := .dat (.arr (Sh.arr Sh.one 128) sf) }]) : Res)) (cond (decide ((↑(List.length ws) : Int) = (↑(List.length ws) : Int)) && okDk m k ws sf) (some (([.dat (.int .i64 0)], [{ sh := s61, dyn := false, frz := false, v := AV.agg [AV.sref (Sh.arr Sh.one 128) 1 m [] 0 k, AV.fslc (s67) [], .dat (.int .i64 (burns_v1 f)), .dat (.bool (burns_v2 f u))] }, { sh := Sh.arr (Sh.arr Sh.one 128) 0, dyn := true, frz := false, v := .dat (.arr (Sh.arr Sh.one 128) (List.foldl setW sf ws)) }]) : Res)) none)))
  generalize (decide ((↑(List.length ws) : Int) = (↑(List.length ws) : Int)) && okDk m k ws sf) = z0
  generalize (able_v0 k 0 u != 0) = z1
  generalize (burns_v0 f) = z2
  cases z1 with
  | true =>
   rfl
  | false =>
   cases z2 with
   | true =>
    rfl
   | false =>
    cases z0 with
    | true =>
     rfl
    | false =>
     rfl
  )
theorem flush_raw1  : runF (envOf tab SpC [] [(7, L_fl)] []) true Try.f13 [.dat .nilp] [] =some ([.dat (.int .i64 11)], []) := by kernel_rfl
theorem flush_case1  : runF (envOf tab SpC [] [(7, L_fl)] []) true Try.f13 [.dat .nilp] [] = FunT.run C_flush [.dat .nilp] [] := (flush_raw1).trans (by
  show _ = (some (([.dat (.int .i64 11)], []) : Res))
  rfl
  )
theorem cflush_ok : FunOk Try.prog 13 (FunT.run C_flush) := by
  refine fun_ok (E := envOf tab SpC [] [(7, L_fl)] []) (fz := true) (fn := Try.f13) (envOf_ok progOk SpC_ok) (by kernel_rfl) (by kernel_rfl) (loops_one (by kernel_rfl) (fl_loopOk _ rfl)) ?_
  intro args σ r h
  unfold C_flush at h
  split at h
  · exact (flush_case0 _ _ _ _ _ _).trans h
  · exact (flush_case1).trans h
  · simp [T.run_fail] at h
def cr_fr (_m _k : Nat) (_ws ch ws2 : List D) (_f n : Int) (_u : Bool) : (Int × List D) → Frame' := fun ⟨i, _⟩ => mkF 55 [(0, dP), (1, .dat (.slc .one ch)), (14, .dat (.slc s67 ws2)), (15, .dat (.int .i64 n)), (16, .dat (.int .i64 i))]
def cr_st (m k : Nat) (ws _ch _ws2 : List D) (f _n : Int) (u : Bool) : (Int × List D) → Store := fun ⟨_, sf⟩ => [dB m k ws f u, sB sf]
def cr_step (m k : Nat) (ws ch ws2 : List D) (f n : Int) (u : Bool) : (Int × List D) → T ((Int × List D) ⊕ LOut) := fun ⟨i, sf⟩ =>
  .chk (!decide (i < n) || decide (0 ≤ i) && (decide (Int.toNat i < List.length ws2) && (okE (Ek.agg [Ek.int IntKind.i64, Ek.arr Sh.one]) (nthD ws2 (Int.toNat i)) && (Sh.eqb (s67) (Sh.agg [Sh.one, Sh.arr Sh.one (List.length (D.getL (nthD (D.getL (nthD ws2 (Int.toNat i))) 1)))]) && (decide ((↑(List.length ch) : Int) ≤ i) || decide (Int.toNat i < List.length ch) && (okE (Ek.int IntKind.u8) (nthD ch (Int.toNat i)) && (decide (0 ≤ D.getI (nthD (D.getL (nthD ws2 (Int.toNat i))) 0)) && (decide (D.getI (nthD (D.getL (nthD ws2 (Int.toNat i))) 0) < (↑k : Int)) && (decide (0 ≤ if 128 < IntKind.wrap IntKind.i64 (8 * IntKind.wrap IntKind.i64 (D.getI (nthD ch (Int.toNat i)))) then 128 else IntKind.wrap IntKind.i64 (8 * IntKind.wrap IntKind.i64 (D.getI (nthD ch (Int.toNat i))))) && (decide (Int.toNat (if 128 < IntKind.wrap IntKind.i64 (8 * IntKind.wrap IntKind.i64 (D.getI (nthD ch (Int.toNat i)))) then 128 else IntKind.wrap IntKind.i64 (8 * IntKind.wrap IntKind.i64 (D.getI (nthD ch (Int.toNat i))))) ≤ 128) && (Nat.beq (List.length sf) m && (decide (0 + Int.toNat (D.getI (nthD (D.getL (nthD ws2 (Int.toNat i))) 0)) < List.length sf) && (okS (Sh.arr Sh.one 128) (nthD sf (0 + Int.toNat (D.getI (nthD (D.getL (nthD ws2 (Int.toNat i))) 0)))) && (Nat.beq (List.length sf) m && true && true && fits Sh.one (seg (D.getL (nthD (D.getL (nthD ws2 (Int.toNat i))) 1)) 0 (Int.toNat (if 128 < IntKind.wrap IntKind.i64 (8 * IntKind.wrap IntKind.i64 (D.getI (nthD ch (Int.toNat i)))) then 128 else IntKind.wrap IntKind.i64 (8 * IntKind.wrap IntKind.i64 (D.getI (nthD ch (Int.toNat i))))) - 0)) && (Nat.beq (min (List.length (seg (D.getL (nthD (D.getL (nthD ws2 (Int.toNat i))) 1)) 0 (Int.toNat (if 128 < IntKind.wrap IntKind.i64 (8 * IntKind.wrap IntKind.i64 (D.getI (nthD ch (Int.toNat i)))) then 128 else IntKind.wrap IntKind.i64 (8 * IntKind.wrap IntKind.i64 (D.getI (nthD ch (Int.toNat i))))) - 0))) (Int.toNat (if 128 < IntKind.wrap IntKind.i64 (8 * IntKind.wrap IntKind.i64 (D.getI (nthD ch (Int.toNat i)))) then 128 else IntKind.wrap IntKind.i64 (8 * IntKind.wrap IntKind.i64 (D.getI (nthD ch (Int.toNat i))))) - 0)) 0 || Sh.eqb (Sh.arr Sh.one (List.length (D.getL (nthD sf (0 + Int.toNat (D.getI (nthD (D.getL (nthD ws2 (Int.toNat i))) 0))))))) (Sh.arr Sh.one (List.length (List.take (min (List.length (seg (D.getL (nthD (D.getL (nthD ws2 (Int.toNat i))) 1)) 0 (Int.toNat (if 128 < IntKind.wrap IntKind.i64 (8 * IntKind.wrap IntKind.i64 (D.getI (nthD ch (Int.toNat i)))) then 128 else IntKind.wrap IntKind.i64 (8 * IntKind.wrap IntKind.i64 (D.getI (nthD ch (Int.toNat i))))) - 0))) (Int.toNat (if 128 < IntKind.wrap IntKind.i64 (8 * IntKind.wrap IntKind.i64 (D.getI (nthD ch (Int.toNat i)))) then 128 else IntKind.wrap IntKind.i64 (8 * IntKind.wrap IntKind.i64 (D.getI (nthD ch (Int.toNat i))))) - 0)) (seg (D.getL (nthD (D.getL (nthD ws2 (Int.toNat i))) 1)) 0 (Int.toNat (if 128 < IntKind.wrap IntKind.i64 (8 * IntKind.wrap IntKind.i64 (D.getI (nthD ch (Int.toNat i)))) then 128 else IntKind.wrap IntKind.i64 (8 * IntKind.wrap IntKind.i64 (D.getI (nthD ch (Int.toNat i))))) - 0)) ++ List.drop (0 + min (List.length (seg (D.getL (nthD (D.getL (nthD ws2 (Int.toNat i))) 1)) 0 (Int.toNat (if 128 < IntKind.wrap IntKind.i64 (8 * IntKind.wrap IntKind.i64 (D.getI (nthD ch (Int.toNat i)))) then 128 else IntKind.wrap IntKind.i64 (8 * IntKind.wrap IntKind.i64 (D.getI (nthD ch (Int.toNat i))))) - 0))) (Int.toNat (if 128 < IntKind.wrap IntKind.i64 (8 * IntKind.wrap IntKind.i64 (D.getI (nthD ch (Int.toNat i)))) then 128 else IntKind.wrap IntKind.i64 (8 * IntKind.wrap IntKind.i64 (D.getI (nthD ch (Int.toNat i))))) - 0)) (D.getL (nthD sf (0 + Int.toNat (D.getI (nthD (D.getL (nthD ws2 (Int.toNat i))) 0))))))))))))))))))))))) (
   .br (decide (i < n) && decide ((↑(List.length ch) : Int) ≤ i)) (.leaf (.inr ((some 0), mkF 55 [(0, AV.ptr (s61) 0 0 [])], [{ sh := s61, dyn := false, frz := false, v := AV.agg [AV.sref (Sh.arr Sh.one 128) 1 m [] 0 k, .dat (.slc (s67) ws), .dat (.int .i64 f), .dat (.bool u)] }, { sh := Sh.arr (Sh.arr Sh.one 128) 0, dyn := true, frz := false, v := .dat (.arr (Sh.arr Sh.one 128) sf) }, { sh := s67, dyn := false, frz := false, v := .dat (.agg [D.int .i64 (D.getI (nthD (D.getL (nthD ws2 (Int.toNat i))) 0)), D.arr Sh.one (D.getL (nthD (D.getL (nthD ws2 (Int.toNat i))) 1))]) }]))) (
    .br (!decide (i < n)) (.leaf (.inr ((some 0), mkF 55 [(0, AV.ptr (s61) 0 0 [])], [{ sh := s61, dyn := false, frz := false, v := AV.agg [AV.sref (Sh.arr Sh.one 128) 1 m [] 0 k, .dat (.slc (s67) ws), .dat (.int .i64 f), .dat (.bool u)] }, { sh := Sh.arr (Sh.arr Sh.one 128) 0, dyn := true, frz := false, v := .dat (.arr (Sh.arr Sh.one 128) sf) }]))) (.leaf (.inl ((IntKind.wrap IntKind.i64 (i + 1)), (bif Nat.beq (min (List.length (seg (D.getL (nthD (D.getL (nthD ws2 (Int.toNat i))) 1)) 0 (Int.toNat (if 128 < IntKind.wrap IntKind.i64 (8 * IntKind.wrap IntKind.i64 (D.getI (nthD ch (Int.toNat i)))) then 128 else IntKind.wrap IntKind.i64 (8 * IntKind.wrap IntKind.i64 (D.getI (nthD ch (Int.toNat i))))) - 0))) (Int.toNat (if 128 < IntKind.wrap IntKind.i64 (8 * IntKind.wrap IntKind.i64 (D.getI (nthD ch (Int.toNat i)))) then 128 else IntKind.wrap IntKind.i64 (8 * IntKind.wrap IntKind.i64 (D.getI (nthD ch (Int.toNat i))))) - 0)) 0 then sf else List.set sf (0 + Int.toNat (D.getI (nthD (D.getL (nthD ws2 (Int.toNat i))) 0))) (D.arr Sh.one (List.take (min (List.length (seg (D.getL (nthD (D.getL (nthD ws2 (Int.toNat i))) 1)) 0 (Int.toNat (if 128 < IntKind.wrap IntKind.i64 (8 * IntKind.wrap IntKind.i64 (D.getI (nthD ch (Int.toNat i)))) then 128 else IntKind.wrap IntKind.i64 (8 * IntKind.wrap IntKind.i64 (D.getI (nthD ch (Int.toNat i))))) - 0))) (Int.toNat (if 128 < IntKind.wrap IntKind.i64 (8 * IntKind.wrap IntKind.i64 (D.getI (nthD ch (Int.toNat i)))) then 128 else IntKind.wrap IntKind.i64 (8 * IntKind.wrap IntKind.i64 (D.getI (nthD ch (Int.toNat i))))) - 0)) (seg (D.getL (nthD (D.getL (nthD ws2 (Int.toNat i))) 1)) 0 (Int.toNat (if 128 < IntKind.wrap IntKind.i64 (8 * IntKind.wrap IntKind.i64 (D.getI (nthD ch (Int.toNat i)))) then 128 else IntKind.wrap IntKind.i64 (8 * IntKind.wrap IntKind.i64 (D.getI (nthD ch (Int.toNat i))))) - 0)) ++ List.drop (0 + min (List.length (seg (D.getL (nthD (D.getL (nthD ws2 (Int.toNat i))) 1)) 0 (Int.toNat (if 128 < IntKind.wrap IntKind.i64 (8 * IntKind.wrap IntKind.i64 (D.getI (nthD ch (Int.toNat i)))) then 128 else IntKind.wrap IntKind.i64 (8 * IntKind.wrap IntKind.i64 (D.getI (nthD ch (Int.toNat i))))) - 0))) (Int.toNat (if 128 < IntKind.wrap IntKind.i64 (8 * IntKind.wrap IntKind.i64 (D.getI (nthD ch (Int.toNat i)))) then 128 else IntKind.wrap IntKind.i64 (8 * IntKind.wrap IntKind.i64 (D.getI (nthD ch (Int.toNat i))))) - 0)) (D.getL (nthD sf (0 + Int.toNat (D.getI (nthD (D.getL (nthD ws2 (Int.toNat i))) 0)))))))))))))
theorem cr_round (lp : Loops) (m k : Nat) (ws ch ws2 : List D) (f n : Int) (u : Bool) (i : Int) (sf : List D) (K : Kt) : oneRound (envOf tab SpC [] lp []) Try.f17 0 (2) (mkF 55 [(0, dP), (1, .dat (.slc .one ch)), (14, .dat (.slc s67 ws2)), (15, .dat (.int .i64 n)), (16, .dat (.int .i64 i))]) ([dB m k ws f u, sB sf]) K =
  (bif decide (i < n) then
   (bif decide (0 ≤ i) then
    (bif decide (Int.toNat i < List.length ws2) then
     (bif okE (Ek.agg [Ek.int IntKind.i64, Ek.arr Sh.one]) (nthD ws2 (Int.toNat i)) then
      (bif Sh.eqb (s67) (Sh.agg [Sh.one, Sh.arr Sh.one (List.length (D.getL (nthD (D.getL (nthD ws2 (Int.toNat i))) 1)))]) then
       (bif decide (i ≥ (↑(List.length ch) : Int)) then K (Exit.exit 0) (mkF 55 [(0, AV.ptr (s61) 0 0 [])]) ([{ sh := s61, dyn := false, frz := false, v := AV.agg [AV.sref (Sh.arr Sh.one 128) 1 m [] 0 k, .dat (.slc (s67) ws), .dat (.int .i64 f), .dat (.bool u)] }, { sh := Sh.arr (Sh.arr Sh.one 128) 0, dyn := true, frz := false, v := .dat (.arr (Sh.arr Sh.one 128) sf) }, { sh := s67, dyn := false, frz := false, v := .dat (.agg [D.int .i64 (D.getI (nthD (D.getL (nthD ws2 (Int.toNat i))) 0)), D.arr Sh.one (D.getL (nthD (D.getL (nthD ws2 (Int.toNat i))) 1))]) }]) else
        (bif decide (0 ≤ i) then
         (bif decide (Int.toNat i < List.length ch) then
          (bif okE (Ek.int IntKind.u8) (nthD ch (Int.toNat i)) then
           (bif decide (0 ≤ D.getI (nthD (D.getL (nthD ws2 (Int.toNat i))) 0)) then
            (bif decide (D.getI (nthD (D.getL (nthD ws2 (Int.toNat i))) 0) < (↑k : Int)) then
             (bif decide (0 ≤ if 128 < IntKind.wrap IntKind.i64 (8 * IntKind.wrap IntKind.i64 (D.getI (nthD ch (Int.toNat i)))) then 128 else IntKind.wrap IntKind.i64 (8 * IntKind.wrap IntKind.i64 (D.getI (nthD ch (Int.toNat i))))) then
              (bif decide (Int.toNat (if 128 < IntKind.wrap IntKind.i64 (8 * IntKind.wrap IntKind.i64 (D.getI (nthD ch (Int.toNat i)))) then 128 else IntKind.wrap IntKind.i64 (8 * IntKind.wrap IntKind.i64 (D.getI (nthD ch (Int.toNat i))))) ≤ 128) then
               (bif Nat.beq (List.length sf) m && true && true then
                (bif decide (0 + Int.toNat (D.getI (nthD (D.getL (nthD ws2 (Int.toNat i))) 0)) < List.length sf) then
                 (bif okS (Sh.arr Sh.one 128) (nthD sf (0 + Int.toNat (D.getI (nthD (D.getL (nthD ws2 (Int.toNat i))) 0)))) then
                  (bif decide (0 ≤ if 128 < IntKind.wrap IntKind.i64 (8 * IntKind.wrap IntKind.i64 (D.getI (nthD ch (Int.toNat i)))) then 128 else IntKind.wrap IntKind.i64 (8 * IntKind.wrap IntKind.i64 (D.getI (nthD ch (Int.toNat i))))) then
                   (bif decide (Int.toNat (if 128 < IntKind.wrap IntKind.i64 (8 * IntKind.wrap IntKind.i64 (D.getI (nthD ch (Int.toNat i)))) then 128 else IntKind.wrap IntKind.i64 (8 * IntKind.wrap IntKind.i64 (D.getI (nthD ch (Int.toNat i))))) ≤ 128) then
                    (bif Nat.beq (List.length sf) m && true && true && fits Sh.one (seg (D.getL (nthD (D.getL (nthD ws2 (Int.toNat i))) 1)) 0 (Int.toNat (if 128 < IntKind.wrap IntKind.i64 (8 * IntKind.wrap IntKind.i64 (D.getI (nthD ch (Int.toNat i)))) then 128 else IntKind.wrap IntKind.i64 (8 * IntKind.wrap IntKind.i64 (D.getI (nthD ch (Int.toNat i))))) - 0)) then
                     (bif decide (0 + Int.toNat (D.getI (nthD (D.getL (nthD ws2 (Int.toNat i))) 0)) < List.length sf) then
                      (bif okS (Sh.arr Sh.one 128) (nthD sf (0 + Int.toNat (D.getI (nthD (D.getL (nthD ws2 (Int.toNat i))) 0)))) then
                       (bif Nat.beq (min (List.length (seg (D.getL (nthD (D.getL (nthD ws2 (Int.toNat i))) 1)) 0 (Int.toNat (if 128 < IntKind.wrap IntKind.i64 (8 * IntKind.wrap IntKind.i64 (D.getI (nthD ch (Int.toNat i)))) then 128 else IntKind.wrap IntKind.i64 (8 * IntKind.wrap IntKind.i64 (D.getI (nthD ch (Int.toNat i))))) - 0))) (Int.toNat (if 128 < IntKind.wrap IntKind.i64 (8 * IntKind.wrap IntKind.i64 (D.getI (nthD ch (Int.toNat i)))) then 128 else IntKind.wrap IntKind.i64 (8 * IntKind.wrap IntKind.i64 (D.getI (nthD ch (Int.toNat i))))) - 0)) 0 then K (Exit.normal) (mkF 55 [(0, AV.ptr (s61) 0 0 []), (1, .dat (.slc Sh.one ch)), (14, .dat (.slc (s67) ws2)), (15, .dat (.int .i64 n)), (16, .dat (.int .i64 (IntKind.wrap IntKind.i64 (i + 1)))), (17, .dat (.bool (decide (i < n)))), (45, .dat (.int .i64 (IntKind.wrap IntKind.i64 (i + 1))))]) ([{ sh := s61, dyn := false, frz := false, v := AV.agg [AV.sref (Sh.arr Sh.one 128) 1 m [] 0 k, .dat (.slc (s67) ws), .dat (.int .i64 f), .dat (.bool u)] }, { sh := Sh.arr (Sh.arr Sh.one 128) 0, dyn := true, frz := false, v := .dat (.arr (Sh.arr Sh.one 128) sf) }, { sh := s67, dyn := false, frz := false, v := .dat (.agg [D.int .i64 (D.getI (nthD (D.getL (nthD ws2 (Int.toNat i))) 0)), D.arr Sh.one (D.getL (nthD (D.getL (nthD ws2 (Int.toNat i))) 1))]) }]) else
                        (bif decide (0 + Int.toNat (D.getI (nthD (D.getL (nthD ws2 (Int.toNat i))) 0)) < List.length sf) then
                         (bif okS (Sh.arr Sh.one 128) (nthD sf (0 + Int.toNat (D.getI (nthD (D.getL (nthD ws2 (Int.toNat i))) 0)))) then
                          (bif Sh.eqb (Sh.arr Sh.one (List.length (D.getL (nthD sf (0 + Int.toNat (D.getI (nthD (D.getL (nthD ws2 (Int.toNat i))) 0))))))) (Sh.arr Sh.one (List.length (List.take (min (List.length (seg (D.getL (nthD (D.getL (nthD ws2 (Int.toNat i))) 1)) 0 (Int.toNat (if 128 < IntKind.wrap IntKind.i64 (8 * IntKind.wrap IntKind.i64 (D.getI (nthD ch (Int.toNat i)))) then 128 else IntKind.wrap IntKind.i64 (8 * IntKind.wrap IntKind.i64 (D.getI (nthD ch (Int.toNat i))))) - 0))) (Int.toNat (if 128 < IntKind.wrap IntKind.i64 (8 * IntKind.wrap IntKind.i64 (D.getI (nthD ch (Int.toNat i)))) then 128 else IntKind.wrap IntKind.i64 (8 * IntKind.wrap IntKind.i64 (D.getI (nthD ch (Int.toNat i))))) - 0)) (seg (D.getL (nthD (D.getL (nthD ws2 (Int.toNat i))) 1)) 0 (Int.toNat (if 128 < IntKind.wrap IntKind.i64 (8 * IntKind.wrap IntKind.i64 (D.getI (nthD ch (Int.toNat i)))) then 128 else IntKind.wrap IntKind.i64 (8 * IntKind.wrap IntKind.i64 (D.getI (nthD ch (Int.toNat i))))) - 0)) ++ List.drop (0 + min (List.length (seg (D.getL (nthD (D.getL (nthD ws2 (Int.toNat i))) 1)) 0 (Int.toNat (if 128 < IntKind.wrap IntKind.i64 (8 * IntKind.wrap IntKind.i64 (D.getI (nthD ch (Int.toNat i)))) then 128 else IntKind.wrap IntKind.i64 (8 * IntKind.wrap IntKind.i64 (D.getI (nthD ch (Int.toNat i))))) - 0))) (Int.toNat (if 128 < IntKind.wrap IntKind.i64 (8 * IntKind.wrap IntKind.i64 (D.getI (nthD ch (Int.toNat i)))) then 128 else IntKind.wrap IntKind.i64 (8 * IntKind.wrap IntKind.i64 (D.getI (nthD ch (Int.toNat i))))) - 0)) (D.getL (nthD sf (0 + Int.toNat (D.getI (nthD (D.getL (nthD ws2 (Int.toNat i))) 0)))))))) then K (Exit.normal) (mkF 55 [(0, AV.ptr (s61) 0 0 []), (1, .dat (.slc Sh.one ch)), (14, .dat (.slc (s67) ws2)), (15, .dat (.int .i64 n)), (16, .dat (.int .i64 (IntKind.wrap IntKind.i64 (i + 1)))), (17, .dat (.bool (decide (i < n)))), (45, .dat (.int .i64 (IntKind.wrap IntKind.i64 (i + 1))))]) ([{ sh := s61, dyn := false, frz := false, v := AV.agg [AV.sref (Sh.arr Sh.one 128) 1 m [] 0 k, .dat (.slc (s67) ws), .dat (.int .i64 f), .dat (.bool u)] }, { sh := Sh.arr (Sh.arr Sh.one 128) 0, dyn := true, frz := false, v := .dat (.arr (Sh.arr Sh.one 128) (List.set sf (0 + Int.toNat (D.getI (nthD (D.getL (nthD ws2 (Int.toNat i))) 0))) (D.arr Sh.one (List.take (min (List.length (seg (D.getL (nthD (D.getL (nthD ws2 (Int.toNat i))) 1)) 0 (Int.toNat (if 128 < IntKind.wrap IntKind.i64 (8 * IntKind.wrap IntKind.i64 (D.getI (nthD ch (Int.toNat i)))) then 128 else IntKind.wrap IntKind.i64 (8 * IntKind.wrap IntKind.i64 (D.getI (nthD ch (Int.toNat i))))) - 0))) (Int.toNat (if 128 < IntKind.wrap IntKind.i64 (8 * IntKind.wrap IntKind.i64 (D.getI (nthD ch (Int.toNat i)))) then 128 else IntKind.wrap IntKind.i64 (8 * IntKind.wrap IntKind.i64 (D.getI (nthD ch (Int.toNat i))))) - 0)) (seg (D.getL (nthD (D.getL (nthD ws2 (Int.toNat i))) 1)) 0 (Int.toNat (if 128 < IntKind.wrap IntKind.i64 (8 * IntKind.wrap IntKind.i64 (D.getI (nthD ch (Int.toNat i)))) then 128 else IntKind.wrap IntKind.i64 (8 * IntKind.wrap IntKind.i64 (D.getI (nthD ch (Int.toNat i))))) - 0)) ++ List.drop (0 + min (List.length (seg (D.getL (nthD (D.getL (nthD ws2 (Int.toNat i))) 1)) 0 (Int.toNat (if 128 < IntKind.wrap IntKind.i64 (8 * IntKind.wrap IntKind.i64 (D.getI (nthD ch (Int.toNat i)))) then 128 else IntKind.wrap IntKind.i64 (8 * IntKind.wrap IntKind.i64 (D.getI (nthD ch (Int.toNat i))))) - 0))) (Int.toNat (if 128 < IntKind.wrap IntKind.i64 (8 * IntKind.wrap IntKind.i64 (D.getI (nthD ch (Int.toNat i)))) then 128 else IntKind.wrap IntKind.i64 (8 * IntKind.wrap IntKind.i64 (D.getI (nthD ch (Int.toNat i))))) - 0)) (D.getL (nthD sf (0 + Int.toNat (D.getI (nthD (D.getL (nthD ws2 (Int.toNat i))) 0))))))))) }, { sh := s67, dyn := false, frz := false, v := .dat (.agg [D.int .i64 (D.getI (nthD (D.getL (nthD ws2 (Int.toNat i))) 0)), D.arr Sh.one (D.getL (nthD (D.getL (nthD ws2 (Int.toNat i))) 1))]) }]) else none) else none) else none)) else none) else none) else none) else none) else none) else none) else none) else none) else none) else none) else none) else none) else none) else none) else none)) else none) else none) else none) else none) else K (Exit.exit 0) (mkF 55 [(0, AV.ptr (s61) 0 0 [])]) ([{ sh := s61, dyn := false, frz := false, v := AV.agg [AV.sref (Sh.arr Sh.one 128) 1 m [] 0 k, .dat (.slc (s67) ws), .dat (.int .i64 f), .dat (.bool u)] }, { sh := Sh.arr (Sh.arr Sh.one 128) 0, dyn := true, frz := false, v := .dat (.arr (Sh.arr Sh.one 128) sf) }])) := by kernel_rfl
theorem cr_hr (lp : Loops) (m k : Nat) (ws ch ws2 : List D) (f n : Int) (u : Bool) : ∀ (sA : (Int × List D)) (K : Kt) (N : (Int × List D) → Option Res), (∀ sB fr' σ', cleanF (liveAt Try.f17 0) 0 fr' = cr_fr m k ws ch ws2 f n u sB → trim (2) (cr_fr m k ws ch ws2 f n u sB) σ' = cr_st m k ws ch ws2 f n u sB → K .normal fr' σ' = N sB) →
    oneRound (envOf tab SpC [] lp []) Try.f17 0 (2) (cr_fr m k ws ch ws2 f n u sA) (cr_st m k ws ch ws2 f n u sA) K = (cr_step m k ws ch ws2 f n u sA).k (LK K N) := by
  intro sA K N hN
  obtain ⟨i, sf⟩ := sA
  refine (cr_round lp m k ws ch ws2 f n u i sf K).trans ?_
  show _ = T.k ((
  .chk (!decide (i < n) || decide (0 ≤ i) && (decide (Int.toNat i < List.length ws2) && (okE (Ek.agg [Ek.int IntKind.i64, Ek.arr Sh.one]) (nthD ws2 (Int.toNat i)) && (Sh.eqb (s67) (Sh.agg [Sh.one, Sh.arr Sh.one (List.length (D.getL (nthD (D.getL (nthD ws2 (Int.toNat i))) 1)))]) && (decide ((↑(List.length ch) : Int) ≤ i) || decide (Int.toNat i < List.length ch) && (okE (Ek.int IntKind.u8) (nthD ch (Int.toNat i)) && (decide (0 ≤ D.getI (nthD (D.getL (nthD ws2 (Int.toNat i))) 0)) && (decide (D.getI (nthD (D.getL (nthD ws2 (Int.toNat i))) 0) < (↑k : Int)) && (decide (0 ≤ if 128 < IntKind.wrap IntKind.i64 (8 * IntKind.wrap IntKind.i64 (D.getI (nthD ch (Int.toNat i)))) then 128 else IntKind.wrap IntKind.i64 (8 * IntKind.wrap IntKind.i64 (D.getI (nthD ch (Int.toNat i))))) && (decide (Int.toNat (if 128 < IntKind.wrap IntKind.i64 (8 * IntKind.wrap IntKind.i64 (D.getI (nthD ch (Int.toNat i)))) then 128 else IntKind.wrap IntKind.i64 (8 * IntKind.wrap IntKind.i64 (D.getI (nthD ch (Int.toNat i))))) ≤ 128) && (Nat.beq (List.length sf) m && (decide (0 + Int.toNat (D.getI (nthD (D.getL (nthD ws2 (Int.toNat i))) 0)) < List.length sf) && (okS (Sh.arr Sh.one 128) (nthD sf (0 + Int.toNat (D.getI (nthD (D.getL (nthD ws2 (Int.toNat i))) 0)))) && (Nat.beq (List.length sf) m && true && true && fits Sh.one (seg (D.getL (nthD (D.getL (nthD ws2 (Int.toNat i))) 1)) 0 (Int.toNat (if 128 < IntKind.wrap IntKind.i64 (8 * IntKind.wrap IntKind.i64 (D.getI (nthD ch (Int.toNat i)))) then 128 else IntKind.wrap IntKind.i64 (8 * IntKind.wrap IntKind.i64 (D.getI (nthD ch (Int.toNat i))))) - 0)) && (Nat.beq (min (List.length (seg (D.getL (nthD (D.getL (nthD ws2 (Int.toNat i))) 1)) 0 (Int.toNat (if 128 < IntKind.wrap IntKind.i64 (8 * IntKind.wrap IntKind.i64 (D.getI (nthD ch (Int.toNat i)))) then 128 else IntKind.wrap IntKind.i64 (8 * IntKind.wrap IntKind.i64 (D.getI (nthD ch (Int.toNat i))))) - 0))) (Int.toNat (if 128 < IntKind.wrap IntKind.i64 (8 * IntKind.wrap IntKind.i64 (D.getI (nthD ch (Int.toNat i)))) then 128 else IntKind.wrap IntKind.i64 (8 * IntKind.wrap IntKind.i64 (D.getI (nthD ch (Int.toNat i))))) - 0)) 0 || Sh.eqb (Sh.arr Sh.one (List.length (D.getL (nthD sf (0 + Int.toNat (D.getI (nthD (D.getL (nthD ws2 (Int.toNat i))) 0))))))) (Sh.arr Sh.one (List.length (List.take (min (List.length (seg (D.getL (nthD (D.getL (nthD ws2 (Int.toNat i))) 1)) 0 (Int.toNat (if 128 < IntKind.wrap IntKind.i64 (8 * IntKind.wrap IntKind.i64 (D.getI (nthD ch (Int.toNat i)))) then 128 else IntKind.wrap IntKind.i64 (8 * IntKind.wrap IntKind.i64 (D.getI (nthD ch (Int.toNat i))))) - 0))) (Int.toNat (if 128 < IntKind.wrap IntKind.i64 (8 * IntKind.wrap IntKind.i64 (D.getI (nthD ch (Int.toNat i)))) then 128 else IntKind.wrap IntKind.i64 (8 * IntKind.wrap IntKind.i64 (D.getI (nthD ch (Int.toNat i))))) - 0)) (seg (D.getL (nthD (D.getL (nthD ws2 (Int.toNat i))) 1)) 0 (Int.toNat (if 128 < IntKind.wrap IntKind.i64 (8 * IntKind.wrap IntKind.i64 (D.getI (nthD ch (Int.toNat i)))) then 128 else IntKind.wrap IntKind.i64 (8 * IntKind.wrap IntKind.i64 (D.getI (nthD ch (Int.toNat i))))) - 0)) ++ List.drop (0 + min (List.length (seg (D.getL (nthD (D.getL (nthD ws2 (Int.toNat i))) 1)) 0 (Int.toNat (if 128 < IntKind.wrap IntKind.i64 (8 * IntKind.wrap IntKind.i64 (D.getI (nthD ch (Int.toNat i)))) then 128 else IntKind.wrap IntKind.i64 (8 * IntKind.wrap IntKind.i64 (D.getI (nthD ch (Int.toNat i))))) - 0))) (Int.toNat (if 128 < IntKind.wrap IntKind.i64 (8 * IntKind.wrap IntKind.i64 (D.getI (nthD ch (Int.toNat i)))) then 128 else IntKind.wrap IntKind.i64 (8 * IntKind.wrap IntKind.i64 (D.getI (nthD ch (Int.toNat i))))) - 0)) (D.getL (nthD sf (0 + Int.toNat (D.getI (nthD (D.getL (nthD ws2 (Int.toNat i))) 0))))))))))))))))))))))) (
   .br (decide (i < n) && decide ((↑(List.length ch) : Int) ≤ i)) (.leaf (.inr ((some 0), mkF 55 [(0, AV.ptr (s61) 0 0 [])], [{ sh := s61, dyn := false, frz := false, v := AV.agg [AV.sref (Sh.arr Sh.one 128) 1 m [] 0 k, .dat (.slc (s67) ws), .dat (.int .i64 f), .dat (.bool u)] }, { sh := Sh.arr (Sh.arr Sh.one 128) 0, dyn := true, frz := false, v := .dat (.arr (Sh.arr Sh.one 128) sf) }, { sh := s67, dyn := false, frz := false, v := .dat (.agg [D.int .i64 (D.getI (nthD (D.getL (nthD ws2 (Int.toNat i))) 0)), D.arr Sh.one (D.getL (nthD (D.getL (nthD ws2 (Int.toNat i))) 1))]) }]))) (
    .br (!decide (i < n)) (.leaf (.inr ((some 0), mkF 55 [(0, AV.ptr (s61) 0 0 [])], [{ sh := s61, dyn := false, frz := false, v := AV.agg [AV.sref (Sh.arr Sh.one 128) 1 m [] 0 k, .dat (.slc (s67) ws), .dat (.int .i64 f), .dat (.bool u)] }, { sh := Sh.arr (Sh.arr Sh.one 128) 0, dyn := true, frz := false, v := .dat (.arr (Sh.arr Sh.one 128) sf) }]))) (.leaf (.inl ((IntKind.wrap IntKind.i64 (i + 1)), (bif Nat.beq (min (List.length (seg (D.getL (nthD (D.getL (nthD ws2 (Int.toNat i))) 1)) 0 (Int.toNat (if 128 < IntKind.wrap IntKind.i64 (8 * IntKind.wrap IntKind.i64 (D.getI (nthD ch (Int.toNat i)))) then 128 else IntKind.wrap IntKind.i64 (8 * IntKind.wrap IntKind.i64 (D.getI (nthD ch (Int.toNat i))))) - 0))) (Int.toNat (if 128 < IntKind.wrap IntKind.i64 (8 * IntKind.wrap IntKind.i64 (D.getI (nthD ch (Int.toNat i)))) then 128 else IntKind.wrap IntKind.i64 (8 * IntKind.wrap IntKind.i64 (D.getI (nthD ch (Int.toNat i))))) - 0)) 0 then sf else List.set sf (0 + Int.toNat (D.getI (nthD (D.getL (nthD ws2 (Int.toNat i))) 0))) (D.arr Sh.one (List.take (min (List.length (seg (D.getL (nthD (D.getL (nthD ws2 (Int.toNat i))) 1)) 0 (Int.toNat (if 128 < IntKind.wrap IntKind.i64 (8 * IntKind.wrap IntKind.i64 (D.getI (nthD ch (Int.toNat i)))) then 128 else IntKind.wrap IntKind.i64 (8 * IntKind.wrap IntKind.i64 (D.getI (nthD ch (Int.toNat i))))) - 0))) (Int.toNat (if 128 < IntKind.wrap IntKind.i64 (8 * IntKind.wrap IntKind.i64 (D.getI (nthD ch (Int.toNat i)))) then 128 else IntKind.wrap IntKind.i64 (8 * IntKind.wrap IntKind.i64 (D.getI (nthD ch (Int.toNat i))))) - 0)) (seg (D.getL (nthD (D.getL (nthD ws2 (Int.toNat i))) 1)) 0 (Int.toNat (if 128 < IntKind.wrap IntKind.i64 (8 * IntKind.wrap IntKind.i64 (D.getI (nthD ch (Int.toNat i)))) then 128 else IntKind.wrap IntKind.i64 (8 * IntKind.wrap IntKind.i64 (D.getI (nthD ch (Int.toNat i))))) - 0)) ++ List.drop (0 + min (List.length (seg (D.getL (nthD (D.getL (nthD ws2 (Int.toNat i))) 1)) 0 (Int.toNat (if 128 < IntKind.wrap IntKind.i64 (8 * IntKind.wrap IntKind.i64 (D.getI (nthD ch (Int.toNat i)))) then 128 else IntKind.wrap IntKind.i64 (8 * IntKind.wrap IntKind.i64 (D.getI (nthD ch (Int.toNat i))))) - 0))) (Int.toNat (if 128 < IntKind.wrap IntKind.i64 (8 * IntKind.wrap IntKind.i64 (D.getI (nthD ch (Int.toNat i)))) then 128 else IntKind.wrap IntKind.i64 (8 * IntKind.wrap IntKind.i64 (D.getI (nthD ch (Int.toNat i))))) - 0)) (D.getL (nthD sf (0 + Int.toNat (D.getI (nthD (D.getL (nthD ws2 (Int.toNat i))) 0)))))))))))))) : T ((Int × List D) ⊕ LOut)) (LK K N)
  generalize (Sh.eqb (Sh.arr Sh.one (List.length (D.getL (nthD sf (0 + Int.toNat (D.getI (nthD (D.getL (nthD ws2 (Int.toNat i))) 0))))))) (Sh.arr Sh.one (List.length (List.take (min (List.length (seg (D.getL (nthD (D.getL (nthD ws2 (Int.toNat i))) 1)) 0 (Int.toNat (if 128 < IntKind.wrap IntKind.i64 (8 * IntKind.wrap IntKind.i64 (D.getI (nthD ch (Int.toNat i)))) then 128 else IntKind.wrap IntKind.i64 (8 * IntKind.wrap IntKind.i64 (D.getI (nthD ch (Int.toNat i))))) - 0))) (Int.toNat (if 128 < IntKind.wrap IntKind.i64 (8 * IntKind.wrap IntKind.i64 (D.getI (nthD ch (Int.toNat i)))) then 128 else IntKind.wrap IntKind.i64 (8 * IntKind.wrap IntKind.i64 (D.getI (nthD ch (Int.toNat i))))) - 0)) (seg (D.getL (nthD (D.getL (nthD ws2 (Int.toNat i))) 1)) 0 (Int.toNat (if 128 < IntKind.wrap IntKind.i64 (8 * IntKind.wrap IntKind.i64 (D.getI (nthD ch (Int.toNat i)))) then 128 else IntKind.wrap IntKind.i64 (8 * IntKind.wrap IntKind.i64 (D.getI (nthD ch (Int.toNat i))))) - 0)) ++ List.drop (0 + min (List.length (seg (D.getL (nthD (D.getL (nthD ws2 (Int.toNat i))) 1)) 0 (Int.toNat (if 128 < IntKind.wrap IntKind.i64 (8 * IntKind.wrap IntKind.i64 (D.getI (nthD ch (Int.toNat i)))) then 128 else IntKind.wrap IntKind.i64 (8 * IntKind.wrap IntKind.i64 (D.getI (nthD ch (Int.toNat i))))) - 0))) (Int.toNat (if 128 < IntKind.wrap IntKind.i64 (8 * IntKind.wrap IntKind.i64 (D.getI (nthD ch (Int.toNat i)))) then 128 else IntKind.wrap IntKind.i64 (8 * IntKind.wrap IntKind.i64 (D.getI (nthD ch (Int.toNat i))))) - 0)) (D.getL (nthD sf (0 + Int.toNat (D.getI (nthD (D.getL (nthD ws2 (Int.toNat i))) 0))))))))) = z0
  generalize (Nat.beq (min (List.length (seg (D.getL (nthD (D.getL (nthD ws2 (Int.toNat i))) 1)) 0 (Int.toNat (if 128 < IntKind.wrap IntKind.i64 (8 * IntKind.wrap IntKind.i64 (D.getI (nthD ch (Int.toNat i)))) then 128 else IntKind.wrap IntKind.i64 (8 * IntKind.wrap IntKind.i64 (D.getI (nthD ch (Int.toNat i))))) - 0))) (Int.toNat (if 128 < IntKind.wrap IntKind.i64 (8 * IntKind.wrap IntKind.i64 (D.getI (nthD ch (Int.toNat i)))) then 128 else IntKind.wrap IntKind.i64 (8 * IntKind.wrap IntKind.i64 (D.getI (nthD ch (Int.toNat i))))) - 0)) 0) = z1
  generalize (decide (Int.toNat (if 128 < IntKind.wrap IntKind.i64 (8 * IntKind.wrap IntKind.i64 (D.getI (nthD ch (Int.toNat i)))) then 128 else IntKind.wrap IntKind.i64 (8 * IntKind.wrap IntKind.i64 (D.getI (nthD ch (Int.toNat i))))) ≤ 128)) = z2
  generalize (decide (0 ≤ if 128 < IntKind.wrap IntKind.i64 (8 * IntKind.wrap IntKind.i64 (D.getI (nthD ch (Int.toNat i)))) then 128 else IntKind.wrap IntKind.i64 (8 * IntKind.wrap IntKind.i64 (D.getI (nthD ch (Int.toNat i)))))) = z3
  generalize (Nat.beq (List.length sf) m && true && true && fits Sh.one (seg (D.getL (nthD (D.getL (nthD ws2 (Int.toNat i))) 1)) 0 (Int.toNat (if 128 < IntKind.wrap IntKind.i64 (8 * IntKind.wrap IntKind.i64 (D.getI (nthD ch (Int.toNat i)))) then 128 else IntKind.wrap IntKind.i64 (8 * IntKind.wrap IntKind.i64 (D.getI (nthD ch (Int.toNat i))))) - 0))) = z4
  generalize (decide (0 + Int.toNat (D.getI (nthD (D.getL (nthD ws2 (Int.toNat i))) 0)) < List.length sf)) = z5
  generalize (Sh.eqb (s67) (Sh.agg [Sh.one, Sh.arr Sh.one (List.length (D.getL (nthD (D.getL (nthD ws2 (Int.toNat i))) 1)))])) = z6
  generalize (decide (0 ≤ D.getI (nthD (D.getL (nthD ws2 (Int.toNat i))) 0))) = z7
  generalize (decide (D.getI (nthD (D.getL (nthD ws2 (Int.toNat i))) 0) < (↑k : Int))) = z8
  generalize (okS (Sh.arr Sh.one 128) (nthD sf (0 + Int.toNat (D.getI (nthD (D.getL (nthD ws2 (Int.toNat i))) 0))))) = z9
  generalize (decide ((↑(List.length ch) : Int) ≤ i)) = z10
  generalize (decide (0 ≤ i)) = z11
  generalize (okE (Ek.agg [Ek.int IntKind.i64, Ek.arr Sh.one]) (nthD ws2 (Int.toNat i))) = z12
  generalize (decide (Int.toNat i < List.length ws2)) = z13
  generalize (decide (Int.toNat i < List.length ch)) = z14
  generalize (decide (i < n)) = z15
  generalize (okE (Ek.int IntKind.u8) (nthD ch (Int.toNat i))) = z16
  generalize (Nat.beq (List.length sf) m) = z17
  cases z15 with
  | true =>
   cases z11 with
   | true =>
    cases z13 with
    | true =>
     cases z12 with
     | true =>
      cases z6 with
      | true =>
       cases z10 with
       | true =>
        rfl
       | false =>
        cases z14 with
        | true =>
         cases z16 with
         | true =>
          cases z7 with
          | true =>
           cases z8 with
           | true =>
            cases z3 with
            | true =>
             cases z2 with
             | true =>
              cases z17 with
              | true =>
               cases z5 with
               | true =>
                cases z9 with
                | true =>
                 cases z4 with
                 | true =>
                  cases z1 with
                  | true =>
                   exact hN _ _ _ (by kernel_rfl) (by kernel_rfl)
                  | false =>
                   cases z0 with
                   | true =>
                    exact hN _ _ _ (by kernel_rfl) (by kernel_rfl)
                   | false =>
                    rfl
                 | false =>
                  rfl
                | false =>
                 rfl
               | false =>
                rfl
              | false =>
               rfl
             | false =>
              rfl
            | false =>
             rfl
           | false =>
            rfl
          | false =>
           rfl
         | false =>
          rfl
        | false =>
         rfl
      | false =>
       rfl
     | false =>
      rfl
    | false =>
     rfl
   | false =>
    rfl
  | false =>
   rfl
theorem cr_enter (m k : Nat) (ws ch ws2 : List D) (f n : Int) (u : Bool) (i : Int) (sf : List D) (fr : Frame') (hl : Nat.beq fr.length 55 = true) (g0 : fr.getD 0 .undef = AV.ptr (s61) 0 0 []) (g1 : fr.getD 1 .undef = .dat (.slc Sh.one ch)) (g14 : fr.getD 14 .undef = .dat (.slc (s67) ws2)) (g15 : fr.getD 15 .undef = .dat (.int .i64 n)) (g16 : fr.getD 16 .undef = .dat (.int .i64 i)) : cleanF (liveAt Try.f17 0) 0 fr = cr_fr m k ws ch ws2 f n u (i, sf) := by
  have e : liveAt Try.f17 0 = [15, 14, 1, 16, 0] := by kernel_rfl
  rw [clean_mk (Nat.eq_of_beq_eq_true hl), e]
  show mkF 55 [(15, fr.getD 15 .undef), (14, fr.getD 14 .undef), (1, fr.getD 1 .undef), (16, fr.getD 16 .undef), (0, fr.getD 0 .undef)] = _
  rw [g15, g14, g1, g16, g0]
  kernel_rfl
abbrev tB (w : D) : Blk := ⟨.agg [.one, .arr .one 128], false, false, .dat (.agg [.int .i64 (wAt w), .arr .one (wWas w)])⟩
theorem cr_closed (m k : Nat) (ws ch ws2 : List D) (f n : Int) (u : Bool) (sf0 : List D) (hc : (decide (n = (ws2.length : Int)) && (okDk m k ws2 sf0 && ch.all okU8)) = true) :
    ∃ z, (iterT (cr_step m k ws ch ws2 f n u) z (0, sf0)).run = T.run (.br (decide (ch.length < ws2.length)) (.leaf (some 0, mkF 55 [(0, dP)], [dB m k ws f u, sB (trTo ch ws2 sf0 ch.length), tB (nthD ws2 ch.length)])) (.leaf (some 0, mkF 55 [(0, dP)], [dB m k ws f u, sB (trTo ch ws2 sf0 ws2.length)]))) := by
  simp only [Bool.and_eq_true, decide_eq_true_eq] at hc
  obtain ⟨rfl, hx, hch⟩ := hc
  obtain ⟨rfl, h0, h1, h2, h3⟩ := okDk_spec (by simpa only [okDk, okSf, Bool.and_eq_true, decide_eq_true_eq] using hx)
  obtain ⟨z, hz⟩ := iter_first (step := cr_step m m ws ch ws2 f ws2.length u) (n := ws2.length) (fun i => trTo ch ws2 sf0 i) (fun i => decide (ch.length ≤ i))
    (o := fun i => (some 0, mkF 55 [(0, dP)], [dB m m ws f u, sB (trTo ch ws2 sf0 i), tB (nthD ws2 i)])) (o' := (some 0, mkF 55 [(0, dP)], [dB m m ws f u, sB (trTo ch ws2 sf0 ws2.length)]))
    (fun i hi hp => by
      obtain ⟨g0, g1, g2, g3, g4⟩ := okWk_nth h2 hi
      obtain ⟨hs1, hs2⟩ := trTo_ok (ch := ch) h0 h1 h2 i (by omega)
      have g8 : Sh.eqb s67 (.agg [.one, .arr .one (wWas (nthD ws2 i)).length]) = true := by rw [g1]; rfl
      by_cases hi2 : ch.length ≤ i
      · unfold cr_step
        simp only [decide_eq_true (show (i : Int) < (ws2.length : Int) by omega), decide_eq_true (show (0 : Int) ≤ (i : Int) by omega), Int.toNat_natCast, decide_eq_true hi, g0, g8, decide_eq_true (show (ch.length : Int) ≤ (i : Int) by omega), decide_eq_true hi2, Bool.not_true, Bool.true_or, Bool.or_true, Bool.and_true, T.run_br, T.run_chk, T.run_leaf, cond_true, cond_false]
        rfl
      · have g5 : (wAt (nthD ws2 i)).toNat < (trTo ch ws2 sf0 i).length := by omega
        obtain ⟨g6, g7⟩ := okSec_nth hs2 g5
        have hu := List.all_eq_true.1 hch _ (nthD_mem (show i < ch.length by omega))
        simp only [okU8, Bool.and_eq_true, decide_eq_true_eq] at hu
        obtain ⟨hu1, hu2, hu3⟩ := hu
        have hM : (if 128 < IntKind.wrap IntKind.i64 (8 * IntKind.wrap IntKind.i64 (D.getI (nthD ch i))) then 128 else IntKind.wrap IntKind.i64 (8 * IntKind.wrap IntKind.i64 (D.getI (nthD ch i)))) = cut16 (D.getI (nthD ch i)) := by
          rw [IntKind.wrap_i64, IntKind.wrap_i64]
          unfold cut16
          generalize D.getI (nthD ch i) = x at *
          split <;> split <;> omega
        have hc0 : 0 ≤ cut16 (D.getI (nthD ch i)) := by unfold cut16; split <;> omega
        have hc1 := cut16_le (D.getI (nthD ch i))
        have hsg : seg (wWas (nthD ws2 i)) 0 ((cut16 (D.getI (nthD ch i))).toNat - 0) = (wWas (nthD ws2 i)).take (cut16 (D.getI (nthD ch i))).toNat := by rw [seg_take, Nat.sub_zero]
        have hf : fits .one ((wWas (nthD ws2 i)).take (cut16 (D.getI (nthD ch i))).toNat) = true := by
          rw [fits_one_iff] at g4 ⊢
          exact fun d hd => g4 d (List.mem_of_mem_take hd)
        have hl : ((wWas (nthD ws2 i)).take (cut16 (D.getI (nthD ch i))).toNat).length = (cut16 (D.getI (nthD ch i))).toNat := by rw [List.length_take, g1]; omega
        have hmm : min ((wWas (nthD ws2 i)).take (cut16 (D.getI (nthD ch i))).toNat).length ((cut16 (D.getI (nthD ch i))).toNat - 0) = (cut16 (D.getI (nthD ch i))).toNat := by rw [hl]; omega
        have htk : ((wWas (nthD ws2 i)).take (cut16 (D.getI (nthD ch i))).toNat).take (cut16 (D.getI (nthD ch i))).toNat = (wWas (nthD ws2 i)).take (cut16 (D.getI (nthD ch i))).toNat := by rw [List.take_take, Nat.min_self]
        have hln : ((wWas (nthD ws2 i)).take (cut16 (D.getI (nthD ch i))).toNat ++ (D.getL (nthD (trTo ch ws2 sf0 i) (wAt (nthD ws2 i)).toNat)).drop (cut16 (D.getI (nthD ch i))).toNat).length = 128 := by rw [List.length_append, hl, List.length_drop, g7]; omega
        have g9 : Sh.eqb (.arr .one (D.getL (nthD (trTo ch ws2 sf0 i) (wAt (nthD ws2 i)).toNat)).length) (.arr .one ((wWas (nthD ws2 i)).take (cut16 (D.getI (nthD ch i))).toNat ++ (D.getL (nthD (trTo ch ws2 sf0 i) (wAt (nthD ws2 i)).toNat)).drop (cut16 (D.getI (nthD ch i))).toNat).length) = true := by rw [hln, g7]; rfl
        unfold cr_step
        simp only [Int.toNat_natCast, hM]
        simp only [hsg, hmm, htk, Nat.zero_add, decide_eq_true (show (i : Int) < (ws2.length : Int) by omega), decide_eq_true (show (0 : Int) ≤ (i : Int) by omega), decide_eq_true hi, g0, g8, decide_eq_false (show ¬ (ch.length : Int) ≤ (i : Int) by omega), decide_eq_true (show i < ch.length by omega), hu1, decide_eq_true g2, decide_eq_true g3, decide_eq_true hc0, decide_eq_true hc1, hs1, Nat.beq_refl, decide_eq_true (show (wAt (nthD ws2 i)).toNat < m by omega), g6, hf, g9, decide_eq_false hi2, wrap_succ (show i < 2 ^ 62 by omega), Bool.not_true, Bool.or_true, Bool.and_true, Bool.and_false, T.run_br, T.run_chk, T.run_leaf, cond_true, cond_false]
        rfl)
    (fun hp => by
      unfold cr_step
      simp only [decide_eq_false (show ¬ (ws2.length : Int) < (ws2.length : Int) by omega)]
      rfl)
  refine ⟨z, hz.trans ?_⟩
  have e : (List.range ws2.length).any (fun i => decide (ch.length ≤ i)) = decide (ch.length < ws2.length) := by
    refine bool_ext ?_
    rw [List.any_eq_true, decide_eq_true_eq]
    constructor
    · rintro ⟨x, hx, hy⟩
      have := List.mem_range.1 hx
      have := of_decide_eq_true hy
      omega
    · intro h
      exact ⟨ch.length, List.mem_range.2 h, decide_eq_true (Nat.le_refl _)⟩
  show _ = cond (decide (ch.length < ws2.length)) (some _) (some _)
  rw [e]
  by_cases hl : ch.length < ws2.length
  · rw [decide_eq_true hl, cond_true, cond_true]
    have hfi : (List.range ws2.length).findIdx (fun i => decide (ch.length ≤ i)) = ch.length := by
      rw [List.findIdx_eq (by rw [List.length_range]; exact hl)]
      simp only [List.getElem_range, Nat.le_refl, decide_true, true_and]
      intro j hj
      simp only [decide_eq_false_iff_not]
      omega
    rw [hfi]
  · rw [decide_eq_false hl, cond_false, cond_false]
def L_cr : Frame' → Store → T (Exit × Frame' × Store) := fun fr σ => match fr.getD 0 .undef, fr.getD 1 .undef, fr.getD 14 .undef, fr.getD 15 .undef, fr.getD 16 .undef, σ with
  | AV.ptr (Sh.agg [Sh.one, Sh.one, Sh.one, Sh.one]) 0 0 [], AV.dat (D.slc Sh.one ch), AV.dat (D.slc (Sh.agg [Sh.one, Sh.arr Sh.one 128]) ws2), AV.dat (D.int IntKind.i64 n), AV.dat (D.int IntKind.i64 0), [{ sh := Sh.agg [Sh.one, Sh.one, Sh.one, Sh.one], dyn := false, frz := false, v := AV.agg [AV.sref (Sh.arr Sh.one 128) 1 m [] 0 k, AV.dat (D.slc (Sh.agg [Sh.one, Sh.arr Sh.one 128]) ws), AV.dat (D.int IntKind.i64 f), AV.dat (D.bool u)] }, { sh := Sh.arr (Sh.arr Sh.one 128) 0, dyn := true, frz := false, v := AV.dat (D.arr (Sh.arr Sh.one 128) sf) }] => .chk (Nat.beq fr.length 55 && (decide (n = (ws2.length : Int)) && (okDk m k ws2 sf && ch.all okU8))) (T.bind (.br (decide (ch.length < ws2.length)) (.leaf (some 0, mkF 55 [(0, dP)], [dB m k ws f u, sB (trTo ch ws2 sf ch.length), tB (nthD ws2 ch.length)])) (.leaf (some 0, mkF 55 [(0, dP)], [dB m k ws f u, sB (trTo ch ws2 sf ws2.length)]))) fun o => .leaf (outEx o.1, o.2.1, o.2.2))
  | _, _, _, _, _, _ => .fail
theorem cr_sem (lp : Loops) : ∀ fr σ p, (L_cr fr σ).run = some p → ∀ (K : Kt) r, K p.1 p.2.1 p.2.2 = some r → ∃ n, loopRun (envOf tab SpC [] lp []) Try.f17 0 σ.length n (cleanF (liveAt Try.f17 0) 0 fr) σ K = some r := by
  intro fr σ p h K r hK
  unfold L_cr at h
  split at h
  · rename_i ch ws2 n m k ws f u sf g0 g1 g14 g15 g16
    obtain ⟨hc, h'⟩ := T.chk_some h
    rw [Bool.and_eq_true] at hc
    obtain ⟨hl, hc⟩ := hc
    obtain ⟨o, ho, h'⟩ := T.bind_some h'
    have hp := T.leaf_some h'
    subst hp
    obtain ⟨nF, hn⟩ : ∃ nF, (iterT (cr_step m k ws ch ws2 f n u) nF ((0, sf))).run = T.run (.br (decide (ch.length < ws2.length)) (.leaf (some 0, mkF 55 [(0, dP)], [dB m k ws f u, sB (trTo ch ws2 sf ch.length), tB (nthD ws2 ch.length)])) (.leaf (some 0, mkF 55 [(0, dP)], [dB m k ws f u, sB (trTo ch ws2 sf ws2.length)]))) := cr_closed m k ws ch ws2 f n u sf hc
    rw [ho] at hn
    refine ⟨nF, ?_⟩
    have he : cleanF (liveAt Try.f17 0) 0 fr = cr_fr m k ws ch ws2 f n u ((0, sf)) := cr_enter m k ws ch ws2 f n u _ _ fr hl g0 g1 g14 g15 g16
    refine (iter_ok (base := 2) (cr_hr lp m k ws ch ws2 f n u) K nF ((0, sf)) _ _ (by rw [clean_clean]; exact he) (by kernel_rfl)).trans ?_
    rw [T.k_run hn]
    exact hK
  · simp [T.run_fail] at h
theorem cr_loopOk {k : Nat} (lp : Loops) (hk : Loops.get lp 4 = some L_cr) : LoopOkN Try.prog k (envOf tab SpC [] lp []) (loopAt Try.f17 0).1 (loopAt Try.f17 0).2 := loop_okN (L := L_cr) (by kernel_rfl) hk (cr_sem lp)
def crash_v0 (ws : List D) (sf : List D) (ch : List D) : List D := bif decide (List.length ch < List.length ws) then trTo ch ws sf (List.length ch) else trTo ch ws sf (List.length ws)
def crash_pre (m : Nat) (k : Nat) (ws : List D) (sf : List D) (ch : List D) : Bool := decide ((↑(List.length ws) : Int) = (↑(List.length ws) : Int)) && (okDk m k ws sf && List.all ch okU8)
def C_crash : FunT := fun args σ => match args, σ with
  | [AV.ptr (Sh.agg [Sh.one, Sh.one, Sh.one, Sh.one]) 0 0 [], AV.dat (D.slc Sh.one ch)], [{ sh := Sh.agg [Sh.one, Sh.one, Sh.one, Sh.one], dyn := false, frz := false, v := AV.agg [AV.sref (Sh.arr Sh.one 128) 1 m [] 0 k, AV.dat (D.slc (Sh.agg [Sh.one, Sh.arr Sh.one 128]) ws), AV.dat (D.int IntKind.i64 f), AV.dat (D.bool u)] }, { sh := Sh.arr (Sh.arr Sh.one 128) 0, dyn := true, frz := false, v := AV.dat (D.arr (Sh.arr Sh.one 128) sf) }] =>
    .br (made_v0 k) (.chk ((crash_pre m k ws sf ch)) (.leaf ([.dat (.int .i64 0)], [{ sh := s61, dyn := false, frz := false, v := AV.agg [AV.sref (Sh.arr Sh.one 128) 1 m [] 0 k, AV.fslc (s67) [], .dat (.int .i64 (-1 : Int)), .dat (.bool false)] }, { sh := Sh.arr (Sh.arr Sh.one 128) 0, dyn := true, frz := false, v := .dat (.arr (Sh.arr Sh.one 128) (crash_v0 ws sf ch)) }]))) (.leaf ([.dat (.int .i64 11)], [{ sh := s61, dyn := false, frz := false, v := AV.agg [AV.sref (Sh.arr Sh.one 128) 1 m [] 0 k, .dat (.slc (s67) ws), .dat (.int .i64 f), .dat (.bool u)] }, { sh := Sh.arr (Sh.arr Sh.one 128) 0, dyn := true, frz := false, v := .dat (.arr (Sh.arr Sh.one 128) sf) }]))
  | _, _ => .fail
theorem crash_raw0 (m k : Nat) (ws sf ch : List D) (f : Int) (u : Bool) : runF (envOf tab SpC [] [(4, L_cr)] []) true Try.f17 [dP, .dat (.slc .one ch)] [dB m k ws f u, sB sf] =
  (bif !made_v0 k then some ([.dat (.int .i64 11)], [{ sh := s61, dyn := false, frz := false, v := AV.agg [AV.sref (Sh.arr Sh.one 128) 1 m [] 0 k, .dat (.slc (s67) ws), .dat (.int .i64 f), .dat (.bool u)] }, { sh := Sh.arr (Sh.arr Sh.one 128) 0, dyn := true, frz := false, v := .dat (.arr (Sh.arr Sh.one 128) sf) }]) else
   (bif decide ((↑(List.length ws) : Int) = (↑(List.length ws) : Int)) && (okDk m k ws sf && List.all ch okU8) then
    (bif decide (List.length ch < List.length ws) then some ([.dat (.int .i64 0)], [{ sh := s61, dyn := false, frz := false, v := AV.agg [AV.sref (Sh.arr Sh.one 128) 1 m [] 0 k, AV.fslc (s67) [], .dat (.int .i64 (-1 : Int)), .dat (.bool false)] }, { sh := Sh.arr (Sh.arr Sh.one 128) 0, dyn := true, frz := false, v := .dat (.arr (Sh.arr Sh.one 128) (trTo ch ws sf (List.length ch))) }]) else some ([.dat (.int .i64 0)], [{ sh := s61, dyn := false, frz := false, v := AV.agg [AV.sref (Sh.arr Sh.one 128) 1 m [] 0 k, AV.fslc (s67) [], .dat (.int .i64 (-1 : Int)), .dat (.bool false)] }, { sh := Sh.arr (Sh.arr Sh.one 128) 0, dyn := true, frz := false, v := .dat (.arr (Sh.arr Sh.one 128) (trTo ch ws sf (List.length ws))) }])) else none)) := by kernel_rfl
theorem crash_case0 (m k : Nat) (ws sf ch : List D) (f : Int) (u : Bool) : runF (envOf tab SpC [] [(4, L_cr)] []) true Try.f17 [dP, .dat (.slc .one ch)] [dB m k ws f u, sB sf] = FunT.run C_crash [dP, .dat (.slc .one ch)] [dB m k ws f u, sB sf] := (crash_raw0 m k ws sf ch f u).trans (by
  show _ = (cond (made_v0 k) (cond (decide ((↑(List.length ws) : Int) = (↑(List.length ws) : Int)) && (okDk m k ws sf && List.all ch okU8)) (some (([.dat (.int .i64 0)], [{ sh := s61, dyn := false, frz := false, v := AV.agg [AV.sref (Sh.arr Sh.one 128) 1 m [] 0 k, AV.fslc (s67) [], .dat (.int .i64 (-1 : Int)), .dat (.bool false)] }, { sh := Sh.arr (Sh.arr Sh.one 128) 0, dyn := true, frz := false, v := .dat (.arr (Sh.arr Sh.one 128) (bif decide (List.length ch < List.length ws) then trTo ch ws sf (List.length ch) else trTo ch ws sf (List.length ws))) }]) : Res)) none) (some (([.dat (.int .i64 11)], [{ sh := s61, dyn := false, frz := false, v := AV.agg [AV.sref (Sh.arr Sh.one 128) 1 m [] 0 k, .dat (.slc (s67) ws), .dat (.int .i64 f), .dat (.bool u)] }, { sh := Sh.arr (Sh.arr Sh.one 128) 0, dyn := true, frz := false, v := .dat (.arr (Sh.arr Sh.one 128) sf) }]) : Res)))
  generalize (decide ((↑(List.length ws) : Int) = (↑(List.length ws) : Int)) && (okDk m k ws sf && List.all ch okU8)) = z0
  generalize (decide (List.length ch < List.length ws)) = z1
  generalize (made_v0 k) = z2
  cases z2 with
  | true =>
   cases z0 with
   | true =>
    cases z1 with
    | true =>
     rfl
    | false =>
     rfl
   | false =>
    rfl
  | false =>
   rfl
  )
theorem ccrash_ok : FunOk Try.prog 17 (FunT.run C_crash) := by
  refine fun_ok (E := envOf tab SpC [] [(4, L_cr)] []) (fz := true) (fn := Try.f17) (envOf_ok progOk SpC_ok) (by kernel_rfl) (by kernel_rfl) (loops_one (by kernel_rfl) (cr_loopOk _ rfl)) ?_
  intro args σ r h
  unfold C_crash at h
  split at h
  · exact (crash_case0 _ _ _ _ _ _ _).trans h
  · simp [T.run_fail] at h
end Go.Proofs.Ythhipekbkodjoaa
