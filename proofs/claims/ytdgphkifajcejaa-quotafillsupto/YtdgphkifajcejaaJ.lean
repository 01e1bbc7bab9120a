/- Seat 06: QuotaFills, a round. -/
import Derived.Test.YtdgphkifajcejaaF
namespace Go.Proofs.Ytdgphkifajcejaa
open Go.AX
set_option maxRecDepth 100000

abbrev H4 : Hints := [(999999, 61, [.is 61 (aBool false)]), (999999, 66, [.is 66 (aBool false)]), (999999, 73, [.is 73 (aBool false)]), (999999, 81, [.is 81 (aBool false)]), (999999, 89, [.is 89 (aBool false)]), (999999, 96, [.is 96 (aBool false)]), (999999, 106, [.is 106 (aBool true)])]

def fills_fr (l more : List D) : (Int × Int × List D) → Frame' := fun ⟨i, last, now⟩ => mkF 108 [(0, .dat (.slc .one l)), (1, .dat (.slc .one more)), (5, .dat (.slc .one now)), (6, .dat (.int .i64 last)), (7, .dat (.int .i64 i))]
def fills_st (_ _ : List D) : (Int × Int × List D) → Store := fun ⟨_, _, _⟩ => []
def fills_step (l more : List D) : (Int × Int × List D) → T ((Int × Int × List D) ⊕ LOut) := fun ⟨i, last, now⟩ => 
  .br (decide (i < (↑(List.length more) : Int)) == true) (
   .br (decide (i < (↑(List.length more) : Int))) (
    .br (decide (i < (300 : Int))) (
     .chk (decide ((0 : Int) ≤ i)) (
      .chk (decide (Int.toNat i < List.length more)) (
       .chk (okE (Ek.int IntKind.i64) (nthD more (Int.toNat i))) (
        .br (D.getI (nthD more (Int.toNat i)) == (0 : Int)) (.leaf (.inl ((IntKind.wrap IntKind.i64 (i + (1 : Int))), (last), (now)))) (
         .chk (fits Sh.one now && decide (List.length now * (8 : Nat) ≤ (35184372088832 : Nat))) (
          .chk (okL now) (
           .chk (okL now) (
            .br (firstE now != (0 : Int)) (
             .br ((firstE now == (8 : Int)) == true) (
              .br (firstE now == (8 : Int)) (.leaf (.inr (none, mkF (108 : Nat) [((4 : Nat), AV.dat (D.bool ((↑(List.length (slotsTo now (List.length now))) : Int) == (↑(List.length l) : Int))))], [{ sh := Sh.agg [Sh.one, Sh.one], dyn := false, frz := false, v := AV.dat (D.agg [D.slc Sh.one now, D.fn (Fn.func (7 : Nat)) [] []]) }]))) (.leaf (.inr (none, mkF (108 : Nat) [((4 : Nat), AV.dat (D.bool false))], [{ sh := Sh.agg [Sh.one, Sh.one], dyn := false, frz := false, v := AV.dat (D.agg [D.slc Sh.one now, D.fn (Fn.func (7 : Nat)) [] []]) }])))) (
              .br (firstE now == (8 : Int)) (.leaf (.inr (none, mkF (108 : Nat) [], [{ sh := Sh.agg [Sh.one, Sh.one], dyn := false, frz := false, v := AV.dat (D.agg [D.slc Sh.one now, D.fn (Fn.func (7 : Nat)) [] []]) }]))) (.leaf (.inr (none, mkF (108 : Nat) [((4 : Nat), AV.dat (D.bool false))], [{ sh := Sh.agg [Sh.one, Sh.one], dyn := false, frz := false, v := AV.dat (D.agg [D.slc Sh.one now, D.fn (Fn.func (7 : Nat)) [] []]) }]))))) (
             .chk (D.eqb (D.bool (decide (firstI now ≤ last))) (D.bool false)) (
              .chk (D.eqb (D.bool (decide (firstI now ≥ (↑(List.length l) : Int)))) (D.bool false)) (
               .chk (D.eqb (D.bool ((↑(List.length (addL now (D.getI (nthD more (Int.toNat i))))) : Int) != (↑(List.length l) : Int))) (D.bool false)) (
                .chk (fits Sh.one (addL now (D.getI (nthD more (Int.toNat i)))) && decide (List.length (addL now (D.getI (nthD more (Int.toNat i)))) * (8 : Nat) ≤ (35184372088832 : Nat))) (
                 .chk (okL (addL now (D.getI (nthD more (Int.toNat i))))) (
                  .chk (D.eqb (D.bool ((↑(List.length (slotsTo (addL now (D.getI (nthD more (Int.toNat i)))) (List.length (addL now (D.getI (nthD more (Int.toNat i))))))) : Int) != IntKind.wrap IntKind.i64 ((↑(List.length (slotsTo now (List.length now))) : Int) + (1 : Int)))) (D.bool false)) (
                   .chk (decide ((0 : Int) ≤ firstI now)) (
                    .chk (decide (Int.toNat (firstI now) < List.length (addL now (D.getI (nthD more (Int.toNat i)))))) (
                     .chk (okE (Ek.int IntKind.i64) (nthD (addL now (D.getI (nthD more (Int.toNat i)))) (Int.toNat (firstI now)))) (
                      .chk (D.eqb (D.bool (D.getI (nthD (addL now (D.getI (nthD more (Int.toNat i)))) (Int.toNat (firstI now))) != D.getI (nthD more (Int.toNat i)))) (D.bool false)) (
                       .chk (decide ((0 : Int) ≤ firstI now)) (
                        .chk (decide (Int.toNat (firstI now) < List.length now)) (
                         .chk (okE (Ek.int IntKind.i64) (nthD now (Int.toNat (firstI now)))) (
                          .chk (D.eqb (D.bool (D.getI (nthD now (Int.toNat (firstI now))) != (0 : Int))) (D.bool false)) (.leaf (.inl ((IntKind.wrap IntKind.i64 (i + (1 : Int))), (firstI now), (addL now (D.getI (nthD more (Int.toNat i))))))))))))))))))))))))))))) (.leaf (.inr ((some (0 : Nat)), mkF (108 : Nat) [((0 : Nat), AV.dat (D.slc Sh.one l)), ((5 : Nat), AV.dat (D.slc Sh.one now))], [])))) (.leaf (.inr ((some (0 : Nat)), mkF (108 : Nat) [((0 : Nat), AV.dat (D.slc Sh.one l)), ((5 : Nat), AV.dat (D.slc Sh.one now))], [])))) (
   .br (decide (i < (↑(List.length more) : Int))) (.fail) (.leaf (.inr ((some (0 : Nat)), mkF (108 : Nat) [((0 : Nat), AV.dat (D.slc Sh.one l)), ((5 : Nat), AV.dat (D.slc Sh.one now))], []))))
theorem fills_round (lp : Loops) (l more : List D) (i last : Int) (now : List D) (K : Kt) : oneRound (envOf tab Sr [] lp H4) Try.f4 0 (0) (mkF 108 [(0, .dat (.slc .one l)), (1, .dat (.slc .one more)), (5, .dat (.slc .one now)), (6, .dat (.int .i64 last)), (7, .dat (.int .i64 i))]) ([]) K =
  (bif decide (i < (↑(List.length more) : Int)) == true then 
   (bif decide (i < (↑(List.length more) : Int)) then 
    (bif decide (i < (300 : Int)) then 
     (bif decide ((0 : Int) ≤ i) then 
      (bif decide (Int.toNat i < List.length more) then 
       (bif okE (Ek.int IntKind.i64) (nthD more (Int.toNat i)) then 
        (bif D.getI (nthD more (Int.toNat i)) == (0 : Int) then K (Exit.normal) (mkF (108 : Nat) [((0 : Nat), AV.dat (D.slc Sh.one l)), ((1 : Nat), AV.dat (D.slc Sh.one more)), ((5 : Nat), AV.dat (D.slc Sh.one now)), ((6 : Nat), AV.dat (D.int IntKind.i64 last)), ((7 : Nat), AV.dat (D.int IntKind.i64 (IntKind.wrap IntKind.i64 (i + (1 : Int))))), ((27 : Nat), AV.dat (D.int IntKind.i64 i)), ((28 : Nat), AV.dat (D.int IntKind.i64 (IntKind.wrap IntKind.i64 (i + (1 : Int)))))]) ([]) else 
         (bif fits Sh.one now && decide (List.length now * (8 : Nat) ≤ (35184372088832 : Nat)) then 
          (bif okL now then 
           (bif okL now then 
            (bif firstE now != (0 : Int) then 
             (bif (firstE now == (8 : Int)) == true then 
              (bif firstE now == (8 : Int) then K (Exit.ret) (mkF (108 : Nat) [((4 : Nat), AV.dat (D.bool ((↑(List.length (slotsTo now (List.length now))) : Int) == (↑(List.length l) : Int))))]) ([{ sh := Sh.agg [Sh.one, Sh.one], dyn := false, frz := false, v := AV.dat (D.agg [D.slc Sh.one now, D.fn (Fn.func (7 : Nat)) [] []]) }]) else K (Exit.ret) (mkF (108 : Nat) [((4 : Nat), AV.dat (D.bool false))]) ([{ sh := Sh.agg [Sh.one, Sh.one], dyn := false, frz := false, v := AV.dat (D.agg [D.slc Sh.one now, D.fn (Fn.func (7 : Nat)) [] []]) }])) else 
              (bif firstE now == (8 : Int) then K (Exit.ret) (mkF (108 : Nat) []) ([{ sh := Sh.agg [Sh.one, Sh.one], dyn := false, frz := false, v := AV.dat (D.agg [D.slc Sh.one now, D.fn (Fn.func (7 : Nat)) [] []]) }]) else K (Exit.ret) (mkF (108 : Nat) [((4 : Nat), AV.dat (D.bool false))]) ([{ sh := Sh.agg [Sh.one, Sh.one], dyn := false, frz := false, v := AV.dat (D.agg [D.slc Sh.one now, D.fn (Fn.func (7 : Nat)) [] []]) }]))) else 
             (bif D.eqb (D.bool (decide (firstI now ≤ last))) (D.bool false) then 
              (bif D.eqb (D.bool (decide (firstI now ≥ (↑(List.length l) : Int)))) (D.bool false) then 
               (bif D.eqb (D.bool ((↑(List.length (addL now (D.getI (nthD more (Int.toNat i))))) : Int) != (↑(List.length l) : Int))) (D.bool false) then 
                (bif fits Sh.one (addL now (D.getI (nthD more (Int.toNat i)))) && decide (List.length (addL now (D.getI (nthD more (Int.toNat i)))) * (8 : Nat) ≤ (35184372088832 : Nat)) then 
                 (bif okL (addL now (D.getI (nthD more (Int.toNat i)))) then 
                  (bif D.eqb (D.bool ((↑(List.length (slotsTo (addL now (D.getI (nthD more (Int.toNat i)))) (List.length (addL now (D.getI (nthD more (Int.toNat i))))))) : Int) != IntKind.wrap IntKind.i64 ((↑(List.length (slotsTo now (List.length now))) : Int) + (1 : Int)))) (D.bool false) then 
                   (bif decide ((0 : Int) ≤ firstI now) then 
                    (bif decide (Int.toNat (firstI now) < List.length (addL now (D.getI (nthD more (Int.toNat i))))) then 
                     (bif okE (Ek.int IntKind.i64) (nthD (addL now (D.getI (nthD more (Int.toNat i)))) (Int.toNat (firstI now))) then 
                      (bif D.eqb (D.bool (D.getI (nthD (addL now (D.getI (nthD more (Int.toNat i)))) (Int.toNat (firstI now))) != D.getI (nthD more (Int.toNat i)))) (D.bool false) then 
                       (bif decide ((0 : Int) ≤ firstI now) then 
                        (bif decide (Int.toNat (firstI now) < List.length now) then 
                         (bif okE (Ek.int IntKind.i64) (nthD now (Int.toNat (firstI now))) then 
                          (bif D.eqb (D.bool (D.getI (nthD now (Int.toNat (firstI now))) != (0 : Int))) (D.bool false) then K (Exit.normal) (mkF (108 : Nat) [((0 : Nat), AV.dat (D.slc Sh.one l)), ((1 : Nat), AV.dat (D.slc Sh.one more)), ((5 : Nat), AV.dat (D.slc Sh.one (addL now (D.getI (nthD more (Int.toNat i)))))), ((6 : Nat), AV.dat (D.int IntKind.i64 (firstI now))), ((7 : Nat), AV.dat (D.int IntKind.i64 (IntKind.wrap IntKind.i64 (i + (1 : Int))))), ((27 : Nat), AV.dat (D.int IntKind.i64 i)), ((28 : Nat), AV.dat (D.int IntKind.i64 (IntKind.wrap IntKind.i64 (i + (1 : Int)))))]) ([{ sh := Sh.agg [Sh.one, Sh.one], dyn := false, frz := false, v := AV.dat (D.agg [D.slc Sh.one now, D.fn (Fn.func (7 : Nat)) [] []]) }, { sh := Sh.agg [Sh.one, Sh.one], dyn := false, frz := false, v := AV.dat (D.agg [D.slc Sh.one (addL now (D.getI (nthD more (Int.toNat i)))), D.fn (Fn.func (7 : Nat)) [] []]) }]) else none) else none) else none) else none) else none) else none) else none) else none) else none) else none) else none) else none) else none) else none)) else none) else none) else none)) else none) else none) else none) else K (Exit.exit (0 : Nat)) (mkF (108 : Nat) [((0 : Nat), AV.dat (D.slc Sh.one l)), ((5 : Nat), AV.dat (D.slc Sh.one now))]) ([])) else K (Exit.exit (0 : Nat)) (mkF (108 : Nat) [((0 : Nat), AV.dat (D.slc Sh.one l)), ((5 : Nat), AV.dat (D.slc Sh.one now))]) ([])) else 
   (bif decide (i < (↑(List.length more) : Int)) then none else K (Exit.exit (0 : Nat)) (mkF (108 : Nat) [((0 : Nat), AV.dat (D.slc Sh.one l)), ((5 : Nat), AV.dat (D.slc Sh.one now))]) ([]))) := by kernel_rfl
theorem fills_hr (lp : Loops) (l more : List D) : ∀ (sA : (Int × Int × List D)) (K : Kt) (N : (Int × Int × List D) → Option Res), (∀ sB fr' σ', cleanF (liveAt Try.f4 0) 0 fr' = fills_fr l more sB → trim (0) (fills_fr l more sB) σ' = fills_st l more sB → K .normal fr' σ' = N sB) →
    oneRound (envOf tab Sr [] lp H4) Try.f4 0 (0) (fills_fr l more sA) (fills_st l more sA) K = (fills_step l more sA).k (LK K N) := by
  intro sA K N hN
  obtain ⟨i, last, now⟩ := sA
  exact (fills_round lp l more i last now K).trans (cong2 (cong2 (cong2 (cong2 (cong2 (cong2 (cong2 (hN ((IntKind.wrap IntKind.i64 (i + (1 : Int))), (last), (now)) _ _ (by kernel_rfl) (by kernel_rfl)) (cong2 (cong2 (cong2 (cong2 (cong2 (cong2 rfl rfl) (cong2 rfl rfl)) (cong2 (cong2 (cong2 (cong2 (cong2 (cong2 (cong2 (cong2 (cong2 (cong2 (cong2 (cong2 (cong2 (cong2 (hN ((IntKind.wrap IntKind.i64 (i + (1 : Int))), (firstI now), (addL now (D.getI (nthD more (Int.toNat i))))) _ _ (by kernel_rfl) (by kernel_rfl)) rfl) rfl) rfl) rfl) rfl) rfl) rfl) rfl) rfl) rfl) rfl) rfl) rfl) rfl)) rfl) rfl) rfl)) rfl) rfl) rfl) rfl) rfl) (cong2 rfl rfl))
theorem fills_enter (l more : List D) (i last : Int) (now : List D) (fr : Frame') (hl : Nat.beq fr.length 108 = true) (g0 : fr.getD 0 .undef = AV.dat (D.slc Sh.one l)) (g1 : fr.getD 1 .undef = AV.dat (D.slc Sh.one more)) (g5 : fr.getD 5 .undef = AV.dat (D.slc Sh.one now)) (g6 : fr.getD 6 .undef = AV.dat (D.int IntKind.i64 last)) (g7 : fr.getD 7 .undef = AV.dat (D.int IntKind.i64 i)) : cleanF (liveAt Try.f4 0) 0 fr = fills_fr l more (i, last, now) := by
  have e : liveAt Try.f4 0 = [1, 6, 7, 5, 0] := by kernel_rfl
  rw [clean_mk (Nat.eq_of_beq_eq_true hl), e]
  show mkF 108 [(1, fr.getD 1 .undef), (6, fr.getD 6 .undef), (7, fr.getD 7 .undef), (5, fr.getD 5 .undef), (0, fr.getD 0 .undef)] = _
  rw [g1, g6, g7, g5, g0]
  kernel_rfl


/-- What is in hand behind i rounds: the slot that was taken last, and the list. -/
def fillTo (l more : List D) : Nat → Int × List D
  | 0 => (-1, l)
  | i + 1 => bif D.getI (nthD more i) == 0 then fillTo l more i else (firstI (fillTo l more i).2, addL (fillTo l more i).2 (D.getI (nthD more i)))
def fullAt (l more : List D) (i : Nat) : Bool := !(D.getI (nthD more i) == 0) && !(fillTo l more i).2.any zeroD
abbrev many3 (more : List D) : Nat := min more.length 300

theorem okL_mk' {ds : List D} (h1 : ∀ d ∈ ds, okE (.int .i64) d = true) (h2 : ds.length ≤ 2 ^ 40) : okL ds = true := by
  unfold okL
  rw [List.all_eq_true.2 h1, decide_eq_true h2]; rfl
theorem okL_add {ds : List D} (h : okL ds = true) (x : Int) : okL (addL ds x) = true := by
  obtain ⟨h1, h2⟩ := okL_spec h
  unfold addL
  cases ds.any zeroD with
  | true =>
    refine okL_mk' (fun d hd => ?_) (by rw [cond_true, List.length_set]; exact h2)
    rcases List.mem_or_eq_of_mem_set hd with hd | rfl
    · exact List.all_eq_true.1 h1 d hd
    · rfl
  | false => rfl

structure FillInv (l : List D) (last : Int) (now : List D) : Prop where
  ok : okL now = true
  len : now.length = l.length
  low : -1 ≤ last
  high : last < l.length
  full : ∀ k : Nat, (k : Int) ≤ last → zeroD (nthD now k) = false

theorem firstI_pos {now : List D} (h : now.any zeroD = true) : firstI now = ((now.findIdx zeroD : Nat) : Int) ∧ now.findIdx zeroD < now.length ∧ zeroD (nthD now (now.findIdx zeroD)) = true ∧ ∀ k, k < now.findIdx zeroD → zeroD (nthD now k) = false := by
  have hlt : now.findIdx zeroD < now.length := List.findIdx_lt_length_of_exists (by simpa [List.any_eq_true] using h)
  refine ⟨by unfold firstI; rw [h]; rfl, hlt, ?_, fun k hk => ?_⟩
  · have := List.findIdx_getElem (w := hlt)
    unfold nthD
    rw [List.getD_eq_getElem?_getD, List.getElem?_eq_getElem hlt]
    exact this
  · have hk' : k < now.length := by omega
    have := List.not_of_lt_findIdx hk
    unfold nthD
    rw [List.getD_eq_getElem?_getD, List.getElem?_eq_getElem hk']
    simpa using this

theorem fillInv_step {l : List D} {last : Int} {now : List D} (h : FillInv l last now) (hz : now.any zeroD = true) {x : Int} (hx : (x == 0) = false) : last < firstI now ∧ FillInv l (firstI now) (addL now x) := by
  obtain ⟨f1, f2, f3, f4⟩ := firstI_pos hz
  have hgt : last < firstI now := by
    rcases Int.lt_or_le last (firstI now) with h1 | h1
    · exact h1
    · have := h.full (now.findIdx zeroD) (by omega)
      rw [f3] at this; simp at this
  have hA : addL now x = now.set (now.findIdx zeroD) (.int .i64 x) := by unfold addL; rw [hz]; rfl
  refine ⟨hgt, okL_add h.ok x, by rw [hA, List.length_set, h.len], by omega, by have := h.len; omega, fun k hk => ?_⟩
  have hk2 : k < now.length := by omega
  rw [hA, nthD_set hk2]
  by_cases hkk : now.findIdx zeroD = k
  · rw [if_pos hkk]
    show (!(x != 0)) = false
    simp only [bne, hx]; rfl
  · rw [if_neg hkk]
    exact f4 k (by omega)

theorem fillTo_inv {l more : List D} (hl : okL l = true) : ∀ i : Nat, (∀ j, j < i → fullAt l more j = false) → FillInv l (fillTo l more i).1 (fillTo l more i).2
  | 0, _ => ⟨hl, rfl, Int.le_refl _, by show (-1 : Int) < _; omega, fun k hk => absurd hk (by show ¬ ((k : Int) ≤ -1); omega)⟩
  | i + 1, hp => by
    have ih := fillTo_inv hl i fun j hj => hp j (by omega)
    have hpi := hp i (by omega)
    unfold fullAt at hpi
    show FillInv l (bif D.getI (nthD more i) == 0 then fillTo l more i else (firstI (fillTo l more i).2, addL (fillTo l more i).2 (D.getI (nthD more i)))).1 (bif D.getI (nthD more i) == 0 then fillTo l more i else (firstI (fillTo l more i).2, addL (fillTo l more i).2 (D.getI (nthD more i)))).2
    cases hx : D.getI (nthD more i) == 0 with
    | true => exact ih
    | false =>
      rw [hx] at hpi
      have hz : (fillTo l more i).2.any zeroD = true := by simpa using hpi
      exact (fillInv_step ih hz hx).2

/-- One is taken more. -/
theorem slots_add {now : List D} (_ : okL now = true) (hz : now.any zeroD = true) {x : Int} (hx : (x == 0) = false) : (slotsTo (addL now x) (addL now x).length).length = (slotsTo now now.length).length + 1 := by
  obtain ⟨f1, f2, f3, f4⟩ := firstI_pos hz
  have hA : addL now x = now.set (now.findIdx zeroD) (.int .i64 x) := by unfold addL; rw [hz]; rfl
  have key : ∀ n : Nat, n ≤ now.length → (slotsTo (addL now x) n).length = (slotsTo now n).length + (if now.findIdx zeroD < n then 1 else 0) := by
    intro n
    induction n with
    | zero => intro _; simp [slotsTo]
    | succ n ih =>
      intro hn
      have ih := ih (by omega)
      have hs : nthD (addL now x) n = if now.findIdx zeroD = n then .int .i64 x else nthD now n := by rw [hA]; exact nthD_set (by omega)
      rw [slotsTo_succ, slotsTo_succ, hs]
      by_cases h : now.findIdx zeroD = n
      · rw [if_pos h]
        have h1 : (D.getI (D.int .i64 x) != 0) = true := by show (x != 0) = true; simp only [bne, hx]; rfl
        have h2 : (D.getI (nthD now n) != 0) = false := by
          rw [← h]
          have : (!(D.getI (nthD now (now.findIdx zeroD)) != 0)) = true := f3
          simpa using this
        rw [h1, h2, cond_true, cond_false, List.length_append, ih, if_neg (by omega), if_pos (by omega)]
        simp
      · rw [if_neg h]
        have e : (if now.findIdx zeroD < n + 1 then 1 else 0) = (if now.findIdx zeroD < n then 1 else 0) := by
          by_cases h3 : now.findIdx zeroD < n
          · rw [if_pos h3, if_pos (by omega)]
          · rw [if_neg h3, if_neg (by omega)]
        rw [e]
        cases D.getI (nthD now n) != 0 with
        | true => rw [cond_true, cond_true, List.length_append, List.length_append, ih]; simp; omega
        | false => rw [cond_false, cond_false, ih]
  have hlen : (addL now x).length = now.length := by rw [hA, List.length_set]
  rw [hlen, key now.length (Nat.le_refl _), if_pos f2]

theorem slots_full {now : List D} (hz : now.any zeroD = false) : (slotsTo now now.length).length = now.length := by
  have key : ∀ n : Nat, n ≤ now.length → (slotsTo now n).length = n := by
    intro n
    induction n with
    | zero => intro _; simp [slotsTo]
    | succ n ih =>
      intro hn
      have : (D.getI (nthD now n) != 0) = true := by
        rw [List.any_eq_false] at hz
        have := hz _ (nthD_mem (show n < now.length by omega))
        simpa using this
      rw [slotsTo_succ, this, cond_true, List.length_append, ih (by omega)]; rfl
  exact key _ (Nat.le_refl _)

def anyFull (l more : List D) : Bool := (List.range (many3 more)).any (fullAt l more)
def outFull (l more : List D) : LOut := (none, mkF 108 [(4, .dat (.bool true))], [rowB 7 (fillTo l more ((List.range (many3 more)).findIdx (fullAt l more))).2])
def outDone (l more : List D) : LOut := (some 0, mkF 108 [(0, .dat (.slc .one l)), (5, .dat (.slc .one (fillTo l more (many3 more)).2))], [])
theorem fills_closed (l more : List D) (hc : (okL l && okL more) = true) : ∃ k, (iterT (fills_step l more) k (0, -1, l)).run = T.run (.br (anyFull l more) (.leaf (outFull l more)) (.leaf (outDone l more))) := by
  rw [Bool.and_eq_true] at hc
  obtain ⟨hl, hm⟩ := hc
  obtain ⟨m1, m2⟩ := okL_spec hm
  have hf : many3 more = min more.length 300 := rfl
  obtain ⟨k, hk⟩ := iter_first (step := fills_step l more) (n := many3 more) (o := fun i => (none, mkF 108 [(4, .dat (.bool true))], [rowB 7 (fillTo l more i).2])) (o' := outDone l more) (fillTo l more) (fullAt l more)
    (fun i hi hp => by
      have hi1 : i < more.length := by omega
      have hI := fillTo_inv (more := more) hl i hp
      have n1 := okL_spec hI.ok
      have c1 := allE_nth m1 hi1
      have c2 := okE_int_fits n1.1
      have c3 : decide ((fillTo l more i).2.length * 8 ≤ 35184372088832) = true := decide_eq_true (by have := n1.2; omega)
      unfold fills_step
      simp only [decide_eq_true (show (i : Int) < (more.length : Int) by omega), decide_eq_true (show (i : Int) < 300 by omega), decide_eq_true (show (0 : Int) ≤ (i : Int) by omega), Int.toNat_natCast, decide_eq_true hi1, c1, c2, c3, hI.ok, wrap_succ (show i < 2 ^ 62 by omega)]
      show _ = some (bif (!(D.getI (nthD more i) == 0) && !(fillTo l more i).2.any zeroD) then _ else Sum.inl (_, bif D.getI (nthD more i) == 0 then fillTo l more i else (firstI (fillTo l more i).2, addL (fillTo l more i).2 (D.getI (nthD more i)))))
      cases hx : D.getI (nthD more i) == 0 with
      | true => rfl
      | false =>
        cases hz : (fillTo l more i).2.any zeroD with
        | false =>
          have e1 : firstE (fillTo l more i).2 = 8 := by unfold firstE; rw [hz]; rfl
          have e2 : (((slotsTo (fillTo l more i).2 (fillTo l more i).2.length).length : Int) == (l.length : Int)) = true := by rw [slots_full hz, hI.len]; exact beq_self_eq_true _
          rw [e1, e2]; rfl
        | true =>
          obtain ⟨f1, f2, f3, f4⟩ := firstI_pos hz
          obtain ⟨s1, s2⟩ := fillInv_step hI hz hx
          have s3 := slots_add hI.ok hz hx
          have e1 : firstE (fillTo l more i).2 = 0 := by unfold firstE; rw [hz]; rfl
          have hA : addL (fillTo l more i).2 (D.getI (nthD more i)) = (fillTo l more i).2.set ((fillTo l more i).2.findIdx zeroD) (.int .i64 (D.getI (nthD more i))) := by unfold addL; rw [hz]; rfl
          have q1 := okL_spec s2.ok
          have t1 : (firstI (fillTo l more i).2).toNat = (fillTo l more i).2.findIdx zeroD := by rw [f1]; exact Int.toNat_natCast _
          have d1 := decide_eq_false (show ¬ firstI (fillTo l more i).2 ≤ (fillTo l more i).1 by omega)
          have d2 := decide_eq_false (show ¬ firstI (fillTo l more i).2 ≥ (l.length : Int) by have := s2.high; omega)
          have d3 : (((addL (fillTo l more i).2 (D.getI (nthD more i))).length : Int) != (l.length : Int)) = false := by rw [s2.len]; exact bne_self_eq_false _
          have d4 := okE_int_fits q1.1
          have d5 : decide ((addL (fillTo l more i).2 (D.getI (nthD more i))).length * 8 ≤ 35184372088832) = true := decide_eq_true (by have := q1.2; omega)
          have d6 : (((slotsTo (addL (fillTo l more i).2 (D.getI (nthD more i))) (addL (fillTo l more i).2 (D.getI (nthD more i))).length).length : Int) != IntKind.wrap .i64 (((slotsTo (fillTo l more i).2 (fillTo l more i).2.length).length : Int) + 1)) = false := by
            have h5 := slotsTo_len (fillTo l more i).2 (fillTo l more i).2.length
            have h6 := n1.2
            rw [s3, wrap_succ (by omega)]
            exact bne_self_eq_false _
          have d7 := decide_eq_true (show (0 : Int) ≤ firstI (fillTo l more i).2 by omega)
          have hlt : (fillTo l more i).2.findIdx zeroD < (addL (fillTo l more i).2 (D.getI (nthD more i))).length := by rw [hA, List.length_set]; exact f2
          have d8 := decide_eq_true hlt
          have d9 := allE_nth q1.1 hlt
          have d10 : nthD (addL (fillTo l more i).2 (D.getI (nthD more i))) ((fillTo l more i).2.findIdx zeroD) = .int .i64 (D.getI (nthD more i)) := by rw [hA, nthD_set f2, if_pos rfl]
          have d11 := allE_nth n1.1 f2
          have d12 : (D.getI (nthD (fillTo l more i).2 ((fillTo l more i).2.findIdx zeroD)) != 0) = false := by
            have : (!(D.getI (nthD (fillTo l more i).2 ((fillTo l more i).2.findIdx zeroD)) != 0)) = true := f3
            simpa using this
          have d13 := decide_eq_true f2
          simp only [e1, t1, d1, d2, d3, d4, d5, s2.ok, d6, d7, d8, d9, d11, d12, d13]
          rw [d10]
          show (T.br _ _ (T.br _ _ _)).run = _
          simp only [bne_self_eq_false, show D.getI (D.int .i64 (D.getI (nthD more i))) = D.getI (nthD more i) from rfl]
          rfl)
    (fun _ => by
      unfold fills_step
      by_cases h : many3 more < more.length
      · simp only [decide_eq_true (show ((many3 more : Nat) : Int) < (more.length : Int) by omega), decide_eq_false (show ¬ ((many3 more : Nat) : Int) < 300 by omega)]
        rfl
      · simp only [decide_eq_false (show ¬ ((many3 more : Nat) : Int) < (more.length : Int) by omega)]
        rfl)
  refine ⟨k, hk.trans ?_⟩
  show some (bif anyFull l more then _ else _) = _
  cases anyFull l more <;> rfl

def L_fills : Frame' → Store → T (Exit × Frame' × Store) := fun fr σ => match fr.getD 0 .undef, fr.getD 1 .undef, fr.getD 5 .undef, fr.getD 6 .undef, fr.getD 7 .undef, σ with
  | AV.dat (D.slc Sh.one l), AV.dat (D.slc Sh.one more), AV.dat (D.slc Sh.one now), AV.dat (D.int IntKind.i64 (-1)), AV.dat (D.int IntKind.i64 0), [] => .chk (Nat.beq fr.length 108 && (D.eqbL now l && (okL l && okL more))) (T.bind (.br (anyFull l more) (.leaf (outFull l more)) (.leaf (outDone l more))) fun o => .leaf (outEx o.1, o.2.1, o.2.2))
  | _, _, _, _, _, _ => .fail
theorem fills_sem (lp : Loops) : ∀ fr σ p, (L_fills fr σ).run = some p → ∀ (K : Kt) r, K p.1 p.2.1 p.2.2 = some r → ∃ n, loopRun (envOf tab Sr [] lp H4) Try.f4 0 σ.length n (cleanF (liveAt Try.f4 0) 0 fr) σ K = some r := by
  intro fr σ p h K r hK
  unfold L_fills at h
  split at h
  · rename_i l more now g0 g1 g5 g6 g7
    obtain ⟨hc, h'⟩ := T.chk_some h
    rw [Bool.and_eq_true] at hc
    obtain ⟨hl, hc⟩ := hc
    obtain ⟨o, ho, h'⟩ := T.bind_some h'
    have hp := T.leaf_some h'
    subst hp
    obtain ⟨nF, hn⟩ : ∃ nF, (iterT (fills_step l more) nF ((0, -1, now))).run = T.run (.br (anyFull l more) (.leaf (outFull l more)) (.leaf (outDone l more))) := (by rw [Bool.and_eq_true] at hc; rw [D.eqL_of_eqb hc.1]; exact fills_closed l more hc.2)
    rw [ho] at hn
    refine ⟨nF, ?_⟩
    have he : cleanF (liveAt Try.f4 0) 0 fr = fills_fr l more ((0, -1, now)) := fills_enter l more _ _ _ fr hl g0 g1 g5 g6 g7
    refine (iter_ok (base := 0) (fills_hr lp l more) K nF ((0, -1, now)) _ _ (by rw [clean_clean]; exact he) (by kernel_rfl)).trans ?_
    rw [T.k_run hn]
    exact hK
  · simp [T.run_fail] at h
theorem fills_loopOk (lp : Loops) (hk : Loops.get lp 6 = some L_fills) : LoopOk (envOf tab Sr [] lp H4) (loopAt Try.f4 0).1 (loopAt Try.f4 0).2 := loop_ok (L := L_fills) hk (fills_sem lp)


abbrev E4 : Env := envOf tab Sr [] [(6, L_fills)] H4
theorem fills_run (l more : List D) : runF E4 true Try.f4 [.dat (.slc .one l), .dat (.slc .one more)] [] =
  (bif decide ((↑(List.length l) : Int) > (200 : Int)) then some ([AV.dat (D.bool true)], []) else 
   (bif D.eqbL l l && (okL l && okL more) then 
    (bif anyFull l more then some ([AV.dat (D.bool true)], []) else 
     (bif D.eqb (D.bool ((↑(List.length (Prod.snd (fillTo l more (many3 more)))) : Int) == (↑(List.length l) : Int))) (D.bool true) then some ([AV.dat (D.bool true)], []) else none)) else none)) := by kernel_rfl

end Go.Proofs.Ytdgphkifajcejaa
