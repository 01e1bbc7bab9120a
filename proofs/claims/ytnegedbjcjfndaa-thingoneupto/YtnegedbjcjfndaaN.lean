/- Seat 16: ThingOne's loops. -/
import Derived.Test.YtnegedbjcjfndaaK
namespace Go.Proofs.Ytnegedbjcjfndaa
open Go.AX
set_option maxRecDepth 100000

abbrev SpO : Specs := [(6, C_right), (7, C_alive), (8, C_held), (9, C_lying)]
theorem SpO_ok : SpecsOk Try.prog SpO := .cons cright_ok (.cons calive_ok (.cons cheld_ok (.cons clying_ok (.nil _))))
/-- Numbers, one for each slot. -/
def cnt (f : Nat → Int) (n : Nat) : List D := (List.range n).map fun j => D.int .i64 (f j)
theorem beq_ne {i j : Nat} (h : i ≠ j) : Nat.beq i j = false := by
  cases hb : Nat.beq i j with
  | false => rfl
  | true => exact absurd (Nat.eq_of_beq_eq_true hb) h
theorem cnt_len (f : Nat → Int) (n : Nat) : (cnt f n).length = n := by unfold cnt; simp
theorem cnt_nth (f : Nat → Int) {n i : Nat} (h : i < n) : nthD (cnt f n) i = D.int .i64 (f i) := by
  unfold nthD cnt
  rw [List.getD_eq_getElem?_getD, List.getElem?_map, List.getElem?_range h]; rfl
theorem cnt_ext {f g : Nat → Int} {n : Nat} (h : ∀ i, i < n → f i = g i) : cnt f n = cnt g n := by
  unfold cnt
  refine List.map_congr_left fun i hi => ?_
  rw [h i (by simpa using hi)]
theorem cnt_set (f : Nat → Int) {n i : Nat} (_h : i < n) (x : Int) : (cnt f n).set i (.int .i64 x) = cnt (fun j => bif Nat.beq j i then x else f j) n := by
  refine List.ext_getElem? fun j => ?_
  unfold cnt
  by_cases hj : j = i
  · subst hj
    rw [List.getElem?_set_self (by simpa using _h), List.getElem?_map, List.getElem?_range _h]
    show some _ = some (D.int .i64 (bif Nat.beq j j then x else f j))
    rw [beq_self]; rfl
  · rw [List.getElem?_set_ne (fun e => hj e.symm), List.getElem?_map, List.getElem?_map]
    have e : Nat.beq j i = false := beq_ne hj
    cases hr : (List.range n)[j]? with
    | none => rfl
    | some y =>
      have : y = j := by
        have := List.getElem?_eq_some_iff.1 hr
        obtain ⟨_, h2⟩ := this
        simpa using h2.symm
      subst this
      show some _ = some (D.int .i64 (bif Nat.beq y i then x else f y))
      rw [e]; rfl
def incS (out : List D) (d : D) : List D := out.set (D.getI d).toNat (.int .i64 (IntKind.wrap .i64 (D.getI (nthD out (D.getI d).toNat) + 1)))
def incI (i : Int) (out : List D) (d : D) : List D := bif D.getI d == i then out.set i.toNat (.int .i64 (IntKind.wrap .i64 (D.getI (nthD out i.toNat) + 1))) else out
theorem wrap_one {x : Int} (_h0 : 0 ≤ x) (_h1 : x < 1000) : IntKind.wrap .i64 (x + 1) = x + 1 := by rw [IntKind.wrap_i64]; omega
theorem inc_col (p : Nat → Bool) (f : Nat → Int) {n : Nat} (hf : ∀ j, 0 ≤ f j ∧ f j < 1000) : ∀ n', n' ≤ n → (colTo p n').foldl incS (cnt f n) = cnt (fun j => bif p j && decide (j < n') then f j + 1 else f j) n
  | 0, _ => by
    show cnt f n = _
    refine cnt_ext fun i _ => ?_
    rw [decide_eq_false (Nat.not_lt_zero i), Bool.and_false]; rfl
  | n' + 1, h => by
    have ih := inc_col p f hf n' (Nat.le_of_succ_le h)
    have ec : colTo p (n' + 1) = bif p n' then colTo p n' ++ [D.int .i64 (n' : Int)] else colTo p n' := rfl
    rw [ec]
    cases hp : p n' with
    | false =>
      rw [cond_false, ih]
      refine cnt_ext fun i _ => ?_
      by_cases hi : i = n'
      · subst hi; rw [hp]; rfl
      · have : decide (i < n' + 1) = decide (i < n') := decide_eq_decide.2 (by omega)
        rw [this]
    | true =>
      rw [cond_true, List.foldl_append, ih]
      show incS _ (D.int .i64 (n' : Int)) = _
      unfold incS
      show (cnt _ n).set ((n' : Int)).toNat _ = _
      rw [show D.getI (D.int .i64 (n' : Int)) = (n' : Int) from rfl, Int.toNat_natCast, cnt_nth _ (i := n') (show n' < n by omega)]
      show (cnt _ n).set n' (D.int .i64 (IntKind.wrap .i64 ((bif p n' && decide (n' < n') then f n' + 1 else f n') + 1))) = _
      rw [decide_eq_false (Nat.lt_irrefl n'), Bool.and_false, cond_false, wrap_one (hf n').1 (hf n').2, cnt_set _ (i := n') (show n' < n by omega)]
      refine cnt_ext fun i _ => ?_
      by_cases hi : i = n'
      · subst hi
        rw [beq_self, hp, decide_eq_true (Nat.lt_succ_self i)]; rfl
      · have e1 : Nat.beq i n' = false := beq_ne hi
        have e2 : decide (i < n' + 1) = decide (i < n') := decide_eq_decide.2 (by omega)
        rw [e1, e2]; rfl
theorem inc_one (p : Nat → Bool) (f : Nat → Int) {n i : Nat} (hi : i < n) (hf : ∀ j, 0 ≤ f j ∧ f j < 1000) : ∀ n', n' ≤ n → (colTo p n').foldl (incI (i : Int)) (cnt f n) = cnt (fun j => bif Nat.beq j i && (p i && decide (i < n')) then f j + 1 else f j) n
  | 0, _ => by
    show cnt f n = _
    refine cnt_ext fun j _ => ?_
    rw [decide_eq_false (Nat.not_lt_zero i), Bool.and_false, Bool.and_false]; rfl
  | n' + 1, h => by
    have ih := inc_one p f hi hf n' (Nat.le_of_succ_le h)
    have ec : colTo p (n' + 1) = bif p n' then colTo p n' ++ [D.int .i64 (n' : Int)] else colTo p n' := rfl
    rw [ec]
    by_cases he : n' = i
    · subst he
      cases hp : p n' with
      | false =>
        rw [cond_false, ih]
        refine cnt_ext fun j _ => ?_
        rw [hp]; rfl
      | true =>
        rw [cond_true, List.foldl_append, ih]
        show incI (n' : Int) _ (D.int .i64 (n' : Int)) = _
        unfold incI
        rw [show D.getI (D.int .i64 (n' : Int)) = (n' : Int) from rfl, show ((n' : Int) == (n' : Int)) = true by simp, cond_true, Int.toNat_natCast, cnt_nth _ hi]
        show (cnt _ n).set n' (D.int .i64 (IntKind.wrap .i64 ((bif Nat.beq n' n' && (p n' && decide (n' < n')) then f n' + 1 else f n') + 1))) = _
        rw [decide_eq_false (Nat.lt_irrefl n'), Bool.and_false, Bool.and_false, cond_false, wrap_one (hf n').1 (hf n').2, cnt_set _ hi]
        refine cnt_ext fun j _ => ?_
        by_cases hj : j = n'
        · subst hj
          rw [beq_self, decide_eq_true (Nat.lt_succ_self j)]; rfl
        · have e1 : Nat.beq j n' = false := beq_ne hj
          rw [e1]; rfl
    · have e2 : decide (i < n' + 1) = decide (i < n') := decide_eq_decide.2 (by omega)
      have e3 : (bif p n' then colTo p n' ++ [D.int .i64 (n' : Int)] else colTo p n').foldl (incI (i : Int)) (cnt f n) = (colTo p n').foldl (incI (i : Int)) (cnt f n) := by
        cases p n' with
        | false => rfl
        | true =>
          rw [cond_true, List.foldl_append]
          show incI (i : Int) _ (D.int .i64 (n' : Int)) = _
          unfold incI
          have : ((n' : Int) == (i : Int)) = false := by simp; omega
          rw [show D.getI (D.int .i64 (n' : Int)) = (n' : Int) from rfl, this]; rfl
      rw [e3, ih, e2]
abbrev okC (n : Nat) (out : List D) : Bool := out.all (okE (.int .i64)) && Nat.beq out.length n
theorem incS_ok {n : Nat} {out : List D} (h : okC n out = true) (d : D) : okC n (incS out d) = true := by
  simp only [Bool.and_eq_true] at h ⊢
  refine ⟨?_, by unfold incS; rw [List.length_set]; exact h.2⟩
  unfold incS
  rw [List.all_eq_true] at h ⊢
  intro x hx
  rcases List.mem_or_eq_of_mem_set hx with hx | rfl
  · exact h.1 x hx
  · rfl
theorem incI_ok {n : Nat} {out : List D} (h : okC n out = true) (i : Int) (d : D) : okC n (incI i out d) = true := by
  unfold incI
  cases D.getI d == i with
  | false => exact h
  | true =>
    simp only [Bool.and_eq_true] at h ⊢
    refine ⟨?_, by rw [cond_true, List.length_set]; exact h.2⟩
    rw [cond_true, List.all_eq_true]
    intro x hx
    rcases List.mem_or_eq_of_mem_set hx with hx | rfl
    · exact List.all_eq_true.1 h.1 x hx
    · rfl
def oi_fr (ls hs : List D) (w : Int) : (Int × Nat × Nat × List D) → Frame' := fun ⟨j, m, k, _⟩ => mkF 123 [(0, .dat (.slc (.agg [.one, .one, .one, .one, .agg [.one, .one]]) ls)), (3, .sref .one 0 m [] 0 k), (4, .dat (.int .i64 w)), (5, .dat (.slc .one hs)), (6, .dat (.int .i64 j))]
def oi_st (_ls _hs : List D) (_w : Int) : (Int × Nat × Nat × List D) → Store := fun ⟨_, _, _, out⟩ => [mkDyn .one out]
def oi_step (ls hs : List D) (w : Int) : (Int × Nat × Nat × List D) → T ((Int × Nat × Nat × List D) ⊕ LOut) := fun ⟨j, m, k, out⟩ => 
  .chk (!decide (j < (↑(List.length hs) : Int)) || decide (0 ≤ j) && (decide (Int.toNat j < List.length hs) && (okE (Ek.int IntKind.i64) (nthD hs (Int.toNat j)) && (decide (D.getI (nthD hs (Int.toNat j)) < 0) || (decide ((↑(List.length ls) : Int) ≤ D.getI (nthD hs (Int.toNat j))) || decide (0 ≤ D.getI (nthD hs (Int.toNat j))) && (decide (D.getI (nthD hs (Int.toNat j)) < (↑k : Int)) && (Nat.beq (List.length out) m && (decide (0 + Int.toNat (D.getI (nthD hs (Int.toNat j))) < List.length out) && (okE (Ek.int IntKind.i64) (nthD out (0 + Int.toNat (D.getI (nthD hs (Int.toNat j))))) && Sh.eqb (D.shape (nthD out (0 + Int.toNat (D.getI (nthD hs (Int.toNat j)))))) Sh.one))))))))) (
   .br (!decide (j < (↑(List.length hs) : Int))) (.leaf (.inr ((some 2), mkF 123 [(0, .dat (.slc (Sh.agg [Sh.one, Sh.one, Sh.one, Sh.one, Sh.agg [Sh.one, Sh.one]]) ls)), (3, AV.sref Sh.one 0 m [] 0 k), (4, .dat (.int .i64 w))], [{ sh := Sh.arr Sh.one 0, dyn := true, frz := false, v := .dat (.arr Sh.one out) }]))) (
    .br (decide (j < (↑(List.length hs) : Int)) && (decide (D.getI (nthD hs (Int.toNat j)) < 0) || decide ((↑(List.length ls) : Int) ≤ D.getI (nthD hs (Int.toNat j))))) (.leaf (.inr (none, mkF 123 [(2, .dat (.bool false))], [{ sh := Sh.arr Sh.one 0, dyn := true, frz := false, v := .dat (.arr Sh.one out) }]))) (.leaf (.inl ((IntKind.wrap IntKind.i64 (j + 1)), (m), (k), (List.set out (0 + Int.toNat (D.getI (nthD hs (Int.toNat j)))) (D.int .i64 (IntKind.wrap IntKind.i64 (D.getI (nthD out (0 + Int.toNat (D.getI (nthD hs (Int.toNat j))))) + 1)))))))))
theorem oi_round (lp : Loops) (ls hs : List D) (w : Int) (j : Int) (m k : Nat) (out : List D) (K : Kt) : oneRound (envOf tab SpO [] lp []) Try.f3 1 (1) (mkF 123 [(0, .dat (.slc (.agg [.one, .one, .one, .one, .agg [.one, .one]]) ls)), (3, .sref .one 0 m [] 0 k), (4, .dat (.int .i64 w)), (5, .dat (.slc .one hs)), (6, .dat (.int .i64 j))]) ([mkDyn .one out]) K =
  (bif decide (j < (↑(List.length hs) : Int)) then 
   (bif decide (0 ≤ j) then 
    (bif decide (Int.toNat j < List.length hs) then 
     (bif okE (Ek.int IntKind.i64) (nthD hs (Int.toNat j)) then 
      (bif decide (D.getI (nthD hs (Int.toNat j)) < 0) then K (Exit.ret) (mkF 123 [(2, .dat (.bool false))]) ([{ sh := Sh.arr Sh.one 0, dyn := true, frz := false, v := .dat (.arr Sh.one out) }]) else 
       (bif decide (0 ≤ j) then 
        (bif decide (Int.toNat j < List.length hs) then 
         (bif okE (Ek.int IntKind.i64) (nthD hs (Int.toNat j)) then 
          (bif decide (D.getI (nthD hs (Int.toNat j)) ≥ (↑(List.length ls) : Int)) then K (Exit.ret) (mkF 123 [(2, .dat (.bool false))]) ([{ sh := Sh.arr Sh.one 0, dyn := true, frz := false, v := .dat (.arr Sh.one out) }]) else 
           (bif decide (0 ≤ j) then 
            (bif decide (Int.toNat j < List.length hs) then 
             (bif okE (Ek.int IntKind.i64) (nthD hs (Int.toNat j)) then 
              (bif decide (0 ≤ D.getI (nthD hs (Int.toNat j))) then 
               (bif decide (D.getI (nthD hs (Int.toNat j)) < (↑k : Int)) then 
                (bif Nat.beq (List.length out) m && true then 
                 (bif decide (0 + Int.toNat (D.getI (nthD hs (Int.toNat j))) < List.length out) then 
                  (bif okE (Ek.int IntKind.i64) (nthD out (0 + Int.toNat (D.getI (nthD hs (Int.toNat j))))) then 
                   (bif decide (0 ≤ D.getI (nthD hs (Int.toNat j))) then 
                    (bif decide (D.getI (nthD hs (Int.toNat j)) < (↑k : Int)) then 
                     (bif Nat.beq (List.length out) m && true && true then 
                      (bif decide (0 + Int.toNat (D.getI (nthD hs (Int.toNat j))) < List.length out) then 
                       (bif Sh.eqb (D.shape (nthD out (0 + Int.toNat (D.getI (nthD hs (Int.toNat j)))))) Sh.one then K (Exit.normal) (mkF 123 [(0, .dat (.slc (Sh.agg [Sh.one, Sh.one, Sh.one, Sh.one, Sh.agg [Sh.one, Sh.one]]) ls)), (3, AV.sref Sh.one 0 m [] 0 k), (4, .dat (.int .i64 w)), (5, .dat (.slc Sh.one hs)), (6, .dat (.int .i64 (IntKind.wrap IntKind.i64 (j + 1)))), (35, .dat (.int .i64 j)), (36, .dat (.int .i64 (IntKind.wrap IntKind.i64 (j + 1))))]) ([{ sh := Sh.arr Sh.one 0, dyn := true, frz := false, v := .dat (.arr Sh.one (List.set out (0 + Int.toNat (D.getI (nthD hs (Int.toNat j)))) (D.int .i64 (IntKind.wrap IntKind.i64 (D.getI (nthD out (0 + Int.toNat (D.getI (nthD hs (Int.toNat j))))) + 1))))) }]) else none) else none) else none) else none) else none) else none) else none) else none) else none) else none) else none) else none) else none)) else none) else none) else none)) else none) else none) else none) else K (Exit.exit 2) (mkF 123 [(0, .dat (.slc (Sh.agg [Sh.one, Sh.one, Sh.one, Sh.one, Sh.agg [Sh.one, Sh.one]]) ls)), (3, AV.sref Sh.one 0 m [] 0 k), (4, .dat (.int .i64 w))]) ([{ sh := Sh.arr Sh.one 0, dyn := true, frz := false, v := .dat (.arr Sh.one out) }])) := by kernel_rfl
theorem oi_hr (lp : Loops) (ls hs : List D) (w : Int) : ∀ (sA : (Int × Nat × Nat × List D)) (K : Kt) (N : (Int × Nat × Nat × List D) → Option Res), (∀ sB fr' σ', cleanF (liveAt Try.f3 1) 0 fr' = oi_fr ls hs w sB → trim (1) (oi_fr ls hs w sB) σ' = oi_st ls hs w sB → K .normal fr' σ' = N sB) →
    oneRound (envOf tab SpO [] lp []) Try.f3 1 (1) (oi_fr ls hs w sA) (oi_st ls hs w sA) K = (oi_step ls hs w sA).k (LK K N) := by
  intro sA K N hN
  obtain ⟨j, m, k, out⟩ := sA
  refine (oi_round lp ls hs w j m k out K).trans ?_
  show _ = T.k ((
  .chk (!decide (j < (↑(List.length hs) : Int)) || decide (0 ≤ j) && (decide (Int.toNat j < List.length hs) && (okE (Ek.int IntKind.i64) (nthD hs (Int.toNat j)) && (decide (D.getI (nthD hs (Int.toNat j)) < 0) || (decide ((↑(List.length ls) : Int) ≤ D.getI (nthD hs (Int.toNat j))) || decide (0 ≤ D.getI (nthD hs (Int.toNat j))) && (decide (D.getI (nthD hs (Int.toNat j)) < (↑k : Int)) && (Nat.beq (List.length out) m && (decide (0 + Int.toNat (D.getI (nthD hs (Int.toNat j))) < List.length out) && (okE (Ek.int IntKind.i64) (nthD out (0 + Int.toNat (D.getI (nthD hs (Int.toNat j))))) && Sh.eqb (D.shape (nthD out (0 + Int.toNat (D.getI (nthD hs (Int.toNat j)))))) Sh.one))))))))) (
   .br (!decide (j < (↑(List.length hs) : Int))) (.leaf (.inr ((some 2), mkF 123 [(0, .dat (.slc (Sh.agg [Sh.one, Sh.one, Sh.one, Sh.one, Sh.agg [Sh.one, Sh.one]]) ls)), (3, AV.sref Sh.one 0 m [] 0 k), (4, .dat (.int .i64 w))], [{ sh := Sh.arr Sh.one 0, dyn := true, frz := false, v := .dat (.arr Sh.one out) }]))) (
    .br (decide (j < (↑(List.length hs) : Int)) && (decide (D.getI (nthD hs (Int.toNat j)) < 0) || decide ((↑(List.length ls) : Int) ≤ D.getI (nthD hs (Int.toNat j))))) (.leaf (.inr (none, mkF 123 [(2, .dat (.bool false))], [{ sh := Sh.arr Sh.one 0, dyn := true, frz := false, v := .dat (.arr Sh.one out) }]))) (.leaf (.inl ((IntKind.wrap IntKind.i64 (j + 1)), (m), (k), (List.set out (0 + Int.toNat (D.getI (nthD hs (Int.toNat j)))) (D.int .i64 (IntKind.wrap IntKind.i64 (D.getI (nthD out (0 + Int.toNat (D.getI (nthD hs (Int.toNat j))))) + 1)))))))))) : T ((Int × Nat × Nat × List D) ⊕ LOut)) (LK K N)
  generalize (decide (0 + Int.toNat (D.getI (nthD hs (Int.toNat j))) < List.length out)) = z0
  generalize (decide ((↑(List.length ls) : Int) ≤ D.getI (nthD hs (Int.toNat j)))) = z1
  generalize (decide (0 ≤ D.getI (nthD hs (Int.toNat j)))) = z2
  generalize (decide (D.getI (nthD hs (Int.toNat j)) < 0)) = z3
  generalize (Sh.eqb (D.shape (nthD out (0 + Int.toNat (D.getI (nthD hs (Int.toNat j)))))) Sh.one) = z4
  generalize (okE (Ek.int IntKind.i64) (nthD out (0 + Int.toNat (D.getI (nthD hs (Int.toNat j)))))) = z5
  generalize (decide (D.getI (nthD hs (Int.toNat j)) < (↑k : Int))) = z6
  generalize (decide (j < (↑(List.length hs) : Int))) = z7
  generalize (decide (0 ≤ j)) = z8
  generalize (decide (Int.toNat j < List.length hs)) = z9
  generalize (okE (Ek.int IntKind.i64) (nthD hs (Int.toNat j))) = z10
  generalize (Nat.beq (List.length out) m) = z11
  cases z7 with
  | true =>
   cases z8 with
   | true =>
    cases z9 with
    | true =>
     cases z10 with
     | true =>
      cases z3 with
      | true =>
       rfl
      | false =>
       cases z1 with
       | true =>
        rfl
       | false =>
        cases z2 with
        | true =>
         cases z6 with
         | true =>
          cases z11 with
          | true =>
           cases z0 with
           | true =>
            cases z5 with
            | true =>
             cases z4 with
             | true =>
              exact hN _ _ _ (by kernel_rfl) (by kernel_rfl)
             | false =>
              rfl
            | false =>
             rfl
           | false =>
            rfl
          | false =>
           rfl
         | false =>
          rfl
        | false =>
         rfl
     | false =>
      rfl
    | false =>
     rfl
   | false =>
    rfl
  | false =>
   rfl
theorem oi_enter (ls hs : List D) (w : Int) (j : Int) (m k : Nat) (out : List D) (fr : Frame') (hl : Nat.beq fr.length 123 = true) (g0 : fr.getD 0 .undef = .dat (.slc (Sh.agg [Sh.one, Sh.one, Sh.one, Sh.one, Sh.agg [Sh.one, Sh.one]]) ls)) (g3 : fr.getD 3 .undef = AV.sref Sh.one 0 m [] 0 k) (g4 : fr.getD 4 .undef = .dat (.int .i64 w)) (g5 : fr.getD 5 .undef = .dat (.slc Sh.one hs)) (g6 : fr.getD 6 .undef = .dat (.int .i64 j)) : cleanF (liveAt Try.f3 1) 0 fr = oi_fr ls hs w (j, m, k, out) := by
  have e : liveAt Try.f3 1 = [5, 6, 4, 0, 3] := by kernel_rfl
  rw [clean_mk (Nat.eq_of_beq_eq_true hl), e]
  show mkF 123 [(5, fr.getD 5 .undef), (6, fr.getD 6 .undef), (4, fr.getD 4 .undef), (0, fr.getD 0 .undef), (3, fr.getD 3 .undef)] = _
  rw [g5, g6, g4, g0, g3]
  kernel_rfl

abbrev oiC (ls hs out : List D) (m k : Nat) : Bool := Nat.beq m ls.length && (Nat.beq k ls.length && (okC ls.length out && (okPl ls.length hs && decide (hs.length ≤ 1099511627776))))
theorem oi_closed (ls hs : List D) (w : Int) (m k : Nat) (out : List D) (hc : oiC ls hs out m k = true) :
    ∃ z, (iterT (oi_step ls hs w) z (0, m, k, out)).run = T.run (.leaf (some 2, mkF 123 [(0, .dat (.slc (.agg [.one, .one, .one, .one, .agg [.one, .one]]) ls)), (3, .sref .one 0 m [] 0 k), (4, .dat (.int .i64 w))], [mkDyn .one (hs.foldl incS out)])) := by
  simp only [oiC, Bool.and_eq_true, decide_eq_true_eq] at hc
  obtain ⟨hm, hk, ho, hp, hl⟩ := hc
  obtain rfl := Nat.eq_of_beq_eq_true hm
  obtain rfl := Nat.eq_of_beq_eq_true hk
  have key := iter_fold (step := oi_step ls hs w) (ls := hs) (S := Nat × Nat × List D) (f := fun s d => (s.1, s.2.1, incS s.2.2 d)) (o := fun s => (some 2, mkF 123 [(0, .dat (.slc (.agg [.one, .one, .one, .one, .agg [.one, .one]]) ls)), (3, .sref .one 0 s.1 [] 0 s.2.1), (4, .dat (.int .i64 w))], [mkDyn .one s.2.2]))
    (fun _ s => s.1 = ls.length ∧ s.2.1 = ls.length ∧ okC ls.length s.2.2 = true) (fun i s hi hs' => ?_) (fun s _ => ?_) (ls.length, ls.length, out) ⟨rfl, rfl, by simp only [okC, Bool.and_eq_true]; exact ho⟩
  · have e : ∀ (l : List D) (x : List D), l.foldl (fun (s : Nat × Nat × List D) d => (s.1, s.2.1, incS s.2.2 d)) (ls.length, ls.length, x) = (ls.length, ls.length, l.foldl incS x) := by
      intro l
      induction l with
      | nil => intro x; rfl
      | cons d l ih => intro x; exact ih _
    rw [e] at key
    exact key
  · obtain ⟨s1, s2, o2⟩ := s
    have f1 : s1 = ls.length := hs'.1
    have f2 : s2 = ls.length := hs'.2.1
    have f3 : okC ls.length o2 = true := hs'.2.2
    clear hs'
    subst f1 f2
    refine ⟨?_, rfl, rfl, incS_ok f3 _⟩
    have hq := List.all_eq_true.1 hp _ (nthD_mem hi)
    simp only [Bool.and_eq_true, decide_eq_true_eq] at hq f3
    obtain ⟨q1, q2, q3⟩ := hq
    have hlen := Nat.eq_of_beq_eq_true f3.2
    obtain ⟨j, hj⟩ : ∃ j : Nat, D.getI (nthD hs i) = (j : Int) := ⟨(D.getI (nthD hs i)).toNat, by omega⟩
    have hjo : j < o2.length := by omega
    obtain ⟨z, hz⟩ := okE_int (allE_nth f3.1 hjo)
    unfold oi_step incS
    simp only [decide_eq_true (show (i : Int) < (hs.length : Int) by omega), decide_eq_true (show 0 ≤ (i : Int) by omega), decide_eq_true hi, Int.toNat_natCast, q1, hj, hz, decide_eq_false (show ¬ (j : Int) < 0 by omega), decide_eq_false (show ¬ (ls.length : Int) ≤ (j : Int) by omega), decide_eq_true (show 0 ≤ (j : Int) by omega), decide_eq_true (show (j : Int) < (ls.length : Int) by omega), hlen, beq_self, Nat.zero_add, decide_eq_true (show j < ls.length by omega), wrap_succ (show i < 2 ^ 62 by omega), Bool.not_true, Bool.false_or, Bool.true_and, Bool.or_false, Bool.and_false, T.run_br, T.run_chk, T.run_leaf, cond_false]
    rfl
  · obtain ⟨s1, s2, o2⟩ := s
    unfold oi_step
    simp only [decide_eq_false (show ¬ (hs.length : Int) < (hs.length : Int) by omega)]
    rfl
def L_oi : Frame' → Store → T (Exit × Frame' × Store) := fun fr σ => match fr.getD 0 .undef, fr.getD 3 .undef, fr.getD 4 .undef, fr.getD 5 .undef, fr.getD 6 .undef, σ with
  | AV.dat (D.slc (Sh.agg [Sh.one, Sh.one, Sh.one, Sh.one, Sh.agg [Sh.one, Sh.one]]) ls), AV.sref Sh.one 0 m [] 0 k, AV.dat (D.int IntKind.i64 w), AV.dat (D.slc Sh.one hs), AV.dat (D.int IntKind.i64 0), [{ sh := Sh.arr Sh.one 0, dyn := true, frz := false, v := AV.dat (D.arr Sh.one out) }] => .chk (Nat.beq fr.length 123 && (oiC ls hs out m k)) (T.bind (.leaf (some 2, mkF 123 [(0, .dat (.slc (.agg [.one, .one, .one, .one, .agg [.one, .one]]) ls)), (3, .sref .one 0 m [] 0 k), (4, .dat (.int .i64 w))], [mkDyn .one (hs.foldl incS out)])) fun o => .leaf (outEx o.1, o.2.1, o.2.2))
  | _, _, _, _, _, _ => .fail
theorem oi_sem (lp : Loops) : ∀ fr σ p, (L_oi fr σ).run = some p → ∀ (K : Kt) r, K p.1 p.2.1 p.2.2 = some r → ∃ n, loopRun (envOf tab SpO [] lp []) Try.f3 1 σ.length n (cleanF (liveAt Try.f3 1) 0 fr) σ K = some r := by
  intro fr σ p h K r hK
  unfold L_oi at h
  split at h
  · rename_i ls m k w hs out g0 g3 g4 g5 g6
    obtain ⟨hc, h'⟩ := T.chk_some h
    rw [Bool.and_eq_true] at hc
    obtain ⟨hl, hc⟩ := hc
    obtain ⟨o, ho, h'⟩ := T.bind_some h'
    have hp := T.leaf_some h'
    subst hp
    obtain ⟨nF, hn⟩ : ∃ nF, (iterT (oi_step ls hs w) nF ((0, m, k, out))).run = T.run (.leaf (some 2, mkF 123 [(0, .dat (.slc (.agg [.one, .one, .one, .one, .agg [.one, .one]]) ls)), (3, .sref .one 0 m [] 0 k), (4, .dat (.int .i64 w))], [mkDyn .one (hs.foldl incS out)])) := oi_closed ls hs w m k out hc
    rw [ho] at hn
    refine ⟨nF, ?_⟩
    have he : cleanF (liveAt Try.f3 1) 0 fr = oi_fr ls hs w ((0, m, k, out)) := oi_enter ls hs w _ _ _ _ fr hl g0 g3 g4 g5 g6
    refine (iter_ok (base := 1) (oi_hr lp ls hs w) K nF ((0, m, k, out)) _ _ (by rw [clean_clean]; exact he) (by kernel_rfl)).trans ?_
    rw [T.k_run hn]
    exact hK
  · simp [T.run_fail] at h
theorem oi_loopOk (lp : Loops) (hk : Loops.get lp 9 = some L_oi) : LoopOk (envOf tab SpO [] lp []) (loopAt Try.f3 1).1 (loopAt Try.f3 1).2 := loop_ok (L := L_oi) hk (oi_sem lp)

def ok_fr (ls hs : List D) (i : Int) : (Int × Nat × Nat × List D) → Frame' := fun ⟨j, m, k, _⟩ => mkF 123 [(0, .dat (.slc (.agg [.one, .one, .one, .one, .agg [.one, .one]]) ls)), (3, .sref .one 0 m [] 0 k), (7, .dat (.int .i64 i)), (8, .dat (.slc .one hs)), (9, .dat (.int .i64 j))]
def ok_st (_ls _hs : List D) (_i : Int) : (Int × Nat × Nat × List D) → Store := fun ⟨_, _, _, out⟩ => [mkDyn .one out]
def ok_step (ls hs : List D) (i : Int) : (Int × Nat × Nat × List D) → T ((Int × Nat × Nat × List D) ⊕ LOut) := fun ⟨j, m, k, out⟩ => 
  .chk (!decide (j < (↑(List.length hs) : Int)) || decide (0 ≤ j) && (decide (Int.toNat j < List.length hs) && (okE (Ek.int IntKind.i64) (nthD hs (Int.toNat j)) && (!D.getI (nthD hs (Int.toNat j)) == i || decide (0 ≤ i) && (decide (i < (↑k : Int)) && (Nat.beq (List.length out) m && (decide (0 + Int.toNat i < List.length out) && (okE (Ek.int IntKind.i64) (nthD out (0 + Int.toNat i)) && Sh.eqb (D.shape (nthD out (0 + Int.toNat i))) Sh.one)))))))) (
   .br (!decide (j < (↑(List.length hs) : Int))) (.leaf (.inr ((some 6), mkF 123 [(0, .dat (.slc (Sh.agg [Sh.one, Sh.one, Sh.one, Sh.one, Sh.agg [Sh.one, Sh.one]]) ls)), (3, AV.sref Sh.one 0 m [] 0 k), (7, .dat (.int .i64 i))], [{ sh := Sh.arr Sh.one 0, dyn := true, frz := false, v := .dat (.arr Sh.one out) }]))) (.leaf (.inl ((IntKind.wrap IntKind.i64 (j + 1)), (m), (k), (bif D.getI (nthD hs (Int.toNat j)) == i then List.set out (0 + Int.toNat i) (D.int .i64 (IntKind.wrap IntKind.i64 (D.getI (nthD out (0 + Int.toNat i)) + 1))) else out)))))
theorem ok_round (lp : Loops) (ls hs : List D) (i : Int) (j : Int) (m k : Nat) (out : List D) (K : Kt) : oneRound (envOf tab SpO [] lp []) Try.f3 3 (1) (mkF 123 [(0, .dat (.slc (.agg [.one, .one, .one, .one, .agg [.one, .one]]) ls)), (3, .sref .one 0 m [] 0 k), (7, .dat (.int .i64 i)), (8, .dat (.slc .one hs)), (9, .dat (.int .i64 j))]) ([mkDyn .one out]) K =
  (bif decide (j < (↑(List.length hs) : Int)) then 
   (bif decide (0 ≤ j) then 
    (bif decide (Int.toNat j < List.length hs) then 
     (bif okE (Ek.int IntKind.i64) (nthD hs (Int.toNat j)) then 
      (bif D.getI (nthD hs (Int.toNat j)) == i then 
       (bif decide (0 ≤ i) then 
        (bif decide (i < (↑k : Int)) then 
         (bif Nat.beq (List.length out) m && true then 
          (bif decide (0 + Int.toNat i < List.length out) then 
           (bif okE (Ek.int IntKind.i64) (nthD out (0 + Int.toNat i)) then 
            (bif decide (0 ≤ i) then 
             (bif decide (i < (↑k : Int)) then 
              (bif Nat.beq (List.length out) m && true && true then 
               (bif decide (0 + Int.toNat i < List.length out) then 
                (bif Sh.eqb (D.shape (nthD out (0 + Int.toNat i))) Sh.one then K (Exit.normal) (mkF 123 [(0, .dat (.slc (Sh.agg [Sh.one, Sh.one, Sh.one, Sh.one, Sh.agg [Sh.one, Sh.one]]) ls)), (3, AV.sref Sh.one 0 m [] 0 k), (7, .dat (.int .i64 i)), (8, .dat (.slc Sh.one hs)), (9, .dat (.int .i64 (IntKind.wrap IntKind.i64 (j + 1)))), (83, .dat (.int .i64 j)), (84, .dat (.int .i64 (IntKind.wrap IntKind.i64 (j + 1))))]) ([{ sh := Sh.arr Sh.one 0, dyn := true, frz := false, v := .dat (.arr Sh.one (List.set out (0 + Int.toNat i) (D.int .i64 (IntKind.wrap IntKind.i64 (D.getI (nthD out (0 + Int.toNat i)) + 1))))) }]) else none) else none) else none) else none) else none) else none) else none) else none) else none) else none) else K (Exit.normal) (mkF 123 [(0, .dat (.slc (Sh.agg [Sh.one, Sh.one, Sh.one, Sh.one, Sh.agg [Sh.one, Sh.one]]) ls)), (3, AV.sref Sh.one 0 m [] 0 k), (7, .dat (.int .i64 i)), (8, .dat (.slc Sh.one hs)), (9, .dat (.int .i64 (IntKind.wrap IntKind.i64 (j + 1)))), (83, .dat (.int .i64 j)), (84, .dat (.int .i64 (IntKind.wrap IntKind.i64 (j + 1))))]) ([{ sh := Sh.arr Sh.one 0, dyn := true, frz := false, v := .dat (.arr Sh.one out) }])) else none) else none) else none) else K (Exit.exit 6) (mkF 123 [(0, .dat (.slc (Sh.agg [Sh.one, Sh.one, Sh.one, Sh.one, Sh.agg [Sh.one, Sh.one]]) ls)), (3, AV.sref Sh.one 0 m [] 0 k), (7, .dat (.int .i64 i))]) ([{ sh := Sh.arr Sh.one 0, dyn := true, frz := false, v := .dat (.arr Sh.one out) }])) := by kernel_rfl
theorem ok_hr (lp : Loops) (ls hs : List D) (i : Int) : ∀ (sA : (Int × Nat × Nat × List D)) (K : Kt) (N : (Int × Nat × Nat × List D) → Option Res), (∀ sB fr' σ', cleanF (liveAt Try.f3 3) 0 fr' = ok_fr ls hs i sB → trim (1) (ok_fr ls hs i sB) σ' = ok_st ls hs i sB → K .normal fr' σ' = N sB) →
    oneRound (envOf tab SpO [] lp []) Try.f3 3 (1) (ok_fr ls hs i sA) (ok_st ls hs i sA) K = (ok_step ls hs i sA).k (LK K N) := by
  intro sA K N hN
  obtain ⟨j, m, k, out⟩ := sA
  refine (ok_round lp ls hs i j m k out K).trans ?_
  show _ = T.k ((
  .chk (!decide (j < (↑(List.length hs) : Int)) || decide (0 ≤ j) && (decide (Int.toNat j < List.length hs) && (okE (Ek.int IntKind.i64) (nthD hs (Int.toNat j)) && (!D.getI (nthD hs (Int.toNat j)) == i || decide (0 ≤ i) && (decide (i < (↑k : Int)) && (Nat.beq (List.length out) m && (decide (0 + Int.toNat i < List.length out) && (okE (Ek.int IntKind.i64) (nthD out (0 + Int.toNat i)) && Sh.eqb (D.shape (nthD out (0 + Int.toNat i))) Sh.one)))))))) (
   .br (!decide (j < (↑(List.length hs) : Int))) (.leaf (.inr ((some 6), mkF 123 [(0, .dat (.slc (Sh.agg [Sh.one, Sh.one, Sh.one, Sh.one, Sh.agg [Sh.one, Sh.one]]) ls)), (3, AV.sref Sh.one 0 m [] 0 k), (7, .dat (.int .i64 i))], [{ sh := Sh.arr Sh.one 0, dyn := true, frz := false, v := .dat (.arr Sh.one out) }]))) (.leaf (.inl ((IntKind.wrap IntKind.i64 (j + 1)), (m), (k), (bif D.getI (nthD hs (Int.toNat j)) == i then List.set out (0 + Int.toNat i) (D.int .i64 (IntKind.wrap IntKind.i64 (D.getI (nthD out (0 + Int.toNat i)) + 1))) else out)))))) : T ((Int × Nat × Nat × List D) ⊕ LOut)) (LK K N)
  generalize (decide (0 + Int.toNat i < List.length out)) = z0
  generalize (Sh.eqb (D.shape (nthD out (0 + Int.toNat i))) Sh.one) = z1
  generalize (okE (Ek.int IntKind.i64) (nthD out (0 + Int.toNat i))) = z2
  generalize (decide (j < (↑(List.length hs) : Int))) = z3
  generalize (decide (0 ≤ j)) = z4
  generalize (decide (0 ≤ i)) = z5
  generalize (decide (Int.toNat j < List.length hs)) = z6
  generalize (decide (i < (↑k : Int))) = z7
  generalize (D.getI (nthD hs (Int.toNat j)) == i) = z8
  generalize (okE (Ek.int IntKind.i64) (nthD hs (Int.toNat j))) = z9
  generalize (Nat.beq (List.length out) m) = z10
  cases z3 with
  | true =>
   cases z4 with
   | true =>
    cases z6 with
    | true =>
     cases z9 with
     | true =>
      cases z8 with
      | true =>
       cases z5 with
       | true =>
        cases z7 with
        | true =>
         cases z10 with
         | true =>
          cases z0 with
          | true =>
           cases z2 with
           | true =>
            cases z1 with
            | true =>
             exact hN _ _ _ (by kernel_rfl) (by kernel_rfl)
            | false =>
             rfl
           | false =>
            rfl
          | false =>
           rfl
         | false =>
          rfl
        | false =>
         rfl
       | false =>
        rfl
      | false =>
       exact hN _ _ _ (by kernel_rfl) (by kernel_rfl)
     | false =>
      rfl
    | false =>
     rfl
   | false =>
    rfl
  | false =>
   rfl
theorem ok_enter (ls hs : List D) (i : Int) (j : Int) (m k : Nat) (out : List D) (fr : Frame') (hl : Nat.beq fr.length 123 = true) (g0 : fr.getD 0 .undef = .dat (.slc (Sh.agg [Sh.one, Sh.one, Sh.one, Sh.one, Sh.agg [Sh.one, Sh.one]]) ls)) (g3 : fr.getD 3 .undef = AV.sref Sh.one 0 m [] 0 k) (g7 : fr.getD 7 .undef = .dat (.int .i64 i)) (g8 : fr.getD 8 .undef = .dat (.slc Sh.one hs)) (g9 : fr.getD 9 .undef = .dat (.int .i64 j)) : cleanF (liveAt Try.f3 3) 0 fr = ok_fr ls hs i (j, m, k, out) := by
  have e : liveAt Try.f3 3 = [8, 9, 7, 0, 3] := by kernel_rfl
  rw [clean_mk (Nat.eq_of_beq_eq_true hl), e]
  show mkF 123 [(8, fr.getD 8 .undef), (9, fr.getD 9 .undef), (7, fr.getD 7 .undef), (0, fr.getD 0 .undef), (3, fr.getD 3 .undef)] = _
  rw [g8, g9, g7, g0, g3]
  kernel_rfl

abbrev okkC (ls hs out : List D) (i : Int) (m k : Nat) : Bool := Nat.beq m ls.length && (Nat.beq k ls.length && (okC ls.length out && (okPl ls.length hs && (decide (hs.length ≤ 1099511627776) && (decide (0 ≤ i) && decide (i < (ls.length : Int)))))))
theorem ok_closed (ls hs : List D) (i : Int) (m k : Nat) (out : List D) (hc : okkC ls hs out i m k = true) :
    ∃ z, (iterT (ok_step ls hs i) z (0, m, k, out)).run = T.run (.leaf (some 6, mkF 123 [(0, .dat (.slc (.agg [.one, .one, .one, .one, .agg [.one, .one]]) ls)), (3, .sref .one 0 m [] 0 k), (7, .dat (.int .i64 i))], [mkDyn .one (hs.foldl (incI i) out)])) := by
  simp only [okkC, Bool.and_eq_true, decide_eq_true_eq] at hc
  obtain ⟨hm, hk, ho, hp, hl, hi0, hi1⟩ := hc
  obtain rfl := Nat.eq_of_beq_eq_true hm
  obtain rfl := Nat.eq_of_beq_eq_true hk
  obtain ⟨n, rfl⟩ : ∃ n : Nat, i = (n : Int) := ⟨i.toNat, by omega⟩
  have key := iter_fold (step := ok_step ls hs n) (ls := hs) (S := Nat × Nat × List D) (f := fun s d => (s.1, s.2.1, incI n s.2.2 d)) (o := fun s => (some 6, mkF 123 [(0, .dat (.slc (.agg [.one, .one, .one, .one, .agg [.one, .one]]) ls)), (3, .sref .one 0 s.1 [] 0 s.2.1), (7, .dat (.int .i64 n))], [mkDyn .one s.2.2]))
    (fun _ s => s.1 = ls.length ∧ s.2.1 = ls.length ∧ okC ls.length s.2.2 = true) (fun i s hi hs' => ?_) (fun s _ => ?_) (ls.length, ls.length, out) ⟨rfl, rfl, by simp only [okC, Bool.and_eq_true]; exact ho⟩
  · have e : ∀ (l : List D) (x : List D), l.foldl (fun (s : Nat × Nat × List D) d => (s.1, s.2.1, incI n s.2.2 d)) (ls.length, ls.length, x) = (ls.length, ls.length, l.foldl (incI n) x) := by
      intro l
      induction l with
      | nil => intro x; rfl
      | cons d l ih => intro x; exact ih _
    rw [e] at key
    exact key
  · obtain ⟨s1, s2, o2⟩ := s
    have f1 : s1 = ls.length := hs'.1
    have f2 : s2 = ls.length := hs'.2.1
    have f3 : okC ls.length o2 = true := hs'.2.2
    clear hs'
    subst f1 f2
    refine ⟨?_, rfl, rfl, incI_ok f3 _ _⟩
    have hq := List.all_eq_true.1 hp _ (nthD_mem hi)
    simp only [Bool.and_eq_true, decide_eq_true_eq] at hq f3
    obtain ⟨q1, q2, q3⟩ := hq
    have hlen := Nat.eq_of_beq_eq_true f3.2
    have hjo : n < o2.length := by omega
    obtain ⟨z, hz⟩ := okE_int (allE_nth f3.1 hjo)
    unfold ok_step incI
    simp only [decide_eq_true (show (i : Int) < (hs.length : Int) by omega), decide_eq_true (show 0 ≤ (i : Int) by omega), decide_eq_true hi, Int.toNat_natCast, q1, hz, decide_eq_true (show 0 ≤ (n : Int) by omega), decide_eq_true (show (n : Int) < (ls.length : Int) by omega), hlen, beq_self, Nat.zero_add, decide_eq_true (show n < ls.length by omega), wrap_succ (show i < 2 ^ 62 by omega), Bool.not_true, Bool.false_or, Bool.true_and, T.run_br, T.run_chk, T.run_leaf, cond_false]
    cases D.getI (nthD hs i) == (n : Int) <;> rfl
  · obtain ⟨s1, s2, o2⟩ := s
    unfold ok_step
    simp only [decide_eq_false (show ¬ (hs.length : Int) < (hs.length : Int) by omega)]
    rfl
def L_ok : Frame' → Store → T (Exit × Frame' × Store) := fun fr σ => match fr.getD 0 .undef, fr.getD 3 .undef, fr.getD 7 .undef, fr.getD 8 .undef, fr.getD 9 .undef, σ with
  | AV.dat (D.slc (Sh.agg [Sh.one, Sh.one, Sh.one, Sh.one, Sh.agg [Sh.one, Sh.one]]) ls), AV.sref Sh.one 0 m [] 0 k, AV.dat (D.int IntKind.i64 i), AV.dat (D.slc Sh.one hs), AV.dat (D.int IntKind.i64 0), [{ sh := Sh.arr Sh.one 0, dyn := true, frz := false, v := AV.dat (D.arr Sh.one out) }] => .chk (Nat.beq fr.length 123 && (okkC ls hs out i m k)) (T.bind (.leaf (some 6, mkF 123 [(0, .dat (.slc (.agg [.one, .one, .one, .one, .agg [.one, .one]]) ls)), (3, .sref .one 0 m [] 0 k), (7, .dat (.int .i64 i))], [mkDyn .one (hs.foldl (incI i) out)])) fun o => .leaf (outEx o.1, o.2.1, o.2.2))
  | _, _, _, _, _, _ => .fail
theorem ok_sem (lp : Loops) : ∀ fr σ p, (L_ok fr σ).run = some p → ∀ (K : Kt) r, K p.1 p.2.1 p.2.2 = some r → ∃ n, loopRun (envOf tab SpO [] lp []) Try.f3 3 σ.length n (cleanF (liveAt Try.f3 3) 0 fr) σ K = some r := by
  intro fr σ p h K r hK
  unfold L_ok at h
  split at h
  · rename_i ls m k i hs out g0 g3 g7 g8 g9
    obtain ⟨hc, h'⟩ := T.chk_some h
    rw [Bool.and_eq_true] at hc
    obtain ⟨hl, hc⟩ := hc
    obtain ⟨o, ho, h'⟩ := T.bind_some h'
    have hp := T.leaf_some h'
    subst hp
    obtain ⟨nF, hn⟩ : ∃ nF, (iterT (ok_step ls hs i) nF ((0, m, k, out))).run = T.run (.leaf (some 6, mkF 123 [(0, .dat (.slc (.agg [.one, .one, .one, .one, .agg [.one, .one]]) ls)), (3, .sref .one 0 m [] 0 k), (7, .dat (.int .i64 i))], [mkDyn .one (hs.foldl (incI i) out)])) := ok_closed ls hs i m k out hc
    rw [ho] at hn
    refine ⟨nF, ?_⟩
    have he : cleanF (liveAt Try.f3 3) 0 fr = ok_fr ls hs i ((0, m, k, out)) := ok_enter ls hs i _ _ _ _ fr hl g0 g3 g7 g8 g9
    refine (iter_ok (base := 1) (ok_hr lp ls hs i) K nF ((0, m, k, out)) _ _ (by rw [clean_clean]; exact he) (by kernel_rfl)).trans ?_
    rw [T.k_run hn]
    exact hK
  · simp [T.run_fail] at h
theorem ok_loopOk (lp : Loops) (hk : Loops.get lp 20 = some L_ok) : LoopOk (envOf tab SpO [] lp []) (loopAt Try.f3 3).1 (loopAt Try.f3 3).2 := loop_ok (L := L_ok) hk (ok_sem lp)

/-- How often a slot was told, of what is in hand: behind w accounts. -/
def isH (d : D) : Bool := fU d && (fK d == 1 && (fA d == 0 && (fB d == 0 && decide (0 ≤ fW d))))
def hcF (ls : List D) (w : Nat) (j : Nat) : Int := bif isH (nthD ls j) && decide (fW (nthD ls j) < (w : Int)) then 1 else 0
theorem hcF_bd (ls : List D) (w j : Nat) : 0 ≤ hcF ls w j ∧ hcF ls w j ≤ 1 := by
  unfold hcF
  cases isH (nthD ls j) && decide (fW (nthD ls j) < (w : Int)) <;> decide
theorem hcF_step (ls : List D) (w : Nat) : (held_v0 ls (w : Int)).foldl incS (cnt (hcF ls w) ls.length) = cnt (hcF ls (w + 1)) ls.length := by
  unfold held_v0
  rw [seg_full]
  unfold slTo
  rw [inc_col _ _ (fun j => ⟨(hcF_bd ls w j).1, by have := (hcF_bd ls w j).2; omega⟩) ls.length (Nat.le_refl _)]
  refine cnt_ext fun j hj => ?_
  rw [decide_eq_true hj, Bool.and_true]
  unfold isB hcF isH
  generalize fU (nthD ls j) = u
  generalize (fK (nthD ls j) == 1) = k
  generalize (fA (nthD ls j) == 0) = a
  generalize (fB (nthD ls j) == 0) = b
  generalize fW (nthD ls j) = x
  cases u <;> cases k <;> cases a <;> cases b <;> try (simp; done)
  by_cases h1 : x = (w : Int)
  · subst h1
    have e3 : decide ((w : Int) < ((w + 1 : Nat) : Int)) = true := decide_eq_true (by omega)
    rw [e3]; simp
  · have e1 : (x == (w : Int)) = false := by simpa using h1
    have e2 : decide (x < ((w + 1 : Nat) : Int)) = decide (x < (w : Int)) := decide_eq_decide.2 (by omega)
    rw [e1, e2]; simp
def oo_fr (ls : List D) (m k : Nat) : (Int × List D) → Frame' := fun ⟨w, _⟩ => mkF 123 [(0, .dat (.slc (.agg [.one, .one, .one, .one, .agg [.one, .one]]) ls)), (3, .sref .one 0 m [] 0 k), (4, .dat (.int .i64 w))]
def oo_st (_ls : List D) (_m _k : Nat) : (Int × List D) → Store := fun ⟨_, out⟩ => [mkDyn .one out]
def oo_step (ls : List D) (m k : Nat) : (Int × List D) → T ((Int × List D) ⊕ LOut) := fun ⟨w, out⟩ => 
  .chk (!decide (w < 128) || slots_pre ls 1 w 0 0 && oiC ls (held_v0 ls w) out m k) (
   .br (!decide (w < 128)) (.leaf (.inr ((some 0), mkF 123 [(0, .dat (.slc (Sh.agg [Sh.one, Sh.one, Sh.one, Sh.one, Sh.agg [Sh.one, Sh.one]]) ls)), (3, AV.sref Sh.one 0 m [] 0 k)], [{ sh := Sh.arr Sh.one 0, dyn := true, frz := false, v := .dat (.arr Sh.one out) }]))) (.leaf (.inl ((IntKind.wrap IntKind.i64 (w + 1)), (List.foldl incS out (held_v0 ls w))))))
theorem oo_round (lp : Loops) (ls : List D) (m k : Nat) (w : Int) (out : List D) (K : Kt) : oneRound (envOf tab SpO [] ((9, L_oi) :: (20, L_ok) :: lp) []) Try.f3 0 (1) (mkF 123 [(0, .dat (.slc (.agg [.one, .one, .one, .one, .agg [.one, .one]]) ls)), (3, .sref .one 0 m [] 0 k), (4, .dat (.int .i64 w))]) ([mkDyn .one out]) K =
  (bif decide (w < 128) then 
   (bif slots_pre ls 1 w 0 0 then 
    (bif oiC ls (held_v0 ls w) out m k then K (Exit.normal) (mkF 123 [(0, .dat (.slc (Sh.agg [Sh.one, Sh.one, Sh.one, Sh.one, Sh.agg [Sh.one, Sh.one]]) ls)), (3, AV.sref Sh.one 0 m [] 0 k), (4, .dat (.int .i64 (IntKind.wrap IntKind.i64 (w + 1)))), (26, .dat (.int .i64 w)), (27, .dat (.int .i64 (IntKind.wrap IntKind.i64 (w + 1))))]) ([{ sh := Sh.arr Sh.one 0, dyn := true, frz := false, v := .dat (.arr Sh.one (List.foldl incS out (held_v0 ls w))) }]) else none) else none) else K (Exit.exit 0) (mkF 123 [(0, .dat (.slc (Sh.agg [Sh.one, Sh.one, Sh.one, Sh.one, Sh.agg [Sh.one, Sh.one]]) ls)), (3, AV.sref Sh.one 0 m [] 0 k)]) ([{ sh := Sh.arr Sh.one 0, dyn := true, frz := false, v := .dat (.arr Sh.one out) }])) := by kernel_rfl
theorem oo_hr (lp : Loops) (ls : List D) (m k : Nat) : ∀ (sA : (Int × List D)) (K : Kt) (N : (Int × List D) → Option Res), (∀ sB fr' σ', cleanF (liveAt Try.f3 0) 0 fr' = oo_fr ls m k sB → trim (1) (oo_fr ls m k sB) σ' = oo_st ls m k sB → K .normal fr' σ' = N sB) →
    oneRound (envOf tab SpO [] ((9, L_oi) :: (20, L_ok) :: lp) []) Try.f3 0 (1) (oo_fr ls m k sA) (oo_st ls m k sA) K = (oo_step ls m k sA).k (LK K N) := by
  intro sA K N hN
  obtain ⟨w, out⟩ := sA
  refine (oo_round lp ls m k w out K).trans ?_
  show _ = T.k ((
  .chk (!decide (w < 128) || slots_pre ls 1 w 0 0 && oiC ls (held_v0 ls w) out m k) (
   .br (!decide (w < 128)) (.leaf (.inr ((some 0), mkF 123 [(0, .dat (.slc (Sh.agg [Sh.one, Sh.one, Sh.one, Sh.one, Sh.agg [Sh.one, Sh.one]]) ls)), (3, AV.sref Sh.one 0 m [] 0 k)], [{ sh := Sh.arr Sh.one 0, dyn := true, frz := false, v := .dat (.arr Sh.one out) }]))) (.leaf (.inl ((IntKind.wrap IntKind.i64 (w + 1)), (List.foldl incS out (held_v0 ls w))))))) : T ((Int × List D) ⊕ LOut)) (LK K N)
  generalize (slots_pre ls 1 w 0 0) = z0
  generalize (decide (w < 128)) = z1
  generalize (oiC ls (held_v0 ls w) out m k) = z2
  cases z1 with
  | true =>
   cases z0 with
   | true =>
    cases z2 with
    | true =>
     exact hN _ _ _ (by kernel_rfl) (by kernel_rfl)
    | false =>
     rfl
   | false =>
    rfl
  | false =>
   rfl
theorem oo_enter (ls : List D) (m k : Nat) (w : Int) (out : List D) (fr : Frame') (hl : Nat.beq fr.length 123 = true) (g0 : fr.getD 0 .undef = .dat (.slc (Sh.agg [Sh.one, Sh.one, Sh.one, Sh.one, Sh.agg [Sh.one, Sh.one]]) ls)) (g3 : fr.getD 3 .undef = AV.sref Sh.one 0 m [] 0 k) (g4 : fr.getD 4 .undef = .dat (.int .i64 w)) : cleanF (liveAt Try.f3 0) 0 fr = oo_fr ls m k (w, out) := by
  have e : liveAt Try.f3 0 = [4, 0, 3] := by kernel_rfl
  rw [clean_mk (Nat.eq_of_beq_eq_true hl), e]
  show mkF 123 [(4, fr.getD 4 .undef), (0, fr.getD 0 .undef), (3, fr.getD 3 .undef)] = _
  rw [g4, g0, g3]
  kernel_rfl

theorem okC_cnt (f : Nat → Int) (n : Nat) : okC n (cnt f n) = true := by
  unfold okC
  rw [cnt_len, beq_self, Bool.and_true, List.all_eq_true]
  intro d hd
  unfold cnt at hd
  obtain ⟨j, _, rfl⟩ := List.mem_map.1 hd
  rfl
theorem okPl_sl (ls : List D) (k w a b : Int) : okPl ls.length (slTo ls k w a b) = true := okPl_col _ _ _ (Nat.le_refl _)
theorem slots_ok {ls : List D} (h : okEs ls = true) (k w a b : Int) : slots_pre ls k w a b = true := by
  unfold slots_pre
  rw [h, decide_eq_true rfl, beq_self]; rfl
abbrev okM2 (ls : List D) (m k : Nat) : Bool := okEs ls && (Nat.beq m ls.length && Nat.beq k ls.length)
theorem oo_closed (ls : List D) (m k : Nat) (out : List D) (hc : (okM2 ls m k && D.eqbL out (cnt (hcF ls 0) ls.length)) = true) :
    ∃ z, (iterT (oo_step ls m k) z (0, out)).run = T.run (.leaf (some 0, mkF 123 [(0, .dat (.slc (.agg [.one, .one, .one, .one, .agg [.one, .one]]) ls)), (3, .sref .one 0 m [] 0 k)], [mkDyn .one (cnt (hcF ls 128) ls.length)])) := by
  simp only [okM2, Bool.and_eq_true] at hc
  obtain ⟨⟨hE, hm, hk⟩, ho⟩ := hc
  obtain rfl := eqbL_iff.1 ho
  obtain rfl := Nat.eq_of_beq_eq_true hm
  obtain rfl := Nat.eq_of_beq_eq_true hk
  obtain ⟨_, h2⟩ := okEs_spec hE
  refine iter_range (n := 128) (fun w => cnt (hcF ls w) ls.length) (fun w hw => ?_) ?_
  · have hl := colTo_len (fun i => isB 1 (w : Int) 0 0 (nthD ls i)) ls.length
    have hp := okPl_sl ls 1 (w : Int) 0 0
    have hq : oiC ls (held_v0 ls (w : Int)) (cnt (hcF ls w) ls.length) ls.length ls.length = true := by
      unfold oiC held_v0
      rw [seg_full, okC_cnt, hp, beq_self, decide_eq_true (show (slTo ls 1 (w : Int) 0 0).length ≤ 1099511627776 by unfold slTo; omega)]; rfl
    unfold oo_step
    simp only [decide_eq_true (show (w : Int) < 128 by omega), slots_ok hE, hq, hcF_step, wrap_succ (show w < 2 ^ 62 by omega), Bool.not_true, Bool.false_or, Bool.and_true, T.run_br, T.run_chk, T.run_leaf, cond_true, cond_false]
  · unfold oo_step
    rfl
def L_oo : Frame' → Store → T (Exit × Frame' × Store) := fun fr σ => match fr.getD 0 .undef, fr.getD 3 .undef, fr.getD 4 .undef, σ with
  | AV.dat (D.slc (Sh.agg [Sh.one, Sh.one, Sh.one, Sh.one, Sh.agg [Sh.one, Sh.one]]) ls), AV.sref Sh.one 0 m [] 0 k, AV.dat (D.int IntKind.i64 0), [{ sh := Sh.arr Sh.one 0, dyn := true, frz := false, v := AV.dat (D.arr Sh.one out) }] => .chk (Nat.beq fr.length 123 && (okM2 ls m k && D.eqbL out (cnt (hcF ls 0) ls.length))) (T.bind (.leaf (some 0, mkF 123 [(0, .dat (.slc (.agg [.one, .one, .one, .one, .agg [.one, .one]]) ls)), (3, .sref .one 0 m [] 0 k)], [mkDyn .one (cnt (hcF ls 128) ls.length)])) fun o => .leaf (outEx o.1, o.2.1, o.2.2))
  | _, _, _, _ => .fail
theorem oo_sem (lp : Loops) : ∀ fr σ p, (L_oo fr σ).run = some p → ∀ (K : Kt) r, K p.1 p.2.1 p.2.2 = some r → ∃ n, loopRun (envOf tab SpO [] ((9, L_oi) :: (20, L_ok) :: lp) []) Try.f3 0 σ.length n (cleanF (liveAt Try.f3 0) 0 fr) σ K = some r := by
  intro fr σ p h K r hK
  unfold L_oo at h
  split at h
  · rename_i ls m k out g0 g3 g4
    obtain ⟨hc, h'⟩ := T.chk_some h
    rw [Bool.and_eq_true] at hc
    obtain ⟨hl, hc⟩ := hc
    obtain ⟨o, ho, h'⟩ := T.bind_some h'
    have hp := T.leaf_some h'
    subst hp
    obtain ⟨nF, hn⟩ : ∃ nF, (iterT (oo_step ls m k) nF ((0, out))).run = T.run (.leaf (some 0, mkF 123 [(0, .dat (.slc (.agg [.one, .one, .one, .one, .agg [.one, .one]]) ls)), (3, .sref .one 0 m [] 0 k)], [mkDyn .one (cnt (hcF ls 128) ls.length)])) := oo_closed ls m k out hc
    rw [ho] at hn
    refine ⟨nF, ?_⟩
    have he : cleanF (liveAt Try.f3 0) 0 fr = oo_fr ls m k ((0, out)) := oo_enter ls m k _ _ fr hl g0 g3 g4
    refine (iter_ok (base := 1) (oo_hr lp ls m k) K nF ((0, out)) _ _ (by rw [clean_clean]; exact he) (by kernel_rfl)).trans ?_
    rw [T.k_run hn]
    exact hK
  · simp [T.run_fail] at h
theorem oo_loopOk (lp : Loops) (hk : Loops.get lp 5 = some L_oo) : LoopOk (envOf tab SpO [] ((9, L_oi) :: (20, L_ok) :: lp) []) (loopAt Try.f3 0).1 (loopAt Try.f3 0).2 := loop_ok (L := L_oo) hk (oo_sem lp)

/-- What lies in rooms, too. -/
def isL (d : D) : Bool := fK d == 2 && (fU d && fW d == 0)
def lcF (ls : List D) (i : Nat) (j : Nat) : Int := hcF ls 128 j + bif isL (nthD ls j) && decide (j < i) then 1 else 0
theorem lcF_bd (ls : List D) (w j : Nat) : 0 ≤ lcF ls w j ∧ lcF ls w j < 1000 := by
  have := hcF_bd ls 128 j
  unfold lcF
  cases isL (nthD ls j) && decide (j < w) <;> simp only [cond_true, cond_false] <;> omega
theorem lcF_step (ls : List D) {i : Nat} (hi : i < ls.length) : (bif fK (nthD ls i) != 2 then cnt (lcF ls i) ls.length else (lying_v0 ls (fA (nthD ls i)) (fB (nthD ls i))).foldl (incI (i : Int)) (cnt (lcF ls i) ls.length)) = cnt (lcF ls (i + 1)) ls.length := by
  have e0 : (fK (nthD ls i) != 2) = !(fK (nthD ls i) == 2) := rfl
  rw [e0]
  cases hk : fK (nthD ls i) == 2 with
  | false =>
    refine cnt_ext fun j _ => ?_
    unfold lcF
    by_cases hj : j = i
    · subst hj
      unfold isL
      rw [hk]; rfl
    · have e : decide (j < i + 1) = decide (j < i) := decide_eq_decide.2 (by omega)
      rw [e]
  | true =>
    show (lying_v0 ls (fA (nthD ls i)) (fB (nthD ls i))).foldl (incI (i : Int)) (cnt (lcF ls i) ls.length) = _
    unfold lying_v0
    rw [seg_full]
    unfold slTo
    rw [inc_one _ _ hi (fun j => lcF_bd ls i j) ls.length (Nat.le_refl _)]
    refine cnt_ext fun j hj => ?_
    rw [decide_eq_true hi, Bool.and_true]
    by_cases hji : j = i
    · subst hji
      rw [beq_self]
      unfold lcF isL isB
      rw [hk, decide_eq_false (Nat.lt_irrefl j), decide_eq_true (Nat.lt_succ_self j)]
      generalize fU (nthD ls j) = u
      generalize (fW (nthD ls j) == 0) = w
      have ea : (fA (nthD ls j) == fA (nthD ls j)) = true := by simp
      have eb : (fB (nthD ls j) == fB (nthD ls j)) = true := by simp
      rw [ea, eb]
      cases u <;> cases w <;> simp
    · rw [beq_ne hji]
      unfold lcF
      have e : decide (j < i + 1) = decide (j < i) := decide_eq_decide.2 (by omega)
      rw [e]; rfl
def ol_fr (ls : List D) (m k : Nat) : (Int × List D) → Frame' := fun ⟨i, _⟩ => mkF 123 [(0, .dat (.slc (.agg [.one, .one, .one, .one, .agg [.one, .one]]) ls)), (3, .sref .one 0 m [] 0 k), (7, .dat (.int .i64 i))]
def ol_st (_ls : List D) (_m _k : Nat) : (Int × List D) → Store := fun ⟨_, out⟩ => [mkDyn .one out]
def ol_step (ls : List D) (m k : Nat) : (Int × List D) → T ((Int × List D) ⊕ LOut) := fun ⟨i, out⟩ => 
  .chk (!decide (i < (↑(List.length ls) : Int)) || decide (0 ≤ i) && (decide (Int.toNat i < List.length ls) && (okE (Ek.agg [Ek.bool, Ek.str, Ek.int IntKind.i64, Ek.int IntKind.i64, Ek.agg [Ek.int IntKind.i64, Ek.int IntKind.i64]]) (nthD ls (Int.toNat i)) && (D.getI (nthD (D.getL (nthD ls (Int.toNat i))) 2) != 2 || slots_pre ls 2 0 (D.getI (nthD (D.getL (nthD (D.getL (nthD ls (Int.toNat i))) 4)) 0)) (D.getI (nthD (D.getL (nthD (D.getL (nthD ls (Int.toNat i))) 4)) 1)) && okkC ls (lying_v0 ls (D.getI (nthD (D.getL (nthD (D.getL (nthD ls (Int.toNat i))) 4)) 0)) (D.getI (nthD (D.getL (nthD (D.getL (nthD ls (Int.toNat i))) 4)) 1))) out i m k)))) (
   .br (!decide (i < (↑(List.length ls) : Int))) (.leaf (.inr ((some 4), mkF 123 [(0, .dat (.slc (Sh.agg [Sh.one, Sh.one, Sh.one, Sh.one, Sh.agg [Sh.one, Sh.one]]) ls)), (3, AV.sref Sh.one 0 m [] 0 k)], [{ sh := Sh.arr Sh.one 0, dyn := true, frz := false, v := .dat (.arr Sh.one out) }]))) (.leaf (.inl ((IntKind.wrap IntKind.i64 (i + 1)), (bif D.getI (nthD (D.getL (nthD ls (Int.toNat i))) 2) != 2 then out else List.foldl (incI i) out (lying_v0 ls (D.getI (nthD (D.getL (nthD (D.getL (nthD ls (Int.toNat i))) 4)) 0)) (D.getI (nthD (D.getL (nthD (D.getL (nthD ls (Int.toNat i))) 4)) 1))))))))
theorem ol_round (lp : Loops) (ls : List D) (m k : Nat) (i : Int) (out : List D) (K : Kt) : oneRound (envOf tab SpO [] ((9, L_oi) :: (20, L_ok) :: lp) []) Try.f3 2 (1) (mkF 123 [(0, .dat (.slc (.agg [.one, .one, .one, .one, .agg [.one, .one]]) ls)), (3, .sref .one 0 m [] 0 k), (7, .dat (.int .i64 i))]) ([mkDyn .one out]) K =
  (bif decide (i < (↑(List.length ls) : Int)) then 
   (bif decide (0 ≤ i) then 
    (bif decide (Int.toNat i < List.length ls) then 
     (bif okE (Ek.agg [Ek.bool, Ek.str, Ek.int IntKind.i64, Ek.int IntKind.i64, Ek.agg [Ek.int IntKind.i64, Ek.int IntKind.i64]]) (nthD ls (Int.toNat i)) then 
      (bif D.getI (nthD (D.getL (nthD ls (Int.toNat i))) 2) != 2 then K (Exit.normal) (mkF 123 [(0, .dat (.slc (Sh.agg [Sh.one, Sh.one, Sh.one, Sh.one, Sh.agg [Sh.one, Sh.one]]) ls)), (3, AV.sref Sh.one 0 m [] 0 k), (7, .dat (.int .i64 (IntKind.wrap IntKind.i64 (i + 1)))), (64, .dat (.int .i64 i)), (65, .dat (.int .i64 (IntKind.wrap IntKind.i64 (i + 1))))]) ([{ sh := Sh.arr Sh.one 0, dyn := true, frz := false, v := .dat (.arr Sh.one out) }]) else 
       (bif decide (0 ≤ i) then 
        (bif decide (Int.toNat i < List.length ls) then 
         (bif okE (Ek.agg [Ek.bool, Ek.str, Ek.int IntKind.i64, Ek.int IntKind.i64, Ek.agg [Ek.int IntKind.i64, Ek.int IntKind.i64]]) (nthD ls (Int.toNat i)) then 
          (bif slots_pre ls 2 0 (D.getI (nthD (D.getL (nthD (D.getL (nthD ls (Int.toNat i))) 4)) 0)) (D.getI (nthD (D.getL (nthD (D.getL (nthD ls (Int.toNat i))) 4)) 1)) then 
           (bif okkC ls (lying_v0 ls (D.getI (nthD (D.getL (nthD (D.getL (nthD ls (Int.toNat i))) 4)) 0)) (D.getI (nthD (D.getL (nthD (D.getL (nthD ls (Int.toNat i))) 4)) 1))) out i m k then K (Exit.normal) (mkF 123 [(0, .dat (.slc (Sh.agg [Sh.one, Sh.one, Sh.one, Sh.one, Sh.agg [Sh.one, Sh.one]]) ls)), (3, AV.sref Sh.one 0 m [] 0 k), (7, .dat (.int .i64 (IntKind.wrap IntKind.i64 (i + 1)))), (64, .dat (.int .i64 i)), (65, .dat (.int .i64 (IntKind.wrap IntKind.i64 (i + 1))))]) ([{ sh := Sh.arr Sh.one 0, dyn := true, frz := false, v := .dat (.arr Sh.one (List.foldl (incI i) out (lying_v0 ls (D.getI (nthD (D.getL (nthD (D.getL (nthD ls (Int.toNat i))) 4)) 0)) (D.getI (nthD (D.getL (nthD (D.getL (nthD ls (Int.toNat i))) 4)) 1))))) }]) else none) else none) else none) else none) else none)) else none) else none) else none) else K (Exit.exit 4) (mkF 123 [(0, .dat (.slc (Sh.agg [Sh.one, Sh.one, Sh.one, Sh.one, Sh.agg [Sh.one, Sh.one]]) ls)), (3, AV.sref Sh.one 0 m [] 0 k)]) ([{ sh := Sh.arr Sh.one 0, dyn := true, frz := false, v := .dat (.arr Sh.one out) }])) := by kernel_rfl
theorem ol_hr (lp : Loops) (ls : List D) (m k : Nat) : ∀ (sA : (Int × List D)) (K : Kt) (N : (Int × List D) → Option Res), (∀ sB fr' σ', cleanF (liveAt Try.f3 2) 0 fr' = ol_fr ls m k sB → trim (1) (ol_fr ls m k sB) σ' = ol_st ls m k sB → K .normal fr' σ' = N sB) →
    oneRound (envOf tab SpO [] ((9, L_oi) :: (20, L_ok) :: lp) []) Try.f3 2 (1) (ol_fr ls m k sA) (ol_st ls m k sA) K = (ol_step ls m k sA).k (LK K N) := by
  intro sA K N hN
  obtain ⟨i, out⟩ := sA
  refine (ol_round lp ls m k i out K).trans ?_
  show _ = T.k ((
  .chk (!decide (i < (↑(List.length ls) : Int)) || decide (0 ≤ i) && (decide (Int.toNat i < List.length ls) && (okE (Ek.agg [Ek.bool, Ek.str, Ek.int IntKind.i64, Ek.int IntKind.i64, Ek.agg [Ek.int IntKind.i64, Ek.int IntKind.i64]]) (nthD ls (Int.toNat i)) && (D.getI (nthD (D.getL (nthD ls (Int.toNat i))) 2) != 2 || slots_pre ls 2 0 (D.getI (nthD (D.getL (nthD (D.getL (nthD ls (Int.toNat i))) 4)) 0)) (D.getI (nthD (D.getL (nthD (D.getL (nthD ls (Int.toNat i))) 4)) 1)) && okkC ls (lying_v0 ls (D.getI (nthD (D.getL (nthD (D.getL (nthD ls (Int.toNat i))) 4)) 0)) (D.getI (nthD (D.getL (nthD (D.getL (nthD ls (Int.toNat i))) 4)) 1))) out i m k)))) (
   .br (!decide (i < (↑(List.length ls) : Int))) (.leaf (.inr ((some 4), mkF 123 [(0, .dat (.slc (Sh.agg [Sh.one, Sh.one, Sh.one, Sh.one, Sh.agg [Sh.one, Sh.one]]) ls)), (3, AV.sref Sh.one 0 m [] 0 k)], [{ sh := Sh.arr Sh.one 0, dyn := true, frz := false, v := .dat (.arr Sh.one out) }]))) (.leaf (.inl ((IntKind.wrap IntKind.i64 (i + 1)), (bif D.getI (nthD (D.getL (nthD ls (Int.toNat i))) 2) != 2 then out else List.foldl (incI i) out (lying_v0 ls (D.getI (nthD (D.getL (nthD (D.getL (nthD ls (Int.toNat i))) 4)) 0)) (D.getI (nthD (D.getL (nthD (D.getL (nthD ls (Int.toNat i))) 4)) 1))))))))) : T ((Int × List D) ⊕ LOut)) (LK K N)
  generalize (slots_pre ls 2 0 (D.getI (nthD (D.getL (nthD (D.getL (nthD ls (Int.toNat i))) 4)) 0)) (D.getI (nthD (D.getL (nthD (D.getL (nthD ls (Int.toNat i))) 4)) 1))) = z0
  generalize (okkC ls (lying_v0 ls (D.getI (nthD (D.getL (nthD (D.getL (nthD ls (Int.toNat i))) 4)) 0)) (D.getI (nthD (D.getL (nthD (D.getL (nthD ls (Int.toNat i))) 4)) 1))) out i m k) = z1
  generalize (okE (Ek.agg [Ek.bool, Ek.str, Ek.int IntKind.i64, Ek.int IntKind.i64, Ek.agg [Ek.int IntKind.i64, Ek.int IntKind.i64]]) (nthD ls (Int.toNat i))) = z2
  generalize (D.getI (nthD (D.getL (nthD ls (Int.toNat i))) 2) != 2) = z3
  generalize (decide (i < (↑(List.length ls) : Int))) = z4
  generalize (decide (0 ≤ i)) = z5
  generalize (decide (Int.toNat i < List.length ls)) = z6
  cases z4 with
  | true =>
   cases z5 with
   | true =>
    cases z6 with
    | true =>
     cases z2 with
     | true =>
      cases z3 with
      | true =>
       exact hN _ _ _ (by kernel_rfl) (by kernel_rfl)
      | false =>
       cases z0 with
       | true =>
        cases z1 with
        | true =>
         exact hN _ _ _ (by kernel_rfl) (by kernel_rfl)
        | false =>
         rfl
       | false =>
        rfl
     | false =>
      rfl
    | false =>
     rfl
   | false =>
    rfl
  | false =>
   rfl
theorem ol_enter (ls : List D) (m k : Nat) (i : Int) (out : List D) (fr : Frame') (hl : Nat.beq fr.length 123 = true) (g0 : fr.getD 0 .undef = .dat (.slc (Sh.agg [Sh.one, Sh.one, Sh.one, Sh.one, Sh.agg [Sh.one, Sh.one]]) ls)) (g3 : fr.getD 3 .undef = AV.sref Sh.one 0 m [] 0 k) (g7 : fr.getD 7 .undef = .dat (.int .i64 i)) : cleanF (liveAt Try.f3 2) 0 fr = ol_fr ls m k (i, out) := by
  have e : liveAt Try.f3 2 = [7, 0, 3] := by kernel_rfl
  rw [clean_mk (Nat.eq_of_beq_eq_true hl), e]
  show mkF 123 [(7, fr.getD 7 .undef), (0, fr.getD 0 .undef), (3, fr.getD 3 .undef)] = _
  rw [g7, g0, g3]
  kernel_rfl

theorem ol_closed (ls : List D) (m k : Nat) (out : List D) (hc : (okM2 ls m k && D.eqbL out (cnt (lcF ls 0) ls.length)) = true) :
    ∃ z, (iterT (ol_step ls m k) z (0, out)).run = T.run (.leaf (some 4, mkF 123 [(0, .dat (.slc (.agg [.one, .one, .one, .one, .agg [.one, .one]]) ls)), (3, .sref .one 0 m [] 0 k)], [mkDyn .one (cnt (lcF ls ls.length) ls.length)])) := by
  simp only [okM2, Bool.and_eq_true] at hc
  obtain ⟨⟨hE, hm, hk⟩, ho⟩ := hc
  obtain rfl := eqbL_iff.1 ho
  obtain rfl := Nat.eq_of_beq_eq_true hm
  obtain rfl := Nat.eq_of_beq_eq_true hk
  obtain ⟨h1, h2⟩ := okEs_spec hE
  refine iter_range (n := ls.length) (fun i => cnt (lcF ls i) ls.length) (fun i hi => ?_) ?_
  · have hl := colTo_len (fun j => isB 2 0 (fA (nthD ls i)) (fB (nthD ls i)) (nthD ls j)) ls.length
    have hp := okPl_sl ls 2 0 (fA (nthD ls i)) (fB (nthD ls i))
    have hq : okkC ls (lying_v0 ls (fA (nthD ls i)) (fB (nthD ls i))) (cnt (lcF ls i) ls.length) (i : Int) ls.length ls.length = true := by
      unfold okkC lying_v0
      rw [seg_full, okC_cnt, hp, beq_self, decide_eq_true (show (slTo ls 2 0 (fA (nthD ls i)) (fB (nthD ls i))).length ≤ 1099511627776 by unfold slTo; omega), decide_eq_true (show 0 ≤ (i : Int) by omega), decide_eq_true (show (i : Int) < (ls.length : Int) by omega)]; rfl
    unfold ol_step
    simp only [decide_eq_true (show (i : Int) < (ls.length : Int) by omega), decide_eq_true (show 0 ≤ (i : Int) by omega), Int.toNat_natCast, decide_eq_true hi, allE_nth h1 hi, slots_ok hE, hq, lcF_step ls hi, wrap_succ (show i < 2 ^ 62 by omega), Bool.not_true, Bool.and_true, Bool.or_true, T.run_br, T.run_chk, T.run_leaf, cond_true, cond_false]
  · unfold ol_step
    simp only [decide_eq_false (show ¬ (ls.length : Int) < (ls.length : Int) by omega)]
    rfl
def L_ol : Frame' → Store → T (Exit × Frame' × Store) := fun fr σ => match fr.getD 0 .undef, fr.getD 3 .undef, fr.getD 7 .undef, σ with
  | AV.dat (D.slc (Sh.agg [Sh.one, Sh.one, Sh.one, Sh.one, Sh.agg [Sh.one, Sh.one]]) ls), AV.sref Sh.one 0 m [] 0 k, AV.dat (D.int IntKind.i64 0), [{ sh := Sh.arr Sh.one 0, dyn := true, frz := false, v := AV.dat (D.arr Sh.one out) }] => .chk (Nat.beq fr.length 123 && (okM2 ls m k && D.eqbL out (cnt (lcF ls 0) ls.length))) (T.bind (.leaf (some 4, mkF 123 [(0, .dat (.slc (.agg [.one, .one, .one, .one, .agg [.one, .one]]) ls)), (3, .sref .one 0 m [] 0 k)], [mkDyn .one (cnt (lcF ls ls.length) ls.length)])) fun o => .leaf (outEx o.1, o.2.1, o.2.2))
  | _, _, _, _ => .fail
theorem ol_sem (lp : Loops) : ∀ fr σ p, (L_ol fr σ).run = some p → ∀ (K : Kt) r, K p.1 p.2.1 p.2.2 = some r → ∃ n, loopRun (envOf tab SpO [] ((9, L_oi) :: (20, L_ok) :: lp) []) Try.f3 2 σ.length n (cleanF (liveAt Try.f3 2) 0 fr) σ K = some r := by
  intro fr σ p h K r hK
  unfold L_ol at h
  split at h
  · rename_i ls m k out g0 g3 g7
    obtain ⟨hc, h'⟩ := T.chk_some h
    rw [Bool.and_eq_true] at hc
    obtain ⟨hl, hc⟩ := hc
    obtain ⟨o, ho, h'⟩ := T.bind_some h'
    have hp := T.leaf_some h'
    subst hp
    obtain ⟨nF, hn⟩ : ∃ nF, (iterT (ol_step ls m k) nF ((0, out))).run = T.run (.leaf (some 4, mkF 123 [(0, .dat (.slc (.agg [.one, .one, .one, .one, .agg [.one, .one]]) ls)), (3, .sref .one 0 m [] 0 k)], [mkDyn .one (cnt (lcF ls ls.length) ls.length)])) := ol_closed ls m k out hc
    rw [ho] at hn
    refine ⟨nF, ?_⟩
    have he : cleanF (liveAt Try.f3 2) 0 fr = ol_fr ls m k ((0, out)) := ol_enter ls m k _ _ fr hl g0 g3 g7
    refine (iter_ok (base := 1) (ol_hr lp ls m k) K nF ((0, out)) _ _ (by rw [clean_clean]; exact he) (by kernel_rfl)).trans ?_
    rw [T.k_run hn]
    exact hK
  · simp [T.run_fail] at h
theorem ol_loopOk (lp : Loops) (hk : Loops.get lp 15 = some L_ol) : LoopOk (envOf tab SpO [] ((9, L_oi) :: (20, L_ok) :: lp) []) (loopAt Try.f3 2).1 (loopAt Try.f3 2).2 := loop_ok (L := L_ol) hk (ol_sem lp)

def ow_fr (ls _out : List D) (m k : Nat) : Int → Frame' := fun i => mkF 123 [(0, .dat (.slc (.agg [.one, .one, .one, .one, .agg [.one, .one]]) ls)), (3, .sref .one 0 m [] 0 k), (10, .dat (.int .i64 i))]
def ow_st (_ls out : List D) (_m _k : Nat) : Int → Store := fun _ => [mkDyn .one out]
def ow_step (ls out : List D) (m k : Nat) : Int → T (Int ⊕ LOut) := fun i => 
  .chk (!decide (i < (↑(List.length ls) : Int)) || decide (0 ≤ i) && (decide (Int.toNat i < List.length ls) && (okE (Ek.agg [Ek.bool, Ek.str, Ek.int IntKind.i64, Ek.int IntKind.i64, Ek.agg [Ek.int IntKind.i64, Ek.int IntKind.i64]]) (nthD ls (Int.toNat i)) && (decide (i < (↑k : Int)) && (Nat.beq (List.length out) m && (decide (0 + Int.toNat i < List.length out) && okE (Ek.int IntKind.i64) (nthD out (0 + Int.toNat i)))))))) (
   .br (!decide (i < (↑(List.length ls) : Int))) (.leaf (.inr ((some 8), mkF 123 [], [{ sh := Sh.arr Sh.one 0, dyn := true, frz := false, v := .dat (.arr Sh.one out) }]))) (
    .br (decide (i < (↑(List.length ls) : Int)) && bif D.getB (nthD (D.getL (nthD ls (Int.toNat i))) 0) then bif D.getI (nthD (D.getL (nthD ls (Int.toNat i))) 2) != 3 then D.getI (nthD out (0 + Int.toNat i)) != 1 else D.getI (nthD out (0 + Int.toNat i)) != 0 else D.getI (nthD out (0 + Int.toNat i)) != 0) (.leaf (.inr (none, mkF 123 [(2, .dat (.bool false))], [{ sh := Sh.arr Sh.one 0, dyn := true, frz := false, v := .dat (.arr Sh.one out) }]))) (.leaf (.inl (IntKind.wrap IntKind.i64 (i + 1))))))
theorem ow_round (lp : Loops) (ls out : List D) (m k : Nat) (i : Int) (K : Kt) : oneRound (envOf tab SpO [] lp []) Try.f3 4 (1) (mkF 123 [(0, .dat (.slc (.agg [.one, .one, .one, .one, .agg [.one, .one]]) ls)), (3, .sref .one 0 m [] 0 k), (10, .dat (.int .i64 i))]) ([mkDyn .one out]) K =
  (bif decide (i < (↑(List.length ls) : Int)) then 
   (bif decide (0 ≤ i) then 
    (bif decide (Int.toNat i < List.length ls) then 
     (bif okE (Ek.agg [Ek.bool, Ek.str, Ek.int IntKind.i64, Ek.int IntKind.i64, Ek.agg [Ek.int IntKind.i64, Ek.int IntKind.i64]]) (nthD ls (Int.toNat i)) then 
      (bif D.getB (nthD (D.getL (nthD ls (Int.toNat i))) 0) then 
       (bif decide (0 ≤ i) then 
        (bif decide (Int.toNat i < List.length ls) then 
         (bif okE (Ek.agg [Ek.bool, Ek.str, Ek.int IntKind.i64, Ek.int IntKind.i64, Ek.agg [Ek.int IntKind.i64, Ek.int IntKind.i64]]) (nthD ls (Int.toNat i)) then 
          (bif D.getI (nthD (D.getL (nthD ls (Int.toNat i))) 2) != 3 then 
           (bif decide (0 ≤ i) then 
            (bif decide (i < (↑k : Int)) then 
             (bif Nat.beq (List.length out) m && true then 
              (bif decide (0 + Int.toNat i < List.length out) then 
               (bif okE (Ek.int IntKind.i64) (nthD out (0 + Int.toNat i)) then 
                (bif D.getI (nthD out (0 + Int.toNat i)) != 1 then K (Exit.ret) (mkF 123 [(2, .dat (.bool false))]) ([{ sh := Sh.arr Sh.one 0, dyn := true, frz := false, v := .dat (.arr Sh.one out) }]) else K (Exit.normal) (mkF 123 [(0, .dat (.slc (Sh.agg [Sh.one, Sh.one, Sh.one, Sh.one, Sh.agg [Sh.one, Sh.one]]) ls)), (3, AV.sref Sh.one 0 m [] 0 k), (10, .dat (.int .i64 (IntKind.wrap IntKind.i64 (i + 1)))), (101, .dat (.int .i64 i)), (102, .dat (.int .i64 (IntKind.wrap IntKind.i64 (i + 1))))]) ([{ sh := Sh.arr Sh.one 0, dyn := true, frz := false, v := .dat (.arr Sh.one out) }])) else none) else none) else none) else none) else none) else 
           (bif decide (0 ≤ i) then 
            (bif decide (i < (↑k : Int)) then 
             (bif Nat.beq (List.length out) m && true then 
              (bif decide (0 + Int.toNat i < List.length out) then 
               (bif okE (Ek.int IntKind.i64) (nthD out (0 + Int.toNat i)) then 
                (bif D.getI (nthD out (0 + Int.toNat i)) != 0 then K (Exit.ret) (mkF 123 [(2, .dat (.bool false))]) ([{ sh := Sh.arr Sh.one 0, dyn := true, frz := false, v := .dat (.arr Sh.one out) }]) else K (Exit.normal) (mkF 123 [(0, .dat (.slc (Sh.agg [Sh.one, Sh.one, Sh.one, Sh.one, Sh.agg [Sh.one, Sh.one]]) ls)), (3, AV.sref Sh.one 0 m [] 0 k), (10, .dat (.int .i64 (IntKind.wrap IntKind.i64 (i + 1)))), (101, .dat (.int .i64 i)), (102, .dat (.int .i64 (IntKind.wrap IntKind.i64 (i + 1))))]) ([{ sh := Sh.arr Sh.one 0, dyn := true, frz := false, v := .dat (.arr Sh.one out) }])) else none) else none) else none) else none) else none)) else none) else none) else none) else 
       (bif decide (0 ≤ i) then 
        (bif decide (i < (↑k : Int)) then 
         (bif Nat.beq (List.length out) m && true then 
          (bif decide (0 + Int.toNat i < List.length out) then 
           (bif okE (Ek.int IntKind.i64) (nthD out (0 + Int.toNat i)) then 
            (bif D.getI (nthD out (0 + Int.toNat i)) != 0 then K (Exit.ret) (mkF 123 [(2, .dat (.bool false))]) ([{ sh := Sh.arr Sh.one 0, dyn := true, frz := false, v := .dat (.arr Sh.one out) }]) else K (Exit.normal) (mkF 123 [(0, .dat (.slc (Sh.agg [Sh.one, Sh.one, Sh.one, Sh.one, Sh.agg [Sh.one, Sh.one]]) ls)), (3, AV.sref Sh.one 0 m [] 0 k), (10, .dat (.int .i64 (IntKind.wrap IntKind.i64 (i + 1)))), (101, .dat (.int .i64 i)), (102, .dat (.int .i64 (IntKind.wrap IntKind.i64 (i + 1))))]) ([{ sh := Sh.arr Sh.one 0, dyn := true, frz := false, v := .dat (.arr Sh.one out) }])) else none) else none) else none) else none) else none)) else none) else none) else none) else K (Exit.exit 8) (mkF 123 []) ([{ sh := Sh.arr Sh.one 0, dyn := true, frz := false, v := .dat (.arr Sh.one out) }])) := by kernel_rfl
theorem ow_hr (lp : Loops) (ls out : List D) (m k : Nat) : ∀ (sA : Int) (K : Kt) (N : Int → Option Res), (∀ sB fr' σ', cleanF (liveAt Try.f3 4) 0 fr' = ow_fr ls out m k sB → trim (1) (ow_fr ls out m k sB) σ' = ow_st ls out m k sB → K .normal fr' σ' = N sB) →
    oneRound (envOf tab SpO [] lp []) Try.f3 4 (1) (ow_fr ls out m k sA) (ow_st ls out m k sA) K = (ow_step ls out m k sA).k (LK K N) := by
  intro i K N hN
  refine (ow_round lp ls out m k i K).trans ?_
  show _ = T.k ((
  .chk (!decide (i < (↑(List.length ls) : Int)) || decide (0 ≤ i) && (decide (Int.toNat i < List.length ls) && (okE (Ek.agg [Ek.bool, Ek.str, Ek.int IntKind.i64, Ek.int IntKind.i64, Ek.agg [Ek.int IntKind.i64, Ek.int IntKind.i64]]) (nthD ls (Int.toNat i)) && (decide (i < (↑k : Int)) && (Nat.beq (List.length out) m && (decide (0 + Int.toNat i < List.length out) && okE (Ek.int IntKind.i64) (nthD out (0 + Int.toNat i)))))))) (
   .br (!decide (i < (↑(List.length ls) : Int))) (.leaf (.inr ((some 8), mkF 123 [], [{ sh := Sh.arr Sh.one 0, dyn := true, frz := false, v := .dat (.arr Sh.one out) }]))) (
    .br (decide (i < (↑(List.length ls) : Int)) && bif D.getB (nthD (D.getL (nthD ls (Int.toNat i))) 0) then bif D.getI (nthD (D.getL (nthD ls (Int.toNat i))) 2) != 3 then D.getI (nthD out (0 + Int.toNat i)) != 1 else D.getI (nthD out (0 + Int.toNat i)) != 0 else D.getI (nthD out (0 + Int.toNat i)) != 0) (.leaf (.inr (none, mkF 123 [(2, .dat (.bool false))], [{ sh := Sh.arr Sh.one 0, dyn := true, frz := false, v := .dat (.arr Sh.one out) }]))) (.leaf (.inl (IntKind.wrap IntKind.i64 (i + 1))))))) : T (Int ⊕ LOut)) (LK K N)
  generalize (decide (0 + Int.toNat i < List.length out)) = z0
  generalize (okE (Ek.agg [Ek.bool, Ek.str, Ek.int IntKind.i64, Ek.int IntKind.i64, Ek.agg [Ek.int IntKind.i64, Ek.int IntKind.i64]]) (nthD ls (Int.toNat i))) = z1
  generalize (D.getI (nthD out (0 + Int.toNat i)) != 0) = z2
  generalize (D.getI (nthD out (0 + Int.toNat i)) != 1) = z3
  generalize (D.getI (nthD (D.getL (nthD ls (Int.toNat i))) 2) != 3) = z4
  generalize (okE (Ek.int IntKind.i64) (nthD out (0 + Int.toNat i))) = z5
  generalize (decide (i < (↑(List.length ls) : Int))) = z6
  generalize (decide (0 ≤ i)) = z7
  generalize (decide (Int.toNat i < List.length ls)) = z8
  generalize (decide (i < (↑k : Int))) = z9
  generalize (D.getB (nthD (D.getL (nthD ls (Int.toNat i))) 0)) = z10
  generalize (Nat.beq (List.length out) m) = z11
  cases z6 with
  | true =>
   cases z7 with
   | true =>
    cases z8 with
    | true =>
     cases z1 with
     | true =>
      cases z10 with
      | true =>
       cases z4 with
       | true =>
        cases z9 with
        | true =>
         cases z11 with
         | true =>
          cases z0 with
          | true =>
           cases z5 with
           | true =>
            cases z3 with
            | true =>
             rfl
            | false =>
             exact hN _ _ _ (by kernel_rfl) (by kernel_rfl)
           | false =>
            rfl
          | false =>
           rfl
         | false =>
          rfl
        | false =>
         rfl
       | false =>
        cases z9 with
        | true =>
         cases z11 with
         | true =>
          cases z0 with
          | true =>
           cases z5 with
           | true =>
            cases z2 with
            | true =>
             rfl
            | false =>
             exact hN _ _ _ (by kernel_rfl) (by kernel_rfl)
           | false =>
            rfl
          | false =>
           rfl
         | false =>
          rfl
        | false =>
         rfl
      | false =>
       cases z9 with
       | true =>
        cases z11 with
        | true =>
         cases z0 with
         | true =>
          cases z5 with
          | true =>
           cases z2 with
           | true =>
            rfl
           | false =>
            exact hN _ _ _ (by kernel_rfl) (by kernel_rfl)
          | false =>
           rfl
         | false =>
          rfl
        | false =>
         rfl
       | false =>
        rfl
     | false =>
      rfl
    | false =>
     rfl
   | false =>
    rfl
  | false =>
   rfl
theorem ow_enter (ls out : List D) (m k : Nat) (i : Int) (fr : Frame') (hl : Nat.beq fr.length 123 = true) (g0 : fr.getD 0 .undef = .dat (.slc (Sh.agg [Sh.one, Sh.one, Sh.one, Sh.one, Sh.agg [Sh.one, Sh.one]]) ls)) (g3 : fr.getD 3 .undef = AV.sref Sh.one 0 m [] 0 k) (g10 : fr.getD 10 .undef = .dat (.int .i64 i)) : cleanF (liveAt Try.f3 4) 0 fr = ow_fr ls out m k i := by
  have e : liveAt Try.f3 4 = [0, 3, 10] := by kernel_rfl
  rw [clean_mk (Nat.eq_of_beq_eq_true hl), e]
  show mkF 123 [(0, fr.getD 0 .undef), (3, fr.getD 3 .undef), (10, fr.getD 10 .undef)] = _
  rw [g0, g3, g10]
  kernel_rfl

def wantP (d : D) (x : Int) : Bool := bif fU d then bif fK d != 3 then x != 1 else x != 0 else x != 0
theorem ow_closed (ls out : List D) (m k : Nat) (hc : (okM2 ls m k && okC ls.length out) = true) :
    ∃ z, (iterT (ow_step ls out m k) z 0).run = T.run (.br ((List.range ls.length).any fun i => wantP (nthD ls i) (D.getI (nthD out i))) (.leaf (none, mkF 123 [(2, .dat (.bool false))], [mkDyn .one out])) (.leaf (some 8, mkF 123 [], [mkDyn .one out]))) := by
  simp only [okM2, Bool.and_eq_true] at hc
  obtain ⟨⟨hE, hm, hk⟩, ho, hol⟩ := hc
  obtain rfl := Nat.eq_of_beq_eq_true hm
  obtain rfl := Nat.eq_of_beq_eq_true hk
  have hol := Nat.eq_of_beq_eq_true hol
  obtain ⟨h1, h2⟩ := okEs_spec hE
  obtain ⟨z, hz⟩ := iter_any (step := ow_step ls out ls.length ls.length) (n := ls.length) (p := fun i => wantP (nthD ls i) (D.getI (nthD out i))) (o := (none, mkF 123 [(2, .dat (.bool false))], [mkDyn .one out])) (o' := (some 8, mkF 123 [], [mkDyn .one out]))
    (fun i hi => by
      unfold ow_step
      simp only [decide_eq_true (show (i : Int) < (ls.length : Int) by omega), decide_eq_true (show 0 ≤ (i : Int) by omega), Int.toNat_natCast, decide_eq_true hi, allE_nth h1 hi, allE_nth ho (show i < out.length by omega), hol, beq_self, Nat.zero_add, wrap_succ (show i < 2 ^ 62 by omega), Bool.not_true, Bool.false_or, Bool.true_and, T.run_br, T.run_chk, T.run_leaf, cond_true, cond_false]
      exact bif_some _ _ _)
    (by
      unfold ow_step
      simp only [decide_eq_false (show ¬ (ls.length : Int) < (ls.length : Int) by omega)]
      rfl)
  refine ⟨z, hz.trans ?_⟩
  cases (List.range ls.length).any fun i => wantP (nthD ls i) (D.getI (nthD out i)) <;> rfl
def L_ow : Frame' → Store → T (Exit × Frame' × Store) := fun fr σ => match fr.getD 0 .undef, fr.getD 3 .undef, fr.getD 10 .undef, σ with
  | AV.dat (D.slc (Sh.agg [Sh.one, Sh.one, Sh.one, Sh.one, Sh.agg [Sh.one, Sh.one]]) ls), AV.sref Sh.one 0 m [] 0 k, AV.dat (D.int IntKind.i64 0), [{ sh := Sh.arr Sh.one 0, dyn := true, frz := false, v := AV.dat (D.arr Sh.one out) }] => .chk (Nat.beq fr.length 123 && (okM2 ls m k && okC ls.length out)) (T.bind (.br ((List.range ls.length).any fun i => wantP (nthD ls i) (D.getI (nthD out i))) (.leaf (none, mkF 123 [(2, .dat (.bool false))], [mkDyn .one out])) (.leaf (some 8, mkF 123 [], [mkDyn .one out]))) fun o => .leaf (outEx o.1, o.2.1, o.2.2))
  | _, _, _, _ => .fail
theorem ow_sem (lp : Loops) : ∀ fr σ p, (L_ow fr σ).run = some p → ∀ (K : Kt) r, K p.1 p.2.1 p.2.2 = some r → ∃ n, loopRun (envOf tab SpO [] lp []) Try.f3 4 σ.length n (cleanF (liveAt Try.f3 4) 0 fr) σ K = some r := by
  intro fr σ p h K r hK
  unfold L_ow at h
  split at h
  · rename_i ls m k out g0 g3 g10
    obtain ⟨hc, h'⟩ := T.chk_some h
    rw [Bool.and_eq_true] at hc
    obtain ⟨hl, hc⟩ := hc
    obtain ⟨o, ho, h'⟩ := T.bind_some h'
    have hp := T.leaf_some h'
    subst hp
    obtain ⟨nF, hn⟩ : ∃ nF, (iterT (ow_step ls out m k) nF (0)).run = T.run (.br ((List.range ls.length).any fun i => wantP (nthD ls i) (D.getI (nthD out i))) (.leaf (none, mkF 123 [(2, .dat (.bool false))], [mkDyn .one out])) (.leaf (some 8, mkF 123 [], [mkDyn .one out]))) := ow_closed ls out m k hc
    rw [ho] at hn
    refine ⟨nF, ?_⟩
    have he : cleanF (liveAt Try.f3 4) 0 fr = ow_fr ls out m k (0) := ow_enter ls out m k _ fr hl g0 g3 g10
    refine (iter_ok (base := 1) (ow_hr lp ls out m k) K nF (0) _ _ (by rw [clean_clean]; exact he) (by kernel_rfl)).trans ?_
    rw [T.k_run hn]
    exact hK
  · simp [T.run_fail] at h
theorem ow_loopOk (lp : Loops) (hk : Loops.get lp 25 = some L_ow) : LoopOk (envOf tab SpO [] lp []) (loopAt Try.f3 4).1 (loopAt Try.f3 4).2 := loop_ok (L := L_ow) hk (ow_sem lp)


end Go.Proofs.Ytnegedbjcjfndaa
