/- Seat 18: TradeTwo's loops. -/
import Derived.Test.YtlgieadebfdppaaH
namespace Go.Proofs.Ytlgieadebfdppaa
open Go.AX
set_option maxRecDepth 100000

abbrev SpI : Specs := [(7, C_alive), (8, C_shut), (9, C_right), (10, C_of), (11, C_gett)]
theorem SpI_ok : SpecsOk Try.prog SpI := .cons calive_ok (.cons cshut_ok (.cons cright_ok (.cons cof_ok (.cons cgett_ok (.nil _)))))
theorem get_is {ls : List D} (h1 : ls.all (okE k27) = true) (hl : ls.length ≤ 1048576) {i : Nat} (hi : i < ls.length) {a b gc ga gi wc wa wi : Int} (hn : nthD ls i = tD true a b gc ga gi wc wa wi) {w : Int} (hw : w = a ∨ w = b) :
    gett_pre ls i = true ∧ gett_v9 ls i w = 0 ∧ gett_v1 ls i w = a ∧ gett_v2 ls i w = b := by
  have hh : ihas_v0 ls (i : Int) = true := by
    unfold ihas_v0
    rw [decide_eq_true (show (0 : Int) ≤ (i : Int) by omega), decide_eq_true (show (i : Int) < (ls.length : Int) by omega), Int.toNat_natCast, hn]; rfl
  refine ⟨?_, ?_⟩
  · unfold gett_pre
    rw [iof_ok h1 hl, hh, has_pre h1, Int.toNat_natCast, decide_eq_true hi, allE_nth h1 hi, decide_eq_true (show (0 : Int) ≤ (i : Int) by omega)]; rfl
  · unfold gett_v9 gett_v1 gett_v2
    rw [hh, Int.toNat_natCast, hn]
    show (bif true then bif a != w then bif b != w then 3 else 0 else 0 else 3) = (0 : Int) ∧ (bif true then bif a != w then bif b != w then 0 else a else a else 0) = a ∧ (bif true then bif a != w then bif b != w then 0 else b else b else 0) = b
    have e : (w != w) = false := by simp
    rcases hw with rfl | rfl
    · rw [e]; exact ⟨rfl, rfl, rfl⟩
    · rw [e]; cases (a != w) <;> exact ⟨rfl, rfl, rfl⟩
def goodP (ls : List D) (w : Int) (d : D) : Bool := okE (.int .i64) d && (decide (0 ≤ D.getI d) && (decide (D.getI d < (ls.length : Int)) && (fU (nthD ls (D.getI d).toNat) && (fI (nthD ls (D.getI d).toNat) 1 == w || fI (nthD ls (D.getI d).toNat) 2 == w))))
abbrev tiC (ls hs : List D) (w : Int) : Bool := ls.all (okE k27) && (decide (ls.length ≤ 1048576) && (right_v0 ls && (hs.all (goodP ls w) && decide (hs.length ≤ 1099511627776))))
def ti_fr (ls hs : List D) (n w : Int) : Int → Frame' := fun j => mkF 125 [(0, .dat (.slc s27 ls)), (3, .dat (.int .i64 n)), (4, .dat (.int .i64 w)), (5, .dat (.slc .one hs)), (6, .dat (.int .i64 j))]
def ti_st (_ls _hs : List D) (_n _w : Int) : Int → Store := fun _ => []
def ti_step (ls hs : List D) (n w : Int) : Int → T (Int ⊕ LOut) := fun j => 
  .chk (!decide (j < (↑(List.length hs) : Int)) || decide (0 ≤ j) && (decide (Int.toNat j < List.length hs) && (okE (Ek.int IntKind.i64) (nthD hs (Int.toNat j)) && (decide (D.getI (nthD hs (Int.toNat j)) < 0) || (decide ((↑(List.length ls) : Int) ≤ D.getI (nthD hs (Int.toNat j))) || gett_pre ls (D.getI (nthD hs (Int.toNat j))) && (shut_pre ls (D.getI (nthD hs (Int.toNat j))) w && (gett_v9 ls (D.getI (nthD hs (Int.toNat j))) w != 0 || bif gett_v1 ls (D.getI (nthD hs (Int.toNat j))) w != w then gett_v2 ls (D.getI (nthD hs (Int.toNat j))) w != w || (shut_v1 ls (D.getI (nthD hs (Int.toNat j))) w != 0 || ((↑(List.length (shut_v0 ls (D.getI (nthD hs (Int.toNat j))) w)) : Int) != (↑(List.length ls) : Int) || decide (0 ≤ D.getI (nthD hs (Int.toNat j))) && (decide (Int.toNat (D.getI (nthD hs (Int.toNat j))) < List.length (shut_v0 ls (D.getI (nthD hs (Int.toNat j))) w)) && okE (k27) (nthD (shut_v0 ls (D.getI (nthD hs (Int.toNat j))) w) (Int.toNat (D.getI (nthD hs (Int.toNat j)))))))) else shut_v1 ls (D.getI (nthD hs (Int.toNat j))) w != 0 || ((↑(List.length (shut_v0 ls (D.getI (nthD hs (Int.toNat j))) w)) : Int) != (↑(List.length ls) : Int) || decide (0 ≤ D.getI (nthD hs (Int.toNat j))) && (decide (Int.toNat (D.getI (nthD hs (Int.toNat j))) < List.length (shut_v0 ls (D.getI (nthD hs (Int.toNat j))) w)) && okE (k27) (nthD (shut_v0 ls (D.getI (nthD hs (Int.toNat j))) w) (Int.toNat (D.getI (nthD hs (Int.toNat j)))))))))))))) (
   .br (!decide (j < (↑(List.length hs) : Int))) (.leaf (.inr ((some 2), mkF 125 [(0, .dat (.slc (s27) ls)), (3, .dat (.int .i64 n)), (4, .dat (.int .i64 w))], []))) (
    .br (decide (j < (↑(List.length hs) : Int)) && (decide (D.getI (nthD hs (Int.toNat j)) < 0) || decide ((↑(List.length ls) : Int) ≤ D.getI (nthD hs (Int.toNat j))))) (.leaf (.inr (none, mkF 125 [(2, .dat (.bool false))], []))) (
     .br (decide (j < (↑(List.length hs) : Int)) && (!decide (D.getI (nthD hs (Int.toNat j)) < 0) && (!decide ((↑(List.length ls) : Int) ≤ D.getI (nthD hs (Int.toNat j))) && (gett_v9 ls (D.getI (nthD hs (Int.toNat j))) w != 0 || bif gett_v1 ls (D.getI (nthD hs (Int.toNat j))) w != w then gett_v2 ls (D.getI (nthD hs (Int.toNat j))) w != w || (shut_v1 ls (D.getI (nthD hs (Int.toNat j))) w != 0 || ((↑(List.length (shut_v0 ls (D.getI (nthD hs (Int.toNat j))) w)) : Int) != (↑(List.length ls) : Int) || D.getB (nthD (D.getL (nthD (shut_v0 ls (D.getI (nthD hs (Int.toNat j))) w) (Int.toNat (D.getI (nthD hs (Int.toNat j)))))) 0))) else shut_v1 ls (D.getI (nthD hs (Int.toNat j))) w != 0 || ((↑(List.length (shut_v0 ls (D.getI (nthD hs (Int.toNat j))) w)) : Int) != (↑(List.length ls) : Int) || D.getB (nthD (D.getL (nthD (shut_v0 ls (D.getI (nthD hs (Int.toNat j))) w) (Int.toNat (D.getI (nthD hs (Int.toNat j)))))) 0)))))) (.leaf (.inr (none, mkF 125 [(2, .dat (.bool false))], [{ sh := s27, dyn := false, frz := false, v := .dat (.agg [D.bool (gett_v0 ls (D.getI (nthD hs (Int.toNat j))) w), D.int .i64 (gett_v1 ls (D.getI (nthD hs (Int.toNat j))) w), D.int .i64 (gett_v2 ls (D.getI (nthD hs (Int.toNat j))) w), D.agg [D.int .i64 (gett_v3 ls (D.getI (nthD hs (Int.toNat j))) w), D.int IntKind.u64 (gett_v4 ls (D.getI (nthD hs (Int.toNat j))) w), D.int .i64 (gett_v5 ls (D.getI (nthD hs (Int.toNat j))) w)], D.agg [D.int .i64 (gett_v6 ls (D.getI (nthD hs (Int.toNat j))) w), D.int IntKind.u64 (gett_v7 ls (D.getI (nthD hs (Int.toNat j))) w), D.int .i64 (gett_v8 ls (D.getI (nthD hs (Int.toNat j))) w)]]) }]))) (.leaf (.inl (IntKind.wrap IntKind.i64 (j + 1)))))))
theorem ti_round (lp : Loops) (ls hs : List D) (n w : Int) (j : Int) (K : Kt) : oneRound (envOf tab SpI [] lp []) Try.f4 1 (0) (mkF 125 [(0, .dat (.slc s27 ls)), (3, .dat (.int .i64 n)), (4, .dat (.int .i64 w)), (5, .dat (.slc .one hs)), (6, .dat (.int .i64 j))]) ([]) K =
  (bif decide (j < (↑(List.length hs) : Int)) then 
   (bif decide (0 ≤ j) then 
    (bif decide (Int.toNat j < List.length hs) then 
     (bif okE (Ek.int IntKind.i64) (nthD hs (Int.toNat j)) then 
      (bif decide (D.getI (nthD hs (Int.toNat j)) < 0) then K (Exit.ret) (mkF 125 [(2, .dat (.bool false))]) ([]) else 
       (bif decide (0 ≤ j) then 
        (bif decide (Int.toNat j < List.length hs) then 
         (bif okE (Ek.int IntKind.i64) (nthD hs (Int.toNat j)) then 
          (bif decide (D.getI (nthD hs (Int.toNat j)) ≥ (↑(List.length ls) : Int)) then K (Exit.ret) (mkF 125 [(2, .dat (.bool false))]) ([]) else 
           (bif decide (0 ≤ j) then 
            (bif decide (Int.toNat j < List.length hs) then 
             (bif okE (Ek.int IntKind.i64) (nthD hs (Int.toNat j)) then 
              (bif gett_pre ls (D.getI (nthD hs (Int.toNat j))) then 
               (bif decide (0 ≤ j) then 
                (bif decide (Int.toNat j < List.length hs) then 
                 (bif okE (Ek.int IntKind.i64) (nthD hs (Int.toNat j)) then 
                  (bif shut_pre ls (D.getI (nthD hs (Int.toNat j))) w then 
                   (bif gett_v9 ls (D.getI (nthD hs (Int.toNat j))) w != 0 then K (Exit.ret) (mkF 125 [(2, .dat (.bool false))]) ([{ sh := s27, dyn := false, frz := false, v := .dat (.agg [D.bool (gett_v0 ls (D.getI (nthD hs (Int.toNat j))) w), D.int .i64 (gett_v1 ls (D.getI (nthD hs (Int.toNat j))) w), D.int .i64 (gett_v2 ls (D.getI (nthD hs (Int.toNat j))) w), D.agg [D.int .i64 (gett_v3 ls (D.getI (nthD hs (Int.toNat j))) w), D.int IntKind.u64 (gett_v4 ls (D.getI (nthD hs (Int.toNat j))) w), D.int .i64 (gett_v5 ls (D.getI (nthD hs (Int.toNat j))) w)], D.agg [D.int .i64 (gett_v6 ls (D.getI (nthD hs (Int.toNat j))) w), D.int IntKind.u64 (gett_v7 ls (D.getI (nthD hs (Int.toNat j))) w), D.int .i64 (gett_v8 ls (D.getI (nthD hs (Int.toNat j))) w)]]) }]) else 
                    (bif gett_v1 ls (D.getI (nthD hs (Int.toNat j))) w != w then 
                     (bif gett_v2 ls (D.getI (nthD hs (Int.toNat j))) w != w then K (Exit.ret) (mkF 125 [(2, .dat (.bool false))]) ([{ sh := s27, dyn := false, frz := false, v := .dat (.agg [D.bool (gett_v0 ls (D.getI (nthD hs (Int.toNat j))) w), D.int .i64 (gett_v1 ls (D.getI (nthD hs (Int.toNat j))) w), D.int .i64 (gett_v2 ls (D.getI (nthD hs (Int.toNat j))) w), D.agg [D.int .i64 (gett_v3 ls (D.getI (nthD hs (Int.toNat j))) w), D.int IntKind.u64 (gett_v4 ls (D.getI (nthD hs (Int.toNat j))) w), D.int .i64 (gett_v5 ls (D.getI (nthD hs (Int.toNat j))) w)], D.agg [D.int .i64 (gett_v6 ls (D.getI (nthD hs (Int.toNat j))) w), D.int IntKind.u64 (gett_v7 ls (D.getI (nthD hs (Int.toNat j))) w), D.int .i64 (gett_v8 ls (D.getI (nthD hs (Int.toNat j))) w)]]) }]) else 
                      (bif shut_v1 ls (D.getI (nthD hs (Int.toNat j))) w != 0 then K (Exit.ret) (mkF 125 [(2, .dat (.bool false))]) ([{ sh := s27, dyn := false, frz := false, v := .dat (.agg [D.bool (gett_v0 ls (D.getI (nthD hs (Int.toNat j))) w), D.int .i64 (gett_v1 ls (D.getI (nthD hs (Int.toNat j))) w), D.int .i64 (gett_v2 ls (D.getI (nthD hs (Int.toNat j))) w), D.agg [D.int .i64 (gett_v3 ls (D.getI (nthD hs (Int.toNat j))) w), D.int IntKind.u64 (gett_v4 ls (D.getI (nthD hs (Int.toNat j))) w), D.int .i64 (gett_v5 ls (D.getI (nthD hs (Int.toNat j))) w)], D.agg [D.int .i64 (gett_v6 ls (D.getI (nthD hs (Int.toNat j))) w), D.int IntKind.u64 (gett_v7 ls (D.getI (nthD hs (Int.toNat j))) w), D.int .i64 (gett_v8 ls (D.getI (nthD hs (Int.toNat j))) w)]]) }]) else 
                       (bif (↑(List.length (shut_v0 ls (D.getI (nthD hs (Int.toNat j))) w)) : Int) != (↑(List.length ls) : Int) then K (Exit.ret) (mkF 125 [(2, .dat (.bool false))]) ([{ sh := s27, dyn := false, frz := false, v := .dat (.agg [D.bool (gett_v0 ls (D.getI (nthD hs (Int.toNat j))) w), D.int .i64 (gett_v1 ls (D.getI (nthD hs (Int.toNat j))) w), D.int .i64 (gett_v2 ls (D.getI (nthD hs (Int.toNat j))) w), D.agg [D.int .i64 (gett_v3 ls (D.getI (nthD hs (Int.toNat j))) w), D.int IntKind.u64 (gett_v4 ls (D.getI (nthD hs (Int.toNat j))) w), D.int .i64 (gett_v5 ls (D.getI (nthD hs (Int.toNat j))) w)], D.agg [D.int .i64 (gett_v6 ls (D.getI (nthD hs (Int.toNat j))) w), D.int IntKind.u64 (gett_v7 ls (D.getI (nthD hs (Int.toNat j))) w), D.int .i64 (gett_v8 ls (D.getI (nthD hs (Int.toNat j))) w)]]) }]) else 
                        (bif decide (0 ≤ j) then 
                         (bif decide (Int.toNat j < List.length hs) then 
                          (bif okE (Ek.int IntKind.i64) (nthD hs (Int.toNat j)) then 
                           (bif decide (0 ≤ D.getI (nthD hs (Int.toNat j))) then 
                            (bif decide (Int.toNat (D.getI (nthD hs (Int.toNat j))) < List.length (shut_v0 ls (D.getI (nthD hs (Int.toNat j))) w)) then 
                             (bif okE (k27) (nthD (shut_v0 ls (D.getI (nthD hs (Int.toNat j))) w) (Int.toNat (D.getI (nthD hs (Int.toNat j))))) then 
                              (bif D.getB (nthD (D.getL (nthD (shut_v0 ls (D.getI (nthD hs (Int.toNat j))) w) (Int.toNat (D.getI (nthD hs (Int.toNat j)))))) 0) then K (Exit.ret) (mkF 125 [(2, .dat (.bool false))]) ([{ sh := s27, dyn := false, frz := false, v := .dat (.agg [D.bool (gett_v0 ls (D.getI (nthD hs (Int.toNat j))) w), D.int .i64 (gett_v1 ls (D.getI (nthD hs (Int.toNat j))) w), D.int .i64 (gett_v2 ls (D.getI (nthD hs (Int.toNat j))) w), D.agg [D.int .i64 (gett_v3 ls (D.getI (nthD hs (Int.toNat j))) w), D.int IntKind.u64 (gett_v4 ls (D.getI (nthD hs (Int.toNat j))) w), D.int .i64 (gett_v5 ls (D.getI (nthD hs (Int.toNat j))) w)], D.agg [D.int .i64 (gett_v6 ls (D.getI (nthD hs (Int.toNat j))) w), D.int IntKind.u64 (gett_v7 ls (D.getI (nthD hs (Int.toNat j))) w), D.int .i64 (gett_v8 ls (D.getI (nthD hs (Int.toNat j))) w)]]) }]) else K (Exit.normal) (mkF 125 [(0, .dat (.slc (s27) ls)), (3, .dat (.int .i64 n)), (4, .dat (.int .i64 w)), (5, .dat (.slc Sh.one hs)), (6, .dat (.int .i64 (IntKind.wrap IntKind.i64 (j + 1)))), (36, .dat (.int .i64 j)), (37, .dat (.int .i64 (IntKind.wrap IntKind.i64 (j + 1))))]) ([{ sh := s27, dyn := false, frz := false, v := .dat (.agg [D.bool (gett_v0 ls (D.getI (nthD hs (Int.toNat j))) w), D.int .i64 (gett_v1 ls (D.getI (nthD hs (Int.toNat j))) w), D.int .i64 (gett_v2 ls (D.getI (nthD hs (Int.toNat j))) w), D.agg [D.int .i64 (gett_v3 ls (D.getI (nthD hs (Int.toNat j))) w), D.int IntKind.u64 (gett_v4 ls (D.getI (nthD hs (Int.toNat j))) w), D.int .i64 (gett_v5 ls (D.getI (nthD hs (Int.toNat j))) w)], D.agg [D.int .i64 (gett_v6 ls (D.getI (nthD hs (Int.toNat j))) w), D.int IntKind.u64 (gett_v7 ls (D.getI (nthD hs (Int.toNat j))) w), D.int .i64 (gett_v8 ls (D.getI (nthD hs (Int.toNat j))) w)]]) }])) else none) else none) else none) else none) else none) else none)))) else 
                     (bif shut_v1 ls (D.getI (nthD hs (Int.toNat j))) w != 0 then K (Exit.ret) (mkF 125 [(2, .dat (.bool false))]) ([{ sh := s27, dyn := false, frz := false, v := .dat (.agg [D.bool (gett_v0 ls (D.getI (nthD hs (Int.toNat j))) w), D.int .i64 (gett_v1 ls (D.getI (nthD hs (Int.toNat j))) w), D.int .i64 (gett_v2 ls (D.getI (nthD hs (Int.toNat j))) w), D.agg [D.int .i64 (gett_v3 ls (D.getI (nthD hs (Int.toNat j))) w), D.int IntKind.u64 (gett_v4 ls (D.getI (nthD hs (Int.toNat j))) w), D.int .i64 (gett_v5 ls (D.getI (nthD hs (Int.toNat j))) w)], D.agg [D.int .i64 (gett_v6 ls (D.getI (nthD hs (Int.toNat j))) w), D.int IntKind.u64 (gett_v7 ls (D.getI (nthD hs (Int.toNat j))) w), D.int .i64 (gett_v8 ls (D.getI (nthD hs (Int.toNat j))) w)]]) }]) else 
                      (bif (↑(List.length (shut_v0 ls (D.getI (nthD hs (Int.toNat j))) w)) : Int) != (↑(List.length ls) : Int) then K (Exit.ret) (mkF 125 [(2, .dat (.bool false))]) ([{ sh := s27, dyn := false, frz := false, v := .dat (.agg [D.bool (gett_v0 ls (D.getI (nthD hs (Int.toNat j))) w), D.int .i64 (gett_v1 ls (D.getI (nthD hs (Int.toNat j))) w), D.int .i64 (gett_v2 ls (D.getI (nthD hs (Int.toNat j))) w), D.agg [D.int .i64 (gett_v3 ls (D.getI (nthD hs (Int.toNat j))) w), D.int IntKind.u64 (gett_v4 ls (D.getI (nthD hs (Int.toNat j))) w), D.int .i64 (gett_v5 ls (D.getI (nthD hs (Int.toNat j))) w)], D.agg [D.int .i64 (gett_v6 ls (D.getI (nthD hs (Int.toNat j))) w), D.int IntKind.u64 (gett_v7 ls (D.getI (nthD hs (Int.toNat j))) w), D.int .i64 (gett_v8 ls (D.getI (nthD hs (Int.toNat j))) w)]]) }]) else 
                       (bif decide (0 ≤ j) then 
                        (bif decide (Int.toNat j < List.length hs) then 
                         (bif okE (Ek.int IntKind.i64) (nthD hs (Int.toNat j)) then 
                          (bif decide (0 ≤ D.getI (nthD hs (Int.toNat j))) then 
                           (bif decide (Int.toNat (D.getI (nthD hs (Int.toNat j))) < List.length (shut_v0 ls (D.getI (nthD hs (Int.toNat j))) w)) then 
                            (bif okE (k27) (nthD (shut_v0 ls (D.getI (nthD hs (Int.toNat j))) w) (Int.toNat (D.getI (nthD hs (Int.toNat j))))) then 
                             (bif D.getB (nthD (D.getL (nthD (shut_v0 ls (D.getI (nthD hs (Int.toNat j))) w) (Int.toNat (D.getI (nthD hs (Int.toNat j)))))) 0) then K (Exit.ret) (mkF 125 [(2, .dat (.bool false))]) ([{ sh := s27, dyn := false, frz := false, v := .dat (.agg [D.bool (gett_v0 ls (D.getI (nthD hs (Int.toNat j))) w), D.int .i64 (gett_v1 ls (D.getI (nthD hs (Int.toNat j))) w), D.int .i64 (gett_v2 ls (D.getI (nthD hs (Int.toNat j))) w), D.agg [D.int .i64 (gett_v3 ls (D.getI (nthD hs (Int.toNat j))) w), D.int IntKind.u64 (gett_v4 ls (D.getI (nthD hs (Int.toNat j))) w), D.int .i64 (gett_v5 ls (D.getI (nthD hs (Int.toNat j))) w)], D.agg [D.int .i64 (gett_v6 ls (D.getI (nthD hs (Int.toNat j))) w), D.int IntKind.u64 (gett_v7 ls (D.getI (nthD hs (Int.toNat j))) w), D.int .i64 (gett_v8 ls (D.getI (nthD hs (Int.toNat j))) w)]]) }]) else K (Exit.normal) (mkF 125 [(0, .dat (.slc (s27) ls)), (3, .dat (.int .i64 n)), (4, .dat (.int .i64 w)), (5, .dat (.slc Sh.one hs)), (6, .dat (.int .i64 (IntKind.wrap IntKind.i64 (j + 1)))), (36, .dat (.int .i64 j)), (37, .dat (.int .i64 (IntKind.wrap IntKind.i64 (j + 1))))]) ([{ sh := s27, dyn := false, frz := false, v := .dat (.agg [D.bool (gett_v0 ls (D.getI (nthD hs (Int.toNat j))) w), D.int .i64 (gett_v1 ls (D.getI (nthD hs (Int.toNat j))) w), D.int .i64 (gett_v2 ls (D.getI (nthD hs (Int.toNat j))) w), D.agg [D.int .i64 (gett_v3 ls (D.getI (nthD hs (Int.toNat j))) w), D.int IntKind.u64 (gett_v4 ls (D.getI (nthD hs (Int.toNat j))) w), D.int .i64 (gett_v5 ls (D.getI (nthD hs (Int.toNat j))) w)], D.agg [D.int .i64 (gett_v6 ls (D.getI (nthD hs (Int.toNat j))) w), D.int IntKind.u64 (gett_v7 ls (D.getI (nthD hs (Int.toNat j))) w), D.int .i64 (gett_v8 ls (D.getI (nthD hs (Int.toNat j))) w)]]) }])) else none) else none) else none) else none) else none) else none))))) else none) else none) else none) else none) else none) else none) else none) else none)) else none) else none) else none)) else none) else none) else none) else K (Exit.exit 2) (mkF 125 [(0, .dat (.slc (s27) ls)), (3, .dat (.int .i64 n)), (4, .dat (.int .i64 w))]) ([])) := by kernel_rfl
theorem ti_hr (lp : Loops) (ls hs : List D) (n w : Int) : ∀ (sA : Int) (K : Kt) (N : Int → Option Res), (∀ sB fr' σ', cleanF (liveAt Try.f4 1) 0 fr' = ti_fr ls hs n w sB → trim (0) (ti_fr ls hs n w sB) σ' = ti_st ls hs n w sB → K .normal fr' σ' = N sB) →
    oneRound (envOf tab SpI [] lp []) Try.f4 1 (0) (ti_fr ls hs n w sA) (ti_st ls hs n w sA) K = (ti_step ls hs n w sA).k (LK K N) := by
  intro j K N hN
  refine (ti_round lp ls hs n w j K).trans ?_
  show _ = T.k ((
  .chk (!decide (j < (↑(List.length hs) : Int)) || decide (0 ≤ j) && (decide (Int.toNat j < List.length hs) && (okE (Ek.int IntKind.i64) (nthD hs (Int.toNat j)) && (decide (D.getI (nthD hs (Int.toNat j)) < 0) || (decide ((↑(List.length ls) : Int) ≤ D.getI (nthD hs (Int.toNat j))) || gett_pre ls (D.getI (nthD hs (Int.toNat j))) && (shut_pre ls (D.getI (nthD hs (Int.toNat j))) w && (gett_v9 ls (D.getI (nthD hs (Int.toNat j))) w != 0 || bif gett_v1 ls (D.getI (nthD hs (Int.toNat j))) w != w then gett_v2 ls (D.getI (nthD hs (Int.toNat j))) w != w || (shut_v1 ls (D.getI (nthD hs (Int.toNat j))) w != 0 || ((↑(List.length (shut_v0 ls (D.getI (nthD hs (Int.toNat j))) w)) : Int) != (↑(List.length ls) : Int) || decide (0 ≤ D.getI (nthD hs (Int.toNat j))) && (decide (Int.toNat (D.getI (nthD hs (Int.toNat j))) < List.length (shut_v0 ls (D.getI (nthD hs (Int.toNat j))) w)) && okE (k27) (nthD (shut_v0 ls (D.getI (nthD hs (Int.toNat j))) w) (Int.toNat (D.getI (nthD hs (Int.toNat j)))))))) else shut_v1 ls (D.getI (nthD hs (Int.toNat j))) w != 0 || ((↑(List.length (shut_v0 ls (D.getI (nthD hs (Int.toNat j))) w)) : Int) != (↑(List.length ls) : Int) || decide (0 ≤ D.getI (nthD hs (Int.toNat j))) && (decide (Int.toNat (D.getI (nthD hs (Int.toNat j))) < List.length (shut_v0 ls (D.getI (nthD hs (Int.toNat j))) w)) && okE (k27) (nthD (shut_v0 ls (D.getI (nthD hs (Int.toNat j))) w) (Int.toNat (D.getI (nthD hs (Int.toNat j)))))))))))))) (
   .br (!decide (j < (↑(List.length hs) : Int))) (.leaf (.inr ((some 2), mkF 125 [(0, .dat (.slc (s27) ls)), (3, .dat (.int .i64 n)), (4, .dat (.int .i64 w))], []))) (
    .br (decide (j < (↑(List.length hs) : Int)) && (decide (D.getI (nthD hs (Int.toNat j)) < 0) || decide ((↑(List.length ls) : Int) ≤ D.getI (nthD hs (Int.toNat j))))) (.leaf (.inr (none, mkF 125 [(2, .dat (.bool false))], []))) (
     .br (decide (j < (↑(List.length hs) : Int)) && (!decide (D.getI (nthD hs (Int.toNat j)) < 0) && (!decide ((↑(List.length ls) : Int) ≤ D.getI (nthD hs (Int.toNat j))) && (gett_v9 ls (D.getI (nthD hs (Int.toNat j))) w != 0 || bif gett_v1 ls (D.getI (nthD hs (Int.toNat j))) w != w then gett_v2 ls (D.getI (nthD hs (Int.toNat j))) w != w || (shut_v1 ls (D.getI (nthD hs (Int.toNat j))) w != 0 || ((↑(List.length (shut_v0 ls (D.getI (nthD hs (Int.toNat j))) w)) : Int) != (↑(List.length ls) : Int) || D.getB (nthD (D.getL (nthD (shut_v0 ls (D.getI (nthD hs (Int.toNat j))) w) (Int.toNat (D.getI (nthD hs (Int.toNat j)))))) 0))) else shut_v1 ls (D.getI (nthD hs (Int.toNat j))) w != 0 || ((↑(List.length (shut_v0 ls (D.getI (nthD hs (Int.toNat j))) w)) : Int) != (↑(List.length ls) : Int) || D.getB (nthD (D.getL (nthD (shut_v0 ls (D.getI (nthD hs (Int.toNat j))) w) (Int.toNat (D.getI (nthD hs (Int.toNat j)))))) 0)))))) (.leaf (.inr (none, mkF 125 [(2, .dat (.bool false))], [{ sh := s27, dyn := false, frz := false, v := .dat (.agg [D.bool (gett_v0 ls (D.getI (nthD hs (Int.toNat j))) w), D.int .i64 (gett_v1 ls (D.getI (nthD hs (Int.toNat j))) w), D.int .i64 (gett_v2 ls (D.getI (nthD hs (Int.toNat j))) w), D.agg [D.int .i64 (gett_v3 ls (D.getI (nthD hs (Int.toNat j))) w), D.int IntKind.u64 (gett_v4 ls (D.getI (nthD hs (Int.toNat j))) w), D.int .i64 (gett_v5 ls (D.getI (nthD hs (Int.toNat j))) w)], D.agg [D.int .i64 (gett_v6 ls (D.getI (nthD hs (Int.toNat j))) w), D.int IntKind.u64 (gett_v7 ls (D.getI (nthD hs (Int.toNat j))) w), D.int .i64 (gett_v8 ls (D.getI (nthD hs (Int.toNat j))) w)]]) }]))) (.leaf (.inl (IntKind.wrap IntKind.i64 (j + 1)))))))) : T (Int ⊕ LOut)) (LK K N)
  generalize (okE (k27) (nthD (shut_v0 ls (D.getI (nthD hs (Int.toNat j))) w) (Int.toNat (D.getI (nthD hs (Int.toNat j)))))) = z0
  generalize (decide (Int.toNat (D.getI (nthD hs (Int.toNat j))) < List.length (shut_v0 ls (D.getI (nthD hs (Int.toNat j))) w))) = z1
  generalize (decide ((↑(List.length ls) : Int) ≤ D.getI (nthD hs (Int.toNat j)))) = z2
  generalize (decide (0 ≤ D.getI (nthD hs (Int.toNat j)))) = z3
  generalize (decide (D.getI (nthD hs (Int.toNat j)) < 0)) = z4
  generalize ((↑(List.length (shut_v0 ls (D.getI (nthD hs (Int.toNat j))) w)) : Int) != (↑(List.length ls) : Int)) = z5
  generalize (D.getB (nthD (D.getL (nthD (shut_v0 ls (D.getI (nthD hs (Int.toNat j))) w) (Int.toNat (D.getI (nthD hs (Int.toNat j)))))) 0)) = z6
  generalize (decide (j < (↑(List.length hs) : Int))) = z7
  generalize (shut_v1 ls (D.getI (nthD hs (Int.toNat j))) w != 0) = z8
  generalize (gett_v9 ls (D.getI (nthD hs (Int.toNat j))) w != 0) = z9
  generalize (decide (0 ≤ j)) = z10
  generalize (decide (Int.toNat j < List.length hs)) = z11
  generalize (gett_v1 ls (D.getI (nthD hs (Int.toNat j))) w != w) = z12
  generalize (gett_v2 ls (D.getI (nthD hs (Int.toNat j))) w != w) = z13
  generalize (shut_pre ls (D.getI (nthD hs (Int.toNat j))) w) = z14
  generalize (okE (Ek.int IntKind.i64) (nthD hs (Int.toNat j))) = z15
  generalize (gett_pre ls (D.getI (nthD hs (Int.toNat j)))) = z16
  cases z7 with
  | true =>
   cases z10 with
   | true =>
    cases z11 with
    | true =>
     cases z15 with
     | true =>
      cases z4 with
      | true =>
       rfl
      | false =>
       cases z2 with
       | true =>
        rfl
       | false =>
        cases z16 with
        | true =>
         cases z14 with
         | true =>
          cases z9 with
          | true =>
           rfl
          | false =>
           cases z12 with
           | true =>
            cases z13 with
            | true =>
             rfl
            | false =>
             cases z8 with
             | true =>
              rfl
             | false =>
              cases z5 with
              | true =>
               rfl
              | false =>
               cases z3 with
               | true =>
                cases z1 with
                | true =>
                 cases z0 with
                 | true =>
                  cases z6 with
                  | true =>
                   rfl
                  | false =>
                   exact hN _ _ _ (by kernel_rfl) (by kernel_rfl)
                 | false =>
                  rfl
                | false =>
                 rfl
               | false =>
                rfl
           | false =>
            cases z8 with
            | true =>
             rfl
            | false =>
             cases z5 with
             | true =>
              rfl
             | false =>
              cases z3 with
              | true =>
               cases z1 with
               | true =>
                cases z0 with
                | true =>
                 cases z6 with
                 | true =>
                  rfl
                 | false =>
                  exact hN _ _ _ (by kernel_rfl) (by kernel_rfl)
                | false =>
                 rfl
               | false =>
                rfl
              | false =>
               rfl
         | false =>
          rfl
        | false =>
         rfl
     | false =>
      rfl
    | false =>
     rfl
   | false =>
    rfl
  | false =>
   rfl
theorem ti_enter (ls hs : List D) (n w : Int) (j : Int) (fr : Frame') (hl : Nat.beq fr.length 125 = true) (g0 : fr.getD 0 .undef = .dat (.slc (s27) ls)) (g3 : fr.getD 3 .undef = .dat (.int .i64 n)) (g4 : fr.getD 4 .undef = .dat (.int .i64 w)) (g5 : fr.getD 5 .undef = .dat (.slc Sh.one hs)) (g6 : fr.getD 6 .undef = .dat (.int .i64 j)) : cleanF (liveAt Try.f4 1) 0 fr = ti_fr ls hs n w j := by
  have e : liveAt Try.f4 1 = [5, 6, 4, 0, 3] := by kernel_rfl
  rw [clean_mk (Nat.eq_of_beq_eq_true hl), e]
  show mkF 125 [(5, fr.getD 5 .undef), (6, fr.getD 6 .undef), (4, fr.getD 4 .undef), (0, fr.getD 0 .undef), (3, fr.getD 3 .undef)] = _
  rw [g5, g6, g4, g0, g3]
  kernel_rfl

theorem ti_closed (ls hs : List D) (n w : Int) (hc : tiC ls hs w = true) :
    ∃ z, (iterT (ti_step ls hs n w) z 0).run = T.run (.leaf (some 2, mkF 125 [(0, .dat (.slc (.agg [.one, .one, .one, .agg [.one, .one, .one], .agg [.one, .one, .one]]) ls)), (3, .dat (.int .i64 n)), (4, .dat (.int .i64 w))], [])) := by
  simp only [tiC, Bool.and_eq_true, decide_eq_true_eq] at hc
  obtain ⟨h1, hl, hr, hg, hh⟩ := hc
  refine iter_countFrom (a := 0) (n := hs.length) (Nat.zero_le _) (fun i _ hi => ?_) ?_
  · have hq := List.all_eq_true.1 hg _ (nthD_mem hi)
    unfold goodP at hq
    simp only [Bool.and_eq_true, decide_eq_true_eq] at hq
    obtain ⟨q1, q2, q3, q4, q5⟩ := hq
    obtain ⟨t, ht⟩ : ∃ t : Nat, D.getI (nthD hs i) = (t : Int) := ⟨(D.getI (nthD hs i)).toNat, by omega⟩
    rw [ht, Int.toNat_natCast] at q4 q5
    have htl : t < ls.length := by omega
    obtain ⟨u, a, b, gc, ga, gi, wc, wa, wi, hform⟩ := k27_form (allE_nth h1 htl)
    rw [hform] at q4 q5
    have hu : u = true := q4
    subst hu
    have hw : w = a ∨ w = b := by
      have q5 : (a == w || b == w) = true := q5
      rw [Bool.or_eq_true] at q5
      rcases q5 with h | h
      · exact .inl (by simpa using (beq_iff_eq.1 h).symm)
      · exact .inr (by simpa using (beq_iff_eq.1 h).symm)
    obtain ⟨g0, g1, g2, g3⟩ := get_is h1 hl htl hform hw
    obtain ⟨s0, s1, s2⟩ := shut_is h1 hl hr htl hform hw
    have hx : nthD (ls.set t (tD false 0 0 0 0 0 0 0 0)) t = tD false 0 0 0 0 0 0 0 0 := nthD_set_self htl
    have hx1 : okE k27 (tD false 0 0 0 0 0 0 0 0) = true := rfl
    have hx2 : D.getB (nthD (D.getL (tD false 0 0 0 0 0 0 0 0)) 0) = false := rfl
    have hne : ((ls.length : Int) != (ls.length : Int)) = false := by simp
    have hz : ((0 : Int) != 0) = false := rfl
    have hab : (a != w) = false ∨ ((a != w) = true ∧ (b != w) = false) := by
      rcases hw with rfl | rfl
      · exact .inl (by simp)
      · cases h : (a != w)
        · exact .inl rfl
        · exact .inr ⟨rfl, by simp⟩
    unfold ti_step
    simp only [decide_eq_true (show (i : Int) < (hs.length : Int) by omega), decide_eq_true (show (0 : Int) ≤ (i : Int) by omega), Int.toNat_natCast, decide_eq_true hi, q1, ht, decide_eq_false (show ¬ (t : Int) < 0 by omega), decide_eq_false (show ¬ (ls.length : Int) ≤ (t : Int) by omega), decide_eq_true (show (0 : Int) ≤ (t : Int) by omega), g0, g1, g2, g3, s0, s1, s2, List.length_set, hne, hz, hx, hx1, hx2, decide_eq_true htl, wrap_succ (show i < 2 ^ 62 by omega), Bool.not_true, Bool.not_false, Bool.false_or, Bool.true_and, Bool.or_false, Bool.and_true, T.run_br, T.run_chk, T.run_leaf, cond_false]
    rcases hab with e | ⟨e, e'⟩
    · rw [e]; rfl
    · rw [e, e']; rfl
  · unfold ti_step
    simp only [decide_eq_false (show ¬ (hs.length : Int) < (hs.length : Int) by omega)]
    rfl
def L_ti : Frame' → Store → T (Exit × Frame' × Store) := fun fr σ => match fr.getD 0 .undef, fr.getD 3 .undef, fr.getD 4 .undef, fr.getD 5 .undef, fr.getD 6 .undef, σ with
  | AV.dat (D.slc (Sh.agg [Sh.one, Sh.one, Sh.one, Sh.agg [Sh.one, Sh.one, Sh.one], Sh.agg [Sh.one, Sh.one, Sh.one]]) ls), AV.dat (D.int IntKind.i64 n), AV.dat (D.int IntKind.i64 w), AV.dat (D.slc Sh.one hs), AV.dat (D.int IntKind.i64 0), [] => .chk (Nat.beq fr.length 125 && (tiC ls hs w)) (T.bind (.leaf (some 2, mkF 125 [(0, .dat (.slc s27 ls)), (3, .dat (.int .i64 n)), (4, .dat (.int .i64 w))], [])) fun o => .leaf (outEx o.1, o.2.1, o.2.2))
  | _, _, _, _, _, _ => .fail
theorem ti_sem (lp : Loops) : ∀ fr σ p, (L_ti fr σ).run = some p → ∀ (K : Kt) r, K p.1 p.2.1 p.2.2 = some r → ∃ n, loopRun (envOf tab SpI [] lp []) Try.f4 1 σ.length n (cleanF (liveAt Try.f4 1) 0 fr) σ K = some r := by
  intro fr σ p h K r hK
  unfold L_ti at h
  split at h
  · rename_i ls n w hs g0 g3 g4 g5 g6
    obtain ⟨hc, h'⟩ := T.chk_some h
    rw [Bool.and_eq_true] at hc
    obtain ⟨hl, hc⟩ := hc
    obtain ⟨o, ho, h'⟩ := T.bind_some h'
    have hp := T.leaf_some h'
    subst hp
    obtain ⟨nF, hn⟩ : ∃ nF, (iterT (ti_step ls hs n w) nF (0)).run = T.run (.leaf (some 2, mkF 125 [(0, .dat (.slc s27 ls)), (3, .dat (.int .i64 n)), (4, .dat (.int .i64 w))], [])) := ti_closed ls hs n w hc
    rw [ho] at hn
    refine ⟨nF, ?_⟩
    have he : cleanF (liveAt Try.f4 1) 0 fr = ti_fr ls hs n w (0) := ti_enter ls hs n w _ fr hl g0 g3 g4 g5 g6
    refine (iter_ok (base := 0) (ti_hr lp ls hs n w) K nF (0) _ _ (by rw [clean_clean]; exact he) (by kernel_rfl)).trans ?_
    rw [T.k_run hn]
    exact hK
  · simp [T.run_fail] at h
theorem ti_loopOk (lp : Loops) (hk : Loops.get lp 10 = some L_ti) : LoopOk (envOf tab SpI [] lp []) (loopAt Try.f4 1).1 (loopAt Try.f4 1).2 := loop_ok (L := L_ti) hk (ti_sem lp)


/-! Whose trades there are. -/
def isOf (ls : List D) (w : Int) (i : Nat) : Bool := fU (nthD ls i) && (fI (nthD ls i) 1 == w || fI (nthD ls i) 2 == w)
def ofTo (ls : List D) (w : Int) : List D := colTo (isOf ls w) ls.length
theorem filter_col (p q : Nat → Bool) (f : D → Bool) (hf : ∀ i : Nat, f (.int .i64 (i : Int)) = q i) : ∀ n, (colTo p n).filter f = colTo (fun i => p i && q i) n
  | 0 => rfl
  | n + 1 => by
    have ih := filter_col p q f hf n
    have e1 : colTo p (n + 1) = bif p n then colTo p n ++ [D.int .i64 (n : Int)] else colTo p n := rfl
    have e2 : colTo (fun i => p i && q i) (n + 1) = bif p n && q n then colTo (fun i => p i && q i) n ++ [D.int .i64 (n : Int)] else colTo (fun i => p i && q i) n := rfl
    rw [e1, e2]
    cases p n with
    | false => exact ih
    | true =>
      rw [cond_true, List.filter_append, ih]
      have e3 : [D.int .i64 (n : Int)].filter f = bif q n then [D.int .i64 (n : Int)] else [] := by
        rw [List.filter_cons, hf]
        cases q n <;> rfl
      rw [e3]
      cases q n <;> simp
theorem of_keep (ls : List D) (w : Int) : ((usTo ls).filter fun d => !noP ls w d) = ofTo ls w := by
  unfold usTo ofTo
  refine (filter_col _ (fun i => fI (nthD ls i) 1 == w || fI (nthD ls i) 2 == w) _ (fun i => ?_) _).trans rfl
  show (!(fI (nthD ls ((i : Int)).toNat) 1 != w && fI (nthD ls ((i : Int)).toNat) 2 != w)) = _
  rw [Int.toNat_natCast]
  show (!(!(fI (nthD ls i) 1 == w) && !(fI (nthD ls i) 2 == w))) = _
  cases (fI (nthD ls i) 1 == w) <;> cases (fI (nthD ls i) 2 == w) <;> rfl
theorem usTo_no {ls : List D} (h1 : ls.all (okE k27) = true) (hl : ls.length ≤ 1048576) : okNo ls (usTo ls) = true := by
  have hus : (usTo ls).length ≤ ls.length := colTo_len (fun i => fU (nthD ls i)) ls.length
  have hpl : okPl ls.length (usTo ls) = true := okPl_col (fun i => fU (nthD ls i)) ls.length ls.length (Nat.le_refl _)
  unfold okNo
  rw [decide_eq_true (by omega), Bool.and_true, List.all_eq_true]
  intro d hd
  have hq := List.all_eq_true.1 hpl d hd
  simp only [Bool.and_eq_true, decide_eq_true_eq] at hq
  have ht : (D.getI d).toNat < ls.length := by omega
  unfold no_pre
  rw [hq.1, decide_eq_true hq.2.1, decide_eq_true ht, allE_nth h1 ht]; rfl
/-- What comes of Of. -/
theorem of_is {ls : List D} (h1 : ls.all (okE k27) = true) (hl : ls.length ≤ 1048576) (w : Int) : of_pre ls w = true ∧ del_v0 ls (usTo ls) (usTo ls).length w = ofTo ls w := by
  have hno := usTo_no h1 hl
  have hus : (usTo ls).length ≤ ls.length := colTo_len (fun i => fU (nthD ls i)) ls.length
  have hso : slotsO_pre ls = true := by
    unfold slotsO_pre
    have hT : okT ls = true := by unfold okT; rw [h1, decide_eq_true (by omega)]; rfl
    rw [hT, decide_eq_true rfl]; rfl
  have hix : ix_pre ls (usTo ls) (usTo ls).length (usTo ls).length = true := by
    unfold ix_pre
    rw [hno, decide_eq_true rfl, beq_self]; rfl
  unfold of_pre del_pre del_v0
  rw [iof_ok h1 hl, hso, hix]
  cases ha : (usTo ls).any (noP ls w) with
  | false =>
    have e : ix_v0 ls (usTo ls) w = -1 := by unfold ix_v0; rw [ha]; rfl
    rw [e, seg_full, ← of_keep, filter_none ha, beq_self]
    exact ⟨rfl, rfl⟩
  | true =>
    have e : ix_v0 ls (usTo ls) w = ((List.findIdx (noP ls w) (usTo ls) : Nat) : Int) := by unfold ix_v0; rw [ha]; rfl
    have hf := findIdx_lt ha
    have hk := keep_all (noP ls w) (usTo ls)
    have hs := shift_take (noP ls w) (o := usTo ls) (usTo ls).length (Nat.le_refl _)
    have hsl := shift_len (noP ls w) (usTo ls) (usTo ls).length
    have hkl := keep_len (noP ls w) (usTo ls) (usTo ls).length
    have e1 : ((List.findIdx (noP ls w) (usTo ls) : Int) == -1) = false := by simp
    rw [e, e1, wrap_succ (show List.findIdx (noP ls w) (usTo ls) < 2 ^ 62 by omega)]
    rw [hk] at hs hkl
    simp only [hk, Int.toNat_natCast, Nat.zero_add, Nat.sub_zero, hno, hsl, beq_self, cond_false, Bool.true_and, Bool.and_true, decide_eq_true hkl, decide_true, List.length_replicate, Nat.min_self, List.take_replicate]
    rw [of_keep] at hs hkl ⊢
    refine ⟨?_, ?_⟩
    · have hfit : fits Sh.one (List.replicate ((usTo ls).length - (ofTo ls w).length) (D.int .i64 0)) = true := by
        rw [fits_one_iff]
        intro d hd
        rw [List.eq_of_mem_replicate hd]; rfl
      rw [hfit]
      simp [hsl]
      omega
    · rw [hs, seg_take, List.append_assoc, List.take_left]

/-! Sums. -/
def sumR (f : Nat → Int) : Nat → Int
  | 0 => 0
  | n + 1 => sumR f n + f n
theorem sumR_add (f g : Nat → Int) : ∀ n, sumR (fun i => f i + g i) n = sumR f n + sumR g n
  | 0 => rfl
  | n + 1 => by
    have := sumR_add f g n
    show sumR (fun i => f i + g i) n + (f n + g n) = (sumR f n + f n) + (sumR g n + g n)
    omega
theorem sumR_ext {f g : Nat → Int} : ∀ {n : Nat}, (∀ i, i < n → f i = g i) → sumR f n = sumR g n
  | 0, _ => rfl
  | n + 1, h => by
    have := sumR_ext (n := n) (fun i hi => h i (by omega))
    show sumR f n + f n = sumR g n + g n
    rw [this, h n (by omega)]
theorem sumR_bd {f : Nat → Int} (h : ∀ i, 0 ≤ f i ∧ f i ≤ 2) : ∀ n : Nat, 0 ≤ sumR f n ∧ sumR f n ≤ 2 * (n : Int)
  | 0 => ⟨Int.le_refl 0, by show (0 : Int) ≤ _; omega⟩
  | n + 1 => by
    have := sumR_bd h n
    have := h n
    show 0 ≤ sumR f n + f n ∧ sumR f n + f n ≤ _
    omega
theorem col_sum (p : Nat → Bool) : ∀ n, ((colTo p n).length : Int) = sumR (fun i => bif p i then 1 else 0) n
  | 0 => rfl
  | n + 1 => by
    have ih := col_sum p n
    have e1 : colTo p (n + 1) = bif p n then colTo p n ++ [D.int .i64 (n : Int)] else colTo p n := rfl
    show _ = sumR _ n + (bif p n then 1 else 0)
    rw [e1]
    cases p n with
    | false => rw [cond_false, cond_false, ih]; omega
    | true => rw [cond_true, cond_true, List.length_append, ← ih]; rfl
/-- How many were told, behind w accounts. -/
def mn (ls : List D) (w : Nat) (i : Nat) : Int := bif fU (nthD ls i) then (bif decide (fI (nthD ls i) 1 < (w : Int)) then 1 else 0) + (bif decide (fI (nthD ls i) 2 < (w : Int)) then 1 else 0) else 0
theorem mn_bd (ls : List D) (w i : Nat) : 0 ≤ mn ls w i ∧ mn ls w i ≤ 2 := by
  unfold mn
  cases fU (nthD ls i) <;> cases decide (fI (nthD ls i) 1 < (w : Int)) <;> cases decide (fI (nthD ls i) 2 < (w : Int)) <;> decide
theorem right_nth {ls : List D} (h1 : ls.all (okE k27) = true) (hr : right_v0 ls = true) {i : Nat} (hi : i < ls.length) (hu : fU (nthD ls i) = true) :
    0 ≤ fI (nthD ls i) 1 ∧ fI (nthD ls i) 1 ≤ 127 ∧ 0 ≤ fI (nthD ls i) 2 ∧ fI (nthD ls i) 2 ≤ 127 ∧ fI (nthD ls i) 1 ≠ fI (nthD ls i) 2 := by
  have hw := right_mem hr (nthD_mem hi)
  obtain ⟨u, a, b, gc, ga, gi, wc, wa, wi, hform⟩ := k27_form (allE_nth h1 hi)
  rw [hform] at hw hu ⊢
  have hu : u = true := hu
  subst hu
  have hw : (!may_v0 a b gc ga gi wc wa wi) = false := hw
  rw [Bool.not_eq_false'] at hw
  unfold may_v0 isn_v0 at hw
  simp only [Bool.and_eq_true, decide_eq_true_eq] at hw
  obtain ⟨⟨a0, a1⟩, ⟨b0, b1⟩, ab, _⟩ := hw
  exact ⟨a0, a1, b0, b1, (by simpa using ab : a ≠ b)⟩
theorem mn_step {ls : List D} (h1 : ls.all (okE k27) = true) (hr : right_v0 ls = true) (w : Nat) : sumR (mn ls (w + 1)) ls.length = sumR (mn ls w) ls.length + ((ofTo ls (w : Int)).length : Int) := by
  unfold ofTo
  rw [col_sum, ← sumR_add]
  refine sumR_ext fun i hi => ?_
  unfold mn isOf
  cases hu : fU (nthD ls i) with
  | false => rfl
  | true =>
    obtain ⟨_, _, _, _, hne⟩ := right_nth h1 hr hi hu
    generalize fI (nthD ls i) 1 = a at hne
    generalize fI (nthD ls i) 2 = b at hne
    simp only [cond_true, Bool.true_and]
    have key : ∀ x : Int, (bif decide (x < ((w + 1 : Nat) : Int)) then (1 : Int) else 0) = (bif decide (x < (w : Int)) then 1 else 0) + bif x == (w : Int) then 1 else 0 := by
      intro x
      by_cases h2 : x = (w : Int)
      · subst h2
        rw [decide_eq_true (show (w : Int) < ((w + 1 : Nat) : Int) by omega), decide_eq_false (show ¬ (w : Int) < (w : Int) by omega)]; simp
      · have e : (x == (w : Int)) = false := by simpa using h2
        have e2 : decide (x < ((w + 1 : Nat) : Int)) = decide (x < (w : Int)) := decide_eq_decide.2 (by omega)
        rw [e, e2]; simp
    rw [key a, key b]
    by_cases ha : a = (w : Int)
    · have eb : (b == (w : Int)) = false := by simpa using fun h => hne (ha.trans h.symm)
      have ea : (a == (w : Int)) = true := by simpa using ha
      rw [ea, eb]; simp only [cond_true, cond_false, Bool.true_or]; omega
    · have ea : (a == (w : Int)) = false := by simpa using ha
      rw [ea]; simp only [cond_false, Bool.false_or]; omega
theorem of_good {ls : List D} (w : Int) : (ofTo ls w).all (goodP ls w) = true := by
  have key : ∀ n, n ≤ ls.length → (colTo (isOf ls w) n).all (goodP ls w) = true := by
    intro n
    induction n with
    | zero => intro _; rfl
    | succ n ih =>
      intro hn
      have e1 : colTo (isOf ls w) (n + 1) = bif isOf ls w n then colTo (isOf ls w) n ++ [D.int .i64 (n : Int)] else colTo (isOf ls w) n := rfl
      rw [e1]
      cases hp : isOf ls w n with
      | false => exact ih (by omega)
      | true =>
        rw [cond_true, List.all_append, ih (by omega)]
        show (true && (goodP ls w (D.int .i64 (n : Int)) && true)) = true
        unfold goodP
        show (true && ((true && (decide (0 ≤ (n : Int)) && (decide ((n : Int) < (ls.length : Int)) && (fU (nthD ls ((n : Int)).toNat) && (fI (nthD ls ((n : Int)).toNat) 1 == w || fI (nthD ls ((n : Int)).toNat) 2 == w))))) && true)) = true
        rw [Int.toNat_natCast]
        unfold isOf at hp
        rw [hp, decide_eq_true (by omega), decide_eq_true (by omega)]; rfl
  exact key _ (Nat.le_refl _)
def tw_fr (ls : List D) : (Int × Int) → Frame' := fun ⟨w, n⟩ => mkF 125 [(0, .dat (.slc s27 ls)), (3, .dat (.int .i64 n)), (4, .dat (.int .i64 w))]
def tw_st (_ls : List D) : (Int × Int) → Store := fun ⟨_, _⟩ => []
def tw_step (ls : List D) : (Int × Int) → T ((Int × Int) ⊕ LOut) := fun ⟨w, n⟩ => 
  .chk (!decide (w < 128) || of_pre ls w && tiC ls (del_v0 ls (usTo ls) (List.length (usTo ls)) w) w) (
   .br (!decide (w < 128)) (.leaf (.inr ((some 0), mkF 125 [(0, .dat (.slc (s27) ls)), (3, .dat (.int .i64 n))], []))) (.leaf (.inl ((IntKind.wrap IntKind.i64 (w + 1)), (IntKind.wrap IntKind.i64 (n + (↑(List.length (del_v0 ls (usTo ls) (List.length (usTo ls)) w)) : Int)))))))
theorem tw_round (lp : Loops) (ls : List D) (w n : Int) (K : Kt) : oneRound (envOf tab SpI [] ((10, L_ti) :: lp) []) Try.f4 0 (0) (mkF 125 [(0, .dat (.slc s27 ls)), (3, .dat (.int .i64 n)), (4, .dat (.int .i64 w))]) ([]) K =
  (bif decide (w < 128) then 
   (bif of_pre ls w then 
    (bif tiC ls (del_v0 ls (usTo ls) (List.length (usTo ls)) w) w then K (Exit.normal) (mkF 125 [(0, .dat (.slc (s27) ls)), (3, .dat (.int .i64 (IntKind.wrap IntKind.i64 (n + (↑(List.length (del_v0 ls (usTo ls) (List.length (usTo ls)) w)) : Int))))), (4, .dat (.int .i64 (IntKind.wrap IntKind.i64 (w + 1)))), (23, .dat (.int .i64 w)), (24, .dat (.int .i64 (IntKind.wrap IntKind.i64 (w + 1))))]) ([]) else none) else none) else K (Exit.exit 0) (mkF 125 [(0, .dat (.slc (s27) ls)), (3, .dat (.int .i64 n))]) ([])) := by kernel_rfl
theorem tw_hr (lp : Loops) (ls : List D) : ∀ (sA : (Int × Int)) (K : Kt) (N : (Int × Int) → Option Res), (∀ sB fr' σ', cleanF (liveAt Try.f4 0) 0 fr' = tw_fr ls sB → trim (0) (tw_fr ls sB) σ' = tw_st ls sB → K .normal fr' σ' = N sB) →
    oneRound (envOf tab SpI [] ((10, L_ti) :: lp) []) Try.f4 0 (0) (tw_fr ls sA) (tw_st ls sA) K = (tw_step ls sA).k (LK K N) := by
  intro sA K N hN
  obtain ⟨w, n⟩ := sA
  refine (tw_round lp ls w n K).trans ?_
  show _ = T.k ((
  .chk (!decide (w < 128) || of_pre ls w && tiC ls (del_v0 ls (usTo ls) (List.length (usTo ls)) w) w) (
   .br (!decide (w < 128)) (.leaf (.inr ((some 0), mkF 125 [(0, .dat (.slc (s27) ls)), (3, .dat (.int .i64 n))], []))) (.leaf (.inl ((IntKind.wrap IntKind.i64 (w + 1)), (IntKind.wrap IntKind.i64 (n + (↑(List.length (del_v0 ls (usTo ls) (List.length (usTo ls)) w)) : Int)))))))) : T ((Int × Int) ⊕ LOut)) (LK K N)
  generalize (decide (w < 128)) = z0
  generalize (tiC ls (del_v0 ls (usTo ls) (List.length (usTo ls)) w) w) = z1
  generalize (of_pre ls w) = z2
  cases z0 with
  | true =>
   cases z2 with
   | true =>
    cases z1 with
    | true =>
     exact hN _ _ _ (by kernel_rfl) (by kernel_rfl)
    | false =>
     rfl
   | false =>
    rfl
  | false =>
   rfl
theorem tw_enter (ls : List D) (w n : Int) (fr : Frame') (hl : Nat.beq fr.length 125 = true) (g0 : fr.getD 0 .undef = .dat (.slc (s27) ls)) (g3 : fr.getD 3 .undef = .dat (.int .i64 n)) (g4 : fr.getD 4 .undef = .dat (.int .i64 w)) : cleanF (liveAt Try.f4 0) 0 fr = tw_fr ls (w, n) := by
  have e : liveAt Try.f4 0 = [4, 0, 3] := by kernel_rfl
  rw [clean_mk (Nat.eq_of_beq_eq_true hl), e]
  show mkF 125 [(4, fr.getD 4 .undef), (0, fr.getD 0 .undef), (3, fr.getD 3 .undef)] = _
  rw [g4, g0, g3]
  kernel_rfl

abbrev okR (ls : List D) : Bool := ls.all (okE k27) && (decide (ls.length ≤ 1048576) && right_v0 ls)
theorem tw_closed (ls : List D) (hc : okR ls = true) :
    ∃ z, (iterT (tw_step ls) z (0, 0)).run = T.run (.leaf (some 0, mkF 125 [(0, .dat (.slc (.agg [.one, .one, .one, .agg [.one, .one, .one], .agg [.one, .one, .one]]) ls)), (3, .dat (.int .i64 (sumR (mn ls 128) ls.length)))], [])) := by
  simp only [okR, Bool.and_eq_true, decide_eq_true_eq] at hc
  obtain ⟨h1, hl, hr⟩ := hc
  have h0 : sumR (mn ls 0) ls.length = 0 := by
    have : sumR (mn ls 0) ls.length = sumR (fun _ => 0) ls.length := sumR_ext fun i hi => by
      unfold mn
      cases hu : fU (nthD ls i) with
      | false => rfl
      | true =>
        obtain ⟨a0, _, b0, _, _⟩ := right_nth h1 hr hi hu
        rw [decide_eq_false (show ¬ fI (nthD ls i) 1 < ((0 : Nat) : Int) by omega), decide_eq_false (show ¬ fI (nthD ls i) 2 < ((0 : Nat) : Int) by omega)]; rfl
    rw [this]
    generalize ls.length = n
    induction n with
    | zero => rfl
    | succ n ih => show sumR _ n + 0 = 0; rw [ih]; rfl
  have key := iter_range (step := tw_step ls) (n := 128) (o := (some 0, mkF 125 [(0, .dat (.slc (.agg [.one, .one, .one, .agg [.one, .one, .one], .agg [.one, .one, .one]]) ls)), (3, .dat (.int .i64 (sumR (mn ls 128) ls.length)))], [])) (fun w => sumR (mn ls w) ls.length) (fun w hw => ?_) ?_
  · rw [h0] at key; exact key
  · obtain ⟨o1, o2⟩ := of_is h1 hl (w : Int)
    have hlen : (ofTo ls (w : Int)).length ≤ ls.length := colTo_len _ _
    have hti : tiC ls (ofTo ls (w : Int)) (w : Int) = true := by
      unfold tiC
      rw [h1, hr, of_good, decide_eq_true hl, decide_eq_true (show (ofTo ls (w : Int)).length ≤ 1099511627776 by omega)]; rfl
    have hb := sumR_bd (mn_bd ls (w + 1)) ls.length
    have hs := mn_step h1 hr w
    have hwr : IntKind.wrap .i64 (sumR (mn ls w) ls.length + ((ofTo ls (w : Int)).length : Int)) = sumR (mn ls (w + 1)) ls.length := by
      rw [← hs, IntKind.wrap_i64]; omega
    unfold tw_step
    simp only [decide_eq_true (show (w : Int) < 128 by omega), o1, o2, hti, hwr, wrap_succ (show w < 2 ^ 62 by omega), Bool.not_true, Bool.false_or, Bool.and_true, T.run_br, T.run_chk, T.run_leaf, cond_true, cond_false]
  · unfold tw_step
    rfl
def L_tw : Frame' → Store → T (Exit × Frame' × Store) := fun fr σ => match fr.getD 0 .undef, fr.getD 3 .undef, fr.getD 4 .undef, σ with
  | AV.dat (D.slc (Sh.agg [Sh.one, Sh.one, Sh.one, Sh.agg [Sh.one, Sh.one, Sh.one], Sh.agg [Sh.one, Sh.one, Sh.one]]) ls), AV.dat (D.int IntKind.i64 0), AV.dat (D.int IntKind.i64 0), [] => .chk (Nat.beq fr.length 125 && (okR ls)) (T.bind (.leaf (some 0, mkF 125 [(0, .dat (.slc s27 ls)), (3, .dat (.int .i64 (sumR (mn ls 128) ls.length)))], [])) fun o => .leaf (outEx o.1, o.2.1, o.2.2))
  | _, _, _, _ => .fail
theorem tw_sem (lp : Loops) : ∀ fr σ p, (L_tw fr σ).run = some p → ∀ (K : Kt) r, K p.1 p.2.1 p.2.2 = some r → ∃ n, loopRun (envOf tab SpI [] ((10, L_ti) :: lp) []) Try.f4 0 σ.length n (cleanF (liveAt Try.f4 0) 0 fr) σ K = some r := by
  intro fr σ p h K r hK
  unfold L_tw at h
  split at h
  · rename_i ls g0 g3 g4
    obtain ⟨hc, h'⟩ := T.chk_some h
    rw [Bool.and_eq_true] at hc
    obtain ⟨hl, hc⟩ := hc
    obtain ⟨o, ho, h'⟩ := T.bind_some h'
    have hp := T.leaf_some h'
    subst hp
    obtain ⟨nF, hn⟩ : ∃ nF, (iterT (tw_step ls) nF ((0, 0))).run = T.run (.leaf (some 0, mkF 125 [(0, .dat (.slc s27 ls)), (3, .dat (.int .i64 (sumR (mn ls 128) ls.length)))], [])) := tw_closed ls hc
    rw [ho] at hn
    refine ⟨nF, ?_⟩
    have he : cleanF (liveAt Try.f4 0) 0 fr = tw_fr ls ((0, 0)) := tw_enter ls _ _ fr hl g0 g3 g4
    refine (iter_ok (base := 0) (tw_hr lp ls) K nF ((0, 0)) _ _ (by rw [clean_clean]; exact he) (by kernel_rfl)).trans ?_
    rw [T.k_run hn]
    exact hK
  · simp [T.run_fail] at h
theorem tw_loopOk (lp : Loops) (hk : Loops.get lp 5 = some L_tw) : LoopOk (envOf tab SpI [] ((10, L_ti) :: lp) []) (loopAt Try.f4 0).1 (loopAt Try.f4 0).2 := loop_ok (L := L_tw) hk (tw_sem lp)

def tl_fr (ls : List D) : (Int × Int) → Frame' := fun ⟨i, n⟩ => mkF 125 [(0, .dat (.slc s27 ls)), (3, .dat (.int .i64 n)), (11, .dat (.int .i64 i))]
def tl_st (_ls : List D) : (Int × Int) → Store := fun ⟨_, _⟩ => []
def tl_step (ls : List D) : (Int × Int) → T ((Int × Int) ⊕ LOut) := fun ⟨i, n⟩ => 
  .chk (!decide (i < (↑(List.length ls) : Int)) || decide (0 ≤ i) && (decide (Int.toNat i < List.length ls) && okE (k27) (nthD ls (Int.toNat i)))) (
   .br (!decide (i < (↑(List.length ls) : Int))) (.leaf (.inr ((some 4), mkF 125 [(3, .dat (.int .i64 n))], []))) (.leaf (.inl ((IntKind.wrap IntKind.i64 (i + 1)), (bif D.getB (nthD (D.getL (nthD ls (Int.toNat i))) 0) then IntKind.wrap IntKind.i64 (n - 2) else n)))))
theorem tl_round (lp : Loops) (ls : List D) (i n : Int) (K : Kt) : oneRound (envOf tab SpI [] lp []) Try.f4 2 (0) (mkF 125 [(0, .dat (.slc s27 ls)), (3, .dat (.int .i64 n)), (11, .dat (.int .i64 i))]) ([]) K =
  (bif decide (i < (↑(List.length ls) : Int)) then 
   (bif decide (0 ≤ i) then 
    (bif decide (Int.toNat i < List.length ls) then 
     (bif okE (k27) (nthD ls (Int.toNat i)) then 
      (bif D.getB (nthD (D.getL (nthD ls (Int.toNat i))) 0) then K (Exit.normal) (mkF 125 [(0, .dat (.slc (s27) ls)), (3, .dat (.int .i64 (IntKind.wrap IntKind.i64 (n - 2)))), (11, .dat (.int .i64 (IntKind.wrap IntKind.i64 (i + 1)))), (111, .dat (.int .i64 i)), (112, .dat (.int .i64 (IntKind.wrap IntKind.i64 (i + 1))))]) ([]) else K (Exit.normal) (mkF 125 [(0, .dat (.slc (s27) ls)), (3, .dat (.int .i64 n)), (11, .dat (.int .i64 (IntKind.wrap IntKind.i64 (i + 1)))), (111, .dat (.int .i64 i)), (112, .dat (.int .i64 (IntKind.wrap IntKind.i64 (i + 1))))]) ([])) else none) else none) else none) else K (Exit.exit 4) (mkF 125 [(3, .dat (.int .i64 n))]) ([])) := by kernel_rfl
theorem tl_hr (lp : Loops) (ls : List D) : ∀ (sA : (Int × Int)) (K : Kt) (N : (Int × Int) → Option Res), (∀ sB fr' σ', cleanF (liveAt Try.f4 2) 0 fr' = tl_fr ls sB → trim (0) (tl_fr ls sB) σ' = tl_st ls sB → K .normal fr' σ' = N sB) →
    oneRound (envOf tab SpI [] lp []) Try.f4 2 (0) (tl_fr ls sA) (tl_st ls sA) K = (tl_step ls sA).k (LK K N) := by
  intro sA K N hN
  obtain ⟨i, n⟩ := sA
  refine (tl_round lp ls i n K).trans ?_
  show _ = T.k ((
  .chk (!decide (i < (↑(List.length ls) : Int)) || decide (0 ≤ i) && (decide (Int.toNat i < List.length ls) && okE (k27) (nthD ls (Int.toNat i)))) (
   .br (!decide (i < (↑(List.length ls) : Int))) (.leaf (.inr ((some 4), mkF 125 [(3, .dat (.int .i64 n))], []))) (.leaf (.inl ((IntKind.wrap IntKind.i64 (i + 1)), (bif D.getB (nthD (D.getL (nthD ls (Int.toNat i))) 0) then IntKind.wrap IntKind.i64 (n - 2) else n)))))) : T ((Int × Int) ⊕ LOut)) (LK K N)
  generalize (okE (k27) (nthD ls (Int.toNat i))) = z0
  generalize (decide (i < (↑(List.length ls) : Int))) = z1
  generalize (decide (0 ≤ i)) = z2
  generalize (decide (Int.toNat i < List.length ls)) = z3
  generalize (D.getB (nthD (D.getL (nthD ls (Int.toNat i))) 0)) = z4
  cases z1 with
  | true =>
   cases z2 with
   | true =>
    cases z3 with
    | true =>
     cases z0 with
     | true =>
      cases z4 with
      | true =>
       exact hN _ _ _ (by kernel_rfl) (by kernel_rfl)
      | false =>
       exact hN _ _ _ (by kernel_rfl) (by kernel_rfl)
     | false =>
      rfl
    | false =>
     rfl
   | false =>
    rfl
  | false =>
   rfl
theorem tl_enter (ls : List D) (i n : Int) (fr : Frame') (hl : Nat.beq fr.length 125 = true) (g0 : fr.getD 0 .undef = .dat (.slc (s27) ls)) (g3 : fr.getD 3 .undef = .dat (.int .i64 n)) (g11 : fr.getD 11 .undef = .dat (.int .i64 i)) : cleanF (liveAt Try.f4 2) 0 fr = tl_fr ls (i, n) := by
  have e : liveAt Try.f4 2 = [0, 11, 3] := by kernel_rfl
  rw [clean_mk (Nat.eq_of_beq_eq_true hl), e]
  show mkF 125 [(0, fr.getD 0 .undef), (11, fr.getD 11 .undef), (3, fr.getD 3 .undef)] = _
  rw [g0, g11, g3]
  kernel_rfl

def two (ls : List D) (i : Nat) : Int := bif fU (nthD ls i) then 2 else 0
theorem two_bd (ls : List D) (i : Nat) : 0 ≤ two ls i ∧ two ls i ≤ 2 := by
  unfold two; cases fU (nthD ls i) <;> decide
theorem tl_closed (ls : List D) (n : Int) (hc : (ls.all (okE k27) && (decide (ls.length ≤ 1048576) && (decide (0 ≤ n) && decide (n ≤ 4194304)))) = true) :
    ∃ z, (iterT (tl_step ls) z (0, n)).run = T.run (.leaf (some 4, mkF 125 [(3, .dat (.int .i64 (n - sumR (two ls) ls.length)))], [])) := by
  simp only [Bool.and_eq_true, decide_eq_true_eq] at hc
  obtain ⟨h1, hl, n0, n1⟩ := hc
  have key := iter_range (step := tl_step ls) (n := ls.length) (o := (some 4, mkF 125 [(3, .dat (.int .i64 (n - sumR (two ls) ls.length)))], [])) (fun i => n - sumR (two ls) i) (fun i hi => ?_) ?_
  · have e : n - sumR (two ls) 0 = n := by show n - 0 = n; omega
    rw [e] at key; exact key
  · have hb := sumR_bd (two_bd ls) (i + 1)
    have hb0 := sumR_bd (two_bd ls) i
    have hs : sumR (two ls) (i + 1) = sumR (two ls) i + two ls i := rfl
    have hv : (bif fU (nthD ls i) then IntKind.wrap IntKind.i64 (n - sumR (two ls) i - 2) else n - sumR (two ls) i) = n - sumR (two ls) (i + 1) := by
      rw [hs]
      cases hu : fU (nthD ls i) with
      | false =>
        have : two ls i = 0 := by unfold two; rw [hu]; rfl
        simp only [cond_false]; omega
      | true =>
        have : two ls i = 2 := by unfold two; rw [hu]; rfl
        simp only [cond_true]; rw [IntKind.wrap_i64]; omega
    unfold tl_step
    simp only [decide_eq_true (show (i : Int) < (ls.length : Int) by omega), decide_eq_true (show (0 : Int) ≤ (i : Int) by omega), Int.toNat_natCast, decide_eq_true hi, allE_nth h1 hi, hv, wrap_succ (show i < 2 ^ 62 by omega), Bool.not_true, Bool.false_or, Bool.true_and, T.run_br, T.run_chk, T.run_leaf, cond_true, cond_false]
  · unfold tl_step
    simp only [decide_eq_false (show ¬ (ls.length : Int) < (ls.length : Int) by omega)]
    rfl
def L_tl : Frame' → Store → T (Exit × Frame' × Store) := fun fr σ => match fr.getD 0 .undef, fr.getD 3 .undef, fr.getD 11 .undef, σ with
  | AV.dat (D.slc (Sh.agg [Sh.one, Sh.one, Sh.one, Sh.agg [Sh.one, Sh.one, Sh.one], Sh.agg [Sh.one, Sh.one, Sh.one]]) ls), AV.dat (D.int IntKind.i64 n), AV.dat (D.int IntKind.i64 0), [] => .chk (Nat.beq fr.length 125 && (ls.all (okE k27) && (decide (ls.length ≤ 1048576) && (decide (0 ≤ n) && decide (n ≤ 4194304))))) (T.bind (.leaf (some 4, mkF 125 [(3, .dat (.int .i64 (n - sumR (two ls) ls.length)))], [])) fun o => .leaf (outEx o.1, o.2.1, o.2.2))
  | _, _, _, _ => .fail
theorem tl_sem (lp : Loops) : ∀ fr σ p, (L_tl fr σ).run = some p → ∀ (K : Kt) r, K p.1 p.2.1 p.2.2 = some r → ∃ n, loopRun (envOf tab SpI [] lp []) Try.f4 2 σ.length n (cleanF (liveAt Try.f4 2) 0 fr) σ K = some r := by
  intro fr σ p h K r hK
  unfold L_tl at h
  split at h
  · rename_i ls n g0 g3 g11
    obtain ⟨hc, h'⟩ := T.chk_some h
    rw [Bool.and_eq_true] at hc
    obtain ⟨hl, hc⟩ := hc
    obtain ⟨o, ho, h'⟩ := T.bind_some h'
    have hp := T.leaf_some h'
    subst hp
    obtain ⟨nF, hn⟩ : ∃ nF, (iterT (tl_step ls) nF ((0, n))).run = T.run (.leaf (some 4, mkF 125 [(3, .dat (.int .i64 (n - sumR (two ls) ls.length)))], [])) := tl_closed ls n hc
    rw [ho] at hn
    refine ⟨nF, ?_⟩
    have he : cleanF (liveAt Try.f4 2) 0 fr = tl_fr ls ((0, n)) := tl_enter ls _ _ fr hl g0 g3 g11
    refine (iter_ok (base := 0) (tl_hr lp ls) K nF ((0, n)) _ _ (by rw [clean_clean]; exact he) (by kernel_rfl)).trans ?_
    rw [T.k_run hn]
    exact hK
  · simp [T.run_fail] at h
theorem tl_loopOk (lp : Loops) (hk : Loops.get lp 19 = some L_tl) : LoopOk (envOf tab SpI [] lp []) (loopAt Try.f4 2).1 (loopAt Try.f4 2).2 := loop_ok (L := L_tl) hk (tl_sem lp)

abbrev LLr : Loops := [(5, L_tw), (19, L_tl)]
abbrev LL : Loops := (10, L_ti) :: LLr
theorem LL_ok : ∀ x ∈ fnLoops Try.f4, LoopOk (envOf tab SpI [] LL []) x.1 x.2 := loops_all 3 (by kernel_rfl) (fun i hi => match i, hi with
  | 0, _ => tw_loopOk LLr rfl
  | 1, _ => ti_loopOk LL rfl
  | 2, _ => tl_loopOk LL rfl)
abbrev two_E : Env := envOf tab SpI [] LL []
def two_F0 (ls : List D) : Frame' := mkF 125 [(0, .dat (.slc (s27) ls))]
def two_T0 (_ls : List D) : Store := []
theorem two_start (ls : List D) : runF (envOf tab SpI [] LL []) true Try.f4 [.dat (.slc s27 ls)] [] = ex (Env.rebase (two_E) 0) [2] (sqR 0 (bodyOf Try.f4)) [] [2] (two_F0 ls) (two_T0 ls) (finK (two_E) true Try.f4 (callFin [] [])) := run_start (ρ := []) (args' := [.dat (.slc (s27) ls)]) (by kernel_rfl) (by kernel_rfl) (by kernel_rfl) (by kernel_rfl) (by kernel_rfl) (by kernel_rfl) (by kernel_rfl) (by kernel_rfl) (by kernel_rfl)
theorem two_q0 (ls : List D) (K : Kt) : ex (Env.rebase (two_E) 0) [2] (sqA (sqR 0 (bodyOf Try.f4))) [] [0] (two_F0 ls) (two_T0 ls) K = K .normal (mkF 125 [(0, .dat (.slc (s27) ls)), (2, .dat (.bool false))]) ([]) := by kernel_rfl
def two_F1 (ls : List D) : Frame' := mkF 125 [(0, .dat (.slc (s27) ls)), (2, .dat (.bool false))]
def two_T1 (_ls : List D) : Store := []
theorem two_s0 (ls : List D) (K : Kt) : ex (Env.rebase (two_E) 0) [2] (sqR 0 (bodyOf Try.f4)) [] [2] (two_F0 ls) (two_T0 ls) K = ex (Env.rebase (two_E) 0) [2] (sqR 1 (bodyOf Try.f4)) [] [2] (two_F1 ls) (two_T1 ls) K := (seg_str (c := (sqR 0 (bodyOf Try.f4))) (a := sqA (sqR 0 (bodyOf Try.f4))) (b := (sqR 1 (bodyOf Try.f4))) (by kernel_rfl) (by kernel_rfl) (by kernel_rfl) (two_q0 ls) K).trans (seqK_normal (by kernel_rfl) (by kernel_rfl))
theorem two_r1 (ls : List D) (J : List AV → Store → Option Res) (K : Kt) : ex (Env.rebase (two_E) 0) [2] (sqA (sqR 1 (bodyOf Try.f4))) [] [0] (two_F1 ls) (two_T1 ls) (jK [] J K) = (cond (iw_okL ls) ((cond (!right_v0 ls) (K (Exit.ret) (mkF 125 [(2, .dat (.bool true))]) ([])) ((cond (decide ((↑(List.length ls) : Int) > 60)) (K (Exit.ret) (mkF 125 [(2, .dat (.bool true))]) ([])) (J ([]) ([])))))) (none)) := by kernel_rfl
theorem two_q1 (ls : List D) (J : List AV → Store → Option Res) (K : Kt) : ex (Env.rebase (two_E) 0) [2] (sqA (sqR 1 (bodyOf Try.f4))) [] [0] (two_F1 ls) (two_T1 ls) (jK [] J K) = (cond (iw_okL ls) ((cond (!right_v0 ls || decide (60 < (↑(List.length ls) : Int))) (K (Exit.ret) (mkF 125 [(2, .dat (.bool true))]) ([])) (J ([]) ([])))) none) := (two_r1 ls J K).trans (by
  generalize (decide (60 < (↑(List.length ls) : Int))) = z0
  generalize (iw_okL ls) = z1
  generalize (right_v0 ls) = z2
  cases z1 with
  | true =>
   cases z2 with
   | true =>
    cases z0 with
    | true =>
     rfl
    | false =>
     rfl
   | false =>
    rfl
  | false =>
   rfl
  )
def two_F2 (ls : List D) : Frame' := mkF 125 [(0, .dat (.slc (s27) ls))]
def two_T2 (_ls : List D) : Store := []
def two_p1 (ls : List D) : Bool := iw_okL ls
def two_c1_0 (ls : List D) : Bool := !right_v0 ls || decide (60 < (↑(List.length ls) : Int))
theorem two_s1 (ls : List D) (K : Kt) : ex (Env.rebase (two_E) 0) [2] (sqR 1 (bodyOf Try.f4)) [] [2] (two_F1 ls) (two_T1 ls) K = (cond (two_p1 ls) ((cond (two_c1_0 ls) (K (Exit.ret) (mkF 125 [(2, .dat (.bool true))]) ([])) (ex (Env.rebase (two_E) 0) [2] (sqR 2 (bodyOf Try.f4)) [] [2] (two_F2 ls) (two_T2 ls) K))) none) := (seg_join (c := (sqR 1 (bodyOf Try.f4))) (a := sqA (sqR 1 (bodyOf Try.f4))) (b := (sqR 2 (bodyOf Try.f4))) (ds := [12, 13, 14, 15, 16, 17, 18, 19, 20, 2]) (by kernel_rfl) (by kernel_rfl) (by kernel_rfl) (by kernel_rfl) (by kernel_rfl) (by kernel_rfl) (two_q1 ls) K).trans (condC (condC3 rfl (ex_same (by kernel_rfl) (by kernel_rfl))))
theorem two_e1_0 (_ls : List D) : (finK (two_E) true Try.f4 (callFin [] [])) (Exit.ret) (mkF 125 [(2, .dat (.bool true))]) ([]) = some (([.dat (.bool true)], []) : Res) := by kernel_rfl
theorem two_q2 (ls : List D) (K : Kt) : ex (Env.rebase (two_E) 0) [2] (sqA (sqR 2 (bodyOf Try.f4))) [] [0, 3] (two_F2 ls) (two_T2 ls) K = K .normal (mkF 125 [(0, .dat (.slc (s27) ls)), (3, .dat (.int .i64 0))]) ([]) := by kernel_rfl
def two_F3 (ls : List D) : Frame' := mkF 125 [(0, .dat (.slc (s27) ls)), (3, .dat (.int .i64 0))]
def two_T3 (_ls : List D) : Store := []
theorem two_s2 (ls : List D) (K : Kt) : ex (Env.rebase (two_E) 0) [2] (sqR 2 (bodyOf Try.f4)) [] [2] (two_F2 ls) (two_T2 ls) K = ex (Env.rebase (two_E) 0) [2] (sqR 3 (bodyOf Try.f4)) [] [2] (two_F3 ls) (two_T3 ls) K := (seg_str (c := (sqR 2 (bodyOf Try.f4))) (a := sqA (sqR 2 (bodyOf Try.f4))) (b := (sqR 3 (bodyOf Try.f4))) (by kernel_rfl) (by kernel_rfl) (by kernel_rfl) (two_q2 ls) K).trans (seqK_normal (by kernel_rfl) (by kernel_rfl))
theorem two_r3 (ls : List D) (J : List AV → Store → Option Res) (K : Kt) : ex (Env.rebase (two_E) 0) [2] (sqA (sqR 3 (bodyOf Try.f4))) [] [0, 3] (two_F3 ls) (two_T3 ls) (jK [3] J K) = (cond (okR ls) (J ([.dat (.int .i64 (sumR (mn ls 128) (List.length ls)))]) ([])) (none)) := by kernel_rfl
theorem two_q3 (ls : List D) (J : List AV → Store → Option Res) (K : Kt) : ex (Env.rebase (two_E) 0) [2] (sqA (sqR 3 (bodyOf Try.f4))) [] [0, 3] (two_F3 ls) (two_T3 ls) (jK [3] J K) = (cond (okR ls) (J ([.dat (.int .i64 (sumR (mn ls 128) (List.length ls)))]) ([])) none) := (two_r3 ls J K).trans (by
  generalize (okR ls) = z0
  cases z0 with
  | true =>
   rfl
  | false =>
   rfl
  )
def two_F4 (ls : List D) : Frame' := mkF 125 [(0, .dat (.slc (s27) ls)), (3, .dat (.int .i64 (sumR (mn ls 128) (List.length ls))))]
def two_T4 (_ls : List D) : Store := []
def two_p3 (ls : List D) : Bool := okR ls
theorem two_s3 (ls : List D) (K : Kt) : ex (Env.rebase (two_E) 0) [2] (sqR 3 (bodyOf Try.f4)) [] [2] (two_F3 ls) (two_T3 ls) K = (cond (two_p3 ls) (ex (Env.rebase (two_E) 0) [2] (sqR 4 (bodyOf Try.f4)) [] [2] (two_F4 ls) (two_T4 ls) K) none) := (seg_join (c := (sqR 3 (bodyOf Try.f4))) (a := sqA (sqR 3 (bodyOf Try.f4))) (b := (sqR 4 (bodyOf Try.f4))) (ds := [21, 22, 25, 26, 27, 5, 28, 29, 30, 31, 3, 32, 33, 34, 35, 38, 39, 40, 41, 42, 43, 44, 45, 46, 47, 48, 49, 50, 51, 53, 54, 55, 56, 57, 58, 59, 52, 60, 61, 7, 8, 63, 64, 65, 66, 67, 68, 69, 62, 70, 71, 9, 10, 72, 73, 74, 75, 76, 77, 78, 79, 80, 81, 82, 83, 84, 85, 86, 87, 88, 89, 90, 91, 92, 93, 94, 95, 96, 97, 98, 99, 100, 101, 102, 103, 104, 105, 106, 2, 36, 37, 6, 23, 24, 4]) (by kernel_rfl) (by kernel_rfl) (by kernel_rfl) (by kernel_rfl) (by kernel_rfl) (by kernel_rfl) (two_q3 ls) K).trans (condC (ex_same (by kernel_rfl) (by kernel_rfl)))
theorem two_r4 (ls : List D) (J : List AV → Store → Option Res) (K : Kt) : ex (Env.rebase (two_E) 0) [2] (sqA (sqR 4 (bodyOf Try.f4))) [] [3] (two_F4 ls) (two_T4 ls) (jK [3] J K) = (cond (List.all ls (okE k27) && (decide (List.length ls ≤ 1048576) && (decide (0 ≤ sumR (mn ls 128) (List.length ls)) && decide (sumR (mn ls 128) (List.length ls) ≤ 4194304)))) (J ([.dat (.int .i64 (sumR (mn ls 128) (List.length ls) - sumR (two ls) (List.length ls)))]) ([])) (none)) := by kernel_rfl
theorem two_q4 (ls : List D) (J : List AV → Store → Option Res) (K : Kt) : ex (Env.rebase (two_E) 0) [2] (sqA (sqR 4 (bodyOf Try.f4))) [] [3] (two_F4 ls) (two_T4 ls) (jK [3] J K) = (cond (List.all ls (okE k27) && (decide (List.length ls ≤ 1048576) && (decide (0 ≤ sumR (mn ls 128) (List.length ls)) && decide (sumR (mn ls 128) (List.length ls) ≤ 4194304)))) (J ([.dat (.int .i64 (sumR (mn ls 128) (List.length ls) - sumR (two ls) (List.length ls)))]) ([])) none) := (two_r4 ls J K).trans (by
  generalize (List.all ls (okE k27) && (decide (List.length ls ≤ 1048576) && (decide (0 ≤ sumR (mn ls 128) (List.length ls)) && decide (sumR (mn ls 128) (List.length ls) ≤ 4194304)))) = z0
  cases z0 with
  | true =>
   rfl
  | false =>
   rfl
  )
def two_w4v0 (ls : List D) : Int := sumR (mn ls 128) (List.length ls) - sumR (two ls) (List.length ls)
def two_F5 (ls : List D) : Frame' := mkF 125 [(0, .dat (.slc (s27) ls)), (3, .dat (.int .i64 (two_w4v0 ls)))]
def two_T5 (_ls : List D) : Store := []
def two_p4 (ls : List D) : Bool := List.all ls (okE k27) && (decide (List.length ls ≤ 1048576) && (decide (0 ≤ sumR (mn ls 128) (List.length ls)) && decide (sumR (mn ls 128) (List.length ls) ≤ 4194304)))
theorem two_s4 (ls : List D) (K : Kt) : ex (Env.rebase (two_E) 0) [2] (sqR 4 (bodyOf Try.f4)) [] [2] (two_F4 ls) (two_T4 ls) K = (cond (two_p4 ls) (ex (Env.rebase (two_E) 0) [2] (sqR 5 (bodyOf Try.f4)) [] [2] (two_F5 ls) (two_T5 ls) K) none) := (seg_join (c := (sqR 4 (bodyOf Try.f4))) (a := sqA (sqR 4 (bodyOf Try.f4))) (b := (sqR 5 (bodyOf Try.f4))) (ds := [107, 108, 109, 110, 113, 114, 115, 116, 117, 118, 119, 3, 111, 112, 11]) (by kernel_rfl) (by kernel_rfl) (by kernel_rfl) (by kernel_rfl) (by kernel_rfl) (by kernel_rfl) (two_q4 ls) K).trans (condC (ex_same (by kernel_rfl) (by kernel_rfl)))
theorem two_q5 (ls : List D) (K : Kt) : ex (Env.rebase (two_E) 0) [2] (sqA (sqR 5 (bodyOf Try.f4))) [] [2] (two_F5 ls) (two_T5 ls) K = K .normal (mkF 125 [(0, .dat (.slc (s27) ls)), (2, .dat (.bool (two_w4v0 ls == 0))), (3, .dat (.int .i64 (two_w4v0 ls))), (120, .dat (.bool true)), (121, .dat (.bool true)), (123, .dat (.bool (two_w4v0 ls == 0))), (124, .dat (.bool (two_w4v0 ls == 0)))]) ([]) := by kernel_rfl
def two_F6 (ls : List D) : Frame' := mkF 125 [(0, .dat (.slc (s27) ls)), (2, .dat (.bool (two_w4v0 ls == 0))), (3, .dat (.int .i64 (two_w4v0 ls))), (120, .dat (.bool true)), (121, .dat (.bool true)), (123, .dat (.bool (two_w4v0 ls == 0))), (124, .dat (.bool (two_w4v0 ls == 0)))]
def two_T6 (_ls : List D) : Store := []
theorem two_s5 (ls : List D) (K : Kt) : ex (Env.rebase (two_E) 0) [2] (sqR 5 (bodyOf Try.f4)) [] [2] (two_F5 ls) (two_T5 ls) K = ex (Env.rebase (two_E) 0) [2] (sqR 6 (bodyOf Try.f4)) [] [2] (two_F6 ls) (two_T6 ls) K := (seg_str (c := (sqR 5 (bodyOf Try.f4))) (a := sqA (sqR 5 (bodyOf Try.f4))) (b := (sqR 6 (bodyOf Try.f4))) (by kernel_rfl) (by kernel_rfl) (by kernel_rfl) (two_q5 ls) K).trans (seqK_normal (by kernel_rfl) (by kernel_rfl))
theorem two_q6 (ls : List D) (K : Kt) : ex (Env.rebase (two_E) 0) [2] (sqR 6 (bodyOf Try.f4)) [] [2] (two_F6 ls) (two_T6 ls) K = K (Exit.ret) (mkF 125 [(2, .dat (.bool (two_w4v0 ls == 0)))]) ([]) := by kernel_rfl
theorem two_s6 (ls : List D) (K : Kt) : ex (Env.rebase (two_E) 0) [2] (sqR 6 (bodyOf Try.f4)) [] [2] (two_F6 ls) (two_T6 ls) K = K (Exit.ret) (mkF 125 [(2, .dat (.bool (two_w4v0 ls == 0)))]) ([]) := (two_q6 ls K).trans rfl
theorem two_e6_0 (ls : List D) : (finK (two_E) true Try.f4 (callFin [] [])) (Exit.ret) (mkF 125 [(2, .dat (.bool (two_w4v0 ls == 0)))]) ([]) = some (([.dat (.bool (two_w4v0 ls == 0))], []) : Res) := by kernel_rfl
def C_two : FunT := fun args σ => match args, σ with
  | [AV.dat (D.slc (Sh.agg [Sh.one, Sh.one, Sh.one, Sh.agg [Sh.one, Sh.one, Sh.one], Sh.agg [Sh.one, Sh.one, Sh.one]]) ls)], [] => .chk (two_p1 ls) (.br (two_c1_0 ls) (.leaf ([AV.dat (D.bool true)], [])) (.chk (two_p3 ls) (.chk (two_p4 ls) (.leaf ([AV.dat (D.bool (two_w4v0 ls == 0))], [])))))
  | _, _ => .fail
theorem two_case0 (ls : List D) : runF (envOf tab SpI [] LL []) true Try.f4 [.dat (.slc s27 ls)] [] = FunT.run C_two [.dat (.slc s27 ls)] [] := ((two_start ls).trans ((two_s0 ls _).trans ((two_s1 ls _).trans (condC ((condC (two_e1_0 ls)).trans (condC2 ((two_s2 ls _).trans ((two_s3 ls _).trans (condC ((two_s4 ls _).trans (condC ((two_s5 ls _).trans ((two_s6 ls _).trans (two_e6_0 ls)))))))))))))).trans (by kernel_rfl)
theorem ctwo_ok : FunOk Try.prog 4 (FunT.run C_two) := by
  refine fun_ok (E := two_E) (fz := true) (fn := Try.f4) (envOf_ok progOk SpI_ok) (by kernel_rfl) (by kernel_rfl) LL_ok ?_
  intro args σ r h
  unfold C_two at h
  split at h
  · exact (two_case0 _).trans h
  · simp [T.run_fail] at h

end Go.Proofs.Ytlgieadebfdppaa
