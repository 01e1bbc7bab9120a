/- Seat 20: what is added. -/
import Derived.Test.YtdmmobjegfhneaaD
namespace Go.Proofs.Ytdmmobjegfhneaa
open Go.AX
set_option maxRecDepth 100000
abbrev SpE : Specs := [(10, C_rmay), (11, C_rg), (12, C_rrg), (18, C_clip), (19, S_cl), (20, C_beh)]
theorem SpE_ok : SpecsOk Try.prog SpE := .cons crmay_ok (.cons crg_ok (.cons crrg_ok (.cons cclip_ok (.cons cl_ok (.cons cbeh_ok (.nil _))))))
def add_v0 (l : List D) (m : Int) (r : Int) (li : Int) (la : Int) (wh : Int) (si : Int) (ba : Int) (qu : Int) (qt : Int) (pr : Int) (sl : Int) : List D := bif rg_v0 (seg (seg l 0 (Int.toNat (↑(List.length l) : Int) - 0) ++ [D.agg [D.int IntKind.u64 r, D.int .i64 li, D.int .i64 la, D.int .i64 wh, D.int .i64 si, D.int .i64 ba, D.int .i64 qu, D.int IntKind.u64 qt, D.int IntKind.u64 pr, D.int .i64 sl]]) 0 (List.length (seg l 0 (Int.toNat (↑(List.length l) : Int) - 0)) + 1)) then bif decide (m ≤ (↑(List.length l) : Int)) then [] else seg (seg l 0 (Int.toNat (↑(List.length l) : Int) - 0) ++ [D.agg [D.int IntKind.u64 r, D.int .i64 li, D.int .i64 la, D.int .i64 wh, D.int .i64 si, D.int .i64 ba, D.int .i64 qu, D.int IntKind.u64 qt, D.int IntKind.u64 pr, D.int .i64 sl]]) 0 (List.length (seg l 0 (Int.toNat (↑(List.length l) : Int) - 0)) + 1) else []
def add_v1 (l : List D) (m : Int) (r : Int) (li : Int) (la : Int) (wh : Int) (si : Int) (ba : Int) (qu : Int) (qt : Int) (pr : Int) (sl : Int) : Int := bif rg_v0 (seg (seg l 0 (Int.toNat (↑(List.length l) : Int) - 0) ++ [D.agg [D.int IntKind.u64 r, D.int .i64 li, D.int .i64 la, D.int .i64 wh, D.int .i64 si, D.int .i64 ba, D.int .i64 qu, D.int IntKind.u64 qt, D.int IntKind.u64 pr, D.int .i64 sl]]) 0 (List.length (seg l 0 (Int.toNat (↑(List.length l) : Int) - 0)) + 1)) then bif decide (m ≤ (↑(List.length l) : Int)) then 8 else 0 else 1
def add_pre (l : List D) (r : Int) (li : Int) (la : Int) (wh : Int) (si : Int) (ba : Int) (qu : Int) (qt : Int) (pr : Int) (sl : Int) : Bool := fits (s25) l && decide (List.length l * 80 ≤ 35184372088832) && (clip_pre l && (decide ((List.length (seg l 0 (Int.toNat (↑(List.length l) : Int) - 0)) + 1) * 80 ≤ 35184372088832) && (Nat.beq (List.length (seg l 0 (Int.toNat (↑(List.length l) : Int) - 0) ++ [D.agg [D.int IntKind.u64 r, D.int .i64 li, D.int .i64 la, D.int .i64 wh, D.int .i64 si, D.int .i64 ba, D.int .i64 qu, D.int IntKind.u64 qt, D.int IntKind.u64 pr, D.int .i64 sl]])) (List.length (seg l 0 (Int.toNat (↑(List.length l) : Int) - 0)) + 1) && rg_pre (seg (seg l 0 (Int.toNat (↑(List.length l) : Int) - 0) ++ [D.agg [D.int IntKind.u64 r, D.int .i64 li, D.int .i64 la, D.int .i64 wh, D.int .i64 si, D.int .i64 ba, D.int .i64 qu, D.int IntKind.u64 qt, D.int IntKind.u64 pr, D.int .i64 sl]]) 0 (List.length (seg l 0 (Int.toNat (↑(List.length l) : Int) - 0)) + 1)))))
def C_add : FunT := fun args σ => match args, σ with
  | [AV.dat (D.slc (Sh.agg [Sh.one, Sh.one, Sh.one, Sh.one, Sh.one, Sh.one, Sh.one, Sh.one, Sh.one, Sh.one]) l), AV.dat (D.int IntKind.i64 m), AV.dat (D.agg [D.int IntKind.u64 r, D.int IntKind.i64 li, D.int IntKind.i64 la, D.int IntKind.i64 wh, D.int IntKind.i64 si, D.int IntKind.i64 ba, D.int IntKind.i64 qu, D.int IntKind.u64 qt, D.int IntKind.u64 pr, D.int IntKind.i64 sl])], [] => .chk ((add_pre l r li la wh si ba qu qt pr sl)) (.leaf ([AV.dat (D.slc (s25) (add_v0 l m r li la wh si ba qu qt pr sl)), AV.dat (D.int IntKind.i64 (add_v1 l m r li la wh si ba qu qt pr sl))], []))
  | _, _ => .fail
theorem add_raw0 (l : List D) (m r li la wh si ba qu qt pr sl : Int) : runF (envOf tab SpE [] [] [(777777, 18, [.cut 0]), (777777, 19, [.cut 0])]) true Try.f6 [.dat (.slc s25 l), .dat (.int .i64 m), .dat (entD r li la wh si ba qu qt pr sl)] [] =
  (bif fits (s25) l && decide (List.length l * 80 ≤ 35184372088832) then
   (bif clip_pre l then
    (bif decide ((List.length (seg l 0 (Int.toNat (↑(List.length l) : Int) - 0)) + 1) * 80 ≤ 35184372088832) then
     (bif Nat.beq (List.length (seg l 0 (Int.toNat (↑(List.length l) : Int) - 0) ++ [D.agg [D.int IntKind.u64 r, D.int .i64 li, D.int .i64 la, D.int .i64 wh, D.int .i64 si, D.int .i64 ba, D.int .i64 qu, D.int IntKind.u64 qt, D.int IntKind.u64 pr, D.int .i64 sl]])) (List.length (seg l 0 (Int.toNat (↑(List.length l) : Int) - 0)) + 1) then
      (bif rg_pre (seg (seg l 0 (Int.toNat (↑(List.length l) : Int) - 0) ++ [D.agg [D.int IntKind.u64 r, D.int .i64 li, D.int .i64 la, D.int .i64 wh, D.int .i64 si, D.int .i64 ba, D.int .i64 qu, D.int IntKind.u64 qt, D.int IntKind.u64 pr, D.int .i64 sl]]) 0 (List.length (seg l 0 (Int.toNat (↑(List.length l) : Int) - 0)) + 1)) then
       (bif !rg_v0 (seg (seg l 0 (Int.toNat (↑(List.length l) : Int) - 0) ++ [D.agg [D.int IntKind.u64 r, D.int .i64 li, D.int .i64 la, D.int .i64 wh, D.int .i64 si, D.int .i64 ba, D.int .i64 qu, D.int IntKind.u64 qt, D.int IntKind.u64 pr, D.int .i64 sl]]) 0 (List.length (seg l 0 (Int.toNat (↑(List.length l) : Int) - 0)) + 1)) then some ([.dat (.slc (s25) []), .dat (.int .i64 1)], []) else
        (bif decide ((↑(List.length l) : Int) ≥ m) then some ([.dat (.slc (s25) []), .dat (.int .i64 8)], []) else
         (bif Nat.beq (List.length (seg l 0 (Int.toNat (↑(List.length l) : Int) - 0) ++ [D.agg [D.int IntKind.u64 r, D.int .i64 li, D.int .i64 la, D.int .i64 wh, D.int .i64 si, D.int .i64 ba, D.int .i64 qu, D.int IntKind.u64 qt, D.int IntKind.u64 pr, D.int .i64 sl]])) (List.length (seg l 0 (Int.toNat (↑(List.length l) : Int) - 0)) + 1) then some ([.dat (.slc (s25) (seg (seg l 0 (Int.toNat (↑(List.length l) : Int) - 0) ++ [D.agg [D.int IntKind.u64 r, D.int .i64 li, D.int .i64 la, D.int .i64 wh, D.int .i64 si, D.int .i64 ba, D.int .i64 qu, D.int IntKind.u64 qt, D.int IntKind.u64 pr, D.int .i64 sl]]) 0 (List.length (seg l 0 (Int.toNat (↑(List.length l) : Int) - 0)) + 1))), .dat (.int .i64 0)], []) else none))) else none) else none) else none) else none) else none) := by kernel_rfl
theorem add_case0 (l : List D) (m r li la wh si ba qu qt pr sl : Int) : runF (envOf tab SpE [] [] [(777777, 18, [.cut 0]), (777777, 19, [.cut 0])]) true Try.f6 [.dat (.slc s25 l), .dat (.int .i64 m), .dat (entD r li la wh si ba qu qt pr sl)] [] = FunT.run C_add [.dat (.slc s25 l), .dat (.int .i64 m), .dat (entD r li la wh si ba qu qt pr sl)] [] := (add_raw0 l m r li la wh si ba qu qt pr sl).trans (by
  show _ = (cond (fits (s25) l && decide (List.length l * 80 ≤ 35184372088832) && (clip_pre l && (decide ((List.length (seg l 0 (Int.toNat (↑(List.length l) : Int) - 0)) + 1) * 80 ≤ 35184372088832) && (Nat.beq (List.length (seg l 0 (Int.toNat (↑(List.length l) : Int) - 0) ++ [D.agg [D.int IntKind.u64 r, D.int .i64 li, D.int .i64 la, D.int .i64 wh, D.int .i64 si, D.int .i64 ba, D.int .i64 qu, D.int IntKind.u64 qt, D.int IntKind.u64 pr, D.int .i64 sl]])) (List.length (seg l 0 (Int.toNat (↑(List.length l) : Int) - 0)) + 1) && rg_pre (seg (seg l 0 (Int.toNat (↑(List.length l) : Int) - 0) ++ [D.agg [D.int IntKind.u64 r, D.int .i64 li, D.int .i64 la, D.int .i64 wh, D.int .i64 si, D.int .i64 ba, D.int .i64 qu, D.int IntKind.u64 qt, D.int IntKind.u64 pr, D.int .i64 sl]]) 0 (List.length (seg l 0 (Int.toNat (↑(List.length l) : Int) - 0)) + 1)))))) (some (([.dat (.slc (s25) (bif rg_v0 (seg (seg l 0 (Int.toNat (↑(List.length l) : Int) - 0) ++ [D.agg [D.int IntKind.u64 r, D.int .i64 li, D.int .i64 la, D.int .i64 wh, D.int .i64 si, D.int .i64 ba, D.int .i64 qu, D.int IntKind.u64 qt, D.int IntKind.u64 pr, D.int .i64 sl]]) 0 (List.length (seg l 0 (Int.toNat (↑(List.length l) : Int) - 0)) + 1)) then bif decide (m ≤ (↑(List.length l) : Int)) then [] else seg (seg l 0 (Int.toNat (↑(List.length l) : Int) - 0) ++ [D.agg [D.int IntKind.u64 r, D.int .i64 li, D.int .i64 la, D.int .i64 wh, D.int .i64 si, D.int .i64 ba, D.int .i64 qu, D.int IntKind.u64 qt, D.int IntKind.u64 pr, D.int .i64 sl]]) 0 (List.length (seg l 0 (Int.toNat (↑(List.length l) : Int) - 0)) + 1) else [])), .dat (.int .i64 (bif rg_v0 (seg (seg l 0 (Int.toNat (↑(List.length l) : Int) - 0) ++ [D.agg [D.int IntKind.u64 r, D.int .i64 li, D.int .i64 la, D.int .i64 wh, D.int .i64 si, D.int .i64 ba, D.int .i64 qu, D.int IntKind.u64 qt, D.int IntKind.u64 pr, D.int .i64 sl]]) 0 (List.length (seg l 0 (Int.toNat (↑(List.length l) : Int) - 0)) + 1)) then bif decide (m ≤ (↑(List.length l) : Int)) then 8 else 0 else 1))], []) : Res)) none)
  generalize (rg_v0 (seg (seg l 0 (Int.toNat (↑(List.length l) : Int) - 0) ++ [D.agg [D.int IntKind.u64 r, D.int .i64 li, D.int .i64 la, D.int .i64 wh, D.int .i64 si, D.int .i64 ba, D.int .i64 qu, D.int IntKind.u64 qt, D.int IntKind.u64 pr, D.int .i64 sl]]) 0 (List.length (seg l 0 (Int.toNat (↑(List.length l) : Int) - 0)) + 1))) = z0
  generalize (rg_pre (seg (seg l 0 (Int.toNat (↑(List.length l) : Int) - 0) ++ [D.agg [D.int IntKind.u64 r, D.int .i64 li, D.int .i64 la, D.int .i64 wh, D.int .i64 si, D.int .i64 ba, D.int .i64 qu, D.int IntKind.u64 qt, D.int IntKind.u64 pr, D.int .i64 sl]]) 0 (List.length (seg l 0 (Int.toNat (↑(List.length l) : Int) - 0)) + 1))) = z1
  generalize (Nat.beq (List.length (seg l 0 (Int.toNat (↑(List.length l) : Int) - 0) ++ [D.agg [D.int IntKind.u64 r, D.int .i64 li, D.int .i64 la, D.int .i64 wh, D.int .i64 si, D.int .i64 ba, D.int .i64 qu, D.int IntKind.u64 qt, D.int IntKind.u64 pr, D.int .i64 sl]])) (List.length (seg l 0 (Int.toNat (↑(List.length l) : Int) - 0)) + 1)) = z2
  generalize (decide ((List.length (seg l 0 (Int.toNat (↑(List.length l) : Int) - 0)) + 1) * 80 ≤ 35184372088832)) = z3
  generalize (fits (s25) l && decide (List.length l * 80 ≤ 35184372088832)) = z4
  generalize (decide (m ≤ (↑(List.length l) : Int))) = z5
  generalize (clip_pre l) = z6
  cases z4 with
  | true =>
   cases z6 with
   | true =>
    cases z3 with
    | true =>
     cases z2 with
     | true =>
      cases z1 with
      | true =>
       cases z0 with
       | true =>
        cases z5 with
        | true =>
         rfl
        | false =>
         rfl
       | false =>
        rfl
      | false =>
       rfl
     | false =>
      rfl
    | false =>
     rfl
   | false =>
    rfl
  | false =>
   rfl
  )
theorem cadd_ok : FunOk Try.prog 6 (FunT.run C_add) := by
  refine fun_ok (E := envOf tab SpE [] [] [(777777, 18, [.cut 0]), (777777, 19, [.cut 0])]) (fz := true) (fn := Try.f6) (envOf_ok progOk SpE_ok) (by kernel_rfl) (by kernel_rfl) (loops_none (by kernel_rfl)) ?_
  intro args σ r h
  unfold C_add at h
  split at h
  · exact (add_case0 _ _ _ _ _ _ _ _ _ _ _ _).trans h
  · simp [T.run_fail] at h
def radd_v0 (l : List D) (m : Int) (r : Int) (li : Int) (la : Int) (wh : Int) (si : Int) (ba : Int) (qu : Int) (qt : Int) (pr : Int) (sl : Int) : List D := bif rightD l then bif rmay_v0 r li la wh si ba qu qt pr sl then bif decide (0 < (↑(List.length l) : Int)) then bif beh_v0 r li (D.getI (nthD (D.getL (nthD l (Int.toNat (IntKind.wrap IntKind.i64 ((↑(List.length l) : Int) - 1))))) 0)) (D.getI (nthD (D.getL (nthD l (Int.toNat (IntKind.wrap IntKind.i64 ((↑(List.length l) : Int) - 1))))) 1)) then bif decide (m ≤ (↑(List.length l) : Int)) then [] else bif List.isEmpty l then [D.agg [D.int IntKind.u64 r, D.int .i64 li, D.int .i64 la, D.int .i64 wh, D.int .i64 si, D.int .i64 ba, D.int .i64 qu, D.int IntKind.u64 qt, D.int IntKind.u64 pr, D.int .i64 sl]] else seg (l ++ [D.agg [D.int IntKind.u64 r, D.int .i64 li, D.int .i64 la, D.int .i64 wh, D.int .i64 si, D.int .i64 ba, D.int .i64 qu, D.int IntKind.u64 qt, D.int IntKind.u64 pr, D.int .i64 sl]]) 0 (0 + List.length l + 1) else [] else bif decide (m ≤ (↑(List.length l) : Int)) then [] else bif List.isEmpty l then [D.agg [D.int IntKind.u64 r, D.int .i64 li, D.int .i64 la, D.int .i64 wh, D.int .i64 si, D.int .i64 ba, D.int .i64 qu, D.int IntKind.u64 qt, D.int IntKind.u64 pr, D.int .i64 sl]] else seg (l ++ [D.agg [D.int IntKind.u64 r, D.int .i64 li, D.int .i64 la, D.int .i64 wh, D.int .i64 si, D.int .i64 ba, D.int .i64 qu, D.int IntKind.u64 qt, D.int IntKind.u64 pr, D.int .i64 sl]]) 0 (0 + List.length l + 1) else [] else []
def radd_v1 (l : List D) (m : Int) (r : Int) (li : Int) (la : Int) (wh : Int) (si : Int) (ba : Int) (qu : Int) (qt : Int) (pr : Int) (sl : Int) : Int := bif rightD l then bif rmay_v0 r li la wh si ba qu qt pr sl then bif decide (0 < (↑(List.length l) : Int)) then bif beh_v0 r li (D.getI (nthD (D.getL (nthD l (Int.toNat (IntKind.wrap IntKind.i64 ((↑(List.length l) : Int) - 1))))) 0)) (D.getI (nthD (D.getL (nthD l (Int.toNat (IntKind.wrap IntKind.i64 ((↑(List.length l) : Int) - 1))))) 1)) then bif decide (m ≤ (↑(List.length l) : Int)) then 8 else 0 else 1 else bif decide (m ≤ (↑(List.length l) : Int)) then 8 else 0 else 1 else 1
def radd_pre (l : List D) (m : Int) (r : Int) (li : Int) (la : Int) (wh : Int) (si : Int) (ba : Int) (qu : Int) (qt : Int) (pr : Int) (sl : Int) : Bool := okL l && (!rightD l || rmay_pre r li la wh si qt pr && (!rmay_v0 r li la wh si ba qu qt pr sl || bif decide (0 < (↑(List.length l) : Int)) then decide (0 ≤ IntKind.wrap IntKind.i64 ((↑(List.length l) : Int) - 1)) && (decide (Int.toNat (IntKind.wrap IntKind.i64 ((↑(List.length l) : Int) - 1)) < List.length l) && (okE (k25) (nthD l (Int.toNat (IntKind.wrap IntKind.i64 ((↑(List.length l) : Int) - 1)))) && (!beh_v0 r li (D.getI (nthD (D.getL (nthD l (Int.toNat (IntKind.wrap IntKind.i64 ((↑(List.length l) : Int) - 1))))) 0)) (D.getI (nthD (D.getL (nthD l (Int.toNat (IntKind.wrap IntKind.i64 ((↑(List.length l) : Int) - 1))))) 1)) || (decide (m ≤ (↑(List.length l) : Int)) || fits (s25) l && (decide ((0 + List.length l) * 80 ≤ 35184372088832) && (List.isEmpty l || Nat.beq (List.length l) (0 + List.length l) && true && true && true && true && Nat.beq (0 + List.length l) (0 + List.length l) && true && true && decide ((0 + List.length l + 1) * 80 ≤ 35184372088832) && Nat.beq (List.length (l ++ [D.agg [D.int IntKind.u64 r, D.int .i64 li, D.int .i64 la, D.int .i64 wh, D.int .i64 si, D.int .i64 ba, D.int .i64 qu, D.int IntKind.u64 qt, D.int IntKind.u64 pr, D.int .i64 sl]])) (0 + List.length l + 1))))))) else decide (m ≤ (↑(List.length l) : Int)) || fits (s25) l && (decide ((0 + List.length l) * 80 ≤ 35184372088832) && (List.isEmpty l || Nat.beq (List.length l) (0 + List.length l) && true && true && true && true && Nat.beq (0 + List.length l) (0 + List.length l) && true && true && decide ((0 + List.length l + 1) * 80 ≤ 35184372088832) && Nat.beq (List.length (l ++ [D.agg [D.int IntKind.u64 r, D.int .i64 li, D.int .i64 la, D.int .i64 wh, D.int .i64 si, D.int .i64 ba, D.int .i64 qu, D.int IntKind.u64 qt, D.int IntKind.u64 pr, D.int .i64 sl]])) (0 + List.length l + 1)))))
def C_radd : FunT := fun args σ => match args, σ with
  | [AV.dat (D.slc (Sh.agg [Sh.one, Sh.one, Sh.one, Sh.one, Sh.one, Sh.one, Sh.one, Sh.one, Sh.one, Sh.one]) l), AV.dat (D.int IntKind.i64 m), AV.dat (D.agg [D.int IntKind.u64 r, D.int IntKind.i64 li, D.int IntKind.i64 la, D.int IntKind.i64 wh, D.int IntKind.i64 si, D.int IntKind.i64 ba, D.int IntKind.i64 qu, D.int IntKind.u64 qt, D.int IntKind.u64 pr, D.int IntKind.i64 sl])], [] => .chk ((radd_pre l m r li la wh si ba qu qt pr sl)) (.leaf ([AV.dat (D.slc (s25) (radd_v0 l m r li la wh si ba qu qt pr sl)), AV.dat (D.int IntKind.i64 (radd_v1 l m r li la wh si ba qu qt pr sl))], []))
  | _, _ => .fail
theorem radd_raw0 (l : List D) (m r li la wh si ba qu qt pr sl : Int) : runF (envOf tab SpE [] [] []) true Try.f7 [.dat (.slc s25 l), .dat (.int .i64 m), .dat (entD r li la wh si ba qu qt pr sl)] [] =
  (bif okL l then
   (bif !rightD l then some ([.dat (.slc (s25) []), .dat (.int .i64 1)], []) else
    (bif rmay_pre r li la wh si qt pr then
     (bif !rmay_v0 r li la wh si ba qu qt pr sl then some ([.dat (.slc (s25) []), .dat (.int .i64 1)], []) else
      (bif decide ((↑(List.length l) : Int) > 0) then
       (bif decide (0 ≤ IntKind.wrap IntKind.i64 ((↑(List.length l) : Int) - 1)) then
        (bif decide (Int.toNat (IntKind.wrap IntKind.i64 ((↑(List.length l) : Int) - 1)) < List.length l) then
         (bif okE (k25) (nthD l (Int.toNat (IntKind.wrap IntKind.i64 ((↑(List.length l) : Int) - 1)))) then
          (bif !beh_v0 r li (D.getI (nthD (D.getL (nthD l (Int.toNat (IntKind.wrap IntKind.i64 ((↑(List.length l) : Int) - 1))))) 0)) (D.getI (nthD (D.getL (nthD l (Int.toNat (IntKind.wrap IntKind.i64 ((↑(List.length l) : Int) - 1))))) 1)) then some ([.dat (.slc (s25) []), .dat (.int .i64 1)], []) else
           (bif decide ((↑(List.length l) : Int) ≥ m) then some ([.dat (.slc (s25) []), .dat (.int .i64 8)], []) else
            (bif fits (s25) l then
             (bif decide ((0 + List.length l) * 80 ≤ 35184372088832) then
              (bif List.isEmpty l then some ([.dat (.slc (s25) [D.agg [D.int IntKind.u64 r, D.int .i64 li, D.int .i64 la, D.int .i64 wh, D.int .i64 si, D.int .i64 ba, D.int .i64 qu, D.int IntKind.u64 qt, D.int IntKind.u64 pr, D.int .i64 sl]]), .dat (.int .i64 0)], []) else
               (bif Nat.beq (List.length l) (0 + List.length l) && true && true && true && true && Nat.beq (0 + List.length l) (0 + List.length l) && true && true && decide ((0 + List.length l + 1) * 80 ≤ 35184372088832) then
                (bif Nat.beq (List.length (l ++ [D.agg [D.int IntKind.u64 r, D.int .i64 li, D.int .i64 la, D.int .i64 wh, D.int .i64 si, D.int .i64 ba, D.int .i64 qu, D.int IntKind.u64 qt, D.int IntKind.u64 pr, D.int .i64 sl]])) (0 + List.length l + 1) then some ([.dat (.slc (s25) (seg (l ++ [D.agg [D.int IntKind.u64 r, D.int .i64 li, D.int .i64 la, D.int .i64 wh, D.int .i64 si, D.int .i64 ba, D.int .i64 qu, D.int IntKind.u64 qt, D.int IntKind.u64 pr, D.int .i64 sl]]) 0 (0 + List.length l + 1))), .dat (.int .i64 0)], []) else none) else none)) else none) else none))) else none) else none) else none) else
       (bif decide ((↑(List.length l) : Int) ≥ m) then some ([.dat (.slc (s25) []), .dat (.int .i64 8)], []) else
        (bif fits (s25) l then
         (bif decide ((0 + List.length l) * 80 ≤ 35184372088832) then
          (bif List.isEmpty l then some ([.dat (.slc (s25) [D.agg [D.int IntKind.u64 r, D.int .i64 li, D.int .i64 la, D.int .i64 wh, D.int .i64 si, D.int .i64 ba, D.int .i64 qu, D.int IntKind.u64 qt, D.int IntKind.u64 pr, D.int .i64 sl]]), .dat (.int .i64 0)], []) else
           (bif Nat.beq (List.length l) (0 + List.length l) && true && true && true && true && Nat.beq (0 + List.length l) (0 + List.length l) && true && true && decide ((0 + List.length l + 1) * 80 ≤ 35184372088832) then
            (bif Nat.beq (List.length (l ++ [D.agg [D.int IntKind.u64 r, D.int .i64 li, D.int .i64 la, D.int .i64 wh, D.int .i64 si, D.int .i64 ba, D.int .i64 qu, D.int IntKind.u64 qt, D.int IntKind.u64 pr, D.int .i64 sl]])) (0 + List.length l + 1) then some ([.dat (.slc (s25) (seg (l ++ [D.agg [D.int IntKind.u64 r, D.int .i64 li, D.int .i64 la, D.int .i64 wh, D.int .i64 si, D.int .i64 ba, D.int .i64 qu, D.int IntKind.u64 qt, D.int IntKind.u64 pr, D.int .i64 sl]]) 0 (0 + List.length l + 1))), .dat (.int .i64 0)], []) else none) else none)) else none) else none)))) else none)) else none) := by kernel_rfl
theorem radd_case0 (l : List D) (m r li la wh si ba qu qt pr sl : Int) : runF (envOf tab SpE [] [] []) true Try.f7 [.dat (.slc s25 l), .dat (.int .i64 m), .dat (entD r li la wh si ba qu qt pr sl)] [] = FunT.run C_radd [.dat (.slc s25 l), .dat (.int .i64 m), .dat (entD r li la wh si ba qu qt pr sl)] [] := (radd_raw0 l m r li la wh si ba qu qt pr sl).trans (by
  show _ = (cond (okL l && (!rightD l || rmay_pre r li la wh si qt pr && (!rmay_v0 r li la wh si ba qu qt pr sl || bif decide (0 < (↑(List.length l) : Int)) then decide (0 ≤ IntKind.wrap IntKind.i64 ((↑(List.length l) : Int) - 1)) && (decide (Int.toNat (IntKind.wrap IntKind.i64 ((↑(List.length l) : Int) - 1)) < List.length l) && (okE (k25) (nthD l (Int.toNat (IntKind.wrap IntKind.i64 ((↑(List.length l) : Int) - 1)))) && (!beh_v0 r li (D.getI (nthD (D.getL (nthD l (Int.toNat (IntKind.wrap IntKind.i64 ((↑(List.length l) : Int) - 1))))) 0)) (D.getI (nthD (D.getL (nthD l (Int.toNat (IntKind.wrap IntKind.i64 ((↑(List.length l) : Int) - 1))))) 1)) || (decide (m ≤ (↑(List.length l) : Int)) || fits (s25) l && (decide ((0 + List.length l) * 80 ≤ 35184372088832) && (List.isEmpty l || Nat.beq (List.length l) (0 + List.length l) && true && true && true && true && Nat.beq (0 + List.length l) (0 + List.length l) && true && true && decide ((0 + List.length l + 1) * 80 ≤ 35184372088832) && Nat.beq (List.length (l ++ [D.agg [D.int IntKind.u64 r, D.int .i64 li, D.int .i64 la, D.int .i64 wh, D.int .i64 si, D.int .i64 ba, D.int .i64 qu, D.int IntKind.u64 qt, D.int IntKind.u64 pr, D.int .i64 sl]])) (0 + List.length l + 1))))))) else decide (m ≤ (↑(List.length l) : Int)) || fits (s25) l && (decide ((0 + List.length l) * 80 ≤ 35184372088832) && (List.isEmpty l || Nat.beq (List.length l) (0 + List.length l) && true && true && true && true && Nat.beq (0 + List.length l) (0 + List.length l) && true && true && decide ((0 + List.length l + 1) * 80 ≤ 35184372088832) && Nat.beq (List.length (l ++ [D.agg [D.int IntKind.u64 r, D.int .i64 li, D.int .i64 la, D.int .i64 wh, D.int .i64 si, D.int .i64 ba, D.int .i64 qu, D.int IntKind.u64 qt, D.int IntKind.u64 pr, D.int .i64 sl]])) (0 + List.length l + 1)))))) (some (([.dat (.slc (s25) (bif rightD l then bif rmay_v0 r li la wh si ba qu qt pr sl then bif decide (0 < (↑(List.length l) : Int)) then bif beh_v0 r li (D.getI (nthD (D.getL (nthD l (Int.toNat (IntKind.wrap IntKind.i64 ((↑(List.length l) : Int) - 1))))) 0)) (D.getI (nthD (D.getL (nthD l (Int.toNat (IntKind.wrap IntKind.i64 ((↑(List.length l) : Int) - 1))))) 1)) then bif decide (m ≤ (↑(List.length l) : Int)) then [] else bif List.isEmpty l then [D.agg [D.int IntKind.u64 r, D.int .i64 li, D.int .i64 la, D.int .i64 wh, D.int .i64 si, D.int .i64 ba, D.int .i64 qu, D.int IntKind.u64 qt, D.int IntKind.u64 pr, D.int .i64 sl]] else seg (l ++ [D.agg [D.int IntKind.u64 r, D.int .i64 li, D.int .i64 la, D.int .i64 wh, D.int .i64 si, D.int .i64 ba, D.int .i64 qu, D.int IntKind.u64 qt, D.int IntKind.u64 pr, D.int .i64 sl]]) 0 (0 + List.length l + 1) else [] else bif decide (m ≤ (↑(List.length l) : Int)) then [] else bif List.isEmpty l then [D.agg [D.int IntKind.u64 r, D.int .i64 li, D.int .i64 la, D.int .i64 wh, D.int .i64 si, D.int .i64 ba, D.int .i64 qu, D.int IntKind.u64 qt, D.int IntKind.u64 pr, D.int .i64 sl]] else seg (l ++ [D.agg [D.int IntKind.u64 r, D.int .i64 li, D.int .i64 la, D.int .i64 wh, D.int .i64 si, D.int .i64 ba, D.int .i64 qu, D.int IntKind.u64 qt, D.int IntKind.u64 pr, D.int .i64 sl]]) 0 (0 + List.length l + 1) else [] else [])), .dat (.int .i64 (bif rightD l then bif rmay_v0 r li la wh si ba qu qt pr sl then bif decide (0 < (↑(List.length l) : Int)) then bif beh_v0 r li (D.getI (nthD (D.getL (nthD l (Int.toNat (IntKind.wrap IntKind.i64 ((↑(List.length l) : Int) - 1))))) 0)) (D.getI (nthD (D.getL (nthD l (Int.toNat (IntKind.wrap IntKind.i64 ((↑(List.length l) : Int) - 1))))) 1)) then bif decide (m ≤ (↑(List.length l) : Int)) then 8 else 0 else 1 else bif decide (m ≤ (↑(List.length l) : Int)) then 8 else 0 else 1 else 1))], []) : Res)) none)
  generalize (Nat.beq (List.length l) (0 + List.length l) && true && true && true && true && Nat.beq (0 + List.length l) (0 + List.length l) && true && true && decide ((0 + List.length l + 1) * 80 ≤ 35184372088832)) = z0
  generalize (Nat.beq (List.length (l ++ [D.agg [D.int IntKind.u64 r, D.int .i64 li, D.int .i64 la, D.int .i64 wh, D.int .i64 si, D.int .i64 ba, D.int .i64 qu, D.int IntKind.u64 qt, D.int IntKind.u64 pr, D.int .i64 sl]])) (0 + List.length l + 1)) = z1
  generalize (decide ((0 + List.length l) * 80 ≤ 35184372088832)) = z2
  generalize (okE (k25) (nthD l (Int.toNat (IntKind.wrap IntKind.i64 ((↑(List.length l) : Int) - 1))))) = z3
  generalize (beh_v0 r li (D.getI (nthD (D.getL (nthD l (Int.toNat (IntKind.wrap IntKind.i64 ((↑(List.length l) : Int) - 1))))) 0)) (D.getI (nthD (D.getL (nthD l (Int.toNat (IntKind.wrap IntKind.i64 ((↑(List.length l) : Int) - 1))))) 1))) = z4
  generalize (decide (0 ≤ IntKind.wrap IntKind.i64 ((↑(List.length l) : Int) - 1))) = z5
  generalize (decide (Int.toNat (IntKind.wrap IntKind.i64 ((↑(List.length l) : Int) - 1)) < List.length l)) = z6
  generalize (fits (s25) l) = z7
  generalize (decide (0 < (↑(List.length l) : Int))) = z8
  generalize (decide (m ≤ (↑(List.length l) : Int))) = z9
  generalize (rmay_v0 r li la wh si ba qu qt pr sl) = z10
  generalize (rmay_pre r li la wh si qt pr) = z11
  generalize (List.isEmpty l) = z12
  generalize (okL l) = z13
  generalize (rightD l) = z14
  cases z13 with
  | true =>
   cases z14 with
   | true =>
    cases z11 with
    | true =>
     cases z10 with
     | true =>
      cases z8 with
      | true =>
       cases z5 with
       | true =>
        cases z6 with
        | true =>
         cases z3 with
         | true =>
          cases z4 with
          | true =>
           cases z9 with
           | true =>
            rfl
           | false =>
            cases z7 with
            | true =>
             cases z2 with
             | true =>
              cases z12 with
              | true =>
               rfl
              | false =>
               cases z0 with
               | true =>
                cases z1 with
                | true =>
                 rfl
                | false =>
                 rfl
               | false =>
                rfl
             | false =>
              rfl
            | false =>
             rfl
          | false =>
           rfl
         | false =>
          rfl
        | false =>
         rfl
       | false =>
        rfl
      | false =>
       cases z9 with
       | true =>
        rfl
       | false =>
        cases z7 with
        | true =>
         cases z2 with
         | true =>
          cases z12 with
          | true =>
           rfl
          | false =>
           cases z0 with
           | true =>
            cases z1 with
            | true =>
             rfl
            | false =>
             rfl
           | false =>
            rfl
         | false =>
          rfl
        | false =>
         rfl
     | false =>
      rfl
    | false =>
     rfl
   | false =>
    rfl
  | false =>
   rfl
  )
theorem cradd_ok : FunOk Try.prog 7 (FunT.run C_radd) := by
  refine fun_ok (E := envOf tab SpE [] [] []) (fz := true) (fn := Try.f7) (envOf_ok progOk SpE_ok) (by kernel_rfl) (by kernel_rfl) (loops_none (by kernel_rfl)) ?_
  intro args σ r h
  unfold C_radd at h
  split at h
  · exact (radd_case0 _ _ _ _ _ _ _ _ _ _ _ _).trans h
  · simp [T.run_fail] at h
end Go.Proofs.Ytdmmobjegfhneaa
