/- Seat 08: Open. -/
import Derived.Test.YtfajnpnmghbdpaaE
namespace Go.Proofs.Ytfajnpnmghbdpaa
open Go.AX
set_option maxRecDepth 100000

abbrev Sp2 : Specs := (7, C_sl) :: (8, C_rsl) :: Sp1
theorem Sp2_ok : SpecsOk Try.prog Sp2 := .cons csl_ok (.cons crsl_ok Sp1_ok)

def S_opn : FunT := fun args σ => match args, σ with
  | [AV.dat (D.slc Sh.one ds)], [] => 
    .br (decide ((↑(List.length ds) : Int) < (128 : Int))) (.leaf ([AV.dat (D.int IntKind.u64 (0 : Int)), AV.dat (D.slc Sh.one []), AV.dat (D.int IntKind.i64 (12 : Int))], [])) (
     .br (decide ((↑(List.length ds) : Int) > (128 : Int))) (.leaf ([AV.dat (D.int IntKind.u64 (0 : Int)), AV.dat (D.slc Sh.one []), AV.dat (D.int IntKind.i64 (13 : Int))], [])) (
      .chk (decide ((8 : Nat) ≤ List.length ds)) (
       .chk (decide ((120 : Nat) ≤ List.length ds) && decide (List.length ds ≤ List.length ds)) (
        .chk (isBytes (seg ds (0 : Nat) (8 : Nat)) && decide (List.length (seg ds (0 : Nat) (8 : Nat)) ≤ (35184372088832 : Nat))) (
         .chk (okB8 (seg ds (0 : Nat) (8 : Nat)) && okB8 (seg ds (120 : Nat) (List.length ds - (120 : Nat)))) (
          .br ((!D.eqbL (seg ds (0 : Nat) (8 : Nat)) (seg ds (120 : Nat) (List.length ds - (120 : Nat)))) == false) (
           .br (!D.eqbL (seg ds (0 : Nat) (8 : Nat)) (seg ds (120 : Nat) (List.length ds - (120 : Nat)))) (.leaf ([AV.dat (D.int IntKind.u64 (0 : Int)), AV.dat (D.slc Sh.one []), AV.dat (D.int IntKind.i64 (2 : Int))], [])) (
            .br (!mayB (numU (0 : Int) (Sc.takes { ds := seg ds (0 : Nat) (8 : Nat), f := (0 : Int), b := true } (fitI (↑(List.length (seg ds (0 : Nat) (8 : Nat))) : Int))))) (.leaf ([AV.dat (D.int IntKind.u64 (0 : Int)), AV.dat (D.slc Sh.one []), AV.dat (D.int IntKind.i64 (2 : Int))], [])) (
             .chk (decide ((120 : Nat) ≤ List.length ds)) (
              .chk (isBytes (seg ds (116 : Nat) (4 : Nat)) && decide (List.length (seg ds (116 : Nat) (4 : Nat)) ≤ (35184372088832 : Nat))) (
               .chk (decide ((116 : Nat) ≤ List.length ds)) (
                .chk ((bif decide ((116 : Nat) ≤ List.length ds) then D.eqb (D.slc Sh.one (seg ds (0 : Nat) (116 : Nat))) (D.slc Sh.one (seg ds (0 : Nat) (116 : Nat))) else false) && true) (
                 .chk (okY (seg ds (0 : Nat) (116 : Nat))) (
                  .br (numU (0 : Int) (Sc.takes { ds := seg ds (116 : Nat) (4 : Nat), f := (0 : Int), b := true } (fitI (↑(List.length (seg ds (116 : Nat) (4 : Nat))) : Int))) != IntKind.wrap IntKind.u64 (toI (sumW (seg ds (0 : Nat) (116 : Nat))))) (.leaf ([AV.dat (D.int IntKind.u64 (0 : Int)), AV.dat (D.slc Sh.one []), AV.dat (D.int IntKind.i64 (14 : Int))], [])) (
                   .chk (decide ((116 : Nat) ≤ List.length ds)) (
                    .chk (fits Sh.one (seg ds (8 : Nat) (108 : Nat)) && decide (List.length (seg ds (8 : Nat) (108 : Nat)) * (1 : Nat) ≤ (35184372088832 : Nat))) (.leaf ([AV.dat (D.int IntKind.u64 (numU (0 : Int) (Sc.takes { ds := seg ds (0 : Nat) (8 : Nat), f := (0 : Int), b := true } (fitI (↑(List.length (seg ds (0 : Nat) (8 : Nat))) : Int))))), AV.dat (D.slc Sh.one (seg ds (8 : Nat) (108 : Nat))), AV.dat (D.int IntKind.i64 (0 : Int))], [])))))))))))) (
           .chk (!D.eqbL (seg ds (0 : Nat) (8 : Nat)) (seg ds (120 : Nat) (List.length ds - (120 : Nat)))) (.leaf ([AV.dat (D.int IntKind.u64 (0 : Int)), AV.dat (D.slc Sh.one []), AV.dat (D.int IntKind.i64 (2 : Int))], [])))))))))
  | _, _ => .fail
theorem opn_case0 (ds : List D) : runF (envOf tab Sp2 [] [] []) true Try.f9 [.dat (.slc .one ds)] [] = FunT.run S_opn [.dat (.slc .one ds)] [] := by kernel_rfl
theorem opn_ok : FunOk Try.prog 9 (FunT.run S_opn) := by
  refine fun_ok (E := envOf tab Sp2 [] [] []) (fz := true) (fn := Try.f9) (envOf_ok progOk Sp2_ok) (by kernel_rfl) (by kernel_rfl) (loops_none (by kernel_rfl)) ?_
  intro args σ r h
  unfold S_opn at h
  split at h
  · exact (opn_case0 _).trans h
  · simp [T.run_fail] at h

def S_ropn : FunT := fun args σ => match args, σ with
  | [AV.dat (D.slc Sh.one ds)], [] => 
    .br (decide ((↑(List.length ds) : Int) < (128 : Int))) (.leaf ([AV.dat (D.int IntKind.u64 (0 : Int)), AV.dat (D.slc Sh.one []), AV.dat (D.int IntKind.i64 (12 : Int))], [])) (
     .br (decide ((↑(List.length ds) : Int) > (128 : Int))) (.leaf ([AV.dat (D.int IntKind.u64 (0 : Int)), AV.dat (D.slc Sh.one []), AV.dat (D.int IntKind.i64 (13 : Int))], [])) (
      .chk (Rf.ok { ds := ds, at_ := (0 : Int), e := (0 : Int) }) (
       .chk (Rf.ok (Rf.took { ds := ds, at_ := (0 : Int), e := (0 : Int) } (fitI (8 : Int)))) (
        .chk (Rf.ok (Rf.took (Rf.took { ds := ds, at_ := (0 : Int), e := (0 : Int) } (fitI (8 : Int))) (108 : Int))) (
         .chk (okY (Rf.takes (Rf.took { ds := ds, at_ := (0 : Int), e := (0 : Int) } (fitI (8 : Int))) (108 : Int)) && decide (IntKind.wrap IntKind.u64 (numR (0 : Int) (Rf.takes { ds := ds, at_ := (0 : Int), e := (0 : Int) } (fitI (8 : Int)))) = numR (0 : Int) (Rf.takes { ds := ds, at_ := (0 : Int), e := (0 : Int) } (fitI (8 : Int))))) (
          .chk (Rf.ok (Rf.took (Rf.took (Rf.took { ds := ds, at_ := (0 : Int), e := (0 : Int) } (fitI (8 : Int))) (108 : Int)) (4 : Int))) (
           .br ((numR (0 : Int) (Rf.takes (Rf.took (Rf.took (Rf.took { ds := ds, at_ := (0 : Int), e := (0 : Int) } (fitI (8 : Int))) (108 : Int)) (4 : Int)) (fitI (8 : Int))) != numR (0 : Int) (Rf.takes { ds := ds, at_ := (0 : Int), e := (0 : Int) } (fitI (8 : Int)))) == false) (
            .br (numR (0 : Int) (Rf.takes (Rf.took (Rf.took (Rf.took { ds := ds, at_ := (0 : Int), e := (0 : Int) } (fitI (8 : Int))) (108 : Int)) (4 : Int)) (fitI (8 : Int))) != numR (0 : Int) (Rf.takes { ds := ds, at_ := (0 : Int), e := (0 : Int) } (fitI (8 : Int)))) (.leaf ([AV.dat (D.int IntKind.u64 (0 : Int)), AV.dat (D.slc Sh.one []), AV.dat (D.int IntKind.i64 (2 : Int))], [])) (
             .br (errS (numR (0 : Int) (Rf.takes { ds := ds, at_ := (0 : Int), e := (0 : Int) } (fitI (8 : Int)))) (Rf.takes (Rf.took { ds := ds, at_ := (0 : Int), e := (0 : Int) } (fitI (8 : Int))) (108 : Int)) != (0 : Int)) (.leaf ([AV.dat (D.int IntKind.u64 (0 : Int)), AV.dat (D.slc Sh.one []), AV.dat (D.int IntKind.i64 (2 : Int))], [])) (
              .chk (isBytes (sealR (numR (0 : Int) (Rf.takes { ds := ds, at_ := (0 : Int), e := (0 : Int) } (fitI (8 : Int)))) (Rf.takes (Rf.took { ds := ds, at_ := (0 : Int), e := (0 : Int) } (fitI (8 : Int))) (108 : Int)))) (
               .chk (isBytes ds) (.leaf ([AV.dat (D.int IntKind.u64 (bif !decide (byteVs (sealR (numR (0 : Int) (Rf.takes { ds := ds, at_ := (0 : Int), e := (0 : Int) } (fitI (8 : Int)))) (Rf.takes (Rf.took { ds := ds, at_ := (0 : Int), e := (0 : Int) } (fitI (8 : Int))) (108 : Int))) = byteVs ds) then (0 : Int) else numR (0 : Int) (Rf.takes { ds := ds, at_ := (0 : Int), e := (0 : Int) } (fitI (8 : Int))))), AV.dat (D.slc Sh.one (bif !decide (byteVs (sealR (numR (0 : Int) (Rf.takes { ds := ds, at_ := (0 : Int), e := (0 : Int) } (fitI (8 : Int)))) (Rf.takes (Rf.took { ds := ds, at_ := (0 : Int), e := (0 : Int) } (fitI (8 : Int))) (108 : Int))) = byteVs ds) then [] else Rf.takes (Rf.took { ds := ds, at_ := (0 : Int), e := (0 : Int) } (fitI (8 : Int))) (108 : Int))), AV.dat (D.int IntKind.i64 (bif !decide (byteVs (sealR (numR (0 : Int) (Rf.takes { ds := ds, at_ := (0 : Int), e := (0 : Int) } (fitI (8 : Int)))) (Rf.takes (Rf.took { ds := ds, at_ := (0 : Int), e := (0 : Int) } (fitI (8 : Int))) (108 : Int))) = byteVs ds) then (14 : Int) else (0 : Int)))], [])))))) (
            .chk (numR (0 : Int) (Rf.takes (Rf.took (Rf.took (Rf.took { ds := ds, at_ := (0 : Int), e := (0 : Int) } (fitI (8 : Int))) (108 : Int)) (4 : Int)) (fitI (8 : Int))) != numR (0 : Int) (Rf.takes { ds := ds, at_ := (0 : Int), e := (0 : Int) } (fitI (8 : Int)))) (.leaf ([AV.dat (D.int IntKind.u64 (0 : Int)), AV.dat (D.slc Sh.one []), AV.dat (D.int IntKind.i64 (2 : Int))], []))))))))))
  | _, _ => .fail
theorem ropn_raw0 (ds : List D) : runF (envOf tab Sp2 [] [] []) true Try.f10 [.dat (.slc .one ds)] [] =
  (bif decide ((↑(List.length ds) : Int) < (128 : Int)) then some ([AV.dat (D.int IntKind.u64 (0 : Int)), AV.dat (D.slc Sh.one []), AV.dat (D.int IntKind.i64 (12 : Int))], []) else 
   (bif decide ((↑(List.length ds) : Int) > (128 : Int)) then some ([AV.dat (D.int IntKind.u64 (0 : Int)), AV.dat (D.slc Sh.one []), AV.dat (D.int IntKind.i64 (13 : Int))], []) else 
    (bif Rf.ok { ds := ds, at_ := (0 : Int), e := (0 : Int) } then 
     (bif Rf.ok (Rf.took { ds := ds, at_ := (0 : Int), e := (0 : Int) } (fitI (8 : Int))) then 
      (bif Rf.ok (Rf.took (Rf.took { ds := ds, at_ := (0 : Int), e := (0 : Int) } (fitI (8 : Int))) (108 : Int)) then 
       (bif okY (Rf.takes (Rf.took { ds := ds, at_ := (0 : Int), e := (0 : Int) } (fitI (8 : Int))) (108 : Int)) && decide (IntKind.wrap IntKind.u64 (numR (0 : Int) (Rf.takes { ds := ds, at_ := (0 : Int), e := (0 : Int) } (fitI (8 : Int)))) = numR (0 : Int) (Rf.takes { ds := ds, at_ := (0 : Int), e := (0 : Int) } (fitI (8 : Int)))) then 
        (bif Rf.ok (Rf.took (Rf.took (Rf.took { ds := ds, at_ := (0 : Int), e := (0 : Int) } (fitI (8 : Int))) (108 : Int)) (4 : Int)) then 
         (bif (numR (0 : Int) (Rf.takes (Rf.took (Rf.took (Rf.took { ds := ds, at_ := (0 : Int), e := (0 : Int) } (fitI (8 : Int))) (108 : Int)) (4 : Int)) (fitI (8 : Int))) != numR (0 : Int) (Rf.takes { ds := ds, at_ := (0 : Int), e := (0 : Int) } (fitI (8 : Int)))) == false then 
          (bif numR (0 : Int) (Rf.takes (Rf.took (Rf.took (Rf.took { ds := ds, at_ := (0 : Int), e := (0 : Int) } (fitI (8 : Int))) (108 : Int)) (4 : Int)) (fitI (8 : Int))) != numR (0 : Int) (Rf.takes { ds := ds, at_ := (0 : Int), e := (0 : Int) } (fitI (8 : Int))) then some ([AV.dat (D.int IntKind.u64 (0 : Int)), AV.dat (D.slc Sh.one []), AV.dat (D.int IntKind.i64 (2 : Int))], []) else 
           (bif errS (numR (0 : Int) (Rf.takes { ds := ds, at_ := (0 : Int), e := (0 : Int) } (fitI (8 : Int)))) (Rf.takes (Rf.took { ds := ds, at_ := (0 : Int), e := (0 : Int) } (fitI (8 : Int))) (108 : Int)) != (0 : Int) then some ([AV.dat (D.int IntKind.u64 (0 : Int)), AV.dat (D.slc Sh.one []), AV.dat (D.int IntKind.i64 (2 : Int))], []) else 
            (bif isBytes (sealR (numR (0 : Int) (Rf.takes { ds := ds, at_ := (0 : Int), e := (0 : Int) } (fitI (8 : Int)))) (Rf.takes (Rf.took { ds := ds, at_ := (0 : Int), e := (0 : Int) } (fitI (8 : Int))) (108 : Int))) then 
             (bif isBytes ds then 
              (bif !decide (byteVs (sealR (numR (0 : Int) (Rf.takes { ds := ds, at_ := (0 : Int), e := (0 : Int) } (fitI (8 : Int)))) (Rf.takes (Rf.took { ds := ds, at_ := (0 : Int), e := (0 : Int) } (fitI (8 : Int))) (108 : Int))) = byteVs ds) then some ([AV.dat (D.int IntKind.u64 (0 : Int)), AV.dat (D.slc Sh.one []), AV.dat (D.int IntKind.i64 (14 : Int))], []) else some ([AV.dat (D.int IntKind.u64 (numR (0 : Int) (Rf.takes { ds := ds, at_ := (0 : Int), e := (0 : Int) } (fitI (8 : Int))))), AV.dat (D.slc Sh.one (Rf.takes (Rf.took { ds := ds, at_ := (0 : Int), e := (0 : Int) } (fitI (8 : Int))) (108 : Int))), AV.dat (D.int IntKind.i64 (0 : Int))], [])) else none) else none))) else 
          (bif numR (0 : Int) (Rf.takes (Rf.took (Rf.took (Rf.took { ds := ds, at_ := (0 : Int), e := (0 : Int) } (fitI (8 : Int))) (108 : Int)) (4 : Int)) (fitI (8 : Int))) != numR (0 : Int) (Rf.takes { ds := ds, at_ := (0 : Int), e := (0 : Int) } (fitI (8 : Int))) then some ([AV.dat (D.int IntKind.u64 (0 : Int)), AV.dat (D.slc Sh.one []), AV.dat (D.int IntKind.i64 (2 : Int))], []) else none)) else none) else none) else none) else none) else none))) := by kernel_rfl
theorem ropn_case0 (ds : List D) : runF (envOf tab Sp2 [] [] []) true Try.f10 [.dat (.slc .one ds)] [] = FunT.run S_ropn [.dat (.slc .one ds)] [] := (ropn_raw0 ds).trans (cong2 rfl (cong2 rfl (cong2 (cong2 (cong2 (cong2 (cong2 (cong2 (cong2 rfl (cong2 rfl (cong2 (cong2 (cond_cases (fun h0 => (by (try rw [h0]) <;> rfl)) (fun h0 => (by (try rw [h0]) <;> rfl))) rfl) rfl))) (cong2 rfl rfl)) rfl) rfl) rfl) rfl) rfl)))
theorem ropn_ok : FunOk Try.prog 10 (FunT.run S_ropn) := by
  refine fun_ok (E := envOf tab Sp2 [] [] []) (fz := true) (fn := Try.f10) (envOf_ok progOk Sp2_ok) (by kernel_rfl) (by kernel_rfl) (loops_none (by kernel_rfl)) ?_
  intro args σ r h
  unfold S_ropn at h
  split at h
  · exact (ropn_case0 _).trans h
  · simp [T.run_fail] at h


end Go.Proofs.Ytfajnpnmghbdpaa
