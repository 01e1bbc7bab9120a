/- Seat 03: Clean. -/
import Derived.Test.YtniombjfbdojjaaDoorC
namespace Go.Proofs.YtniombjfbdojjaaDoor
open Go.AX
set_option maxRecDepth 100000
abbrev SpD : Specs := [(21, C_plain), (22, C_trim), (24, C_trimr)]
theorem SpD_ok : SpecsOk Tryd.prog SpD := .cons cplain_ok (.cons ctrim_ok (.cons ctrimr_ok (.nil _)))
def cl_fr (s : ByteArray) (n : Int) : (Int × Nat × Nat × List D) → Frame' := fun ⟨i, m, k, _⟩ => mkF 31 [(0, .dat (.str s)), (3, .sref .one 0 m [] 0 k), (7, .dat (.int .i64 n)), (8, .dat (.int .i64 i))]
def cl_st (_s : ByteArray) (_n : Int) : (Int × Nat × Nat × List D) → Store := fun ⟨_, _, _, out⟩ => [mkDyn .one out]
def cl_step (s : ByteArray) (n : Int) : (Int × Nat × Nat × List D) → T ((Int × Nat × Nat × List D) ⊕ LOut) := fun ⟨i, m, k, out⟩ =>
  .chk (!decide (i < n) || decide (0 ≤ i) && (decide (Int.toNat i < List.length (Array.toList (ByteArray.data s))) && (!plain_v0 (↑(UInt8.toNat (strAt s (Int.toNat i))) : Int) || Nat.beq (List.length out) m && true && true && true && true && Nat.beq k m && true && true && decide ((m + 1) * 1 ≤ 35184372088832)))) (
   .br (!decide (i < n)) (.leaf (.inr ((some 0), mkF 31 [(3, AV.sref Sh.one 0 m [] 0 k)], [{ sh := Sh.arr Sh.one 0, dyn := true, frz := false, v := .dat (.arr Sh.one out) }]))) (.leaf (.inl ((IntKind.wrap IntKind.i64 (i + 1)), (bif plain_v0 (↑(UInt8.toNat (strAt s (Int.toNat i))) : Int) then m + 1 else m), (bif plain_v0 (↑(UInt8.toNat (strAt s (Int.toNat i))) : Int) then m + 1 else k), (bif plain_v0 (↑(UInt8.toNat (strAt s (Int.toNat i))) : Int) then out ++ [D.int IntKind.u8 (↑(UInt8.toNat (strAt s (Int.toNat i))) : Int)] else out)))))
theorem cl_round (lp : Loops) (s : ByteArray) (n : Int) (i : Int) (m k : Nat) (out : List D) (K : Kt) : oneRound (envOf tab SpD [] lp [(2, 0, [.own 3])]) Tryd.f11 0 (1) (mkF 31 [(0, .dat (.str s)), (3, .sref .one 0 m [] 0 k), (7, .dat (.int .i64 n)), (8, .dat (.int .i64 i))]) ([mkDyn .one out]) K =
  (bif decide (i < n) then
   (bif decide (0 ≤ i) then
    (bif decide (Int.toNat i < List.length (Array.toList (ByteArray.data s))) then
     (bif plain_v0 (↑(UInt8.toNat (strAt s (Int.toNat i))) : Int) then
      (bif decide (0 ≤ i) then
       (bif decide (Int.toNat i < List.length (Array.toList (ByteArray.data s))) then
        (bif Nat.beq (List.length out) m && true && true && true && true && Nat.beq k m && true && true && decide ((m + 1) * 1 ≤ 35184372088832) then K (Exit.normal) (mkF 31 [(0, .dat (.str s)), (3, AV.sref Sh.one 0 (m + 1) [] 0 (m + 1)), (7, .dat (.int .i64 n)), (8, .dat (.int .i64 (IntKind.wrap IntKind.i64 (i + 1)))), (9, .dat (.bool (decide (i < n)))), (21, .dat (.int .i64 (IntKind.wrap IntKind.i64 (i + 1))))]) ([{ sh := Sh.arr Sh.one 0, dyn := true, frz := false, v := .dat (.arr Sh.one (out ++ [D.int IntKind.u8 (↑(UInt8.toNat (strAt s (Int.toNat i))) : Int)])) }, { sh := Sh.arr Sh.one 0, dyn := true, frz := false, v := .dat (.arr Sh.one [D.int IntKind.u8 (↑(UInt8.toNat (strAt s (Int.toNat i))) : Int)]) }]) else none) else none) else none) else K (Exit.normal) (mkF 31 [(0, .dat (.str s)), (3, AV.sref Sh.one 0 m [] 0 k), (7, .dat (.int .i64 n)), (8, .dat (.int .i64 (IntKind.wrap IntKind.i64 (i + 1)))), (9, .dat (.bool (decide (i < n)))), (21, .dat (.int .i64 (IntKind.wrap IntKind.i64 (i + 1))))]) ([{ sh := Sh.arr Sh.one 0, dyn := true, frz := false, v := .dat (.arr Sh.one out) }])) else none) else none) else K (Exit.exit 0) (mkF 31 [(3, AV.sref Sh.one 0 m [] 0 k)]) ([{ sh := Sh.arr Sh.one 0, dyn := true, frz := false, v := .dat (.arr Sh.one out) }])) := by kernel_rfl
theorem cl_hr (lp : Loops) (s : ByteArray) (n : Int) : ∀ (sA : (Int × Nat × Nat × List D)) (K : Kt) (N : (Int × Nat × Nat × List D) → Option Res), (∀ sB fr' σ', cleanF (liveAt Tryd.f11 0) 0 fr' = cl_fr s n sB → trim (1) (cl_fr s n sB) σ' = cl_st s n sB → K .normal fr' σ' = N sB) →
    oneRound (envOf tab SpD [] lp [(2, 0, [.own 3])]) Tryd.f11 0 (1) (cl_fr s n sA) (cl_st s n sA) K = (cl_step s n sA).k (LK K N) := by
  intro sA K N hN
  obtain ⟨i, m, k, out⟩ := sA
  refine (cl_round lp s n i m k out K).trans ?_
  show _ = T.k ((
  .chk (!decide (i < n) || decide (0 ≤ i) && (decide (Int.toNat i < List.length (Array.toList (ByteArray.data s))) && (!plain_v0 (↑(UInt8.toNat (strAt s (Int.toNat i))) : Int) || Nat.beq (List.length out) m && true && true && true && true && Nat.beq k m && true && true && decide ((m + 1) * 1 ≤ 35184372088832)))) (
   .br (!decide (i < n)) (.leaf (.inr ((some 0), mkF 31 [(3, AV.sref Sh.one 0 m [] 0 k)], [{ sh := Sh.arr Sh.one 0, dyn := true, frz := false, v := .dat (.arr Sh.one out) }]))) (.leaf (.inl ((IntKind.wrap IntKind.i64 (i + 1)), (bif plain_v0 (↑(UInt8.toNat (strAt s (Int.toNat i))) : Int) then m + 1 else m), (bif plain_v0 (↑(UInt8.toNat (strAt s (Int.toNat i))) : Int) then m + 1 else k), (bif plain_v0 (↑(UInt8.toNat (strAt s (Int.toNat i))) : Int) then out ++ [D.int IntKind.u8 (↑(UInt8.toNat (strAt s (Int.toNat i))) : Int)] else out)))))) : T ((Int × Nat × Nat × List D) ⊕ LOut)) (LK K N)
  generalize (Nat.beq (List.length out) m && true && true && true && true && Nat.beq k m && true && true && decide ((m + 1) * 1 ≤ 35184372088832)) = z0
  generalize (decide (Int.toNat i < List.length (Array.toList (ByteArray.data s)))) = z1
  generalize (decide (0 ≤ i)) = z2
  generalize (decide (i < n)) = z3
  generalize (plain_v0 (↑(UInt8.toNat (strAt s (Int.toNat i))) : Int)) = z4
  cases z3 with
  | true =>
   cases z2 with
   | true =>
    cases z1 with
    | true =>
     cases z4 with
     | true =>
      cases z0 with
      | true =>
       exact hN _ _ _ (by kernel_rfl) (by kernel_rfl)
      | false =>
       rfl
     | false =>
      exact hN _ _ _ (by kernel_rfl) (by kernel_rfl)
    | false =>
     rfl
   | false =>
    rfl
  | false =>
   rfl
theorem cl_enter (s : ByteArray) (n : Int) (i : Int) (m k : Nat) (out : List D) (fr : Frame') (hl : Nat.beq fr.length 31 = true) (g0 : fr.getD 0 .undef = .dat (.str s)) (g3 : fr.getD 3 .undef = AV.sref Sh.one 0 m [] 0 k) (g7 : fr.getD 7 .undef = .dat (.int .i64 n)) (g8 : fr.getD 8 .undef = .dat (.int .i64 i)) : cleanF (liveAt Tryd.f11 0) 0 fr = cl_fr s n (i, m, k, out) := by
  have e : liveAt Tryd.f11 0 = [7, 0, 8, 3] := by kernel_rfl
  rw [clean_mk (Nat.eq_of_beq_eq_true hl), e]
  show mkF 31 [(7, fr.getD 7 .undef), (0, fr.getD 0 .undef), (8, fr.getD 8 .undef), (3, fr.getD 3 .undef)] = _
  rw [g7, g0, g8, g3]
  kernel_rfl
abbrev pl (x : UInt8) : Bool := plain_v0 ((x.toNat : Nat) : Int)
abbrev u8D (x : UInt8) : D := .int .u8 ((x.toNat : Nat) : Int)
def outS (s : ByteArray) (i : Nat) : List D := ((s.data.toList.take i).filter pl).map u8D
theorem outS_succ {s : ByteArray} {i : Nat} (h : i < s.data.toList.length) : outS s (i + 1) = bif pl (strAt s i) then outS s i ++ [u8D (strAt s i)] else outS s i := by
  have e : strAt s i = s.data.toList[i] := by unfold strAt; rw [List.getD_eq_getElem?_getD, List.getElem?_eq_getElem h]; rfl
  unfold outS
  rw [List.take_succ_eq_append_getElem h, List.filter_append, List.map_append, e]
  cases hp : pl s.data.toList[i] with
  | true => rw [List.filter_cons, hp]; rfl
  | false => rw [List.filter_cons, hp]; simp
theorem outS_len (s : ByteArray) (i : Nat) : (outS s i).length ≤ i := by
  unfold outS
  rw [List.length_map]
  have := List.length_filter_le pl (s.data.toList.take i)
  rw [List.length_take] at this; omega
theorem cl_closed (s : ByteArray) (n : Int) (hc : (decide (n = (s.size : Int)) && okS s) = true) :
    ∃ z, (iterT (cl_step s n) z (0, 0, 0, [])).run = T.run (.leaf (some 0, mkF 31 [(3, .sref .one 0 (outS s s.size).length [] 0 (outS s s.size).length)], [mkDyn .one (outS s s.size)])) := by
  rw [Bool.and_eq_true, decide_eq_true_eq, decide_eq_true_eq] at hc
  obtain ⟨rfl, h2⟩ := hc
  refine iter_range (n := s.size) (fun i => ((outS s i).length, (outS s i).length, outS s i)) (fun i hi => ?_) ?_
  · have hl : i < s.data.toList.length := by rw [Array.length_toList]; exact hi
    have ho := outS_len s i
    unfold cl_step
    simp only [Int.toNat_natCast, decide_eq_true (show (i : Int) < (s.size : Int) by omega), decide_eq_true (show (0 : Int) ≤ (i : Int) by omega), decide_eq_true hl, beq_self, decide_eq_true (show ((outS s i).length + 1) * 1 ≤ 35184372088832 by omega), wrap_succ (show i < 2 ^ 62 by omega), Bool.not_true, Bool.or_true, Bool.and_true, T.run_br, T.run_chk, T.run_leaf, cond_true, cond_false, outS_succ hl]
    rw [show pl (strAt s i) = plain_v0 (((strAt s i).toNat : Nat) : Int) from rfl]
    cases plain_v0 (((strAt s i).toNat : Nat) : Int) with
    | true => simp only [cond_true, List.length_append, List.length_singleton]
    | false => rfl
  · unfold cl_step
    simp only [decide_eq_false (show ¬ (s.size : Int) < (s.size : Int) by omega)]
    rfl
def L_cl : Frame' → Store → T (Exit × Frame' × Store) := fun fr σ => match fr.getD 0 .undef, fr.getD 3 .undef, fr.getD 7 .undef, fr.getD 8 .undef, σ with
  | AV.dat (D.str s), AV.sref Sh.one 0 0 [] 0 0, AV.dat (D.int IntKind.i64 n), AV.dat (D.int IntKind.i64 0), [{ sh := Sh.arr Sh.one 0, dyn := true, frz := false, v := AV.dat (D.arr Sh.one []) }] => .chk (Nat.beq fr.length 31 && (decide (n = (s.size : Int)) && okS s)) (T.bind (.leaf (some 0, mkF 31 [(3, .sref .one 0 (outS s s.size).length [] 0 (outS s s.size).length)], [mkDyn .one (outS s s.size)])) fun o => .leaf (outEx o.1, o.2.1, o.2.2))
  | _, _, _, _, _ => .fail
theorem cl_sem (lp : Loops) : ∀ fr σ p, (L_cl fr σ).run = some p → ∀ (K : Kt) r, K p.1 p.2.1 p.2.2 = some r → ∃ n, loopRun (envOf tab SpD [] lp [(2, 0, [.own 3])]) Tryd.f11 0 σ.length n (cleanF (liveAt Tryd.f11 0) 0 fr) σ K = some r := by
  intro fr σ p h K r hK
  unfold L_cl at h
  split at h
  · rename_i s n g0 g3 g7 g8
    obtain ⟨hc, h'⟩ := T.chk_some h
    rw [Bool.and_eq_true] at hc
    obtain ⟨hl, hc⟩ := hc
    obtain ⟨o, ho, h'⟩ := T.bind_some h'
    have hp := T.leaf_some h'
    subst hp
    obtain ⟨nF, hn⟩ : ∃ nF, (iterT (cl_step s n) nF ((0, 0, 0, []))).run = T.run (.leaf (some 0, mkF 31 [(3, .sref .one 0 (outS s s.size).length [] 0 (outS s s.size).length)], [mkDyn .one (outS s s.size)])) := cl_closed s n hc
    rw [ho] at hn
    refine ⟨nF, ?_⟩
    have he : cleanF (liveAt Tryd.f11 0) 0 fr = cl_fr s n ((0, 0, 0, [])) := cl_enter s n _ _ _ _ fr hl g0 g3 g7 g8
    refine (iter_ok (base := 1) (cl_hr lp s n) K nF ((0, 0, 0, [])) _ _ (by rw [clean_clean]; exact he) (by kernel_rfl)).trans ?_
    rw [T.k_run hn]
    exact hK
  · simp [T.run_fail] at h
theorem cl_loopOk {k : Nat} (lp : Loops) (hk : Loops.get lp 3 = some L_cl) : LoopOkN Tryd.prog k (envOf tab SpD [] lp [(2, 0, [.own 3])]) (loopAt Tryd.f11 0).1 (loopAt Tryd.f11 0).2 := loop_okN (L := L_cl) (by kernel_rfl) hk (cl_sem lp)
def clean_t1 (s : ByteArray) := List.length (outS s (ByteArray.size s))
def clean_t0 (s : ByteArray) := seg (outS s (ByteArray.size s)) 0 (clean_t1 s)
def clean_v0 (s : ByteArray) : ByteArray := bif decide (List.take (Int.toNat (if 40 < (↑(ByteArray.size (trimB { data := { toList := byteVs (clean_t0 s) } })) : Int) then 40 else (↑(ByteArray.size (trimB { data := { toList := byteVs (clean_t0 s) } })) : Int)) - 0) (List.drop 0 (Array.toList (ByteArray.data (trimB { data := { toList := byteVs (clean_t0 s) } })))) = []) then subStr (trimB { data := { toList := byteVs (clean_t0 s) } }) 0 (Int.toNat (if 40 < (↑(ByteArray.size (trimB { data := { toList := byteVs (clean_t0 s) } })) : Int) then 40 else (↑(ByteArray.size (trimB { data := { toList := byteVs (clean_t0 s) } })) : Int))) else trimR 32 (subStr (trimB { data := { toList := byteVs (clean_t0 s) } }) 0 (Int.toNat (if 40 < (↑(ByteArray.size (trimB { data := { toList := byteVs (clean_t0 s) } })) : Int) then 40 else (↑(ByteArray.size (trimB { data := { toList := byteVs (clean_t0 s) } })) : Int))))
def clean_pre (s : ByteArray) : Bool := decide ((↑(ByteArray.size s) : Int) = (↑(ByteArray.size s) : Int)) && okS s && (Nat.beq (clean_t1 s) (clean_t1 s) && (isBytes (clean_t0 s) && ((decide (byteVs (clean_t0 s) = []) || okS { data := { toList := byteVs (clean_t0 s) } } && okS (trimR 32 { data := { toList := byteVs (clean_t0 s) } })) && (decide (0 ≤ if 40 < (↑(ByteArray.size (trimB { data := { toList := byteVs (clean_t0 s) } })) : Int) then 40 else (↑(ByteArray.size (trimB { data := { toList := byteVs (clean_t0 s) } })) : Int)) && (decide (Int.toNat (if 40 < (↑(ByteArray.size (trimB { data := { toList := byteVs (clean_t0 s) } })) : Int) then 40 else (↑(ByteArray.size (trimB { data := { toList := byteVs (clean_t0 s) } })) : Int)) ≤ ByteArray.size (trimB { data := { toList := byteVs (clean_t0 s) } })) && okS (subStr (trimB { data := { toList := byteVs (clean_t0 s) } }) 0 (Int.toNat (if 40 < (↑(ByteArray.size (trimB { data := { toList := byteVs (clean_t0 s) } })) : Int) then 40 else (↑(ByteArray.size (trimB { data := { toList := byteVs (clean_t0 s) } })) : Int)))))))))
def C_clean : FunT := fun args σ => match args, σ with
  | [AV.dat (D.str s)], [] => .chk ((clean_pre s)) (.leaf ([AV.dat (D.str (clean_v0 s))], []))
  | _, _ => .fail
theorem clean_raw0 (s : ByteArray) : runF (envOf tab SpD [] [(3, L_cl)] [(2, 0, [.own 3])]) true Tryd.f11 [.dat (.str s)] [] =
  (bif decide ((↑(ByteArray.size s) : Int) = (↑(ByteArray.size s) : Int)) && okS s then
   (bif Nat.beq (clean_t1 s) (clean_t1 s) then
    (bif isBytes (clean_t0 s) then
     (bif decide (byteVs (clean_t0 s) = []) || okS { data := { toList := byteVs (clean_t0 s) } } && okS (trimR 32 { data := { toList := byteVs (clean_t0 s) } }) then
      (bif decide (0 ≤ if 40 < (↑(ByteArray.size (trimB { data := { toList := byteVs (clean_t0 s) } })) : Int) then 40 else (↑(ByteArray.size (trimB { data := { toList := byteVs (clean_t0 s) } })) : Int)) then
       (bif decide (Int.toNat (if 40 < (↑(ByteArray.size (trimB { data := { toList := byteVs (clean_t0 s) } })) : Int) then 40 else (↑(ByteArray.size (trimB { data := { toList := byteVs (clean_t0 s) } })) : Int)) ≤ ByteArray.size (trimB { data := { toList := byteVs (clean_t0 s) } })) then
        (bif okS (subStr (trimB { data := { toList := byteVs (clean_t0 s) } }) 0 (Int.toNat (if 40 < (↑(ByteArray.size (trimB { data := { toList := byteVs (clean_t0 s) } })) : Int) then 40 else (↑(ByteArray.size (trimB { data := { toList := byteVs (clean_t0 s) } })) : Int)))) then some ([.dat (.str (bif decide (List.take (Int.toNat (if 40 < (↑(ByteArray.size (trimB { data := { toList := byteVs (clean_t0 s) } })) : Int) then 40 else (↑(ByteArray.size (trimB { data := { toList := byteVs (clean_t0 s) } })) : Int)) - 0) (List.drop 0 (Array.toList (ByteArray.data (trimB { data := { toList := byteVs (clean_t0 s) } })))) = []) then subStr (trimB { data := { toList := byteVs (clean_t0 s) } }) 0 (Int.toNat (if 40 < (↑(ByteArray.size (trimB { data := { toList := byteVs (clean_t0 s) } })) : Int) then 40 else (↑(ByteArray.size (trimB { data := { toList := byteVs (clean_t0 s) } })) : Int))) else trimR 32 (subStr (trimB { data := { toList := byteVs (clean_t0 s) } }) 0 (Int.toNat (if 40 < (↑(ByteArray.size (trimB { data := { toList := byteVs (clean_t0 s) } })) : Int) then 40 else (↑(ByteArray.size (trimB { data := { toList := byteVs (clean_t0 s) } })) : Int))))))], []) else none) else none) else none) else none) else none) else none) else none) := by kernel_rfl
theorem clean_case0 (s : ByteArray) : runF (envOf tab SpD [] [(3, L_cl)] [(2, 0, [.own 3])]) true Tryd.f11 [.dat (.str s)] [] = FunT.run C_clean [.dat (.str s)] [] := (clean_raw0 s).trans (by
  show _ = (cond (decide ((↑(ByteArray.size s) : Int) = (↑(ByteArray.size s) : Int)) && okS s && (Nat.beq (clean_t1 s) (clean_t1 s) && (isBytes (clean_t0 s) && ((decide (byteVs (clean_t0 s) = []) || okS { data := { toList := byteVs (clean_t0 s) } } && okS (trimR 32 { data := { toList := byteVs (clean_t0 s) } })) && (decide (0 ≤ if 40 < (↑(ByteArray.size (trimB { data := { toList := byteVs (clean_t0 s) } })) : Int) then 40 else (↑(ByteArray.size (trimB { data := { toList := byteVs (clean_t0 s) } })) : Int)) && (decide (Int.toNat (if 40 < (↑(ByteArray.size (trimB { data := { toList := byteVs (clean_t0 s) } })) : Int) then 40 else (↑(ByteArray.size (trimB { data := { toList := byteVs (clean_t0 s) } })) : Int)) ≤ ByteArray.size (trimB { data := { toList := byteVs (clean_t0 s) } })) && okS (subStr (trimB { data := { toList := byteVs (clean_t0 s) } }) 0 (Int.toNat (if 40 < (↑(ByteArray.size (trimB { data := { toList := byteVs (clean_t0 s) } })) : Int) then 40 else (↑(ByteArray.size (trimB { data := { toList := byteVs (clean_t0 s) } })) : Int)))))))))) (some (([.dat (.str (bif decide (List.take (Int.toNat (if 40 < (↑(ByteArray.size (trimB { data := { toList := byteVs (clean_t0 s) } })) : Int) then 40 else (↑(ByteArray.size (trimB { data := { toList := byteVs (clean_t0 s) } })) : Int)) - 0) (List.drop 0 (Array.toList (ByteArray.data (trimB { data := { toList := byteVs (clean_t0 s) } })))) = []) then subStr (trimB { data := { toList := byteVs (clean_t0 s) } }) 0 (Int.toNat (if 40 < (↑(ByteArray.size (trimB { data := { toList := byteVs (clean_t0 s) } })) : Int) then 40 else (↑(ByteArray.size (trimB { data := { toList := byteVs (clean_t0 s) } })) : Int))) else trimR 32 (subStr (trimB { data := { toList := byteVs (clean_t0 s) } }) 0 (Int.toNat (if 40 < (↑(ByteArray.size (trimB { data := { toList := byteVs (clean_t0 s) } })) : Int) then 40 else (↑(ByteArray.size (trimB { data := { toList := byteVs (clean_t0 s) } })) : Int))))))], []) : Res)) none)
  generalize (decide (Int.toNat (if 40 < (↑(ByteArray.size (trimB { data := { toList := byteVs (clean_t0 s) } })) : Int) then 40 else (↑(ByteArray.size (trimB { data := { toList := byteVs (clean_t0 s) } })) : Int)) ≤ ByteArray.size (trimB { data := { toList := byteVs (clean_t0 s) } }))) = z0
  generalize (decide (0 ≤ if 40 < (↑(ByteArray.size (trimB { data := { toList := byteVs (clean_t0 s) } })) : Int) then 40 else (↑(ByteArray.size (trimB { data := { toList := byteVs (clean_t0 s) } })) : Int))) = z1
  generalize (okS (subStr (trimB { data := { toList := byteVs (clean_t0 s) } }) 0 (Int.toNat (if 40 < (↑(ByteArray.size (trimB { data := { toList := byteVs (clean_t0 s) } })) : Int) then 40 else (↑(ByteArray.size (trimB { data := { toList := byteVs (clean_t0 s) } })) : Int))))) = z2
  generalize (decide (byteVs (clean_t0 s) = []) || okS { data := { toList := byteVs (clean_t0 s) } } && okS (trimR 32 { data := { toList := byteVs (clean_t0 s) } })) = z3
  generalize (decide ((↑(ByteArray.size s) : Int) = (↑(ByteArray.size s) : Int)) && okS s) = z4
  generalize (isBytes (clean_t0 s)) = z5
  generalize (Nat.beq (clean_t1 s) (clean_t1 s)) = z6
  cases z4 with
  | true =>
   cases z6 with
   | true =>
    cases z5 with
    | true =>
     cases z3 with
     | true =>
      cases z1 with
      | true =>
       cases z0 with
       | true =>
        cases z2 with
        | true =>
         rfl
        | false =>
         rfl
       | false =>
        rfl
      | false =>
       rfl
     | false =>
      rfl
    | false =>
     rfl
   | false =>
    rfl
  | false =>
   rfl
  )
theorem cclean_ok : FunOk Tryd.prog 11 (FunT.run C_clean) := by
  refine fun_ok (E := envOf tab SpD [] [(3, L_cl)] [(2, 0, [.own 3])]) (fz := true) (fn := Tryd.f11) (envOf_ok progOk SpD_ok) (by kernel_rfl) (by kernel_rfl) (loops_one (by kernel_rfl) (cl_loopOk _ rfl)) ?_
  intro args σ r h
  unfold C_clean at h
  split at h
  · exact (clean_case0 _).trans h
  · simp [T.run_fail] at h
end Go.Proofs.YtniombjfbdojjaaDoor
