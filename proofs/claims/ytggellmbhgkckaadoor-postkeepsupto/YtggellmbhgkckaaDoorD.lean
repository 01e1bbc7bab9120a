/- Seat 17: what is there; Put, Get, Toss. -/
import Derived.Test.YtggellmbhgkckaaDoorC
namespace Go.Proofs.YtggellmbhgkckaaDoor
open Go.AX
set_option maxRecDepth 100000
abbrev Sp14 : Specs := [(29, C_imd), (18, C_ihas)]
theorem Sp14_ok : SpecsOk Tryd.prog Sp14 := .cons cimd_ok (.cons cihas_ok (.nil _))
abbrev okT (ds : List D) : Bool := ds.all (okE k23) && decide (ds.length ≤ 1099511627776)
theorem okT_spec {ds : List D} (h : okT ds = true) : ds.all (okE k23) = true ∧ ds.length ≤ 1099511627776 := by
  simpa only [okT, Bool.and_eq_true, decide_eq_true_eq] using h
theorem has_is {ds : List D} {i : Nat} (hi : i < ds.length) : ihas_v0 ds (i : Int) = fU (nthD ds i) := by
  unfold ihas_v0
  rw [decide_eq_true (show (0 : Int) ≤ (i : Int) by omega), decide_eq_true (show (i : Int) < (ds.length : Int) by omega), Int.toNat_natCast]; rfl
theorem has_pre {ds : List D} (h : ds.all (okE k23) = true) (i : Int) : ihas_pre ds i = true := by
  unfold ihas_pre
  by_cases h0 : (0 : Int) ≤ i
  · by_cases h1 : i < (ds.length : Int)
    · obtain ⟨j, rfl⟩ : ∃ j : Nat, i = (j : Int) := ⟨i.toNat, by omega⟩
      have hj : j < ds.length := by omega
      rw [Int.toNat_natCast, decide_eq_true hj, allE_nth h hj]; simp
    · rw [decide_eq_false h1]; simp
  · rw [decide_eq_false h0]; simp
def usTo (ds : List D) : List D := colTo (fun i => fU (nthD ds i)) ds.length
def sl_fr (_ds : List D) (n : Int) : (Int × Nat × Nat × List D) → Frame' := fun ⟨i, m, k, _⟩ => mkF 25 [(0, .ptr (.agg [.one, .one]) 0 0 []), (3, .sref .one 1 m [] 0 k), (12, .dat (.int .i64 n)), (13, .dat (.int .i64 i))]
def sl_st (ds : List D) (_n : Int) : (Int × Nat × Nat × List D) → Store := fun ⟨_, _, _, out⟩ => [irow ds, mkDyn .one out]
def sl_step (ds : List D) (n : Int) : (Int × Nat × Nat × List D) → T ((Int × Nat × Nat × List D) ⊕ LOut) := fun ⟨i, m, k, out⟩ =>
  .chk (!decide (i < n) || ihas_pre ds i && (!ihas_v0 ds i || Nat.beq (List.length out) m && true && true && true && true && Nat.beq k m && true && true && decide ((m + 1) * 8 ≤ 35184372088832))) (
   .br (!decide (i < n)) (.leaf (.inr ((some 0), mkF 25 [(3, AV.sref Sh.one 1 m [] 0 k)], [{ sh := Sh.agg [Sh.one, Sh.one], dyn := false, frz := false, v := .dat (.agg [D.slc (s23) ds, D.fn (Fn.func 27) [] []]) }, { sh := Sh.arr Sh.one 0, dyn := true, frz := false, v := .dat (.arr Sh.one out) }]))) (.leaf (.inl ((IntKind.wrap IntKind.i64 (i + 1)), (bif ihas_v0 ds i then m + 1 else m), (bif ihas_v0 ds i then m + 1 else k), (bif ihas_v0 ds i then out ++ [D.int .i64 i] else out)))))
theorem sl_round (lp : Loops) (ds : List D) (n : Int) (i : Int) (m k : Nat) (out : List D) (K : Kt) : oneRound (envOf tab Sp14 [] lp [(4, 0, [.own 3])]) Tryd.f21 0 (2) (mkF 25 [(0, .ptr (.agg [.one, .one]) 0 0 []), (3, .sref .one 1 m [] 0 k), (12, .dat (.int .i64 n)), (13, .dat (.int .i64 i))]) ([irow ds, mkDyn .one out]) K =
  (bif decide (i < n) then
   (bif ihas_pre ds i then
    (bif ihas_v0 ds i then
     (bif Nat.beq (List.length out) m && true && true && true && true && Nat.beq k m && true && true && decide ((m + 1) * 8 ≤ 35184372088832) then K (Exit.normal) (mkF 25 [(0, AV.ptr (Sh.agg [Sh.one, Sh.one]) 0 0 []), (3, AV.sref Sh.one 1 (m + 1) [] 0 (m + 1)), (12, .dat (.int .i64 n)), (13, .dat (.int .i64 (IntKind.wrap IntKind.i64 (i + 1)))), (14, .dat (.bool (decide (i < n)))), (23, .dat (.int .i64 (IntKind.wrap IntKind.i64 (i + 1))))]) ([{ sh := Sh.agg [Sh.one, Sh.one], dyn := false, frz := false, v := .dat (.agg [D.slc (s23) ds, D.fn (Fn.func 27) [] []]) }, { sh := Sh.arr Sh.one 0, dyn := true, frz := false, v := .dat (.arr Sh.one (out ++ [D.int .i64 i])) }, { sh := Sh.arr Sh.one 0, dyn := true, frz := false, v := .dat (.arr Sh.one [D.int .i64 i]) }]) else none) else K (Exit.normal) (mkF 25 [(0, AV.ptr (Sh.agg [Sh.one, Sh.one]) 0 0 []), (3, AV.sref Sh.one 1 m [] 0 k), (12, .dat (.int .i64 n)), (13, .dat (.int .i64 (IntKind.wrap IntKind.i64 (i + 1)))), (14, .dat (.bool (decide (i < n)))), (23, .dat (.int .i64 (IntKind.wrap IntKind.i64 (i + 1))))]) ([{ sh := Sh.agg [Sh.one, Sh.one], dyn := false, frz := false, v := .dat (.agg [D.slc (s23) ds, D.fn (Fn.func 27) [] []]) }, { sh := Sh.arr Sh.one 0, dyn := true, frz := false, v := .dat (.arr Sh.one out) }])) else none) else K (Exit.exit 0) (mkF 25 [(3, AV.sref Sh.one 1 m [] 0 k)]) ([{ sh := Sh.agg [Sh.one, Sh.one], dyn := false, frz := false, v := .dat (.agg [D.slc (s23) ds, D.fn (Fn.func 27) [] []]) }, { sh := Sh.arr Sh.one 0, dyn := true, frz := false, v := .dat (.arr Sh.one out) }])) := by kernel_rfl
theorem sl_hr (lp : Loops) (ds : List D) (n : Int) : ∀ (sA : (Int × Nat × Nat × List D)) (K : Kt) (N : (Int × Nat × Nat × List D) → Option Res), (∀ sB fr' σ', cleanF (liveAt Tryd.f21 0) 0 fr' = sl_fr ds n sB → trim (2) (sl_fr ds n sB) σ' = sl_st ds n sB → K .normal fr' σ' = N sB) →
    oneRound (envOf tab Sp14 [] lp [(4, 0, [.own 3])]) Tryd.f21 0 (2) (sl_fr ds n sA) (sl_st ds n sA) K = (sl_step ds n sA).k (LK K N) := by
  intro sA K N hN
  obtain ⟨i, m, k, out⟩ := sA
  refine (sl_round lp ds n i m k out K).trans ?_
  show _ = T.k ((
  .chk (!decide (i < n) || ihas_pre ds i && (!ihas_v0 ds i || Nat.beq (List.length out) m && true && true && true && true && Nat.beq k m && true && true && decide ((m + 1) * 8 ≤ 35184372088832))) (
   .br (!decide (i < n)) (.leaf (.inr ((some 0), mkF 25 [(3, AV.sref Sh.one 1 m [] 0 k)], [{ sh := Sh.agg [Sh.one, Sh.one], dyn := false, frz := false, v := .dat (.agg [D.slc (s23) ds, D.fn (Fn.func 27) [] []]) }, { sh := Sh.arr Sh.one 0, dyn := true, frz := false, v := .dat (.arr Sh.one out) }]))) (.leaf (.inl ((IntKind.wrap IntKind.i64 (i + 1)), (bif ihas_v0 ds i then m + 1 else m), (bif ihas_v0 ds i then m + 1 else k), (bif ihas_v0 ds i then out ++ [D.int .i64 i] else out)))))) : T ((Int × Nat × Nat × List D) ⊕ LOut)) (LK K N)
  generalize (Nat.beq (List.length out) m && true && true && true && true && Nat.beq k m && true && true && decide ((m + 1) * 8 ≤ 35184372088832)) = z0
  generalize (decide (i < n)) = z1
  generalize (ihas_pre ds i) = z2
  generalize (ihas_v0 ds i) = z3
  cases z1 with
  | true =>
   cases z2 with
   | true =>
    cases z3 with
    | true =>
     cases z0 with
     | true =>
      exact hN _ _ _ (by kernel_rfl) (by kernel_rfl)
     | false =>
      rfl
    | false =>
     exact hN _ _ _ (by kernel_rfl) (by kernel_rfl)
   | false =>
    rfl
  | false =>
   rfl
theorem sl_enter (ds : List D) (n : Int) (i : Int) (m k : Nat) (out : List D) (fr : Frame') (hl : Nat.beq fr.length 25 = true) (g0 : fr.getD 0 .undef = AV.ptr (Sh.agg [Sh.one, Sh.one]) 0 0 []) (g3 : fr.getD 3 .undef = AV.sref Sh.one 1 m [] 0 k) (g12 : fr.getD 12 .undef = .dat (.int .i64 n)) (g13 : fr.getD 13 .undef = .dat (.int .i64 i)) : cleanF (liveAt Tryd.f21 0) 0 fr = sl_fr ds n (i, m, k, out) := by
  have e : liveAt Tryd.f21 0 = [12, 0, 13, 3] := by kernel_rfl
  rw [clean_mk (Nat.eq_of_beq_eq_true hl), e]
  show mkF 25 [(12, fr.getD 12 .undef), (0, fr.getD 0 .undef), (13, fr.getD 13 .undef), (3, fr.getD 3 .undef)] = _
  rw [g12, g0, g13, g3]
  kernel_rfl
theorem sl_closed (ds : List D) (n : Int) (hc : (decide (n = (ds.length : Int)) && okT ds) = true) :
    ∃ z, (iterT (sl_step ds n) z (0, 0, 0, [])).run = T.run (.leaf (some 0, mkF 25 [(3, .sref .one 1 (usTo ds).length [] 0 (usTo ds).length)], [irow ds, mkDyn .one (usTo ds)])) := by
  rw [Bool.and_eq_true, decide_eq_true_eq] at hc
  obtain ⟨rfl, hx⟩ := hc
  obtain ⟨h1, h2⟩ := okT_spec hx
  refine iter_collect (fun i => fU (nthD ds i)) (o := fun out => (some 0, mkF 25 [(3, .sref .one 1 out.length [] 0 out.length)], [irow ds, mkDyn .one out])) (fun i hi out ho => ?_) (fun out => ?_)
  · unfold sl_step
    simp only [decide_eq_true (show (i : Int) < (ds.length : Int) by omega), has_is hi, has_pre h1, beq_self, decide_eq_true (show (out.length + 1) * 8 ≤ 35184372088832 by omega), wrap_succ (show i < 2 ^ 62 by omega), Bool.not_true, Bool.or_true, Bool.and_true, T.run_br, T.run_chk, T.run_leaf, cond_true, cond_false]
  · unfold sl_step
    simp only [decide_eq_false (show ¬ (ds.length : Int) < (ds.length : Int) by omega)]
    rfl
def L_sl : Frame' → Store → T (Exit × Frame' × Store) := fun fr σ => match fr.getD 0 .undef, fr.getD 3 .undef, fr.getD 12 .undef, fr.getD 13 .undef, σ with
  | AV.ptr (Sh.agg [Sh.one, Sh.one]) 0 0 [], AV.sref Sh.one 1 0 [] 0 0, AV.dat (D.int IntKind.i64 n), AV.dat (D.int IntKind.i64 0), [{ sh := Sh.agg [Sh.one, Sh.one], dyn := false, frz := false, v := AV.dat (D.agg [D.slc (Sh.agg [Sh.one, Sh.one, Sh.one, Sh.one, Sh.one]) ds, D.fn (Fn.func 27) [] []]) }, { sh := Sh.arr Sh.one 0, dyn := true, frz := false, v := AV.dat (D.arr Sh.one []) }] => .chk (Nat.beq fr.length 25 && (decide (n = (ds.length : Int)) && okT ds)) (T.bind (.leaf (some 0, mkF 25 [(3, .sref .one 1 (usTo ds).length [] 0 (usTo ds).length)], [irow ds, mkDyn .one (usTo ds)])) fun o => .leaf (outEx o.1, o.2.1, o.2.2))
  | _, _, _, _, _ => .fail
theorem sl_sem (lp : Loops) : ∀ fr σ p, (L_sl fr σ).run = some p → ∀ (K : Kt) r, K p.1 p.2.1 p.2.2 = some r → ∃ n, loopRun (envOf tab Sp14 [] lp [(4, 0, [.own 3])]) Tryd.f21 0 σ.length n (cleanF (liveAt Tryd.f21 0) 0 fr) σ K = some r := by
  intro fr σ p h K r hK
  unfold L_sl at h
  split at h
  · rename_i n ds g0 g3 g12 g13
    obtain ⟨hc, h'⟩ := T.chk_some h
    rw [Bool.and_eq_true] at hc
    obtain ⟨hl, hc⟩ := hc
    obtain ⟨o, ho, h'⟩ := T.bind_some h'
    have hp := T.leaf_some h'
    subst hp
    obtain ⟨nF, hn⟩ : ∃ nF, (iterT (sl_step ds n) nF ((0, 0, 0, []))).run = T.run (.leaf (some 0, mkF 25 [(3, .sref .one 1 (usTo ds).length [] 0 (usTo ds).length)], [irow ds, mkDyn .one (usTo ds)])) := sl_closed ds n hc
    rw [ho] at hn
    refine ⟨nF, ?_⟩
    have he : cleanF (liveAt Tryd.f21 0) 0 fr = sl_fr ds n ((0, 0, 0, [])) := sl_enter ds n _ _ _ _ fr hl g0 g3 g12 g13
    refine (iter_ok (base := 2) (sl_hr lp ds n) K nF ((0, 0, 0, [])) _ _ (by rw [clean_clean]; exact he) (by kernel_rfl)).trans ?_
    rw [T.k_run hn]
    exact hK
  · simp [T.run_fail] at h
theorem sl_loopOk {k : Nat} (lp : Loops) (hk : Loops.get lp 5 = some L_sl) : LoopOkN Tryd.prog k (envOf tab Sp14 [] lp [(4, 0, [.own 3])]) (loopAt Tryd.f21 0).1 (loopAt Tryd.f21 0).2 := loop_okN (L := L_sl) (by kernel_rfl) hk (sl_sem lp)
def slots_pre (ds : List D) : Bool := decide ((↑(List.length ds) : Int) = (↑(List.length ds) : Int)) && okT ds && Nat.beq (List.length (usTo ds)) (List.length (usTo ds))
def C_slots : FunT := fun args σ => match args, σ with
  | [AV.ptr (Sh.agg [Sh.one, Sh.one]) 0 0 []], [{ sh := Sh.agg [Sh.one, Sh.one], dyn := false, frz := false, v := AV.dat (D.agg [D.slc (Sh.agg [Sh.one, Sh.one, Sh.one, Sh.one, Sh.one]) ds, D.fn (Fn.func 27) [] []]) }] => .chk ((slots_pre ds)) (.leaf ([AV.dat (D.slc Sh.one (seg (usTo ds) 0 (List.length (usTo ds))))], [{ sh := Sh.agg [Sh.one, Sh.one], dyn := false, frz := false, v := AV.dat (D.agg [D.slc (s23) ds, D.fn (Fn.func 27) [] []]) }]))
  | _, _ => .fail
theorem slots_raw0 (ds : List D) : runF (envOf tab Sp14 [] [(5, L_sl)] [(4, 0, [.own 3])]) true Tryd.f21 [.ptr (.agg [.one, .one]) 0 0 []] [irow ds] =
  (bif decide ((↑(List.length ds) : Int) = (↑(List.length ds) : Int)) && okT ds then
   (bif Nat.beq (List.length (usTo ds)) (List.length (usTo ds)) then some ([.dat (.slc Sh.one (seg (usTo ds) 0 (List.length (usTo ds))))], [{ sh := Sh.agg [Sh.one, Sh.one], dyn := false, frz := false, v := .dat (.agg [D.slc (s23) ds, D.fn (Fn.func 27) [] []]) }]) else none) else none) := by kernel_rfl
theorem slots_case0 (ds : List D) : runF (envOf tab Sp14 [] [(5, L_sl)] [(4, 0, [.own 3])]) true Tryd.f21 [.ptr (.agg [.one, .one]) 0 0 []] [irow ds] = FunT.run C_slots [.ptr (.agg [.one, .one]) 0 0 []] [irow ds] := (slots_raw0 ds).trans (by
  show _ = (cond (decide ((↑(List.length ds) : Int) = (↑(List.length ds) : Int)) && okT ds && Nat.beq (List.length (usTo ds)) (List.length (usTo ds))) (some (([.dat (.slc Sh.one (seg (usTo ds) 0 (List.length (usTo ds))))], [{ sh := Sh.agg [Sh.one, Sh.one], dyn := false, frz := false, v := .dat (.agg [D.slc (s23) ds, D.fn (Fn.func 27) [] []]) }]) : Res)) none)
  generalize (decide ((↑(List.length ds) : Int) = (↑(List.length ds) : Int)) && okT ds) = z0
  generalize (Nat.beq (List.length (usTo ds)) (List.length (usTo ds))) = z1
  cases z0 with
  | true =>
   cases z1 with
   | true =>
    rfl
   | false =>
    rfl
  | false =>
   rfl
  )
theorem cslots_ok : FunOk Tryd.prog 21 (FunT.run C_slots) := by
  refine fun_ok (E := envOf tab Sp14 [] [(5, L_sl)] [(4, 0, [.own 3])]) (fz := true) (fn := Tryd.f21) (envOf_ok progOk Sp14_ok) (by kernel_rfl) (by kernel_rfl) (loops_one (by kernel_rfl) (sl_loopOk _ rfl)) ?_
  intro args σ r h
  unfold C_slots at h
  split at h
  · exact (slots_case0 _).trans h
  · simp [T.run_fail] at h
def slotsO_pre (ds : List D) : Bool := decide ((↑(List.length ds) : Int) = (↑(List.length ds) : Int)) && okT ds
def C_slotsO : FunT := fun args σ => match args, σ with
  | [AV.ptr (Sh.agg [Sh.one, Sh.one]) 0 0 []], [{ sh := Sh.agg [Sh.one, Sh.one], dyn := false, frz := false, v := AV.dat (D.agg [D.slc (Sh.agg [Sh.one, Sh.one, Sh.one, Sh.one, Sh.one]) ds, D.fn (Fn.func 27) [] []]) }] => .chk ((slotsO_pre ds)) (.leaf ([AV.sref Sh.one 1 (List.length (usTo ds)) [] 0 (List.length (usTo ds))], [{ sh := Sh.agg [Sh.one, Sh.one], dyn := false, frz := false, v := AV.dat (D.agg [D.slc (s23) ds, D.fn (Fn.func 27) [] []]) }, { sh := Sh.arr Sh.one 0, dyn := true, frz := false, v := AV.dat (D.arr Sh.one (usTo ds)) }]))
  | _, _ => .fail
theorem slotsO_raw0 (ds : List D) : runF (envOf tab Sp14 [] [(5, L_sl)] [(4, 0, [.own 3])]) false Tryd.f21 [.ptr (.agg [.one, .one]) 0 0 []] [irow ds] =
  (bif decide ((↑(List.length ds) : Int) = (↑(List.length ds) : Int)) && okT ds then some ([AV.sref Sh.one 1 (List.length (usTo ds)) [] 0 (List.length (usTo ds))], [{ sh := Sh.agg [Sh.one, Sh.one], dyn := false, frz := false, v := .dat (.agg [D.slc (s23) ds, D.fn (Fn.func 27) [] []]) }, { sh := Sh.arr Sh.one 0, dyn := true, frz := false, v := .dat (.arr Sh.one (usTo ds)) }]) else none) := by kernel_rfl
theorem slotsO_case0 (ds : List D) : runF (envOf tab Sp14 [] [(5, L_sl)] [(4, 0, [.own 3])]) false Tryd.f21 [.ptr (.agg [.one, .one]) 0 0 []] [irow ds] = FunT.run C_slotsO [.ptr (.agg [.one, .one]) 0 0 []] [irow ds] := (slotsO_raw0 ds).trans (by
  show _ = (cond (decide ((↑(List.length ds) : Int) = (↑(List.length ds) : Int)) && okT ds) (some (([AV.sref Sh.one 1 (List.length (usTo ds)) [] 0 (List.length (usTo ds))], [{ sh := Sh.agg [Sh.one, Sh.one], dyn := false, frz := false, v := .dat (.agg [D.slc (s23) ds, D.fn (Fn.func 27) [] []]) }, { sh := Sh.arr Sh.one 0, dyn := true, frz := false, v := .dat (.arr Sh.one (usTo ds)) }]) : Res)) none)
  generalize (decide ((↑(List.length ds) : Int) = (↑(List.length ds) : Int)) && okT ds) = z0
  cases z0 with
  | true =>
   rfl
  | false =>
   rfl
  )
theorem cslotsO_ok : FunOk Tryd.prog 21 (FunT.run C_slotsO) := by
  refine fun_ok (E := envOf tab Sp14 [] [(5, L_sl)] [(4, 0, [.own 3])]) (fz := false) (fn := Tryd.f21) (envOf_ok progOk Sp14_ok) (by kernel_rfl) (by kernel_rfl) (loops_one (by kernel_rfl) (sl_loopOk _ rfl)) ?_
  intro args σ r h
  unfold C_slotsO at h
  split at h
  · exact (slotsO_case0 _).trans h
  · simp [T.run_fail] at h
abbrev SpD : Specs := [(8, C_right), (11, C_nums), (12, C_text), (13, C_irw), (14, C_iad), (15, C_ipt), (18, C_ihas)]
theorem SpD_ok : SpecsOk Tryd.prog SpD := .cons cright_ok (.cons cnums_ok (.cons ctext_ok (.cons cirw_ok (.cons ciad_ok (.cons cipt_ok (.cons cihas_ok (.nil _)))))))
def put_v0 (ls : List D) (la : Int) (fm : Int) (to : Int) (s : ByteArray) : List D := bif right_v0 ls then bif nums_v0 la fm to then bif text_v0 s then iad_v0 ls true la fm to s else [] else [] else []
def put_v1 (ls : List D) (la : Int) (fm : Int) (to : Int) (s : ByteArray) : Int := bif right_v0 ls then bif nums_v0 la fm to then bif text_v0 s then iad_v1 ls else 0 else 0 else 0
def put_v2 (ls : List D) (la : Int) (fm : Int) (to : Int) (s : ByteArray) : Int := bif right_v0 ls then bif nums_v0 la fm to then bif text_v0 s then iad_v2 ls else 2 else 1 else 1
def put_pre (ls : List D) (la : Int) (fm : Int) (to : Int) (s : ByteArray) : Bool := iw_okL ls && (!right_v0 ls || (!nums_v0 la fm to || text_pre s && (!text_v0 s || iof_pre ls && (D.eqb (D.agg [D.bool true, D.int .i64 la, D.int .i64 fm, D.int .i64 to, D.str s]) (D.agg [D.bool true, D.int .i64 la, D.int .i64 fm, D.int .i64 to, D.str s]) && iad_pre ls true la fm to s))))
def C_put : FunT := fun args σ => match args, σ with
  | [AV.dat (D.slc (Sh.agg [Sh.one, Sh.one, Sh.one, Sh.one, Sh.one]) ls), AV.dat (D.agg [D.bool _, D.int IntKind.i64 la, D.int IntKind.i64 fm, D.int IntKind.i64 to, D.str s])], [] => .chk ((put_pre ls la fm to s)) (.leaf ([AV.dat (D.slc (s23) (put_v0 ls la fm to s)), AV.dat (D.int IntKind.i64 (put_v1 ls la fm to s)), AV.dat (D.int IntKind.i64 (put_v2 ls la fm to s))], []))
  | _, _ => .fail
theorem put_raw0 (ls : List D) (u : Bool) (la fm to : Int) (s : ByteArray) : runF (envOf tab SpD [] [] []) true Tryd.f5 [.dat (.slc s23 ls), .dat (.agg [.bool u, .int .i64 la, .int .i64 fm, .int .i64 to, .str s])] [] =
  (bif iw_okL ls then
   (bif !right_v0 ls then some ([.dat (.slc (s23) []), .dat (.int .i64 0), .dat (.int .i64 1)], []) else
    (bif !nums_v0 la fm to then some ([.dat (.slc (s23) []), .dat (.int .i64 0), .dat (.int .i64 1)], []) else
     (bif text_pre s then
      (bif !text_v0 s then some ([.dat (.slc (s23) []), .dat (.int .i64 0), .dat (.int .i64 2)], []) else
       (bif iof_pre ls then
        (bif D.eqb (D.agg [D.bool true, D.int .i64 la, D.int .i64 fm, D.int .i64 to, D.str s]) (D.agg [D.bool true, D.int .i64 la, D.int .i64 fm, D.int .i64 to, D.str s]) && true then
         (bif iad_pre ls true la fm to s then some ([.dat (.slc (s23) (iad_v0 ls true la fm to s)), .dat (.int .i64 (iad_v1 ls)), .dat (.int .i64 (iad_v2 ls))], []) else none) else none) else none)) else none))) else none) := by kernel_rfl
theorem put_case0 (ls : List D) (u : Bool) (la fm to : Int) (s : ByteArray) : runF (envOf tab SpD [] [] []) true Tryd.f5 [.dat (.slc s23 ls), .dat (.agg [.bool u, .int .i64 la, .int .i64 fm, .int .i64 to, .str s])] [] = FunT.run C_put [.dat (.slc s23 ls), .dat (.agg [.bool u, .int .i64 la, .int .i64 fm, .int .i64 to, .str s])] [] := (put_raw0 ls u la fm to s).trans (by
  show _ = (cond (iw_okL ls && (!right_v0 ls || (!nums_v0 la fm to || text_pre s && (!text_v0 s || iof_pre ls && (D.eqb (D.agg [D.bool true, D.int .i64 la, D.int .i64 fm, D.int .i64 to, D.str s]) (D.agg [D.bool true, D.int .i64 la, D.int .i64 fm, D.int .i64 to, D.str s]) && iad_pre ls true la fm to s))))) (some (([.dat (.slc (s23) (bif right_v0 ls then bif nums_v0 la fm to then bif text_v0 s then iad_v0 ls true la fm to s else [] else [] else [])), .dat (.int .i64 (bif right_v0 ls then bif nums_v0 la fm to then bif text_v0 s then iad_v1 ls else 0 else 0 else 0)), .dat (.int .i64 (bif right_v0 ls then bif nums_v0 la fm to then bif text_v0 s then iad_v2 ls else 2 else 1 else 1))], []) : Res)) none)
  generalize (D.eqb (D.agg [D.bool true, D.int .i64 la, D.int .i64 fm, D.int .i64 to, D.str s]) (D.agg [D.bool true, D.int .i64 la, D.int .i64 fm, D.int .i64 to, D.str s])) = z0
  generalize (iad_pre ls true la fm to s) = z1
  generalize (nums_v0 la fm to) = z2
  generalize (iw_okL ls) = z3
  generalize (text_pre s) = z4
  generalize (text_v0 s) = z5
  generalize (iof_pre ls) = z6
  generalize (right_v0 ls) = z7
  cases z3 with
  | true =>
   cases z7 with
   | true =>
    cases z2 with
    | true =>
     cases z4 with
     | true =>
      cases z5 with
      | true =>
       cases z6 with
       | true =>
        cases z0 with
        | true =>
         cases z1 with
         | true =>
          rfl
         | false =>
          rfl
        | false =>
         rfl
       | false =>
        rfl
      | false =>
       rfl
     | false =>
      rfl
    | false =>
     rfl
   | false =>
    rfl
  | false =>
   rfl
  )
theorem cput_ok : FunOk Tryd.prog 5 (FunT.run C_put) := by
  refine fun_ok (E := envOf tab SpD [] [] []) (fz := true) (fn := Tryd.f5) (envOf_ok progOk SpD_ok) (by kernel_rfl) (by kernel_rfl) (loops_none (by kernel_rfl)) ?_
  intro args σ r h
  unfold C_put at h
  split at h
  · exact (put_case0 _ _ _ _ _ _).trans h
  · simp [T.run_fail] at h
def gett_v0 (ls : List D) (i : Int) (w : Int) : Bool := ihas_v0 ls i && (!D.getI (nthD (D.getL (nthD ls (Int.toNat i))) 3) != w && D.getB (nthD (D.getL (nthD ls (Int.toNat i))) 0))
def gett_v1 (ls : List D) (i : Int) (w : Int) : Int := bif ihas_v0 ls i then bif D.getI (nthD (D.getL (nthD ls (Int.toNat i))) 3) != w then 0 else D.getI (nthD (D.getL (nthD ls (Int.toNat i))) 1) else 0
def gett_v2 (ls : List D) (i : Int) (w : Int) : Int := bif ihas_v0 ls i then bif D.getI (nthD (D.getL (nthD ls (Int.toNat i))) 3) != w then 0 else D.getI (nthD (D.getL (nthD ls (Int.toNat i))) 2) else 0
def gett_v3 (ls : List D) (i : Int) (w : Int) : Int := bif ihas_v0 ls i then bif D.getI (nthD (D.getL (nthD ls (Int.toNat i))) 3) != w then 0 else D.getI (nthD (D.getL (nthD ls (Int.toNat i))) 3) else 0
def gett_v4 (ls : List D) (i : Int) (w : Int) : ByteArray := bif ihas_v0 ls i then bif D.getI (nthD (D.getL (nthD ls (Int.toNat i))) 3) != w then { data := { toList := [] } } else D.getS (nthD (D.getL (nthD ls (Int.toNat i))) 4) else { data := { toList := [] } }
def gett_v5 (ls : List D) (i : Int) (w : Int) : Int := bif ihas_v0 ls i then bif D.getI (nthD (D.getL (nthD ls (Int.toNat i))) 3) != w then 3 else 0 else 3
def gett_pre (ls : List D) (i : Int) : Bool := iof_pre ls && (ihas_pre ls i && (!ihas_v0 ls i || decide (0 ≤ i) && (decide (Int.toNat i < List.length ls) && okE (k23) (nthD ls (Int.toNat i)))))
def C_gett : FunT := fun args σ => match args, σ with
  | [AV.dat (D.slc (Sh.agg [Sh.one, Sh.one, Sh.one, Sh.one, Sh.one]) ls), AV.dat (D.int IntKind.i64 i), AV.dat (D.int IntKind.i64 w)], [] => .chk ((gett_pre ls i)) (.leaf ([AV.dat (D.agg [D.bool (gett_v0 ls i w), D.int IntKind.i64 (gett_v1 ls i w), D.int IntKind.i64 (gett_v2 ls i w), D.int IntKind.i64 (gett_v3 ls i w), D.str (gett_v4 ls i w)]), AV.dat (D.int IntKind.i64 (gett_v5 ls i w))], []))
  | _, _ => .fail
theorem gett_raw0 (ls : List D) (i w : Int) : runF (envOf tab SpD [] [] []) true Tryd.f9 [.dat (.slc s23 ls), .dat (.int .i64 i), .dat (.int .i64 w)] [] =
  (bif iof_pre ls then
   (bif ihas_pre ls i then
    (bif !ihas_v0 ls i then some ([.dat (.agg [D.bool false, D.int .i64 0, D.int .i64 0, D.int .i64 0, D.str { data := { toList := [] } }]), .dat (.int .i64 3)], []) else
     (bif decide (0 ≤ i) then
      (bif decide (Int.toNat i < List.length ls) then
       (bif okE (k23) (nthD ls (Int.toNat i)) then
        (bif D.getI (nthD (D.getL (nthD ls (Int.toNat i))) 3) != w then some ([.dat (.agg [D.bool false, D.int .i64 0, D.int .i64 0, D.int .i64 0, D.str { data := { toList := [] } }]), .dat (.int .i64 3)], []) else
         (bif decide (0 ≤ i) then
          (bif decide (Int.toNat i < List.length ls) then
           (bif okE (k23) (nthD ls (Int.toNat i)) then some ([.dat (.agg [D.bool (D.getB (nthD (D.getL (nthD ls (Int.toNat i))) 0)), D.int .i64 (D.getI (nthD (D.getL (nthD ls (Int.toNat i))) 1)), D.int .i64 (D.getI (nthD (D.getL (nthD ls (Int.toNat i))) 2)), D.int .i64 (D.getI (nthD (D.getL (nthD ls (Int.toNat i))) 3)), D.str (D.getS (nthD (D.getL (nthD ls (Int.toNat i))) 4))]), .dat (.int .i64 0)], []) else none) else none) else none)) else none) else none) else none)) else none) else none) := by kernel_rfl
theorem gett_case0 (ls : List D) (i w : Int) : runF (envOf tab SpD [] [] []) true Tryd.f9 [.dat (.slc s23 ls), .dat (.int .i64 i), .dat (.int .i64 w)] [] = FunT.run C_gett [.dat (.slc s23 ls), .dat (.int .i64 i), .dat (.int .i64 w)] [] := (gett_raw0 ls i w).trans (by
  show _ = (cond (iof_pre ls && (ihas_pre ls i && (!ihas_v0 ls i || decide (0 ≤ i) && (decide (Int.toNat i < List.length ls) && okE (k23) (nthD ls (Int.toNat i)))))) (some (([.dat (.agg [D.bool (ihas_v0 ls i && (!D.getI (nthD (D.getL (nthD ls (Int.toNat i))) 3) != w && D.getB (nthD (D.getL (nthD ls (Int.toNat i))) 0))), D.int .i64 (bif ihas_v0 ls i then bif D.getI (nthD (D.getL (nthD ls (Int.toNat i))) 3) != w then 0 else D.getI (nthD (D.getL (nthD ls (Int.toNat i))) 1) else 0), D.int .i64 (bif ihas_v0 ls i then bif D.getI (nthD (D.getL (nthD ls (Int.toNat i))) 3) != w then 0 else D.getI (nthD (D.getL (nthD ls (Int.toNat i))) 2) else 0), D.int .i64 (bif ihas_v0 ls i then bif D.getI (nthD (D.getL (nthD ls (Int.toNat i))) 3) != w then 0 else D.getI (nthD (D.getL (nthD ls (Int.toNat i))) 3) else 0), D.str (bif ihas_v0 ls i then bif D.getI (nthD (D.getL (nthD ls (Int.toNat i))) 3) != w then { data := { toList := [] } } else D.getS (nthD (D.getL (nthD ls (Int.toNat i))) 4) else { data := { toList := [] } })]), .dat (.int .i64 (bif ihas_v0 ls i then bif D.getI (nthD (D.getL (nthD ls (Int.toNat i))) 3) != w then 3 else 0 else 3))], []) : Res)) none)
  generalize (okE (k23) (nthD ls (Int.toNat i))) = z0
  generalize (D.getI (nthD (D.getL (nthD ls (Int.toNat i))) 3) != w) = z1
  generalize (decide (0 ≤ i)) = z2
  generalize (decide (Int.toNat i < List.length ls)) = z3
  generalize (ihas_v0 ls i) = z4
  generalize (ihas_pre ls i) = z5
  generalize (iof_pre ls) = z6
  cases z6 with
  | true =>
   cases z5 with
   | true =>
    cases z4 with
    | true =>
     cases z2 with
     | true =>
      cases z3 with
      | true =>
       cases z0 with
       | true =>
        cases z1 with
        | true =>
         rfl
        | false =>
         rfl
       | false =>
        rfl
      | false =>
       rfl
     | false =>
      rfl
    | false =>
     rfl
   | false =>
    rfl
  | false =>
   rfl
  )
theorem cgett_ok : FunOk Tryd.prog 9 (FunT.run C_gett) := by
  refine fun_ok (E := envOf tab SpD [] [] []) (fz := true) (fn := Tryd.f9) (envOf_ok progOk SpD_ok) (by kernel_rfl) (by kernel_rfl) (loops_none (by kernel_rfl)) ?_
  intro args σ r h
  unfold C_gett at h
  split at h
  · exact (gett_case0 _ _ _).trans h
  · simp [T.run_fail] at h
def toss_v0 (ls : List D) (i : Int) (w : Int) : List D := bif right_v0 ls then bif gett_v5 ls i w != 0 then [] else ipt_v0 ls i false 0 0 0 { data := { toList := [] } } else []
def toss_v1 (ls : List D) (i : Int) (w : Int) : Int := bif right_v0 ls then bif gett_v5 ls i w != 0 then gett_v5 ls i w else ipt_v1 ls i else 1
def toss_pre (ls : List D) (i : Int) (w : Int) : Bool := iw_okL ls && (!right_v0 ls || gett_pre ls i && (gett_v5 ls i w != 0 || iof_pre ls && ipt_pre ls i false 0 0 0 { data := { toList := [] } }))
def C_toss : FunT := fun args σ => match args, σ with
  | [AV.dat (D.slc (Sh.agg [Sh.one, Sh.one, Sh.one, Sh.one, Sh.one]) ls), AV.dat (D.int IntKind.i64 i), AV.dat (D.int IntKind.i64 w)], [] => .chk ((toss_pre ls i w)) (.leaf ([AV.dat (D.slc (s23) (toss_v0 ls i w)), AV.dat (D.int IntKind.i64 (toss_v1 ls i w))], []))
  | _, _ => .fail
theorem toss_raw0 (ls : List D) (i w : Int) : runF (envOf tab ((9, C_gett) :: SpD) [] [] []) true Tryd.f7 [.dat (.slc s23 ls), .dat (.int .i64 i), .dat (.int .i64 w)] [] =
  (bif iw_okL ls then
   (bif !right_v0 ls then some ([.dat (.slc (s23) []), .dat (.int .i64 1)], []) else
    (bif gett_pre ls i then
     (bif gett_v5 ls i w != 0 then some ([.dat (.slc (s23) []), .dat (.int .i64 (gett_v5 ls i w))], []) else
      (bif iof_pre ls then
       (bif ipt_pre ls i false 0 0 0 { data := { toList := [] } } then some ([.dat (.slc (s23) (ipt_v0 ls i false 0 0 0 { data := { toList := [] } })), .dat (.int .i64 (ipt_v1 ls i))], []) else none) else none)) else none)) else none) := by kernel_rfl
theorem toss_case0 (ls : List D) (i w : Int) : runF (envOf tab ((9, C_gett) :: SpD) [] [] []) true Tryd.f7 [.dat (.slc s23 ls), .dat (.int .i64 i), .dat (.int .i64 w)] [] = FunT.run C_toss [.dat (.slc s23 ls), .dat (.int .i64 i), .dat (.int .i64 w)] [] := (toss_raw0 ls i w).trans (by
  show _ = (cond (iw_okL ls && (!right_v0 ls || gett_pre ls i && (gett_v5 ls i w != 0 || iof_pre ls && ipt_pre ls i false 0 0 0 { data := { toList := [] } }))) (some (([.dat (.slc (s23) (bif right_v0 ls then bif gett_v5 ls i w != 0 then [] else ipt_v0 ls i false 0 0 0 { data := { toList := [] } } else [])), .dat (.int .i64 (bif right_v0 ls then bif gett_v5 ls i w != 0 then gett_v5 ls i w else ipt_v1 ls i else 1))], []) : Res)) none)
  generalize (ipt_pre ls i false 0 0 0 { data := { toList := [] } }) = z0
  generalize (gett_v5 ls i w != 0) = z1
  generalize (gett_pre ls i) = z2
  generalize (iw_okL ls) = z3
  generalize (right_v0 ls) = z4
  generalize (iof_pre ls) = z5
  cases z3 with
  | true =>
   cases z4 with
   | true =>
    cases z2 with
    | true =>
     cases z1 with
     | true =>
      rfl
     | false =>
      cases z5 with
      | true =>
       cases z0 with
       | true =>
        rfl
       | false =>
        rfl
      | false =>
       rfl
    | false =>
     rfl
   | false =>
    rfl
  | false =>
   rfl
  )
theorem ctoss_ok : FunOk Tryd.prog 7 (FunT.run C_toss) := by
  refine fun_ok (E := envOf tab ((9, C_gett) :: SpD) [] [] []) (fz := true) (fn := Tryd.f7) (envOf_ok progOk (.cons cgett_ok SpD_ok)) (by kernel_rfl) (by kernel_rfl) (loops_none (by kernel_rfl)) ?_
  intro args σ r h
  unfold C_toss at h
  split at h
  · exact (toss_case0 _ _ _).trans h
  · simp [T.run_fail] at h
end Go.Proofs.YtggellmbhgkckaaDoor
