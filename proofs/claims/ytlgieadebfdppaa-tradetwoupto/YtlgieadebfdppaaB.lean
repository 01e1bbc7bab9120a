/- Seat 18: what is there, what is held. -/
import Derived.Test.YtlgieadebfdppaaA
namespace Go.Proofs.Ytlgieadebfdppaa
open Go.AX
set_option maxRecDepth 100000

abbrev Sp14 : Specs := [(27, C_imd), (24, C_ihas)]
theorem Sp14_ok : SpecsOk Try.prog Sp14 := .cons cimd_ok (.cons cihas_ok (.nil _))
abbrev okT (ds : List D) : Bool := ds.all (okE k27) && decide (ds.length ≤ 1099511627776)
theorem okT_spec {ds : List D} (h : okT ds = true) : ds.all (okE k27) = true ∧ ds.length ≤ 1099511627776 := by
  simpa only [okT, Bool.and_eq_true, decide_eq_true_eq] using h
theorem has_is {ds : List D} {i : Nat} (_hi : i < ds.length) : ihas_v0 ds (i : Int) = fU (nthD ds i) := by
  unfold ihas_v0
  rw [decide_eq_true (show 0 ≤ (i : Int) by omega), decide_eq_true (show (i : Int) < (ds.length : Int) by omega), Int.toNat_natCast]; rfl
theorem has_pre {ds : List D} (h : ds.all (okE k27) = true) (i : Int) : ihas_pre ds i = true := by
  unfold ihas_pre
  by_cases h0 : 0 ≤ i
  · by_cases h1 : i < (ds.length : Int)
    · obtain ⟨j, rfl⟩ : ∃ j : Nat, i = (j : Int) := ⟨i.toNat, by omega⟩
      have hj : j < ds.length := by omega
      rw [Int.toNat_natCast, decide_eq_true hj, allE_nth h hj]; simp
    · rw [decide_eq_false h1]; simp
  · rw [decide_eq_false h0]; simp
/-- The places of those that are there. -/
def usTo (ds : List D) : List D := colTo (fun i => fU (nthD ds i)) ds.length
def sl_fr (_ds : List D) (n : Int) : (Int × Nat × Nat × List D) → Frame' := fun ⟨i, m, k, _⟩ => mkF 25 [(0, .ptr (.agg [.one, .one]) 0 0 []), (3, .sref .one 1 m [] 0 k), (12, .dat (.int .i64 n)), (13, .dat (.int .i64 i))]
def sl_st (ds : List D) (_n : Int) : (Int × Nat × Nat × List D) → Store := fun ⟨_, _, _, out⟩ => [irow ds, mkDyn .one out]
def sl_step (ds : List D) (n : Int) : (Int × Nat × Nat × List D) → T ((Int × Nat × Nat × List D) ⊕ LOut) := fun ⟨i, m, k, out⟩ => 
  .chk (!decide (i < n) || ihas_pre ds i && (!ihas_v0 ds i || Nat.beq (List.length out) m && true && true && true && true && Nat.beq k m && true && true && decide ((m + 1) * 8 ≤ 35184372088832))) (
   .br (!decide (i < n)) (.leaf (.inr ((some 0), mkF 25 [(3, AV.sref Sh.one 1 m [] 0 k)], [{ sh := Sh.agg [Sh.one, Sh.one], dyn := false, frz := false, v := .dat (.agg [D.slc (s27) ds, D.fn (Fn.func 26) [] []]) }, { sh := Sh.arr Sh.one 0, dyn := true, frz := false, v := .dat (.arr Sh.one out) }]))) (.leaf (.inl ((IntKind.wrap IntKind.i64 (i + 1)), (bif ihas_v0 ds i then m + 1 else m), (bif ihas_v0 ds i then m + 1 else k), (bif ihas_v0 ds i then out ++ [D.int .i64 i] else out)))))
theorem sl_round (lp : Loops) (ds : List D) (n : Int) (i : Int) (m k : Nat) (out : List D) (K : Kt) : oneRound (envOf tab Sp14 [] lp [(4, 0, [.own 3])]) Try.f14 0 (2) (mkF 25 [(0, .ptr (.agg [.one, .one]) 0 0 []), (3, .sref .one 1 m [] 0 k), (12, .dat (.int .i64 n)), (13, .dat (.int .i64 i))]) ([irow ds, mkDyn .one out]) K =
  (bif decide (i < n) then 
   (bif ihas_pre ds i then 
    (bif ihas_v0 ds i then 
     (bif Nat.beq (List.length out) m && true && true && true && true && Nat.beq k m && true && true && decide ((m + 1) * 8 ≤ 35184372088832) then K (Exit.normal) (mkF 25 [(0, AV.ptr (Sh.agg [Sh.one, Sh.one]) 0 0 []), (3, AV.sref Sh.one 1 (m + 1) [] 0 (m + 1)), (12, .dat (.int .i64 n)), (13, .dat (.int .i64 (IntKind.wrap IntKind.i64 (i + 1)))), (14, .dat (.bool (decide (i < n)))), (23, .dat (.int .i64 (IntKind.wrap IntKind.i64 (i + 1))))]) ([{ sh := Sh.agg [Sh.one, Sh.one], dyn := false, frz := false, v := .dat (.agg [D.slc (s27) ds, D.fn (Fn.func 26) [] []]) }, { sh := Sh.arr Sh.one 0, dyn := true, frz := false, v := .dat (.arr Sh.one (out ++ [D.int .i64 i])) }, { sh := Sh.arr Sh.one 0, dyn := true, frz := false, v := .dat (.arr Sh.one [D.int .i64 i]) }]) else none) else K (Exit.normal) (mkF 25 [(0, AV.ptr (Sh.agg [Sh.one, Sh.one]) 0 0 []), (3, AV.sref Sh.one 1 m [] 0 k), (12, .dat (.int .i64 n)), (13, .dat (.int .i64 (IntKind.wrap IntKind.i64 (i + 1)))), (14, .dat (.bool (decide (i < n)))), (23, .dat (.int .i64 (IntKind.wrap IntKind.i64 (i + 1))))]) ([{ sh := Sh.agg [Sh.one, Sh.one], dyn := false, frz := false, v := .dat (.agg [D.slc (s27) ds, D.fn (Fn.func 26) [] []]) }, { sh := Sh.arr Sh.one 0, dyn := true, frz := false, v := .dat (.arr Sh.one out) }])) else none) else K (Exit.exit 0) (mkF 25 [(3, AV.sref Sh.one 1 m [] 0 k)]) ([{ sh := Sh.agg [Sh.one, Sh.one], dyn := false, frz := false, v := .dat (.agg [D.slc (s27) ds, D.fn (Fn.func 26) [] []]) }, { sh := Sh.arr Sh.one 0, dyn := true, frz := false, v := .dat (.arr Sh.one out) }])) := by kernel_rfl
theorem sl_hr (lp : Loops) (ds : List D) (n : Int) : ∀ (sA : (Int × Nat × Nat × List D)) (K : Kt) (N : (Int × Nat × Nat × List D) → Option Res), (∀ sB fr' σ', cleanF (liveAt Try.f14 0) 0 fr' = sl_fr ds n sB → trim (2) (sl_fr ds n sB) σ' = sl_st ds n sB → K .normal fr' σ' = N sB) →
    oneRound (envOf tab Sp14 [] lp [(4, 0, [.own 3])]) Try.f14 0 (2) (sl_fr ds n sA) (sl_st ds n sA) K = (sl_step ds n sA).k (LK K N) := by
  intro sA K N hN
  obtain ⟨i, m, k, out⟩ := sA
  refine (sl_round lp ds n i m k out K).trans ?_
  show _ = T.k ((
  .chk (!decide (i < n) || ihas_pre ds i && (!ihas_v0 ds i || Nat.beq (List.length out) m && true && true && true && true && Nat.beq k m && true && true && decide ((m + 1) * 8 ≤ 35184372088832))) (
   .br (!decide (i < n)) (.leaf (.inr ((some 0), mkF 25 [(3, AV.sref Sh.one 1 m [] 0 k)], [{ sh := Sh.agg [Sh.one, Sh.one], dyn := false, frz := false, v := .dat (.agg [D.slc (s27) ds, D.fn (Fn.func 26) [] []]) }, { sh := Sh.arr Sh.one 0, dyn := true, frz := false, v := .dat (.arr Sh.one out) }]))) (.leaf (.inl ((IntKind.wrap IntKind.i64 (i + 1)), (bif ihas_v0 ds i then m + 1 else m), (bif ihas_v0 ds i then m + 1 else k), (bif ihas_v0 ds i then out ++ [D.int .i64 i] else out)))))) : T ((Int × Nat × Nat × List D) ⊕ LOut)) (LK K N)
  generalize (Nat.beq (List.length out) m && true && true && true && true && Nat.beq k m && true && true && decide ((m + 1) * 8 ≤ 35184372088832)) = z0
  generalize (decide (i < n)) = z1
  generalize (ihas_pre ds i) = z2
  generalize (ihas_v0 ds i) = z3
  cases z1 with
  | true =>
   cases z2 with
   | true =>
    cases z3 with
    | true =>
     cases z0 with
     | true =>
      exact hN _ _ _ (by kernel_rfl) (by kernel_rfl)
     | false =>
      rfl
    | false =>
     exact hN _ _ _ (by kernel_rfl) (by kernel_rfl)
   | false =>
    rfl
  | false =>
   rfl
theorem sl_enter (ds : List D) (n : Int) (i : Int) (m k : Nat) (out : List D) (fr : Frame') (hl : Nat.beq fr.length 25 = true) (g0 : fr.getD 0 .undef = AV.ptr (Sh.agg [Sh.one, Sh.one]) 0 0 []) (g3 : fr.getD 3 .undef = AV.sref Sh.one 1 m [] 0 k) (g12 : fr.getD 12 .undef = .dat (.int .i64 n)) (g13 : fr.getD 13 .undef = .dat (.int .i64 i)) : cleanF (liveAt Try.f14 0) 0 fr = sl_fr ds n (i, m, k, out) := by
  have e : liveAt Try.f14 0 = [12, 0, 13, 3] := by kernel_rfl
  rw [clean_mk (Nat.eq_of_beq_eq_true hl), e]
  show mkF 25 [(12, fr.getD 12 .undef), (0, fr.getD 0 .undef), (13, fr.getD 13 .undef), (3, fr.getD 3 .undef)] = _
  rw [g12, g0, g13, g3]
  kernel_rfl

theorem sl_closed (ds : List D) (n : Int) (hc : (decide (n = (ds.length : Int)) && okT ds) = true) :
    ∃ z, (iterT (sl_step ds n) z (0, 0, 0, [])).run = T.run (.leaf (some 0, mkF 25 [(3, .sref .one 1 (usTo ds).length [] 0 (usTo ds).length)], [irow ds, mkDyn .one (usTo ds)])) := by
  rw [Bool.and_eq_true, decide_eq_true_eq] at hc
  obtain ⟨rfl, hx⟩ := hc
  obtain ⟨h1, h2⟩ := okT_spec hx
  refine iter_collect (fun i => fU (nthD ds i)) (o := fun out => (some 0, mkF 25 [(3, .sref .one 1 out.length [] 0 out.length)], [irow ds, mkDyn .one out])) (fun i hi out ho => ?_) (fun out => ?_)
  · unfold sl_step
    simp only [decide_eq_true (show (i : Int) < (ds.length : Int) by omega), has_is hi, has_pre h1, beq_self, decide_eq_true (show (out.length + 1) * 8 ≤ 35184372088832 by omega), wrap_succ (show i < 2 ^ 62 by omega), Bool.not_true, Bool.or_true, Bool.and_true, T.run_br, T.run_chk, T.run_leaf, cond_true, cond_false]
  · unfold sl_step
    simp only [decide_eq_false (show ¬ (ds.length : Int) < (ds.length : Int) by omega)]
    rfl
def L_sl : Frame' → Store → T (Exit × Frame' × Store) := fun fr σ => match fr.getD 0 .undef, fr.getD 3 .undef, fr.getD 12 .undef, fr.getD 13 .undef, σ with
  | AV.ptr (Sh.agg [Sh.one, Sh.one]) 0 0 [], AV.sref Sh.one 1 0 [] 0 0, AV.dat (D.int IntKind.i64 n), AV.dat (D.int IntKind.i64 0), [{ sh := Sh.agg [Sh.one, Sh.one], dyn := false, frz := false, v := AV.dat (D.agg [D.slc (Sh.agg [Sh.one, Sh.one, Sh.one, Sh.agg [Sh.one, Sh.one, Sh.one], Sh.agg [Sh.one, Sh.one, Sh.one]]) ds, D.fn (Fn.func 26) [] []]) }, { sh := Sh.arr Sh.one 0, dyn := true, frz := false, v := AV.dat (D.arr Sh.one []) }] => .chk (Nat.beq fr.length 25 && (decide (n = (ds.length : Int)) && okT ds)) (T.bind (.leaf (some 0, mkF 25 [(3, .sref .one 1 (usTo ds).length [] 0 (usTo ds).length)], [irow ds, mkDyn .one (usTo ds)])) fun o => .leaf (outEx o.1, o.2.1, o.2.2))
  | _, _, _, _, _ => .fail
theorem sl_sem (lp : Loops) : ∀ fr σ p, (L_sl fr σ).run = some p → ∀ (K : Kt) r, K p.1 p.2.1 p.2.2 = some r → ∃ n, loopRun (envOf tab Sp14 [] lp [(4, 0, [.own 3])]) Try.f14 0 σ.length n (cleanF (liveAt Try.f14 0) 0 fr) σ K = some r := by
  intro fr σ p h K r hK
  unfold L_sl at h
  split at h
  · rename_i n ds g0 g3 g12 g13
    obtain ⟨hc, h'⟩ := T.chk_some h
    rw [Bool.and_eq_true] at hc
    obtain ⟨hl, hc⟩ := hc
    obtain ⟨o, ho, h'⟩ := T.bind_some h'
    have hp := T.leaf_some h'
    subst hp
    obtain ⟨nF, hn⟩ : ∃ nF, (iterT (sl_step ds n) nF ((0, 0, 0, []))).run = T.run (.leaf (some 0, mkF 25 [(3, .sref .one 1 (usTo ds).length [] 0 (usTo ds).length)], [irow ds, mkDyn .one (usTo ds)])) := sl_closed ds n hc
    rw [ho] at hn
    refine ⟨nF, ?_⟩
    have he : cleanF (liveAt Try.f14 0) 0 fr = sl_fr ds n ((0, 0, 0, [])) := sl_enter ds n _ _ _ _ fr hl g0 g3 g12 g13
    refine (iter_ok (base := 2) (sl_hr lp ds n) K nF ((0, 0, 0, [])) _ _ (by rw [clean_clean]; exact he) (by kernel_rfl)).trans ?_
    rw [T.k_run hn]
    exact hK
  · simp [T.run_fail] at h
theorem sl_loopOk (lp : Loops) (hk : Loops.get lp 5 = some L_sl) : LoopOk (envOf tab Sp14 [] lp [(4, 0, [.own 3])]) (loopAt Try.f14 0).1 (loopAt Try.f14 0).2 := loop_ok (L := L_sl) hk (sl_sem lp)

def slots_pre (ds : List D) : Bool := decide ((↑(List.length ds) : Int) = (↑(List.length ds) : Int)) && okT ds && Nat.beq (List.length (usTo ds)) (List.length (usTo ds))
def C_slots : FunT := fun args σ => match args, σ with
  | [AV.ptr (Sh.agg [Sh.one, Sh.one]) 0 0 []], [{ sh := Sh.agg [Sh.one, Sh.one], dyn := false, frz := false, v := AV.dat (D.agg [D.slc (Sh.agg [Sh.one, Sh.one, Sh.one, Sh.agg [Sh.one, Sh.one, Sh.one], Sh.agg [Sh.one, Sh.one, Sh.one]]) ds, D.fn (Fn.func 26) [] []]) }] => .chk ((slots_pre ds)) (.leaf ([AV.dat (D.slc Sh.one (seg (usTo ds) 0 (List.length (usTo ds))))], [{ sh := Sh.agg [Sh.one, Sh.one], dyn := false, frz := false, v := AV.dat (D.agg [D.slc (s27) ds, D.fn (Fn.func 26) [] []]) }]))
  | _, _ => .fail
theorem slots_raw0 (ds : List D) : runF (envOf tab Sp14 [] [(5, L_sl)] [(4, 0, [.own 3])]) true Try.f14 [.ptr (.agg [.one, .one]) 0 0 []] [irow ds] =
  (bif decide ((↑(List.length ds) : Int) = (↑(List.length ds) : Int)) && okT ds then 
   (bif Nat.beq (List.length (usTo ds)) (List.length (usTo ds)) then some ([.dat (.slc Sh.one (seg (usTo ds) 0 (List.length (usTo ds))))], [{ sh := Sh.agg [Sh.one, Sh.one], dyn := false, frz := false, v := .dat (.agg [D.slc (s27) ds, D.fn (Fn.func 26) [] []]) }]) else none) else none) := by kernel_rfl
theorem slots_case0 (ds : List D) : runF (envOf tab Sp14 [] [(5, L_sl)] [(4, 0, [.own 3])]) true Try.f14 [.ptr (.agg [.one, .one]) 0 0 []] [irow ds] = FunT.run C_slots [.ptr (.agg [.one, .one]) 0 0 []] [irow ds] := (slots_raw0 ds).trans (by
  show _ = (cond (decide ((↑(List.length ds) : Int) = (↑(List.length ds) : Int)) && okT ds && Nat.beq (List.length (usTo ds)) (List.length (usTo ds))) (some (([.dat (.slc Sh.one (seg (usTo ds) 0 (List.length (usTo ds))))], [{ sh := Sh.agg [Sh.one, Sh.one], dyn := false, frz := false, v := .dat (.agg [D.slc (s27) ds, D.fn (Fn.func 26) [] []]) }]) : Res)) none)
  generalize (decide ((↑(List.length ds) : Int) = (↑(List.length ds) : Int)) && okT ds) = z0
  generalize (Nat.beq (List.length (usTo ds)) (List.length (usTo ds))) = z1
  cases z0 with
  | true =>
   cases z1 with
   | true =>
    rfl
   | false =>
    rfl
  | false =>
   rfl
  )
theorem cslots_ok : FunOk Try.prog 14 (FunT.run C_slots) := by
  refine fun_ok (E := envOf tab Sp14 [] [(5, L_sl)] [(4, 0, [.own 3])]) (fz := true) (fn := Try.f14) (envOf_ok progOk Sp14_ok) (by kernel_rfl) (by kernel_rfl) (loops_one (by kernel_rfl) (sl_loopOk _ rfl)) ?_
  intro args σ r h
  unfold C_slots at h
  split at h
  · exact (slots_case0 _).trans h
  · simp [T.run_fail] at h


theorem iter_nextR {α : Type} {step : α → T (α ⊕ LOut)} {a a' : α} {n : Nat} {r : Option LOut} (h : (step a).run = some (.inl a')) (h2 : (iterT step n a').run = r) : (iterT step (n + 1) a).run = r := by
  show ((step a).bind _).run = _
  rw [T.run_bind, h]; exact h2
/-- A sum, till it is too great: what it is, and what is wrong. -/
def sumV : Int → List D → Int
  | s, [] => s
  | s, d :: l => bif plus_v1 s (D.getI d) != 0 then 0 else sumV (plus_v0 s (D.getI d)) l
def sumE : Int → List D → Int
  | _, [] => 0
  | s, d :: l => bif plus_v1 s (D.getI d) != 0 then plus_v1 s (D.getI d) else sumE (plus_v0 s (D.getI d)) l
abbrev okU (ls : List D) : Bool := ls.all (okE (.int .u64)) && decide (ls.length ≤ 1099511627776)
def su_fr (ls : List D) (n : Int) : (Int × Int) → Frame' := fun ⟨i, s⟩ => mkF 27 [(4, .dat (.int .u64 s)), (9, .dat (.slc .one ls)), (10, .dat (.int .i64 n)), (11, .dat (.int .i64 i))]
def su_st (_ls : List D) (_n : Int) : (Int × Int) → Store := fun ⟨_, _⟩ => []
def su_step (ls : List D) (n : Int) : (Int × Int) → T ((Int × Int) ⊕ LOut) := fun ⟨i, s⟩ => 
  .chk (!decide (i < n) || decide (0 ≤ i) && (decide (Int.toNat i < List.length ls) && okE (Ek.int IntKind.u64) (nthD ls (Int.toNat i)))) (
   .br (!decide (i < n)) (.leaf (.inr ((some 0), mkF 27 [(4, .dat (.int IntKind.u64 s))], []))) (
    .br (decide (i < n) && plus_v1 s (D.getI (nthD ls (Int.toNat i))) != 0) (.leaf (.inr (none, mkF 27 [(2, .dat (.int IntKind.u64 0)), (3, .dat (.int .i64 (plus_v1 s (D.getI (nthD ls (Int.toNat i))))))], []))) (.leaf (.inl ((IntKind.wrap IntKind.i64 (i + 1)), (plus_v0 s (D.getI (nthD ls (Int.toNat i)))))))))
theorem su_round (lp : Loops) (ls : List D) (n : Int) (i s : Int) (K : Kt) : oneRound (envOf tab [(28, C_plus)] [] lp []) Try.f15 0 (0) (mkF 27 [(4, .dat (.int .u64 s)), (9, .dat (.slc .one ls)), (10, .dat (.int .i64 n)), (11, .dat (.int .i64 i))]) ([]) K =
  (bif decide (i < n) then 
   (bif decide (0 ≤ i) then 
    (bif decide (Int.toNat i < List.length ls) then 
     (bif okE (Ek.int IntKind.u64) (nthD ls (Int.toNat i)) then 
      (bif plus_v1 s (D.getI (nthD ls (Int.toNat i))) != 0 then K (Exit.ret) (mkF 27 [(2, .dat (.int IntKind.u64 0)), (3, .dat (.int .i64 (plus_v1 s (D.getI (nthD ls (Int.toNat i))))))]) ([]) else K (Exit.normal) (mkF 27 [(4, .dat (.int IntKind.u64 (plus_v0 s (D.getI (nthD ls (Int.toNat i)))))), (9, .dat (.slc Sh.one ls)), (10, .dat (.int .i64 n)), (11, .dat (.int .i64 (IntKind.wrap IntKind.i64 (i + 1)))), (12, .dat (.bool (decide (i < n)))), (25, .dat (.int .i64 (IntKind.wrap IntKind.i64 (i + 1))))]) ([])) else none) else none) else none) else K (Exit.exit 0) (mkF 27 [(4, .dat (.int IntKind.u64 s))]) ([])) := by kernel_rfl
theorem su_hr (lp : Loops) (ls : List D) (n : Int) : ∀ (sA : (Int × Int)) (K : Kt) (N : (Int × Int) → Option Res), (∀ sB fr' σ', cleanF (liveAt Try.f15 0) 0 fr' = su_fr ls n sB → trim (0) (su_fr ls n sB) σ' = su_st ls n sB → K .normal fr' σ' = N sB) →
    oneRound (envOf tab [(28, C_plus)] [] lp []) Try.f15 0 (0) (su_fr ls n sA) (su_st ls n sA) K = (su_step ls n sA).k (LK K N) := by
  intro sA K N hN
  obtain ⟨i, s⟩ := sA
  refine (su_round lp ls n i s K).trans ?_
  show _ = T.k ((
  .chk (!decide (i < n) || decide (0 ≤ i) && (decide (Int.toNat i < List.length ls) && okE (Ek.int IntKind.u64) (nthD ls (Int.toNat i)))) (
   .br (!decide (i < n)) (.leaf (.inr ((some 0), mkF 27 [(4, .dat (.int IntKind.u64 s))], []))) (
    .br (decide (i < n) && plus_v1 s (D.getI (nthD ls (Int.toNat i))) != 0) (.leaf (.inr (none, mkF 27 [(2, .dat (.int IntKind.u64 0)), (3, .dat (.int .i64 (plus_v1 s (D.getI (nthD ls (Int.toNat i))))))], []))) (.leaf (.inl ((IntKind.wrap IntKind.i64 (i + 1)), (plus_v0 s (D.getI (nthD ls (Int.toNat i)))))))))) : T ((Int × Int) ⊕ LOut)) (LK K N)
  generalize (decide (0 ≤ i)) = z0
  generalize (plus_v1 s (D.getI (nthD ls (Int.toNat i))) != 0) = z1
  generalize (decide (Int.toNat i < List.length ls)) = z2
  generalize (decide (i < n)) = z3
  generalize (okE (Ek.int IntKind.u64) (nthD ls (Int.toNat i))) = z4
  cases z3 with
  | true =>
   cases z0 with
   | true =>
    cases z2 with
    | true =>
     cases z4 with
     | true =>
      cases z1 with
      | true =>
       rfl
      | false =>
       exact hN _ _ _ (by kernel_rfl) (by kernel_rfl)
     | false =>
      rfl
    | false =>
     rfl
   | false =>
    rfl
  | false =>
   rfl
theorem su_enter (ls : List D) (n : Int) (i s : Int) (fr : Frame') (hl : Nat.beq fr.length 27 = true) (g4 : fr.getD 4 .undef = .dat (.int IntKind.u64 s)) (g9 : fr.getD 9 .undef = .dat (.slc Sh.one ls)) (g10 : fr.getD 10 .undef = .dat (.int .i64 n)) (g11 : fr.getD 11 .undef = .dat (.int .i64 i)) : cleanF (liveAt Try.f15 0) 0 fr = su_fr ls n (i, s) := by
  have e : liveAt Try.f15 0 = [10, 9, 11, 4] := by kernel_rfl
  rw [clean_mk (Nat.eq_of_beq_eq_true hl), e]
  show mkF 27 [(10, fr.getD 10 .undef), (9, fr.getD 9 .undef), (11, fr.getD 11 .undef), (4, fr.getD 4 .undef)] = _
  rw [g10, g9, g11, g4]
  kernel_rfl

theorem su_closed (ls : List D) (n : Int) (hc : (decide (n = (ls.length : Int)) && okU ls) = true) :
    ∃ z, (iterT (su_step ls n) z (0, 0)).run = T.run (.br (sumE 0 ls != 0) (.leaf (none, mkF 27 [(2, .dat (.int .u64 0)), (3, .dat (.int .i64 (sumE 0 ls)))], [])) (.leaf (some 0, mkF 27 [(4, .dat (.int .u64 (sumV 0 ls)))], []))) := by
  simp only [Bool.and_eq_true, decide_eq_true_eq] at hc
  obtain ⟨rfl, h1, h2⟩ := hc
  have key : ∀ (k i : Nat) (s : Int), i + k = ls.length → (iterT (su_step ls ls.length) (k + 1) ((i : Int), s)).run = T.run (.br (sumE s (ls.drop i) != 0) (.leaf (none, mkF 27 [(2, .dat (.int .u64 0)), (3, .dat (.int .i64 (sumE s (ls.drop i))))], [])) (.leaf (some 0, mkF 27 [(4, .dat (.int .u64 (sumV s (ls.drop i))))], []))) := by
    intro k
    induction k with
    | zero =>
      intro i s hi
      obtain rfl : i = ls.length := by omega
      rw [List.drop_length]
      refine iter_out ?_
      unfold su_step
      simp only [decide_eq_false (show ¬ (ls.length : Int) < (ls.length : Int) by omega)]
      rfl
    | succ k ih =>
      intro i s hi
      have hl : i < ls.length := by omega
      have hd : ls.drop i = nthD ls i :: ls.drop (i + 1) := by
        rw [List.drop_eq_getElem_cons hl]
        congr 1
        have := nthD_some hl
        rw [List.getElem?_eq_getElem hl] at this
        exact Option.some.inj this
      have hs : (su_step ls ls.length ((i : Int), s)).run = some (bif plus_v1 s (D.getI (nthD ls i)) != 0 then .inr (none, mkF 27 [(2, .dat (.int .u64 0)), (3, .dat (.int .i64 (plus_v1 s (D.getI (nthD ls i)))))], []) else .inl (((i + 1 : Nat) : Int), plus_v0 s (D.getI (nthD ls i)))) := by
        unfold su_step
        simp only [decide_eq_true (show (i : Int) < (ls.length : Int) by omega), decide_eq_true (show 0 ≤ (i : Int) by omega), Int.toNat_natCast, decide_eq_true hl, allE_nth h1 hl, wrap_succ (show i < 2 ^ 62 by omega), Bool.not_true, Bool.false_or, Bool.true_and, T.run_br, T.run_chk, T.run_leaf, cond_true, cond_false]
        exact bif_some _ _ _
      rw [hd]
      unfold sumE sumV
      cases hp : (plus_v1 s (D.getI (nthD ls i)) != 0) with
      | true =>
        rw [hp] at hs
        simp only [cond_true]
        rw [hp]
        exact iter_out hs
      | false =>
        rw [hp] at hs
        simp only [cond_false]
        exact iter_nextR hs (ih (i + 1) _ (by omega))
  exact ⟨ls.length + 1, key ls.length 0 0 (by omega)⟩
def L_su : Frame' → Store → T (Exit × Frame' × Store) := fun fr σ => match fr.getD 4 .undef, fr.getD 9 .undef, fr.getD 10 .undef, fr.getD 11 .undef, σ with
  | AV.dat (D.int IntKind.u64 0), AV.dat (D.slc Sh.one ls), AV.dat (D.int IntKind.i64 n), AV.dat (D.int IntKind.i64 0), [] => .chk (Nat.beq fr.length 27 && (decide (n = (ls.length : Int)) && okU ls)) (T.bind (.br (sumE 0 ls != 0) (.leaf (none, mkF 27 [(2, .dat (.int .u64 0)), (3, .dat (.int .i64 (sumE 0 ls)))], [])) (.leaf (some 0, mkF 27 [(4, .dat (.int .u64 (sumV 0 ls)))], []))) fun o => .leaf (outEx o.1, o.2.1, o.2.2))
  | _, _, _, _, _ => .fail
theorem su_sem (lp : Loops) : ∀ fr σ p, (L_su fr σ).run = some p → ∀ (K : Kt) r, K p.1 p.2.1 p.2.2 = some r → ∃ n, loopRun (envOf tab [(28, C_plus)] [] lp []) Try.f15 0 σ.length n (cleanF (liveAt Try.f15 0) 0 fr) σ K = some r := by
  intro fr σ p h K r hK
  unfold L_su at h
  split at h
  · rename_i ls n g4 g9 g10 g11
    obtain ⟨hc, h'⟩ := T.chk_some h
    rw [Bool.and_eq_true] at hc
    obtain ⟨hl, hc⟩ := hc
    obtain ⟨o, ho, h'⟩ := T.bind_some h'
    have hp := T.leaf_some h'
    subst hp
    obtain ⟨nF, hn⟩ : ∃ nF, (iterT (su_step ls n) nF ((0, 0))).run = T.run (.br (sumE 0 ls != 0) (.leaf (none, mkF 27 [(2, .dat (.int .u64 0)), (3, .dat (.int .i64 (sumE 0 ls)))], [])) (.leaf (some 0, mkF 27 [(4, .dat (.int .u64 (sumV 0 ls)))], []))) := su_closed ls n hc
    rw [ho] at hn
    refine ⟨nF, ?_⟩
    have he : cleanF (liveAt Try.f15 0) 0 fr = su_fr ls n ((0, 0)) := su_enter ls n _ _ fr hl g4 g9 g10 g11
    refine (iter_ok (base := 0) (su_hr lp ls n) K nF ((0, 0)) _ _ (by rw [clean_clean]; exact he) (by kernel_rfl)).trans ?_
    rw [T.k_run hn]
    exact hK
  · simp [T.run_fail] at h
theorem su_loopOk (lp : Loops) (hk : Loops.get lp 3 = some L_su) : LoopOk (envOf tab [(28, C_plus)] [] lp []) (loopAt Try.f15 0).1 (loopAt Try.f15 0).2 := loop_ok (L := L_su) hk (su_sem lp)

def sum_v0 (ls : List D) : Int := bif sumE 0 ls != 0 then 0 else sumV 0 ls
def sum_v1 (ls : List D) : Int := bif sumE 0 ls != 0 then sumE 0 ls else 0
def sum_pre (ls : List D) : Bool := decide ((↑(List.length ls) : Int) = (↑(List.length ls) : Int)) && okU ls
def C_sum : FunT := fun args σ => match args, σ with
  | [AV.dat (D.slc Sh.one ls)], [] => .chk ((sum_pre ls)) (.leaf ([AV.dat (D.int IntKind.u64 (sum_v0 ls)), AV.dat (D.int IntKind.i64 (sum_v1 ls))], []))
  | _, _ => .fail
theorem sum_raw0 (ls : List D) : runF (envOf tab [(28, C_plus)] [] [(3, L_su)] []) true Try.f15 [.dat (.slc .one ls)] [] =
  (bif decide ((↑(List.length ls) : Int) = (↑(List.length ls) : Int)) && okU ls then 
   (bif sumE 0 ls != 0 then some ([.dat (.int IntKind.u64 0), .dat (.int .i64 (sumE 0 ls))], []) else some ([.dat (.int IntKind.u64 (sumV 0 ls)), .dat (.int .i64 0)], [])) else none) := by kernel_rfl
theorem sum_case0 (ls : List D) : runF (envOf tab [(28, C_plus)] [] [(3, L_su)] []) true Try.f15 [.dat (.slc .one ls)] [] = FunT.run C_sum [.dat (.slc .one ls)] [] := (sum_raw0 ls).trans (by
  show _ = (cond (decide ((↑(List.length ls) : Int) = (↑(List.length ls) : Int)) && okU ls) (some (([.dat (.int IntKind.u64 (bif sumE 0 ls != 0 then 0 else sumV 0 ls)), .dat (.int .i64 (bif sumE 0 ls != 0 then sumE 0 ls else 0))], []) : Res)) none)
  generalize (decide ((↑(List.length ls) : Int) = (↑(List.length ls) : Int)) && okU ls) = z0
  generalize (sumE 0 ls != 0) = z1
  cases z0 with
  | true =>
   cases z1 with
   | true =>
    rfl
   | false =>
    rfl
  | false =>
   rfl
  )
theorem csum_ok : FunOk Try.prog 15 (FunT.run C_sum) := by
  refine fun_ok (E := envOf tab [(28, C_plus)] [] [(3, L_su)] []) (fz := true) (fn := Try.f15) (envOf_ok progOk (.cons cplus_ok (.nil _))) (by kernel_rfl) (by kernel_rfl) (loops_one (by kernel_rfl) (su_loopOk _ rfl)) ?_
  intro args σ r h
  unfold C_sum at h
  split at h
  · exact (sum_case0 _).trans h
  · simp [T.run_fail] at h


/-- What is given of a coin, at places. -/
abbrev coinAt (ls : List D) (d : D) : Int := fJ (nthD ls (D.getI d).toNat) 3 0
abbrev amtAt (ls : List D) (d : D) : Int := fJ (nthD ls (D.getI d).toNat) 3 1
def amTo (ls : List D) (c : Int) (out : List D) (d : D) : List D := bif coinAt ls d == c then out ++ [D.int .u64 (amtAt ls d)] else out
def okPl (n : Nat) (is : List D) : Bool := is.all fun d => okE (.int .i64) d && (decide (0 ≤ D.getI d) && decide (D.getI d < (n : Int)))
abbrev Sp5 : Specs := [(12, C_crt), (13, C_irw), (14, C_slots), (15, C_sum)]
theorem Sp5_ok : SpecsOk Try.prog Sp5 := .cons ccrt_ok (.cons cirw_ok (.cons cslots_ok (.cons csum_ok (.nil _))))
def he_fr (ls is : List D) (c n : Int) : (Int × Nat × Nat × List D) → Frame' := fun ⟨i, m, k, _⟩ => mkF 42 [(0, .dat (.slc s27 ls)), (1, .dat (.int .i64 c)), (6, .sref .one 0 m [] 0 k), (14, .dat (.slc .one is)), (15, .dat (.int .i64 n)), (16, .dat (.int .i64 i))]
def he_st (_ls _is : List D) (_c _n : Int) : (Int × Nat × Nat × List D) → Store := fun ⟨_, _, _, out⟩ => [mkDyn .one out]
def he_step (ls is : List D) (c n : Int) : (Int × Nat × Nat × List D) → T ((Int × Nat × Nat × List D) ⊕ LOut) := fun ⟨i, m, k, out⟩ => 
  .chk (!decide (i < n) || decide (0 ≤ i) && (decide (Int.toNat i < List.length is) && (okE (Ek.int IntKind.i64) (nthD is (Int.toNat i)) && (decide (0 ≤ D.getI (nthD is (Int.toNat i))) && (decide (Int.toNat (D.getI (nthD is (Int.toNat i))) < List.length ls) && (okE (k27) (nthD ls (Int.toNat (D.getI (nthD is (Int.toNat i))))) && (!D.getI (nthD (D.getL (nthD (D.getL (nthD ls (Int.toNat (D.getI (nthD is (Int.toNat i)))))) 3)) 0) == c || Nat.beq (List.length out) m && true && true && true && true && Nat.beq k m && true && true && decide ((m + 1) * 8 ≤ 35184372088832)))))))) (
   .br (!decide (i < n)) (.leaf (.inr ((some 0), mkF 42 [(6, AV.sref Sh.one 0 m [] 0 k)], [{ sh := Sh.arr Sh.one 0, dyn := true, frz := false, v := .dat (.arr Sh.one out) }]))) (.leaf (.inl ((IntKind.wrap IntKind.i64 (i + 1)), (bif D.getI (nthD (D.getL (nthD (D.getL (nthD ls (Int.toNat (D.getI (nthD is (Int.toNat i)))))) 3)) 0) == c then m + 1 else m), (bif D.getI (nthD (D.getL (nthD (D.getL (nthD ls (Int.toNat (D.getI (nthD is (Int.toNat i)))))) 3)) 0) == c then m + 1 else k), (bif D.getI (nthD (D.getL (nthD (D.getL (nthD ls (Int.toNat (D.getI (nthD is (Int.toNat i)))))) 3)) 0) == c then out ++ [D.int IntKind.u64 (D.getI (nthD (D.getL (nthD (D.getL (nthD ls (Int.toNat (D.getI (nthD is (Int.toNat i)))))) 3)) 1))] else out)))))
theorem he_round (lp : Loops) (ls is : List D) (c n : Int) (i : Int) (m k : Nat) (out : List D) (K : Kt) : oneRound (envOf tab Sp5 [] lp [(4, 0, [.own 6]), (4, 4, [.kill 13, .cut 1])]) Try.f5 0 (1) (mkF 42 [(0, .dat (.slc s27 ls)), (1, .dat (.int .i64 c)), (6, .sref .one 0 m [] 0 k), (14, .dat (.slc .one is)), (15, .dat (.int .i64 n)), (16, .dat (.int .i64 i))]) ([mkDyn .one out]) K =
  (bif decide (i < n) then 
   (bif decide (0 ≤ i) then 
    (bif decide (Int.toNat i < List.length is) then 
     (bif okE (Ek.int IntKind.i64) (nthD is (Int.toNat i)) then 
      (bif decide (0 ≤ D.getI (nthD is (Int.toNat i))) then 
       (bif decide (Int.toNat (D.getI (nthD is (Int.toNat i))) < List.length ls) then 
        (bif okE (k27) (nthD ls (Int.toNat (D.getI (nthD is (Int.toNat i))))) then 
         (bif D.getI (nthD (D.getL (nthD (D.getL (nthD ls (Int.toNat (D.getI (nthD is (Int.toNat i)))))) 3)) 0) == c then 
          (bif decide (0 ≤ D.getI (nthD is (Int.toNat i))) then 
           (bif decide (Int.toNat (D.getI (nthD is (Int.toNat i))) < List.length ls) then 
            (bif okE (k27) (nthD ls (Int.toNat (D.getI (nthD is (Int.toNat i))))) then 
             (bif Nat.beq (List.length out) m && true && true && true && true && Nat.beq k m && true && true && decide ((m + 1) * 8 ≤ 35184372088832) then K (Exit.normal) (mkF 42 [(0, .dat (.slc (s27) ls)), (1, .dat (.int .i64 c)), (6, AV.sref Sh.one 0 (m + 1) [] 0 (m + 1)), (14, .dat (.slc Sh.one is)), (15, .dat (.int .i64 n)), (16, .dat (.int .i64 (IntKind.wrap IntKind.i64 (i + 1)))), (17, .dat (.bool (decide (i < n)))), (37, .dat (.int .i64 (IntKind.wrap IntKind.i64 (i + 1))))]) ([{ sh := Sh.arr Sh.one 0, dyn := true, frz := false, v := .dat (.arr Sh.one (out ++ [D.int IntKind.u64 (D.getI (nthD (D.getL (nthD (D.getL (nthD ls (Int.toNat (D.getI (nthD is (Int.toNat i)))))) 3)) 1))])) }, { sh := Sh.arr Sh.one 0, dyn := true, frz := false, v := .dat (.arr Sh.one [D.int IntKind.u64 (D.getI (nthD (D.getL (nthD (D.getL (nthD ls (Int.toNat (D.getI (nthD is (Int.toNat i)))))) 3)) 1))]) }]) else none) else none) else none) else none) else K (Exit.normal) (mkF 42 [(0, .dat (.slc (s27) ls)), (1, .dat (.int .i64 c)), (6, AV.sref Sh.one 0 m [] 0 k), (14, .dat (.slc Sh.one is)), (15, .dat (.int .i64 n)), (16, .dat (.int .i64 (IntKind.wrap IntKind.i64 (i + 1)))), (17, .dat (.bool (decide (i < n)))), (37, .dat (.int .i64 (IntKind.wrap IntKind.i64 (i + 1))))]) ([{ sh := Sh.arr Sh.one 0, dyn := true, frz := false, v := .dat (.arr Sh.one out) }])) else none) else none) else none) else none) else none) else none) else K (Exit.exit 0) (mkF 42 [(6, AV.sref Sh.one 0 m [] 0 k)]) ([{ sh := Sh.arr Sh.one 0, dyn := true, frz := false, v := .dat (.arr Sh.one out) }])) := by kernel_rfl
theorem he_hr (lp : Loops) (ls is : List D) (c n : Int) : ∀ (sA : (Int × Nat × Nat × List D)) (K : Kt) (N : (Int × Nat × Nat × List D) → Option Res), (∀ sB fr' σ', cleanF (liveAt Try.f5 0) 0 fr' = he_fr ls is c n sB → trim (1) (he_fr ls is c n sB) σ' = he_st ls is c n sB → K .normal fr' σ' = N sB) →
    oneRound (envOf tab Sp5 [] lp [(4, 0, [.own 6]), (4, 4, [.kill 13, .cut 1])]) Try.f5 0 (1) (he_fr ls is c n sA) (he_st ls is c n sA) K = (he_step ls is c n sA).k (LK K N) := by
  intro sA K N hN
  obtain ⟨i, m, k, out⟩ := sA
  refine (he_round lp ls is c n i m k out K).trans ?_
  show _ = T.k ((
  .chk (!decide (i < n) || decide (0 ≤ i) && (decide (Int.toNat i < List.length is) && (okE (Ek.int IntKind.i64) (nthD is (Int.toNat i)) && (decide (0 ≤ D.getI (nthD is (Int.toNat i))) && (decide (Int.toNat (D.getI (nthD is (Int.toNat i))) < List.length ls) && (okE (k27) (nthD ls (Int.toNat (D.getI (nthD is (Int.toNat i))))) && (!D.getI (nthD (D.getL (nthD (D.getL (nthD ls (Int.toNat (D.getI (nthD is (Int.toNat i)))))) 3)) 0) == c || Nat.beq (List.length out) m && true && true && true && true && Nat.beq k m && true && true && decide ((m + 1) * 8 ≤ 35184372088832)))))))) (
   .br (!decide (i < n)) (.leaf (.inr ((some 0), mkF 42 [(6, AV.sref Sh.one 0 m [] 0 k)], [{ sh := Sh.arr Sh.one 0, dyn := true, frz := false, v := .dat (.arr Sh.one out) }]))) (.leaf (.inl ((IntKind.wrap IntKind.i64 (i + 1)), (bif D.getI (nthD (D.getL (nthD (D.getL (nthD ls (Int.toNat (D.getI (nthD is (Int.toNat i)))))) 3)) 0) == c then m + 1 else m), (bif D.getI (nthD (D.getL (nthD (D.getL (nthD ls (Int.toNat (D.getI (nthD is (Int.toNat i)))))) 3)) 0) == c then m + 1 else k), (bif D.getI (nthD (D.getL (nthD (D.getL (nthD ls (Int.toNat (D.getI (nthD is (Int.toNat i)))))) 3)) 0) == c then out ++ [D.int IntKind.u64 (D.getI (nthD (D.getL (nthD (D.getL (nthD ls (Int.toNat (D.getI (nthD is (Int.toNat i)))))) 3)) 1))] else out)))))) : T ((Int × Nat × Nat × List D) ⊕ LOut)) (LK K N)
  generalize (Nat.beq (List.length out) m && true && true && true && true && Nat.beq k m && true && true && decide ((m + 1) * 8 ≤ 35184372088832)) = z0
  generalize (okE (k27) (nthD ls (Int.toNat (D.getI (nthD is (Int.toNat i)))))) = z1
  generalize (D.getI (nthD (D.getL (nthD (D.getL (nthD ls (Int.toNat (D.getI (nthD is (Int.toNat i)))))) 3)) 0) == c) = z2
  generalize (decide (0 ≤ D.getI (nthD is (Int.toNat i)))) = z3
  generalize (decide (Int.toNat (D.getI (nthD is (Int.toNat i))) < List.length ls)) = z4
  generalize (decide (0 ≤ i)) = z5
  generalize (decide (Int.toNat i < List.length is)) = z6
  generalize (decide (i < n)) = z7
  generalize (okE (Ek.int IntKind.i64) (nthD is (Int.toNat i))) = z8
  cases z7 with
  | true =>
   cases z5 with
   | true =>
    cases z6 with
    | true =>
     cases z8 with
     | true =>
      cases z3 with
      | true =>
       cases z4 with
       | true =>
        cases z1 with
        | true =>
         cases z2 with
         | true =>
          cases z0 with
          | true =>
           exact hN _ _ _ (by kernel_rfl) (by kernel_rfl)
          | false =>
           rfl
         | false =>
          exact hN _ _ _ (by kernel_rfl) (by kernel_rfl)
        | false =>
         rfl
       | false =>
        rfl
      | false =>
       rfl
     | false =>
      rfl
    | false =>
     rfl
   | false =>
    rfl
  | false =>
   rfl
theorem he_enter (ls is : List D) (c n : Int) (i : Int) (m k : Nat) (out : List D) (fr : Frame') (hl : Nat.beq fr.length 42 = true) (g0 : fr.getD 0 .undef = .dat (.slc (s27) ls)) (g1 : fr.getD 1 .undef = .dat (.int .i64 c)) (g6 : fr.getD 6 .undef = AV.sref Sh.one 0 m [] 0 k) (g14 : fr.getD 14 .undef = .dat (.slc Sh.one is)) (g15 : fr.getD 15 .undef = .dat (.int .i64 n)) (g16 : fr.getD 16 .undef = .dat (.int .i64 i)) : cleanF (liveAt Try.f5 0) 0 fr = he_fr ls is c n (i, m, k, out) := by
  have e : liveAt Try.f5 0 = [15, 14, 1, 0, 16, 6] := by kernel_rfl
  rw [clean_mk (Nat.eq_of_beq_eq_true hl), e]
  show mkF 42 [(15, fr.getD 15 .undef), (14, fr.getD 14 .undef), (1, fr.getD 1 .undef), (0, fr.getD 0 .undef), (16, fr.getD 16 .undef), (6, fr.getD 6 .undef)] = _
  rw [g15, g14, g1, g0, g16, g6]
  kernel_rfl

theorem he_closed (ls is : List D) (c n : Int) (hc : (decide (n = (is.length : Int)) && (okT ls && (okPl ls.length is && decide (is.length ≤ 1099511627776)))) = true) :
    ∃ z, (iterT (he_step ls is c n) z (0, 0, 0, [])).run = T.run (.leaf (some 0, mkF 42 [(6, .sref .one 0 (is.foldl (amTo ls c) []).length [] 0 (is.foldl (amTo ls c) []).length)], [mkDyn .one (is.foldl (amTo ls c) [])])) := by
  simp only [Bool.and_eq_true, decide_eq_true_eq] at hc
  obtain ⟨rfl, ⟨h1, h2⟩, hp, hi⟩ := hc
  have key := iter_fold (step := he_step ls is c is.length) (ls := is) (S := Nat × Nat × List D) (f := fun s d => ((amTo ls c s.2.2 d).length, (amTo ls c s.2.2 d).length, amTo ls c s.2.2 d)) (o := fun s => (some 0, mkF 42 [(6, .sref .one 0 s.1 [] 0 s.2.1)], [mkDyn .one s.2.2]))
    (fun j s => s.1 = s.2.2.length ∧ s.2.1 = s.2.2.length ∧ s.2.2.length ≤ j) (fun i s hi' hs => ?_) (fun s hs => ?_) (0, 0, []) ⟨rfl, rfl, Nat.le_refl _⟩
  · have e : ∀ (l : List D) (x : List D), l.foldl (fun (s : Nat × Nat × List D) d => ((amTo ls c s.2.2 d).length, (amTo ls c s.2.2 d).length, amTo ls c s.2.2 d)) (x.length, x.length, x) = ((l.foldl (amTo ls c) x).length, (l.foldl (amTo ls c) x).length, l.foldl (amTo ls c) x) := by
      intro l
      induction l with
      | nil => intro x; rfl
      | cons d l ih => intro x; exact ih _
    have e0 := e is []
    rw [show (0, 0, ([] : List D)) = (([] : List D).length, ([] : List D).length, ([] : List D)) from rfl, e0] at key
    exact key
  · obtain ⟨s1, s2, o2⟩ := s
    have f1 : s1 = o2.length := hs.1
    have f2 : s2 = o2.length := hs.2.1
    have g1 : o2.length ≤ i := hs.2.2
    clear hs
    subst f1 f2
    dsimp only
    have hq := List.all_eq_true.1 hp _ (nthD_mem hi')
    simp only [Bool.and_eq_true, decide_eq_true_eq] at hq
    obtain ⟨q1, q2, q3⟩ := hq
    have hjl : (D.getI (nthD is i)).toNat < ls.length := by omega
    refine ⟨?_, rfl, rfl, ?_⟩
    · unfold he_step amTo
      simp only [decide_eq_true (show (i : Int) < (is.length : Int) by omega), decide_eq_true (show 0 ≤ (i : Int) by omega), decide_eq_true hi', Int.toNat_natCast, q1, decide_eq_true q2, decide_eq_true hjl, allE_nth h1 hjl, beq_self, decide_eq_true (show (o2.length + 1) * 8 ≤ 35184372088832 by omega), wrap_succ (show i < 2 ^ 62 by omega), Bool.not_true, Bool.and_true, Bool.or_true, T.run_br, T.run_chk, T.run_leaf, cond_true, cond_false]
      cases (coinAt ls (nthD is i) == c) with
      | true => simp only [cond_true, List.length_append]; rfl
      | false => rfl
    · unfold amTo
      cases (coinAt ls (nthD is i) == c) with
      | true => rw [cond_true, List.length_append]; exact Nat.succ_le_succ g1
      | false => exact Nat.le_succ_of_le g1
  · obtain ⟨s1, s2, o2⟩ := s
    unfold he_step
    simp only [decide_eq_false (show ¬ (is.length : Int) < (is.length : Int) by omega)]
    rfl
def L_he : Frame' → Store → T (Exit × Frame' × Store) := fun fr σ => match fr.getD 0 .undef, fr.getD 1 .undef, fr.getD 6 .undef, fr.getD 14 .undef, fr.getD 15 .undef, fr.getD 16 .undef, σ with
  | AV.dat (D.slc (Sh.agg [Sh.one, Sh.one, Sh.one, Sh.agg [Sh.one, Sh.one, Sh.one], Sh.agg [Sh.one, Sh.one, Sh.one]]) ls), AV.dat (D.int IntKind.i64 c), AV.sref Sh.one 0 0 [] 0 0, AV.dat (D.slc Sh.one is), AV.dat (D.int IntKind.i64 n), AV.dat (D.int IntKind.i64 0), [{ sh := Sh.arr Sh.one 0, dyn := true, frz := false, v := AV.dat (D.arr Sh.one []) }] => .chk (Nat.beq fr.length 42 && (decide (n = (is.length : Int)) && (okT ls && (okPl ls.length is && decide (is.length ≤ 1099511627776))))) (T.bind (.leaf (some 0, mkF 42 [(6, .sref .one 0 (is.foldl (amTo ls c) []).length [] 0 (is.foldl (amTo ls c) []).length)], [mkDyn .one (is.foldl (amTo ls c) [])])) fun o => .leaf (outEx o.1, o.2.1, o.2.2))
  | _, _, _, _, _, _, _ => .fail
theorem he_sem (lp : Loops) : ∀ fr σ p, (L_he fr σ).run = some p → ∀ (K : Kt) r, K p.1 p.2.1 p.2.2 = some r → ∃ n, loopRun (envOf tab Sp5 [] lp [(4, 0, [.own 6]), (4, 4, [.kill 13, .cut 1])]) Try.f5 0 σ.length n (cleanF (liveAt Try.f5 0) 0 fr) σ K = some r := by
  intro fr σ p h K r hK
  unfold L_he at h
  split at h
  · rename_i ls c is n g0 g1 g6 g14 g15 g16
    obtain ⟨hc, h'⟩ := T.chk_some h
    rw [Bool.and_eq_true] at hc
    obtain ⟨hl, hc⟩ := hc
    obtain ⟨o, ho, h'⟩ := T.bind_some h'
    have hp := T.leaf_some h'
    subst hp
    obtain ⟨nF, hn⟩ : ∃ nF, (iterT (he_step ls is c n) nF ((0, 0, 0, []))).run = T.run (.leaf (some 0, mkF 42 [(6, .sref .one 0 (is.foldl (amTo ls c) []).length [] 0 (is.foldl (amTo ls c) []).length)], [mkDyn .one (is.foldl (amTo ls c) [])])) := he_closed ls is c n hc
    rw [ho] at hn
    refine ⟨nF, ?_⟩
    have he : cleanF (liveAt Try.f5 0) 0 fr = he_fr ls is c n ((0, 0, 0, [])) := he_enter ls is c n _ _ _ _ fr hl g0 g1 g6 g14 g15 g16
    refine (iter_ok (base := 1) (he_hr lp ls is c n) K nF ((0, 0, 0, [])) _ _ (by rw [clean_clean]; exact he) (by kernel_rfl)).trans ?_
    rw [T.k_run hn]
    exact hK
  · simp [T.run_fail] at h
theorem he_loopOk (lp : Loops) (hk : Loops.get lp 5 = some L_he) : LoopOk (envOf tab Sp5 [] lp [(4, 0, [.own 6]), (4, 4, [.kill 13, .cut 1])]) (loopAt Try.f5 0).1 (loopAt Try.f5 0).2 := loop_ok (L := L_he) hk (he_sem lp)

def held_v0 (ls : List D) (c : Int) : Int := bif crt_v0 c then sum_v0 (seg (List.foldl (amTo ls c) [] (seg (usTo ls) 0 (List.length (usTo ls)))) 0 (List.length (List.foldl (amTo ls c) [] (seg (usTo ls) 0 (List.length (usTo ls)))))) else 0
def held_v1 (ls : List D) (c : Int) : Int := bif crt_v0 c then sum_v1 (seg (List.foldl (amTo ls c) [] (seg (usTo ls) 0 (List.length (usTo ls)))) 0 (List.length (List.foldl (amTo ls c) [] (seg (usTo ls) 0 (List.length (usTo ls)))))) else 1
def held_pre (ls : List D) (c : Int) : Bool := !crt_v0 c || iof_pre ls && (slots_pre ls && (decide ((↑(List.length (seg (usTo ls) 0 (List.length (usTo ls)))) : Int) = (↑(List.length (seg (usTo ls) 0 (List.length (usTo ls)))) : Int)) && (okT ls && (okPl (List.length ls) (seg (usTo ls) 0 (List.length (usTo ls))) && decide (List.length (seg (usTo ls) 0 (List.length (usTo ls))) ≤ 1099511627776))) && (Nat.beq (List.length (List.foldl (amTo ls c) [] (seg (usTo ls) 0 (List.length (usTo ls))))) (List.length (List.foldl (amTo ls c) [] (seg (usTo ls) 0 (List.length (usTo ls))))) && sum_pre (seg (List.foldl (amTo ls c) [] (seg (usTo ls) 0 (List.length (usTo ls)))) 0 (List.length (List.foldl (amTo ls c) [] (seg (usTo ls) 0 (List.length (usTo ls)))))))))
def C_held : FunT := fun args σ => match args, σ with
  | [AV.dat (D.slc (Sh.agg [Sh.one, Sh.one, Sh.one, Sh.agg [Sh.one, Sh.one, Sh.one], Sh.agg [Sh.one, Sh.one, Sh.one]]) ls), AV.dat (D.int IntKind.i64 c)], [] => .chk ((held_pre ls c)) (.leaf ([AV.dat (D.int IntKind.u64 (held_v0 ls c)), AV.dat (D.int IntKind.i64 (held_v1 ls c))], []))
  | _, _ => .fail
theorem held_raw0 (ls : List D) (c : Int) : runF (envOf tab Sp5 [] [(5, L_he)] [(4, 0, [.own 6]), (4, 4, [.kill 13, .cut 1])]) true Try.f5 [.dat (.slc s27 ls), .dat (.int .i64 c)] [] =
  (bif !crt_v0 c then some ([.dat (.int IntKind.u64 0), .dat (.int .i64 1)], []) else 
   (bif iof_pre ls then 
    (bif slots_pre ls then 
     (bif decide ((↑(List.length (seg (usTo ls) 0 (List.length (usTo ls)))) : Int) = (↑(List.length (seg (usTo ls) 0 (List.length (usTo ls)))) : Int)) && (okT ls && (okPl (List.length ls) (seg (usTo ls) 0 (List.length (usTo ls))) && decide (List.length (seg (usTo ls) 0 (List.length (usTo ls))) ≤ 1099511627776))) then 
      (bif Nat.beq (List.length (List.foldl (amTo ls c) [] (seg (usTo ls) 0 (List.length (usTo ls))))) (List.length (List.foldl (amTo ls c) [] (seg (usTo ls) 0 (List.length (usTo ls))))) then 
       (bif sum_pre (seg (List.foldl (amTo ls c) [] (seg (usTo ls) 0 (List.length (usTo ls)))) 0 (List.length (List.foldl (amTo ls c) [] (seg (usTo ls) 0 (List.length (usTo ls)))))) then some ([.dat (.int IntKind.u64 (sum_v0 (seg (List.foldl (amTo ls c) [] (seg (usTo ls) 0 (List.length (usTo ls)))) 0 (List.length (List.foldl (amTo ls c) [] (seg (usTo ls) 0 (List.length (usTo ls)))))))), .dat (.int .i64 (sum_v1 (seg (List.foldl (amTo ls c) [] (seg (usTo ls) 0 (List.length (usTo ls)))) 0 (List.length (List.foldl (amTo ls c) [] (seg (usTo ls) 0 (List.length (usTo ls))))))))], []) else none) else none) else none) else none) else none)) := by kernel_rfl
theorem held_case0 (ls : List D) (c : Int) : runF (envOf tab Sp5 [] [(5, L_he)] [(4, 0, [.own 6]), (4, 4, [.kill 13, .cut 1])]) true Try.f5 [.dat (.slc s27 ls), .dat (.int .i64 c)] [] = FunT.run C_held [.dat (.slc s27 ls), .dat (.int .i64 c)] [] := (held_raw0 ls c).trans (by
  show _ = (cond (!crt_v0 c || iof_pre ls && (slots_pre ls && (decide ((↑(List.length (seg (usTo ls) 0 (List.length (usTo ls)))) : Int) = (↑(List.length (seg (usTo ls) 0 (List.length (usTo ls)))) : Int)) && (okT ls && (okPl (List.length ls) (seg (usTo ls) 0 (List.length (usTo ls))) && decide (List.length (seg (usTo ls) 0 (List.length (usTo ls))) ≤ 1099511627776))) && (Nat.beq (List.length (List.foldl (amTo ls c) [] (seg (usTo ls) 0 (List.length (usTo ls))))) (List.length (List.foldl (amTo ls c) [] (seg (usTo ls) 0 (List.length (usTo ls))))) && sum_pre (seg (List.foldl (amTo ls c) [] (seg (usTo ls) 0 (List.length (usTo ls)))) 0 (List.length (List.foldl (amTo ls c) [] (seg (usTo ls) 0 (List.length (usTo ls)))))))))) (some (([.dat (.int IntKind.u64 (bif crt_v0 c then sum_v0 (seg (List.foldl (amTo ls c) [] (seg (usTo ls) 0 (List.length (usTo ls)))) 0 (List.length (List.foldl (amTo ls c) [] (seg (usTo ls) 0 (List.length (usTo ls)))))) else 0)), .dat (.int .i64 (bif crt_v0 c then sum_v1 (seg (List.foldl (amTo ls c) [] (seg (usTo ls) 0 (List.length (usTo ls)))) 0 (List.length (List.foldl (amTo ls c) [] (seg (usTo ls) 0 (List.length (usTo ls)))))) else 1))], []) : Res)) none)
  generalize (decide ((↑(List.length (seg (usTo ls) 0 (List.length (usTo ls)))) : Int) = (↑(List.length (seg (usTo ls) 0 (List.length (usTo ls)))) : Int)) && (okT ls && (okPl (List.length ls) (seg (usTo ls) 0 (List.length (usTo ls))) && decide (List.length (seg (usTo ls) 0 (List.length (usTo ls))) ≤ 1099511627776)))) = z0
  generalize (sum_pre (seg (List.foldl (amTo ls c) [] (seg (usTo ls) 0 (List.length (usTo ls)))) 0 (List.length (List.foldl (amTo ls c) [] (seg (usTo ls) 0 (List.length (usTo ls))))))) = z1
  generalize (Nat.beq (List.length (List.foldl (amTo ls c) [] (seg (usTo ls) 0 (List.length (usTo ls))))) (List.length (List.foldl (amTo ls c) [] (seg (usTo ls) 0 (List.length (usTo ls)))))) = z2
  generalize (crt_v0 c) = z3
  generalize (iof_pre ls) = z4
  generalize (slots_pre ls) = z5
  cases z3 with
  | true =>
   cases z4 with
   | true =>
    cases z5 with
    | true =>
     cases z0 with
     | true =>
      cases z2 with
      | true =>
       cases z1 with
       | true =>
        rfl
       | false =>
        rfl
      | false =>
       rfl
     | false =>
      rfl
    | false =>
     rfl
   | false =>
    rfl
  | false =>
   rfl
  )
theorem cheld_ok : FunOk Try.prog 5 (FunT.run C_held) := by
  refine fun_ok (E := envOf tab Sp5 [] [(5, L_he)] [(4, 0, [.own 6]), (4, 4, [.kill 13, .cut 1])]) (fz := true) (fn := Try.f5) (envOf_ok progOk Sp5_ok) (by kernel_rfl) (by kernel_rfl) (loops_one (by kernel_rfl) (he_loopOk _ rfl)) ?_
  intro args σ r h
  unfold C_held at h
  split at h
  · exact (held_case0 _ _).trans h
  · simp [T.run_fail] at h


end Go.Proofs.Ytlgieadebfdppaa
