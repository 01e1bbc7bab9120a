/- Seat 15: the document's rooms. -/
import Derived.Test.YtiegehdiffemlaaB
namespace Go.Proofs.Ytiegehdiffemlaa
open Go.AX
set_option maxRecDepth 100000

abbrev shM2 : Sh := .agg [.one, .one]
abbrev ekM : Ek := .agg [.bool, .str]
def okM (d : D) : Bool := okE ekM d && (rright_pre (nmD d) && nright_pre (nmD d))
def okMs (ls : List D) : Bool := ls.all okM && decide (ls.length ≤ 1099511627776)
theorem okMs_spec {ls : List D} (h : okMs ls = true) : ls.all okM = true ∧ ls.length ≤ 1099511627776 := by
  unfold okMs at h
  simpa only [Bool.and_eq_true, decide_eq_true_eq] using h
theorem okM_spec {d : D} (h : okM d = true) : okE ekM d = true ∧ rright_pre (nmD d) = true ∧ nright_pre (nmD d) = true := by
  unfold okM at h
  simpa only [Bool.and_eq_true] using h
theorem okM_nth {ls : List D} (h : okMs ls = true) {i : Nat} (hi : i < ls.length) : okM (nthD ls i) = true := List.all_eq_true.1 (okMs_spec h).1 _ (nthD_mem hi)

def dr_fr (ls : List D) : Int → Frame' := fun i => mkF 38 [(0, .dat (.slc (.agg [.one, .one]) ls)), (3, .dat (.int .i64 i))]
def dr_st (_ : List D) : Int → Store := fun _ => []
def dr_step (ls : List D) : Int → T (Int ⊕ LOut) := fun i => 
  .chk (!decide (i < (↑(List.length ls) : Int)) || decide ((0 : Int) ≤ i) && (decide (Int.toNat i < List.length ls) && (okE (Ek.agg [Ek.bool, Ek.str]) (nthD ls (Int.toNat i)) && rright_pre (D.getS (nthD (D.getL (nthD ls (Int.toNat i))) (1 : Nat)))))) (
   .br (!decide (i < (↑(List.length ls) : Int))) (.leaf (.inr ((some (0 : Nat)), mkF (38 : Nat) [], []))) (
    .br (decide (i < (↑(List.length ls) : Int)) && (!D.getB (nthD (D.getL (nthD ls (Int.toNat i))) (0 : Nat)) == rright_v0 (D.getS (nthD (D.getL (nthD ls (Int.toNat i))) (1 : Nat))) || !D.getB (nthD (D.getL (nthD ls (Int.toNat i))) (0 : Nat)) && !decide (Array.toList (ByteArray.data (D.getS (nthD (D.getL (nthD ls (Int.toNat i))) (1 : Nat)))) = []))) (.leaf (.inr (none, mkF (38 : Nat) [((2 : Nat), AV.dat (D.bool false))], []))) (.leaf (.inl (IntKind.wrap IntKind.i64 (i + (1 : Int)))))))
theorem dr_round (lp : Loops) (ls : List D) (i : Int) (K : Kt) : oneRound (envOf tab SpN [] lp []) Try.f9 0 (0) (mkF 38 [(0, .dat (.slc (.agg [.one, .one]) ls)), (3, .dat (.int .i64 i))]) ([]) K =
  (bif decide (i < (↑(List.length ls) : Int)) then 
   (bif decide ((0 : Int) ≤ i) then 
    (bif decide (Int.toNat i < List.length ls) then 
     (bif okE (Ek.agg [Ek.bool, Ek.str]) (nthD ls (Int.toNat i)) then 
      (bif decide ((0 : Int) ≤ i) then 
       (bif decide (Int.toNat i < List.length ls) then 
        (bif okE (Ek.agg [Ek.bool, Ek.str]) (nthD ls (Int.toNat i)) then 
         (bif rright_pre (D.getS (nthD (D.getL (nthD ls (Int.toNat i))) (1 : Nat))) then 
          (bif true != (D.getB (nthD (D.getL (nthD ls (Int.toNat i))) (0 : Nat)) == rright_v0 (D.getS (nthD (D.getL (nthD ls (Int.toNat i))) (1 : Nat)))) then K (Exit.ret) (mkF (38 : Nat) [((2 : Nat), AV.dat (D.bool false))]) ([]) else 
           (bif decide ((0 : Int) ≤ i) then 
            (bif decide (Int.toNat i < List.length ls) then 
             (bif okE (Ek.agg [Ek.bool, Ek.str]) (nthD ls (Int.toNat i)) then 
              (bif !D.getB (nthD (D.getL (nthD ls (Int.toNat i))) (0 : Nat)) then 
               (bif decide ((0 : Int) ≤ i) then 
                (bif decide (Int.toNat i < List.length ls) then 
                 (bif okE (Ek.agg [Ek.bool, Ek.str]) (nthD ls (Int.toNat i)) then 
                  (bif !decide (Array.toList (ByteArray.data (D.getS (nthD (D.getL (nthD ls (Int.toNat i))) (1 : Nat)))) = []) then K (Exit.ret) (mkF (38 : Nat) [((2 : Nat), AV.dat (D.bool false))]) ([]) else K (Exit.normal) (mkF (38 : Nat) [((0 : Nat), AV.dat (D.slc (Sh.agg [Sh.one, Sh.one]) ls)), ((3 : Nat), AV.dat (D.int IntKind.i64 (IntKind.wrap IntKind.i64 (i + (1 : Int))))), ((8 : Nat), AV.dat (D.int IntKind.i64 i)), ((9 : Nat), AV.dat (D.int IntKind.i64 (IntKind.wrap IntKind.i64 (i + (1 : Int)))))]) ([])) else none) else none) else none) else K (Exit.normal) (mkF (38 : Nat) [((0 : Nat), AV.dat (D.slc (Sh.agg [Sh.one, Sh.one]) ls)), ((3 : Nat), AV.dat (D.int IntKind.i64 (IntKind.wrap IntKind.i64 (i + (1 : Int))))), ((8 : Nat), AV.dat (D.int IntKind.i64 i)), ((9 : Nat), AV.dat (D.int IntKind.i64 (IntKind.wrap IntKind.i64 (i + (1 : Int)))))]) ([])) else none) else none) else none)) else none) else none) else none) else none) else none) else none) else none) else K (Exit.exit (0 : Nat)) (mkF (38 : Nat) []) ([])) := by kernel_rfl
theorem dr_hr (lp : Loops) (ls : List D) : ∀ (sA : Int) (K : Kt) (N : Int → Option Res), (∀ sB fr' σ', cleanF (liveAt Try.f9 0) 0 fr' = dr_fr ls sB → trim (0) (dr_fr ls sB) σ' = dr_st ls sB → K .normal fr' σ' = N sB) →
    oneRound (envOf tab SpN [] lp []) Try.f9 0 (0) (dr_fr ls sA) (dr_st ls sA) K = (dr_step ls sA).k (LK K N) := by
  intro i K N hN
  refine (dr_round lp ls i K).trans ?_
  show _ = T.k ((
  .chk (!decide (i < (↑(List.length ls) : Int)) || decide ((0 : Int) ≤ i) && (decide (Int.toNat i < List.length ls) && (okE (Ek.agg [Ek.bool, Ek.str]) (nthD ls (Int.toNat i)) && rright_pre (D.getS (nthD (D.getL (nthD ls (Int.toNat i))) (1 : Nat)))))) (
   .br (!decide (i < (↑(List.length ls) : Int))) (.leaf (.inr ((some (0 : Nat)), mkF (38 : Nat) [], []))) (
    .br (decide (i < (↑(List.length ls) : Int)) && (!D.getB (nthD (D.getL (nthD ls (Int.toNat i))) (0 : Nat)) == rright_v0 (D.getS (nthD (D.getL (nthD ls (Int.toNat i))) (1 : Nat))) || !D.getB (nthD (D.getL (nthD ls (Int.toNat i))) (0 : Nat)) && !decide (Array.toList (ByteArray.data (D.getS (nthD (D.getL (nthD ls (Int.toNat i))) (1 : Nat)))) = []))) (.leaf (.inr (none, mkF (38 : Nat) [((2 : Nat), AV.dat (D.bool false))], []))) (.leaf (.inl (IntKind.wrap IntKind.i64 (i + (1 : Int)))))))) : T (Int ⊕ LOut)) (LK K N)
  generalize (decide (i < (↑(List.length ls) : Int))) = z0
  cases z0 with
  | true =>
   generalize (decide ((0 : Int) ≤ i)) = z1
   cases z1 with
   | true =>
    generalize (decide (Int.toNat i < List.length ls)) = z2
    cases z2 with
    | true =>
     generalize (okE (Ek.agg [Ek.bool, Ek.str]) (nthD ls (Int.toNat i))) = z3
     cases z3 with
     | true =>
      generalize (rright_pre (D.getS (nthD (D.getL (nthD ls (Int.toNat i))) (1 : Nat)))) = z4
      cases z4 with
      | true =>
       generalize (D.getB (nthD (D.getL (nthD ls (Int.toNat i))) (0 : Nat)) == rright_v0 (D.getS (nthD (D.getL (nthD ls (Int.toNat i))) (1 : Nat)))) = z5
       cases z5 with
       | true =>
        generalize (D.getB (nthD (D.getL (nthD ls (Int.toNat i))) (0 : Nat))) = z6
        cases z6 with
        | true =>
         exact hN _ _ _ (by kernel_rfl) (by kernel_rfl)
        | false =>
         generalize (decide (Array.toList (ByteArray.data (D.getS (nthD (D.getL (nthD ls (Int.toNat i))) (1 : Nat)))) = [])) = z7
         cases z7 with
         | true =>
          exact hN _ _ _ (by kernel_rfl) (by kernel_rfl)
         | false =>
          rfl
       | false =>
        rfl
      | false =>
       rfl
     | false =>
      rfl
    | false =>
     rfl
   | false =>
    rfl
  | false =>
   rfl
theorem dr_enter (ls : List D) (i : Int) (fr : Frame') (hl : Nat.beq fr.length 38 = true) (g0 : fr.getD 0 .undef = AV.dat (D.slc (Sh.agg [Sh.one, Sh.one]) ls)) (g3 : fr.getD 3 .undef = AV.dat (D.int IntKind.i64 i)) : cleanF (liveAt Try.f9 0) 0 fr = dr_fr ls i := by
  have e : liveAt Try.f9 0 = [0, 3] := by kernel_rfl
  rw [clean_mk (Nat.eq_of_beq_eq_true hl), e]
  show mkF 38 [(0, fr.getD 0 .undef), (3, fr.getD 3 .undef)] = _
  rw [g0, g3]
  kernel_rfl


abbrev badM (d : D) : Bool := !D.getB (nthD (D.getL d) (0 : Nat)) == rright_v0 (D.getS (nthD (D.getL d) (1 : Nat))) || !D.getB (nthD (D.getL d) (0 : Nat)) && !decide (Array.toList (ByteArray.data (D.getS (nthD (D.getL d) (1 : Nat)))) = [])
theorem dr_closed (ls : List D) (hc : okMs ls = true) :
    ∃ m, (iterT (dr_step ls) m 0).run = T.run (.br (ls.any badM) (.leaf (none, mkF 38 [(2, .dat (.bool false))], [])) (.leaf (some 0, mkF 38 [], []))) := by
  obtain ⟨_, h2⟩ := okMs_spec hc
  obtain ⟨m, hm⟩ := iter_find (step := dr_step ls) (ls := ls) (p := badM) (o := fun _ => (none, mkF 38 [(2, .dat (.bool false))], [])) (o' := (some 0, mkF 38 [], []))
    (fun k hk => by
      have hq := okM_spec (okM_nth hc hk)
      unfold dr_step
      simp only [decide_eq_true (show (k : Int) < (ls.length : Int) by omega), decide_eq_true (show (0 : Int) ≤ (k : Int) by omega), Int.toNat_natCast, decide_eq_true hk, hq, wrap_succ (show k < 2 ^ 62 by omega), Bool.not_true, Bool.false_or, Bool.true_and, T.run_br, T.run_chk, T.run_leaf, cond_true, cond_false]
      exact bif_some (badM (nthD ls k)) _ _)
    (by
      unfold dr_step
      rw [decide_eq_false (show ¬ (ls.length : Int) < (ls.length : Int) by omega)]
      rfl)
  refine ⟨m, hm.trans ?_⟩
  cases ls.any badM <;> rfl
def L_dr : Frame' → Store → T (Exit × Frame' × Store) := fun fr σ => match fr.getD 0 .undef, fr.getD 3 .undef, σ with
  | AV.dat (D.slc (Sh.agg [Sh.one, Sh.one]) ls), AV.dat (D.int IntKind.i64 0), [] => .chk (Nat.beq fr.length 38 && (okMs ls)) (T.bind (.br (ls.any badM) (.leaf (none, mkF 38 [(2, .dat (.bool false))], [])) (.leaf (some 0, mkF 38 [], []))) fun o => .leaf (outEx o.1, o.2.1, o.2.2))
  | _, _, _ => .fail
theorem dr_sem (lp : Loops) : ∀ fr σ p, (L_dr fr σ).run = some p → ∀ (K : Kt) r, K p.1 p.2.1 p.2.2 = some r → ∃ n, loopRun (envOf tab SpN [] lp []) Try.f9 0 σ.length n (cleanF (liveAt Try.f9 0) 0 fr) σ K = some r := by
  intro fr σ p h K r hK
  unfold L_dr at h
  split at h
  · rename_i ls g0 g3
    obtain ⟨hc, h'⟩ := T.chk_some h
    rw [Bool.and_eq_true] at hc
    obtain ⟨hl, hc⟩ := hc
    obtain ⟨o, ho, h'⟩ := T.bind_some h'
    have hp := T.leaf_some h'
    subst hp
    obtain ⟨nF, hn⟩ : ∃ nF, (iterT (dr_step ls) nF (0)).run = T.run (.br (ls.any badM) (.leaf (none, mkF 38 [(2, .dat (.bool false))], [])) (.leaf (some 0, mkF 38 [], []))) := dr_closed ls hc
    rw [ho] at hn
    refine ⟨nF, ?_⟩
    have he : cleanF (liveAt Try.f9 0) 0 fr = dr_fr ls (0) := dr_enter ls _ fr hl g0 g3
    refine (iter_ok (base := 0) (dr_hr lp ls) K nF (0) _ _ (by rw [clean_clean]; exact he) (by kernel_rfl)).trans ?_
    rw [T.k_run hn]
    exact hK
  · simp [T.run_fail] at h
theorem dr_loopOk (lp : Loops) (hk : Loops.get lp 2 = some L_dr) : LoopOk (envOf tab SpN [] lp []) (loopAt Try.f9 0).1 (loopAt Try.f9 0).2 := loop_ok (L := L_dr) hk (dr_sem lp)

def drooms_v0 (ls : List D) : Bool := !List.any ls badM
def C_drooms : FunT := fun args σ => match args, σ with
  | [AV.dat (D.slc (Sh.agg [Sh.one, Sh.one]) ls)], [] => .chk (okMs ls) (.leaf ([AV.dat (D.bool (drooms_v0 ls))], []))
  | _, _ => .fail
theorem drooms_raw0 (ls : List D) : runF (envOf tab SpN [] [(2, L_dr)] []) true Try.f9 [.dat (.slc (.agg [.one, .one]) ls)] [] =
  (bif okMs ls then 
   (bif List.any ls badM then some ([AV.dat (D.bool false)], []) else some ([AV.dat (D.bool true)], [])) else none) := by kernel_rfl
theorem drooms_case0 (ls : List D) : runF (envOf tab SpN [] [(2, L_dr)] []) true Try.f9 [.dat (.slc (.agg [.one, .one]) ls)] [] = FunT.run C_drooms [.dat (.slc (.agg [.one, .one]) ls)] [] := (drooms_raw0 ls).trans (by
  show _ = (cond (okMs ls) (some (([AV.dat (D.bool !List.any ls badM)], []) : Res)) none)
  generalize (okMs ls) = z0
  cases z0 with
  | true =>
   generalize (List.any ls badM) = z1
   cases z1 with
   | true =>
    rfl
   | false =>
    rfl
  | false =>
   rfl
  )
theorem cdrooms_ok : FunOk Try.prog 9 (FunT.run C_drooms) := by
  refine fun_ok (E := envOf tab SpN [] [(2, L_dr)] []) (fz := true) (fn := Try.f9) (envOf_ok progOk SpN_ok) (by kernel_rfl) (by kernel_rfl) (loops_one (by kernel_rfl) (dr_loopOk _ rfl)) ?_
  intro args σ r h
  unfold C_drooms at h
  split at h
  · exact (drooms_case0 _).trans h
  · simp [T.run_fail] at h


def sm_fr (a b : List D) : Int → Frame' := fun i => mkF 26 [(0, .dat (.slc (.agg [.one, .one]) a)), (1, .dat (.slc (.agg [.one, .one]) b)), (5, .dat (.int .i64 i))]
def sm_st (_ _ : List D) : Int → Store := fun _ => []
def sm_step (a b : List D) : Int → T (Int ⊕ LOut) := fun i => 
  .chk (!decide (i < (↑(List.length a) : Int)) || decide ((0 : Int) ≤ i) && (decide (Int.toNat i < List.length a) && (okE (Ek.agg [Ek.bool, Ek.str]) (nthD a (Int.toNat i)) && (decide (Int.toNat i < List.length b) && okE (Ek.agg [Ek.bool, Ek.str]) (nthD b (Int.toNat i)))))) (
   .br (!decide (i < (↑(List.length a) : Int))) (.leaf (.inr ((some (0 : Nat)), mkF (26 : Nat) [], []))) (
    .br (decide (i < (↑(List.length a) : Int)) && !(D.getB (nthD (D.getL (nthD a (Int.toNat i))) (0 : Nat)) == D.getB (nthD (D.getL (nthD b (Int.toNat i))) (0 : Nat)) && (decide (Array.toList (ByteArray.data (D.getS (nthD (D.getL (nthD a (Int.toNat i))) (1 : Nat)))) = Array.toList (ByteArray.data (D.getS (nthD (D.getL (nthD b (Int.toNat i))) (1 : Nat))))) && true))) (.leaf (.inr (none, mkF (26 : Nat) [((4 : Nat), AV.dat (D.bool false))], []))) (.leaf (.inl (IntKind.wrap IntKind.i64 (i + (1 : Int)))))))
theorem sm_round (lp : Loops) (a b : List D) (i : Int) (K : Kt) : oneRound (envOf tab SpN [] lp []) Try.f10 0 (0) (mkF 26 [(0, .dat (.slc (.agg [.one, .one]) a)), (1, .dat (.slc (.agg [.one, .one]) b)), (5, .dat (.int .i64 i))]) ([]) K =
  (bif decide (i < (↑(List.length a) : Int)) then 
   (bif decide ((0 : Int) ≤ i) then 
    (bif decide (Int.toNat i < List.length a) then 
     (bif okE (Ek.agg [Ek.bool, Ek.str]) (nthD a (Int.toNat i)) then 
      (bif decide ((0 : Int) ≤ i) then 
       (bif decide (Int.toNat i < List.length b) then 
        (bif okE (Ek.agg [Ek.bool, Ek.str]) (nthD b (Int.toNat i)) then 
         (bif true != (D.getB (nthD (D.getL (nthD a (Int.toNat i))) (0 : Nat)) == D.getB (nthD (D.getL (nthD b (Int.toNat i))) (0 : Nat)) && (decide (Array.toList (ByteArray.data (D.getS (nthD (D.getL (nthD a (Int.toNat i))) (1 : Nat)))) = Array.toList (ByteArray.data (D.getS (nthD (D.getL (nthD b (Int.toNat i))) (1 : Nat))))) && true)) then K (Exit.ret) (mkF (26 : Nat) [((4 : Nat), AV.dat (D.bool false))]) ([]) else K (Exit.normal) (mkF (26 : Nat) [((0 : Nat), AV.dat (D.slc (Sh.agg [Sh.one, Sh.one]) a)), ((1 : Nat), AV.dat (D.slc (Sh.agg [Sh.one, Sh.one]) b)), ((5 : Nat), AV.dat (D.int IntKind.i64 (IntKind.wrap IntKind.i64 (i + (1 : Int))))), ((15 : Nat), AV.dat (D.int IntKind.i64 i)), ((16 : Nat), AV.dat (D.int IntKind.i64 (IntKind.wrap IntKind.i64 (i + (1 : Int)))))]) ([])) else none) else none) else none) else none) else none) else none) else K (Exit.exit (0 : Nat)) (mkF (26 : Nat) []) ([])) := by kernel_rfl
theorem sm_hr (lp : Loops) (a b : List D) : ∀ (sA : Int) (K : Kt) (N : Int → Option Res), (∀ sB fr' σ', cleanF (liveAt Try.f10 0) 0 fr' = sm_fr a b sB → trim (0) (sm_fr a b sB) σ' = sm_st a b sB → K .normal fr' σ' = N sB) →
    oneRound (envOf tab SpN [] lp []) Try.f10 0 (0) (sm_fr a b sA) (sm_st a b sA) K = (sm_step a b sA).k (LK K N) := by
  intro i K N hN
  refine (sm_round lp a b i K).trans ?_
  show _ = T.k ((
  .chk (!decide (i < (↑(List.length a) : Int)) || decide ((0 : Int) ≤ i) && (decide (Int.toNat i < List.length a) && (okE (Ek.agg [Ek.bool, Ek.str]) (nthD a (Int.toNat i)) && (decide (Int.toNat i < List.length b) && okE (Ek.agg [Ek.bool, Ek.str]) (nthD b (Int.toNat i)))))) (
   .br (!decide (i < (↑(List.length a) : Int))) (.leaf (.inr ((some (0 : Nat)), mkF (26 : Nat) [], []))) (
    .br (decide (i < (↑(List.length a) : Int)) && !(D.getB (nthD (D.getL (nthD a (Int.toNat i))) (0 : Nat)) == D.getB (nthD (D.getL (nthD b (Int.toNat i))) (0 : Nat)) && (decide (Array.toList (ByteArray.data (D.getS (nthD (D.getL (nthD a (Int.toNat i))) (1 : Nat)))) = Array.toList (ByteArray.data (D.getS (nthD (D.getL (nthD b (Int.toNat i))) (1 : Nat))))) && true))) (.leaf (.inr (none, mkF (26 : Nat) [((4 : Nat), AV.dat (D.bool false))], []))) (.leaf (.inl (IntKind.wrap IntKind.i64 (i + (1 : Int)))))))) : T (Int ⊕ LOut)) (LK K N)
  generalize (decide (i < (↑(List.length a) : Int))) = z0
  cases z0 with
  | true =>
   generalize (decide ((0 : Int) ≤ i)) = z1
   cases z1 with
   | true =>
    generalize (decide (Int.toNat i < List.length a)) = z2
    cases z2 with
    | true =>
     generalize (okE (Ek.agg [Ek.bool, Ek.str]) (nthD a (Int.toNat i))) = z3
     cases z3 with
     | true =>
      generalize (decide (Int.toNat i < List.length b)) = z4
      cases z4 with
      | true =>
       generalize (okE (Ek.agg [Ek.bool, Ek.str]) (nthD b (Int.toNat i))) = z5
       cases z5 with
       | true =>
        generalize (D.getB (nthD (D.getL (nthD a (Int.toNat i))) (0 : Nat)) == D.getB (nthD (D.getL (nthD b (Int.toNat i))) (0 : Nat)) && (decide (Array.toList (ByteArray.data (D.getS (nthD (D.getL (nthD a (Int.toNat i))) (1 : Nat)))) = Array.toList (ByteArray.data (D.getS (nthD (D.getL (nthD b (Int.toNat i))) (1 : Nat))))) && true)) = z6
        cases z6 with
        | true =>
         exact hN _ _ _ (by kernel_rfl) (by kernel_rfl)
        | false =>
         rfl
       | false =>
        rfl
      | false =>
       rfl
     | false =>
      rfl
    | false =>
     rfl
   | false =>
    rfl
  | false =>
   rfl
theorem sm_enter (a b : List D) (i : Int) (fr : Frame') (hl : Nat.beq fr.length 26 = true) (g0 : fr.getD 0 .undef = AV.dat (D.slc (Sh.agg [Sh.one, Sh.one]) a)) (g1 : fr.getD 1 .undef = AV.dat (D.slc (Sh.agg [Sh.one, Sh.one]) b)) (g5 : fr.getD 5 .undef = AV.dat (D.int IntKind.i64 i)) : cleanF (liveAt Try.f10 0) 0 fr = sm_fr a b i := by
  have e : liveAt Try.f10 0 = [0, 1, 5] := by kernel_rfl
  rw [clean_mk (Nat.eq_of_beq_eq_true hl), e]
  show mkF 26 [(0, fr.getD 0 .undef), (1, fr.getD 1 .undef), (5, fr.getD 5 .undef)] = _
  rw [g0, g1, g5]
  kernel_rfl


abbrev eqM (x y : D) : Bool := D.getB (nthD (D.getL x) (0 : Nat)) == D.getB (nthD (D.getL y) (0 : Nat)) && (decide (Array.toList (ByteArray.data (D.getS (nthD (D.getL x) (1 : Nat)))) = Array.toList (ByteArray.data (D.getS (nthD (D.getL y) (1 : Nat))))) && true)
theorem ekM_form {d : D} (h : okE ekM d = true) : ∃ u s, d = .agg [.bool u, .str s] := by
  obtain ⟨a, b, rfl, h1, h2⟩ := okE_agg2 h
  obtain ⟨u, rfl⟩ := okE_bool h1
  obtain ⟨s, rfl⟩ := okE_str h2
  exact ⟨u, s, rfl⟩
theorem toList_eq {s t : ByteArray} : s.data.toList = t.data.toList ↔ s = t := by
  constructor
  · intro h
    cases s; cases t
    congr 1
    exact Array.toList_inj.1 h
  · intro h; rw [h]
theorem eqM_eqb {x y : D} (hx : okE ekM x = true) (hy : okE ekM y = true) : eqM x y = D.eqb x y := by
  obtain ⟨u, s, rfl⟩ := ekM_form hx
  obtain ⟨v, t, rfl⟩ := ekM_form hy
  refine bool_ext ?_
  rw [eqb_iff]
  show (u == v && (decide (s.data.toList = t.data.toList) && true)) = true ↔ _
  simp only [Bool.and_true, Bool.and_eq_true, beq_iff_eq, decide_eq_true_eq, toList_eq, D.agg.injEq, List.cons.injEq, D.bool.injEq, D.str.injEq, and_true]
def okEs (ls : List D) : Bool := ls.all (okE ekM) && decide (ls.length ≤ 1099511627776)
theorem okEs_spec {ls : List D} (h : okEs ls = true) : ls.all (okE ekM) = true ∧ ls.length ≤ 1099511627776 := by
  unfold okEs at h
  simpa only [Bool.and_eq_true, decide_eq_true_eq] using h
theorem sm_closed (a b : List D) (hc : (okEs a && okEs b && Nat.beq a.length b.length) = true) :
    ∃ m, (iterT (sm_step a b) m 0).run = T.run (.br (D.eqbL a b) (.leaf (some 0, mkF 26 [], [])) (.leaf (none, mkF 26 [(4, .dat (.bool false))], []))) := by
  simp only [Bool.and_eq_true] at hc
  obtain ⟨⟨ha, hb⟩, hl⟩ := hc
  have hl := Nat.eq_of_beq_eq_true hl
  obtain ⟨h1, h2⟩ := okEs_spec ha
  obtain ⟨h3, _⟩ := okEs_spec hb
  obtain ⟨m, hm⟩ := iter_any (step := sm_step a b) (n := a.length) (p := fun i => !eqM (nthD a i) (nthD b i)) (o := (none, mkF 26 [(4, .dat (.bool false))], [])) (o' := (some 0, mkF 26 [], []))
    (fun k hk => by
      unfold sm_step
      simp only [decide_eq_true (show (k : Int) < (a.length : Int) by omega), decide_eq_true (show (0 : Int) ≤ (k : Int) by omega), Int.toNat_natCast, decide_eq_true hk, decide_eq_true (show k < b.length by omega), allE_nth h1 hk, allE_nth h3 (show k < b.length by omega), wrap_succ (show k < 2 ^ 62 by omega), Bool.not_true, Bool.false_or, Bool.true_and, T.run_br, T.run_chk, T.run_leaf, cond_true, cond_false]
      exact bif_some (!eqM (nthD a k) (nthD b k)) _ _)
    (by
      unfold sm_step
      rw [decide_eq_false (show ¬ (a.length : Int) < (a.length : Int) by omega)]
      rfl)
  refine ⟨m, hm.trans ?_⟩
  rw [any_eqbL hl (fun i hi => eqM_eqb (allE_nth h1 hi) (allE_nth h3 (by omega)))]
  cases D.eqbL a b <;> rfl
def L_sm : Frame' → Store → T (Exit × Frame' × Store) := fun fr σ => match fr.getD 0 .undef, fr.getD 1 .undef, fr.getD 5 .undef, σ with
  | AV.dat (D.slc (Sh.agg [Sh.one, Sh.one]) a), AV.dat (D.slc (Sh.agg [Sh.one, Sh.one]) b), AV.dat (D.int IntKind.i64 0), [] => .chk (Nat.beq fr.length 26 && (okEs a && okEs b && Nat.beq a.length b.length)) (T.bind (.br (D.eqbL a b) (.leaf (some 0, mkF 26 [], [])) (.leaf (none, mkF 26 [(4, .dat (.bool false))], []))) fun o => .leaf (outEx o.1, o.2.1, o.2.2))
  | _, _, _, _ => .fail
theorem sm_sem (lp : Loops) : ∀ fr σ p, (L_sm fr σ).run = some p → ∀ (K : Kt) r, K p.1 p.2.1 p.2.2 = some r → ∃ n, loopRun (envOf tab SpN [] lp []) Try.f10 0 σ.length n (cleanF (liveAt Try.f10 0) 0 fr) σ K = some r := by
  intro fr σ p h K r hK
  unfold L_sm at h
  split at h
  · rename_i a b g0 g1 g5
    obtain ⟨hc, h'⟩ := T.chk_some h
    rw [Bool.and_eq_true] at hc
    obtain ⟨hl, hc⟩ := hc
    obtain ⟨o, ho, h'⟩ := T.bind_some h'
    have hp := T.leaf_some h'
    subst hp
    obtain ⟨nF, hn⟩ : ∃ nF, (iterT (sm_step a b) nF (0)).run = T.run (.br (D.eqbL a b) (.leaf (some 0, mkF 26 [], [])) (.leaf (none, mkF 26 [(4, .dat (.bool false))], []))) := sm_closed a b hc
    rw [ho] at hn
    refine ⟨nF, ?_⟩
    have he : cleanF (liveAt Try.f10 0) 0 fr = sm_fr a b (0) := sm_enter a b _ fr hl g0 g1 g5
    refine (iter_ok (base := 0) (sm_hr lp a b) K nF (0) _ _ (by rw [clean_clean]; exact he) (by kernel_rfl)).trans ?_
    rw [T.k_run hn]
    exact hK
  · simp [T.run_fail] at h
theorem sm_loopOk (lp : Loops) (hk : Loops.get lp 4 = some L_sm) : LoopOk (envOf tab SpN [] lp []) (loopAt Try.f10 0).1 (loopAt Try.f10 0).2 := loop_ok (L := L_sm) hk (sm_sem lp)

def samem_v0 (a : List D) (b : List D) : Bool := !(↑(List.length a) : Int) != (↑(List.length b) : Int) && D.eqbL a b
def samem_pre (a : List D) (b : List D) : Bool := (↑(List.length a) : Int) != (↑(List.length b) : Int) || okEs a && okEs b && Nat.beq (List.length a) (List.length b)
def C_samem : FunT := fun args σ => match args, σ with
  | [AV.dat (D.slc (Sh.agg [Sh.one, Sh.one]) a), AV.dat (D.slc (Sh.agg [Sh.one, Sh.one]) b)], [] => .chk ((samem_pre a b)) (.leaf ([AV.dat (D.bool (samem_v0 a b))], []))
  | _, _ => .fail
theorem samem_raw0 (a b : List D) : runF (envOf tab SpN [] [(4, L_sm)] []) true Try.f10 [.dat (.slc (.agg [.one, .one]) a), .dat (.slc (.agg [.one, .one]) b)] [] =
  (bif (↑(List.length a) : Int) != (↑(List.length b) : Int) then some ([AV.dat (D.bool false)], []) else 
   (bif okEs a && okEs b && Nat.beq (List.length a) (List.length b) then 
    (bif D.eqbL a b then some ([AV.dat (D.bool true)], []) else some ([AV.dat (D.bool false)], [])) else none)) := by kernel_rfl
theorem samem_case0 (a b : List D) : runF (envOf tab SpN [] [(4, L_sm)] []) true Try.f10 [.dat (.slc (.agg [.one, .one]) a), .dat (.slc (.agg [.one, .one]) b)] [] = FunT.run C_samem [.dat (.slc (.agg [.one, .one]) a), .dat (.slc (.agg [.one, .one]) b)] [] := (samem_raw0 a b).trans (by
  show _ = (cond ((↑(List.length a) : Int) != (↑(List.length b) : Int) || okEs a && okEs b && Nat.beq (List.length a) (List.length b)) (some (([AV.dat (D.bool (!(↑(List.length a) : Int) != (↑(List.length b) : Int) && D.eqbL a b))], []) : Res)) none)
  generalize ((↑(List.length a) : Int) != (↑(List.length b) : Int)) = z0
  cases z0 with
  | true =>
   rfl
  | false =>
   generalize (okEs a && okEs b && Nat.beq (List.length a) (List.length b)) = z1
   cases z1 with
   | true =>
    generalize (D.eqbL a b) = z2
    cases z2 with
    | true =>
     rfl
    | false =>
     rfl
   | false =>
    rfl
  )
theorem csamem_ok : FunOk Try.prog 10 (FunT.run C_samem) := by
  refine fun_ok (E := envOf tab SpN [] [(4, L_sm)] []) (fz := true) (fn := Try.f10) (envOf_ok progOk SpN_ok) (by kernel_rfl) (by kernel_rfl) (loops_one (by kernel_rfl) (sm_loopOk _ rfl)) ?_
  intro args σ r h
  unfold C_samem at h
  split at h
  · exact (samem_case0 _ _).trans h
  · simp [T.run_fail] at h


def dd_fr (s : ByteArray) : (Int × Nat × Nat × List D) → Frame' := fun ⟨i, m, k, _⟩ => mkF 37 [(1, .dat (.str s)), (7, .sref (.agg [.one, .one]) 0 m [] 0 k), (8, .dat (.int .i64 i))]
def dd_st (_ : ByteArray) : (Int × Nat × Nat × List D) → Store := fun ⟨_, _, _, out⟩ => [mkDyn (.agg [.one, .one]) out]
def dd_step (s : ByteArray) : (Int × Nat × Nat × List D) → T ((Int × Nat × Nat × List D) ⊕ LOut) := fun ⟨i, m, k, out⟩ => 
  .chk (!decide (i < (↑k : Int)) || decide ((0 : Int) ≤ i) && (Nat.beq (List.length out) m && (decide ((0 : Nat) + Int.toNat i < List.length out) && (okS (Sh.agg [Sh.one, Sh.one]) (nthD out ((0 : Nat) + Int.toNat i)) && (okE Ek.bool (nthD (D.getL (nthD out ((0 : Nat) + Int.toNat i))) (0 : Nat)) && (D.getB (nthD (D.getL (nthD out ((0 : Nat) + Int.toNat i))) (0 : Nat)) || Sh.eqb (Sh.agg [D.shape (nthD (D.getL (nthD out ((0 : Nat) + Int.toNat i))) (0 : Nat)), D.shape (nthD (D.getL (nthD out ((0 : Nat) + Int.toNat i))) (1 : Nat))]) (Sh.agg [Sh.one, Sh.one]))))))) (
   .br (!decide (i < (↑k : Int))) (.leaf (.inr ((some (0 : Nat)), mkF (37 : Nat) [], [{ sh := Sh.arr (Sh.agg [Sh.one, Sh.one]) (0 : Nat), dyn := true, frz := false, v := AV.dat (D.arr (Sh.agg [Sh.one, Sh.one]) out) }]))) (
    .br (decide (i < (↑k : Int)) && !D.getB (nthD (D.getL (nthD out ((0 : Nat) + Int.toNat i))) (0 : Nat))) (.leaf (.inr (none, mkF (37 : Nat) [((4 : Nat), AV.sref (Sh.agg [Sh.one, Sh.one]) (0 : Nat) m [] (0 : Nat) k), ((5 : Nat), AV.dat (D.int IntKind.i64 i)), ((6 : Nat), AV.dat (D.int IntKind.i64 (0 : Int)))], [{ sh := Sh.arr (Sh.agg [Sh.one, Sh.one]) (0 : Nat), dyn := true, frz := false, v := AV.dat (D.arr (Sh.agg [Sh.one, Sh.one]) (List.set out ((0 : Nat) + Int.toNat i) (D.agg [D.bool true, D.str s]))) }]))) (.leaf (.inl ((IntKind.wrap IntKind.i64 (i + (1 : Int))), (m), (k), (out))))))
theorem dd_round (lp : Loops) (s : ByteArray) (i : Int) (m k : Nat) (out : List D) (K : Kt) : oneRound (envOf tab SpN [] lp []) Try.f6 0 (1) (mkF 37 [(1, .dat (.str s)), (7, .sref (.agg [.one, .one]) 0 m [] 0 k), (8, .dat (.int .i64 i))]) ([mkDyn (.agg [.one, .one]) out]) K =
  (bif decide (i < (↑k : Int)) then 
   (bif decide ((0 : Int) ≤ i) then 
    (bif decide (i < (↑k : Int)) then 
     (bif Nat.beq (List.length out) m && true then 
      (bif decide ((0 : Nat) + Int.toNat i < List.length out) then 
       (bif okS (Sh.agg [Sh.one, Sh.one]) (nthD out ((0 : Nat) + Int.toNat i)) then 
        (bif okE Ek.bool (nthD (D.getL (nthD out ((0 : Nat) + Int.toNat i))) (0 : Nat)) then 
         (bif !D.getB (nthD (D.getL (nthD out ((0 : Nat) + Int.toNat i))) (0 : Nat)) then 
          (bif decide ((0 : Int) ≤ i) then 
           (bif decide (i < (↑k : Int)) then 
            (bif Nat.beq (List.length out) m && true && true then 
             (bif decide ((0 : Nat) + Int.toNat i < List.length out) then 
              (bif okS (Sh.agg [Sh.one, Sh.one]) (nthD out ((0 : Nat) + Int.toNat i)) then 
               (bif Sh.eqb (Sh.agg [D.shape (nthD (D.getL (nthD out ((0 : Nat) + Int.toNat i))) (0 : Nat)), D.shape (nthD (D.getL (nthD out ((0 : Nat) + Int.toNat i))) (1 : Nat))]) (Sh.agg [Sh.one, Sh.one]) then K (Exit.ret) (mkF (37 : Nat) [((4 : Nat), AV.sref (Sh.agg [Sh.one, Sh.one]) (0 : Nat) m [] (0 : Nat) k), ((5 : Nat), AV.dat (D.int IntKind.i64 i)), ((6 : Nat), AV.dat (D.int IntKind.i64 (0 : Int)))]) ([{ sh := Sh.arr (Sh.agg [Sh.one, Sh.one]) (0 : Nat), dyn := true, frz := false, v := AV.dat (D.arr (Sh.agg [Sh.one, Sh.one]) (List.set out ((0 : Nat) + Int.toNat i) (D.agg [D.bool true, D.str s]))) }]) else none) else none) else none) else none) else none) else none) else K (Exit.normal) (mkF (37 : Nat) [((1 : Nat), AV.dat (D.str s)), ((7 : Nat), AV.sref (Sh.agg [Sh.one, Sh.one]) (0 : Nat) m [] (0 : Nat) k), ((8 : Nat), AV.dat (D.int IntKind.i64 (IntKind.wrap IntKind.i64 (i + (1 : Int))))), ((22 : Nat), AV.dat (D.int IntKind.i64 i)), ((23 : Nat), AV.dat (D.int IntKind.i64 (IntKind.wrap IntKind.i64 (i + (1 : Int)))))]) ([{ sh := Sh.arr (Sh.agg [Sh.one, Sh.one]) (0 : Nat), dyn := true, frz := false, v := AV.dat (D.arr (Sh.agg [Sh.one, Sh.one]) out) }])) else none) else none) else none) else none) else none) else none) else K (Exit.exit (0 : Nat)) (mkF (37 : Nat) []) ([{ sh := Sh.arr (Sh.agg [Sh.one, Sh.one]) (0 : Nat), dyn := true, frz := false, v := AV.dat (D.arr (Sh.agg [Sh.one, Sh.one]) out) }])) := by kernel_rfl
theorem dd_hr (lp : Loops) (s : ByteArray) : ∀ (sA : (Int × Nat × Nat × List D)) (K : Kt) (N : (Int × Nat × Nat × List D) → Option Res), (∀ sB fr' σ', cleanF (liveAt Try.f6 0) 0 fr' = dd_fr s sB → trim (1) (dd_fr s sB) σ' = dd_st s sB → K .normal fr' σ' = N sB) →
    oneRound (envOf tab SpN [] lp []) Try.f6 0 (1) (dd_fr s sA) (dd_st s sA) K = (dd_step s sA).k (LK K N) := by
  intro sA K N hN
  obtain ⟨i, m, k, out⟩ := sA
  refine (dd_round lp s i m k out K).trans ?_
  show _ = T.k ((
  .chk (!decide (i < (↑k : Int)) || decide ((0 : Int) ≤ i) && (Nat.beq (List.length out) m && (decide ((0 : Nat) + Int.toNat i < List.length out) && (okS (Sh.agg [Sh.one, Sh.one]) (nthD out ((0 : Nat) + Int.toNat i)) && (okE Ek.bool (nthD (D.getL (nthD out ((0 : Nat) + Int.toNat i))) (0 : Nat)) && (D.getB (nthD (D.getL (nthD out ((0 : Nat) + Int.toNat i))) (0 : Nat)) || Sh.eqb (Sh.agg [D.shape (nthD (D.getL (nthD out ((0 : Nat) + Int.toNat i))) (0 : Nat)), D.shape (nthD (D.getL (nthD out ((0 : Nat) + Int.toNat i))) (1 : Nat))]) (Sh.agg [Sh.one, Sh.one]))))))) (
   .br (!decide (i < (↑k : Int))) (.leaf (.inr ((some (0 : Nat)), mkF (37 : Nat) [], [{ sh := Sh.arr (Sh.agg [Sh.one, Sh.one]) (0 : Nat), dyn := true, frz := false, v := AV.dat (D.arr (Sh.agg [Sh.one, Sh.one]) out) }]))) (
    .br (decide (i < (↑k : Int)) && !D.getB (nthD (D.getL (nthD out ((0 : Nat) + Int.toNat i))) (0 : Nat))) (.leaf (.inr (none, mkF (37 : Nat) [((4 : Nat), AV.sref (Sh.agg [Sh.one, Sh.one]) (0 : Nat) m [] (0 : Nat) k), ((5 : Nat), AV.dat (D.int IntKind.i64 i)), ((6 : Nat), AV.dat (D.int IntKind.i64 (0 : Int)))], [{ sh := Sh.arr (Sh.agg [Sh.one, Sh.one]) (0 : Nat), dyn := true, frz := false, v := AV.dat (D.arr (Sh.agg [Sh.one, Sh.one]) (List.set out ((0 : Nat) + Int.toNat i) (D.agg [D.bool true, D.str s]))) }]))) (.leaf (.inl ((IntKind.wrap IntKind.i64 (i + (1 : Int))), (m), (k), (out))))))) : T ((Int × Nat × Nat × List D) ⊕ LOut)) (LK K N)
  generalize (decide (i < (↑k : Int))) = z0
  cases z0 with
  | true =>
   generalize (decide ((0 : Int) ≤ i)) = z1
   cases z1 with
   | true =>
    generalize (Nat.beq (List.length out) m) = z2
    cases z2 with
    | true =>
     generalize (decide ((0 : Nat) + Int.toNat i < List.length out)) = z3
     cases z3 with
     | true =>
      generalize (okS (Sh.agg [Sh.one, Sh.one]) (nthD out ((0 : Nat) + Int.toNat i))) = z4
      cases z4 with
      | true =>
       generalize (okE Ek.bool (nthD (D.getL (nthD out ((0 : Nat) + Int.toNat i))) (0 : Nat))) = z5
       cases z5 with
       | true =>
        generalize (D.getB (nthD (D.getL (nthD out ((0 : Nat) + Int.toNat i))) (0 : Nat))) = z6
        cases z6 with
        | true =>
         exact hN _ _ _ (by kernel_rfl) (by kernel_rfl)
        | false =>
         generalize (Sh.eqb (Sh.agg [D.shape (nthD (D.getL (nthD out ((0 : Nat) + Int.toNat i))) (0 : Nat)), D.shape (nthD (D.getL (nthD out ((0 : Nat) + Int.toNat i))) (1 : Nat))]) (Sh.agg [Sh.one, Sh.one])) = z7
         cases z7 with
         | true =>
          rfl
         | false =>
          rfl
       | false =>
        rfl
      | false =>
       rfl
     | false =>
      rfl
    | false =>
     rfl
   | false =>
    rfl
  | false =>
   rfl
theorem dd_enter (s : ByteArray) (i : Int) (m k : Nat) (out : List D) (fr : Frame') (hl : Nat.beq fr.length 37 = true) (g1 : fr.getD 1 .undef = AV.dat (D.str s)) (g7 : fr.getD 7 .undef = AV.sref (Sh.agg [Sh.one, Sh.one]) 0 m [] 0 k) (g8 : fr.getD 8 .undef = AV.dat (D.int IntKind.i64 i)) : cleanF (liveAt Try.f6 0) 0 fr = dd_fr s (i, m, k, out) := by
  have e : liveAt Try.f6 0 = [1, 7, 8] := by kernel_rfl
  rw [clean_mk (Nat.eq_of_beq_eq_true hl), e]
  show mkF 37 [(1, fr.getD 1 .undef), (7, fr.getD 7 .undef), (8, fr.getD 8 .undef)] = _
  rw [g1, g7, g8]
  kernel_rfl

abbrev freeM (d : D) : Bool := !D.getB (nthD (D.getL d) (0 : Nat))
theorem dd_closed (s : ByteArray) (m k : Nat) (out : List D) (hc : (okEs out && Nat.beq out.length m && Nat.beq out.length k) = true) :
    ∃ z, (iterT (dd_step s) z (0, m, k, out)).run = T.run (.br (out.any freeM) (.leaf (none, mkF 37 [(4, .sref (.agg [.one, .one]) 0 m [] 0 k), (5, .dat (.int .i64 ((out.findIdx freeM : Nat) : Int))), (6, .dat (.int .i64 0))], [mkDyn (.agg [.one, .one]) (out.set (out.findIdx freeM) (.agg [.bool true, .str s]))])) (.leaf (some 0, mkF 37 [], [mkDyn (.agg [.one, .one]) out]))) := by
  simp only [Bool.and_eq_true] at hc
  obtain ⟨⟨ha, h3⟩, h4⟩ := hc
  obtain rfl := Nat.eq_of_beq_eq_true h3
  obtain rfl := Nat.eq_of_beq_eq_true h4
  obtain ⟨h1, h2⟩ := okEs_spec ha
  obtain ⟨z, hz⟩ := iter_findS (step := dd_step s) (s := (out.length, out.length, out)) (ls := out) (p := freeM) (o := fun i => (none, mkF 37 [(4, .sref (.agg [.one, .one]) 0 out.length [] 0 out.length), (5, .dat (.int .i64 (i : Int))), (6, .dat (.int .i64 0))], [mkDyn (.agg [.one, .one]) (out.set i (.agg [.bool true, .str s]))])) (o' := (some 0, mkF 37 [], [mkDyn (.agg [.one, .one]) out]))
    (fun i hi => by
      have hq := allE_nth h1 hi
      obtain ⟨u, t, he⟩ := ekM_form hq
      have e1 : okS (.agg [.one, .one]) (nthD out i) = true := by rw [he]; rfl
      have e2 : okE .bool (nthD (D.getL (nthD out i)) 0) = true := by rw [he]; rfl
      have e3 : Sh.eqb (.agg [D.shape (nthD (D.getL (nthD out i)) 0), D.shape (nthD (D.getL (nthD out i)) 1)]) (.agg [.one, .one]) = true := by rw [he]; rfl
      unfold dd_step
      simp only [decide_eq_true (show (i : Int) < (out.length : Int) by omega), decide_eq_true (show (0 : Int) ≤ (i : Int) by omega), Int.toNat_natCast, Nat.zero_add, decide_eq_true hi, beq_self, e1, e2, e3, wrap_succ (show i < 2 ^ 62 by omega), Bool.not_true, Bool.or_true, Bool.true_and, Bool.and_true, T.run_br, T.run_chk, T.run_leaf, cond_true, cond_false]
      exact bif_some (freeM (nthD out i)) _ _)
    (by
      unfold dd_step
      simp only [decide_eq_false (show ¬ (out.length : Int) < (out.length : Int) by omega)]
      rfl)
  refine ⟨z, hz.trans ?_⟩
  cases out.any freeM <;> rfl
def L_dd : Frame' → Store → T (Exit × Frame' × Store) := fun fr σ => match fr.getD 1 .undef, fr.getD 7 .undef, fr.getD 8 .undef, σ with
  | AV.dat (D.str s), AV.sref (Sh.agg [Sh.one, Sh.one]) 0 m [] 0 k, AV.dat (D.int IntKind.i64 0), [{ sh := Sh.arr (Sh.agg [Sh.one, Sh.one]) 0, dyn := true, frz := false, v := AV.dat (D.arr (Sh.agg [Sh.one, Sh.one]) out) }] => .chk (Nat.beq fr.length 37 && (okEs out && Nat.beq out.length m && Nat.beq out.length k)) (T.bind (.br (out.any freeM) (.leaf (none, mkF 37 [(4, .sref (.agg [.one, .one]) 0 m [] 0 k), (5, .dat (.int .i64 ((out.findIdx freeM : Nat) : Int))), (6, .dat (.int .i64 0))], [mkDyn (.agg [.one, .one]) (out.set (out.findIdx freeM) (.agg [.bool true, .str s]))])) (.leaf (some 0, mkF 37 [], [mkDyn (.agg [.one, .one]) out]))) fun o => .leaf (outEx o.1, o.2.1, o.2.2))
  | _, _, _, _ => .fail
theorem dd_sem (lp : Loops) : ∀ fr σ p, (L_dd fr σ).run = some p → ∀ (K : Kt) r, K p.1 p.2.1 p.2.2 = some r → ∃ n, loopRun (envOf tab SpN [] lp []) Try.f6 0 σ.length n (cleanF (liveAt Try.f6 0) 0 fr) σ K = some r := by
  intro fr σ p h K r hK
  unfold L_dd at h
  split at h
  · rename_i s m k out g1 g7 g8
    obtain ⟨hc, h'⟩ := T.chk_some h
    rw [Bool.and_eq_true] at hc
    obtain ⟨hl, hc⟩ := hc
    obtain ⟨o, ho, h'⟩ := T.bind_some h'
    have hp := T.leaf_some h'
    subst hp
    obtain ⟨nF, hn⟩ : ∃ nF, (iterT (dd_step s) nF ((0, m, k, out))).run = T.run (.br (out.any freeM) (.leaf (none, mkF 37 [(4, .sref (.agg [.one, .one]) 0 m [] 0 k), (5, .dat (.int .i64 ((out.findIdx freeM : Nat) : Int))), (6, .dat (.int .i64 0))], [mkDyn (.agg [.one, .one]) (out.set (out.findIdx freeM) (.agg [.bool true, .str s]))])) (.leaf (some 0, mkF 37 [], [mkDyn (.agg [.one, .one]) out]))) := dd_closed s m k out hc
    rw [ho] at hn
    refine ⟨nF, ?_⟩
    have he : cleanF (liveAt Try.f6 0) 0 fr = dd_fr s ((0, m, k, out)) := dd_enter s _ _ _ _ fr hl g1 g7 g8
    refine (iter_ok (base := 1) (dd_hr lp s) K nF ((0, m, k, out)) _ _ (by rw [clean_clean]; exact he) (by kernel_rfl)).trans ?_
    rw [T.k_run hn]
    exact hK
  · simp [T.run_fail] at h
theorem dd_loopOk (lp : Loops) (hk : Loops.get lp 8 = some L_dd) : LoopOk (envOf tab SpN [] lp []) (loopAt Try.f6 0).1 (loopAt Try.f6 0).2 := loop_ok (L := L_dd) hk (dd_sem lp)

def ddig_v0 (ls : List D) (s : ByteArray) : List D := bif drooms_v0 ls then bif rright_v0 s then bif List.isEmpty ls then [] else bif List.any ls freeM then seg (List.set ls (List.findIdx freeM ls) (D.agg [D.bool true, D.str s])) (0 : Nat) ((0 : Nat) + List.length ls) else [] else [] else []
def ddig_v1 (ls : List D) (s : ByteArray) : Int := bif drooms_v0 ls then bif rright_v0 s then bif List.isEmpty ls then (0 : Int) else bif List.any ls freeM then (↑(List.findIdx freeM ls) : Int) else (0 : Int) else (0 : Int) else (0 : Int)
def ddig_v2 (ls : List D) (s : ByteArray) : Int := bif drooms_v0 ls then bif rright_v0 s then bif List.isEmpty ls then (8 : Int) else bif List.any ls freeM then (0 : Int) else (8 : Int) else (2 : Int) else (1 : Int)
def ddig_pre (ls : List D) (s : ByteArray) : Bool := okMs ls && (!drooms_v0 ls || rright_pre s && (!rright_v0 s || fits (Sh.agg [Sh.one, Sh.one]) ls && (decide (((0 : Nat) + List.length ls) * (24 : Nat) ≤ (35184372088832 : Nat)) && (List.isEmpty ls || okEs ls && Nat.beq (List.length ls) ((0 : Nat) + List.length ls) && Nat.beq (List.length ls) ((0 : Nat) + List.length ls) && (!List.any ls freeM || Nat.beq (List.length (List.set ls (List.findIdx freeM ls) (D.agg [D.bool true, D.str s]))) ((0 : Nat) + List.length ls))))))
def C_ddig : FunT := fun args σ => match args, σ with
  | [AV.dat (D.slc (Sh.agg [Sh.one, Sh.one]) ls), AV.dat (D.str s)], [] => .chk ((ddig_pre ls s)) (.leaf ([AV.dat (D.slc (Sh.agg [Sh.one, Sh.one]) (ddig_v0 ls s)), AV.dat (D.int IntKind.i64 (ddig_v1 ls s)), AV.dat (D.int IntKind.i64 (ddig_v2 ls s))], []))
  | _, _ => .fail
theorem ddig_raw0 (ls : List D) (s : ByteArray) : runF (envOf tab ((9, C_drooms) :: SpN) [] [(8, L_dd)] [(7, 0, [.own 7])]) true Try.f6 [.dat (.slc (.agg [.one, .one]) ls), .dat (.str s)] [] =
  (bif okMs ls then 
   (bif !drooms_v0 ls then some ([AV.dat (D.slc (Sh.agg [Sh.one, Sh.one]) []), AV.dat (D.int IntKind.i64 (0 : Int)), AV.dat (D.int IntKind.i64 (1 : Int))], []) else 
    (bif rright_pre s then 
     (bif !rright_v0 s then some ([AV.dat (D.slc (Sh.agg [Sh.one, Sh.one]) []), AV.dat (D.int IntKind.i64 (0 : Int)), AV.dat (D.int IntKind.i64 (2 : Int))], []) else 
      (bif fits (Sh.agg [Sh.one, Sh.one]) ls then 
       (bif decide (((0 : Nat) + List.length ls) * (24 : Nat) ≤ (35184372088832 : Nat)) then 
        (bif List.isEmpty ls then some ([AV.dat (D.slc (Sh.agg [Sh.one, Sh.one]) []), AV.dat (D.int IntKind.i64 (0 : Int)), AV.dat (D.int IntKind.i64 (8 : Int))], []) else 
         (bif okEs ls && Nat.beq (List.length ls) ((0 : Nat) + List.length ls) && Nat.beq (List.length ls) ((0 : Nat) + List.length ls) then 
          (bif List.any ls freeM then 
           (bif Nat.beq (List.length (List.set ls (List.findIdx freeM ls) (D.agg [D.bool true, D.str s]))) ((0 : Nat) + List.length ls) then some ([AV.dat (D.slc (Sh.agg [Sh.one, Sh.one]) (seg (List.set ls (List.findIdx freeM ls) (D.agg [D.bool true, D.str s])) (0 : Nat) ((0 : Nat) + List.length ls))), AV.dat (D.int IntKind.i64 (↑(List.findIdx freeM ls) : Int)), AV.dat (D.int IntKind.i64 (0 : Int))], []) else none) else some ([AV.dat (D.slc (Sh.agg [Sh.one, Sh.one]) []), AV.dat (D.int IntKind.i64 (0 : Int)), AV.dat (D.int IntKind.i64 (8 : Int))], [])) else none)) else none) else none)) else none)) else none) := by kernel_rfl
theorem ddig_case0 (ls : List D) (s : ByteArray) : runF (envOf tab ((9, C_drooms) :: SpN) [] [(8, L_dd)] [(7, 0, [.own 7])]) true Try.f6 [.dat (.slc (.agg [.one, .one]) ls), .dat (.str s)] [] = FunT.run C_ddig [.dat (.slc (.agg [.one, .one]) ls), .dat (.str s)] [] := (ddig_raw0 ls s).trans (by
  show _ = (cond (okMs ls && (!drooms_v0 ls || rright_pre s && (!rright_v0 s || fits (Sh.agg [Sh.one, Sh.one]) ls && (decide (((0 : Nat) + List.length ls) * (24 : Nat) ≤ (35184372088832 : Nat)) && (List.isEmpty ls || okEs ls && Nat.beq (List.length ls) ((0 : Nat) + List.length ls) && Nat.beq (List.length ls) ((0 : Nat) + List.length ls) && (!List.any ls freeM || Nat.beq (List.length (List.set ls (List.findIdx freeM ls) (D.agg [D.bool true, D.str s]))) ((0 : Nat) + List.length ls))))))) (some (([AV.dat (D.slc (Sh.agg [Sh.one, Sh.one]) (bif drooms_v0 ls then bif rright_v0 s then bif List.isEmpty ls then [] else bif List.any ls freeM then seg (List.set ls (List.findIdx freeM ls) (D.agg [D.bool true, D.str s])) (0 : Nat) ((0 : Nat) + List.length ls) else [] else [] else [])), AV.dat (D.int IntKind.i64 (bif drooms_v0 ls then bif rright_v0 s then bif List.isEmpty ls then (0 : Int) else bif List.any ls freeM then (↑(List.findIdx freeM ls) : Int) else (0 : Int) else (0 : Int) else (0 : Int))), AV.dat (D.int IntKind.i64 (bif drooms_v0 ls then bif rright_v0 s then bif List.isEmpty ls then (8 : Int) else bif List.any ls freeM then (0 : Int) else (8 : Int) else (2 : Int) else (1 : Int)))], []) : Res)) none)
  generalize (okMs ls) = z0
  cases z0 with
  | true =>
   generalize (drooms_v0 ls) = z1
   cases z1 with
   | true =>
    generalize (rright_pre s) = z2
    cases z2 with
    | true =>
     generalize (rright_v0 s) = z3
     cases z3 with
     | true =>
      generalize (fits (Sh.agg [Sh.one, Sh.one]) ls) = z4
      cases z4 with
      | true =>
       generalize (decide (((0 : Nat) + List.length ls) * (24 : Nat) ≤ (35184372088832 : Nat))) = z5
       cases z5 with
       | true =>
        generalize (List.isEmpty ls) = z6
        cases z6 with
        | true =>
         rfl
        | false =>
         generalize (okEs ls && Nat.beq (List.length ls) ((0 : Nat) + List.length ls) && Nat.beq (List.length ls) ((0 : Nat) + List.length ls)) = z7
         cases z7 with
         | true =>
          generalize (List.any ls freeM) = z8
          cases z8 with
          | true =>
           generalize (Nat.beq (List.length (List.set ls (List.findIdx freeM ls) (D.agg [D.bool true, D.str s]))) ((0 : Nat) + List.length ls)) = z9
           cases z9 with
           | true =>
            rfl
           | false =>
            rfl
          | false =>
           rfl
         | false =>
          rfl
       | false =>
        rfl
      | false =>
       rfl
     | false =>
      rfl
    | false =>
     rfl
   | false =>
    rfl
  | false =>
   rfl
  )
theorem cddig_ok : FunOk Try.prog 6 (FunT.run C_ddig) := by
  refine fun_ok (E := envOf tab ((9, C_drooms) :: SpN) [] [(8, L_dd)] [(7, 0, [.own 7])]) (fz := true) (fn := Try.f6) (envOf_ok progOk (.cons cdrooms_ok SpN_ok)) (by kernel_rfl) (by kernel_rfl) (loops_one (by kernel_rfl) (dd_loopOk _ rfl)) ?_
  intro args σ r h
  unfold C_ddig at h
  split at h
  · exact (ddig_case0 _ _).trans h
  · simp [T.run_fail] at h


end Go.Proofs.Ytiegehdiffemlaa
