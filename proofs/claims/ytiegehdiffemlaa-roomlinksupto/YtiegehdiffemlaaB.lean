/- Seat 15: rows of rooms. -/
import Derived.Test.YtiegehdiffemlaaA
namespace Go.Proofs.Ytiegehdiffemlaa
open Go.AX
set_option maxRecDepth 100000

abbrev SpN : Specs := [(15, C_nright), (18, C_rright)]
theorem SpN_ok : SpecsOk Try.prog SpN := .cons cnright_ok (.cons crright_ok (.nil _))
abbrev shM : Sh := .agg [.one, .one]
def wrm_v0 (u : Bool) (s : ByteArray) : Bool := bif u then !nright_v0 s else !decide (Array.toList (ByteArray.data s) = [])
def wrm_pre (u : Bool) (s : ByteArray) : Bool := !u || nright_pre s
def C_wrm : FunT := fun args σ => match args, σ with
  | [AV.dat (D.agg [D.bool u, D.str s])], [] => .chk ((wrm_pre u s)) (.leaf ([AV.dat (D.bool (wrm_v0 u s))], []))
  | _, _ => .fail
theorem wrm_raw0 (u : Bool) (s : ByteArray) : runF (envOf tab SpN [] [] []) true Try.f21 [.dat (.agg [.bool u, .str s])] [] =
  (bif u == true then 
   (bif nright_pre s then 
    (bif u then 
     (bif (!nright_v0 s) == false then 
      (bif (!u) == true then 
       (bif !u then 
        (bif !nright_v0 s then some ([AV.dat (D.bool true)], []) else some ([AV.dat (D.bool !decide (Array.toList (ByteArray.data s) = []))], [])) else 
        (bif !nright_v0 s then some ([AV.dat (D.bool true)], []) else some ([AV.dat (D.bool false)], []))) else 
       (bif !u then 
        (bif !nright_v0 s then some ([AV.dat (D.bool true)], []) else none) else 
        (bif !nright_v0 s then some ([AV.dat (D.bool true)], []) else some ([AV.dat (D.bool false)], [])))) else 
      (bif !nright_v0 s then some ([AV.dat (D.bool true)], []) else none)) else 
     (bif (!u) == true then 
      (bif !u then some ([AV.dat (D.bool !decide (Array.toList (ByteArray.data s) = []))], []) else some ([AV.dat (D.bool false)], [])) else 
      (bif !u then none else some ([AV.dat (D.bool false)], [])))) else none) else 
   (bif u then none else 
    (bif (!u) == true then 
     (bif !u then some ([AV.dat (D.bool !decide (Array.toList (ByteArray.data s) = []))], []) else some ([AV.dat (D.bool false)], [])) else 
     (bif !u then none else some ([AV.dat (D.bool false)], []))))) := by kernel_rfl
theorem wrm_case0 (u : Bool) (s : ByteArray) : runF (envOf tab SpN [] [] []) true Try.f21 [.dat (.agg [.bool u, .str s])] [] = FunT.run C_wrm [.dat (.agg [.bool u, .str s])] [] := (wrm_raw0 u s).trans (by
  show _ = (cond (!u || nright_pre s) (some (([AV.dat (D.bool (bif u then !nright_v0 s else !decide (Array.toList (ByteArray.data s) = [])))], []) : Res)) none)
  generalize (u) = z0
  cases z0 with
  | true =>
   generalize (nright_pre s) = z1
   cases z1 with
   | true =>
    generalize (nright_v0 s) = z2
    cases z2 with
    | true =>
     rfl
    | false =>
     rfl
   | false =>
    rfl
  | false =>
   rfl
  )
theorem cwrm_ok : FunOk Try.prog 21 (FunT.run C_wrm) := by
  refine fun_ok (E := envOf tab SpN [] [] []) (fz := true) (fn := Try.f21) (envOf_ok progOk SpN_ok) (by kernel_rfl) (by kernel_rfl) (loops_none (by kernel_rfl)) ?_
  intro args σ r h
  unfold C_wrm at h
  split at h
  · exact (wrm_case0 _ _).trans h
  · simp [T.run_fail] at h

def C_tkm : FunT := fun args σ => match args, σ with
  | [AV.dat (D.agg [D.bool u, D.str _])], [] => .leaf ([AV.dat (D.bool u)], [])
  | _, _ => .fail
theorem tkm_raw0 (u : Bool) (s : ByteArray) : runF (envOf tab [] [] [] []) true Try.f34 [.dat (.agg [.bool u, .str s])] [] =some ([AV.dat (D.bool u)], []) := by kernel_rfl
theorem tkm_case0 (u : Bool) (s : ByteArray) : runF (envOf tab [] [] [] []) true Try.f34 [.dat (.agg [.bool u, .str s])] [] = FunT.run C_tkm [.dat (.agg [.bool u, .str s])] [] := (tkm_raw0 u s).trans (by
  show _ = some (([AV.dat (D.bool u)], []) : Res)
  rfl
  )
theorem ctkm_ok : FunOk Try.prog 34 (FunT.run C_tkm) := by
  refine fun_ok (E := envOf tab [] [] [] []) (fz := true) (fn := Try.f34) (envOf_ok progOk (.nil _)) (by kernel_rfl) (by kernel_rfl) (loops_none (by kernel_rfl)) ?_
  intro args σ r h
  unfold C_tkm at h
  split at h
  · exact (tkm_case0 _ _).trans h
  · simp [T.run_fail] at h

abbrev usedD (d : D) : Bool := D.getB (nthD (D.getL d) 0)
abbrev nmD (d : D) : ByteArray := D.getS (nthD (D.getL d) 1)
def im_fr (ls : List D) (n : Int) : Int → Frame' := fun i => mkF 19 [(0, .dat (.slc (.agg [.one,.one]) ls)), (1, (.dat (.fn (.func 21) [] []))), (7, .dat (.int .i64 n)), (8, .dat (.int .i64 i))]
def im_st (_ : List D) (_ : Int) : Int → Store := fun _ => ([])
def im_step (ls : List D) (n : Int) : Int → T (Int ⊕ LOut) := fun i => 
  .br (decide (i < n)) (
   .chk (decide ((0 : Int) ≤ i)) (
    .chk (decide (Int.toNat i < List.length ls)) (
     .chk (okE (Ek.agg [Ek.bool, Ek.str]) (nthD ls (Int.toNat i))) (
      .chk (wrm_pre (D.getB (nthD (D.getL (nthD ls (Int.toNat i))) (0 : Nat))) (D.getS (nthD (D.getL (nthD ls (Int.toNat i))) (1 : Nat)))) (
       .br (wrm_v0 (D.getB (nthD (D.getL (nthD ls (Int.toNat i))) (0 : Nat))) (D.getS (nthD (D.getL (nthD ls (Int.toNat i))) (1 : Nat)))) (.leaf (.inr (none, mkF (19 : Nat) [((4 : Nat), AV.dat (D.int IntKind.i64 i))], []))) (.leaf (.inl (IntKind.wrap IntKind.i64 (i + (1 : Int)))))))))) (.leaf (.inr ((some (0 : Nat)), mkF (19 : Nat) [], [])))
theorem im_round (lp : Loops) (ls : List D) (n : Int) (i : Int) (K : Kt) : oneRound (envOf tab ([(21, C_wrm)]) [] lp []) Try.f37 0 (0) (mkF 19 [(0, .dat (.slc (.agg [.one,.one]) ls)), (1, (.dat (.fn (.func 21) [] []))), (7, .dat (.int .i64 n)), (8, .dat (.int .i64 i))]) (([])) K =
  (bif decide (i < n) then 
   (bif decide ((0 : Int) ≤ i) then 
    (bif decide (Int.toNat i < List.length ls) then 
     (bif okE (Ek.agg [Ek.bool, Ek.str]) (nthD ls (Int.toNat i)) then 
      (bif wrm_pre (D.getB (nthD (D.getL (nthD ls (Int.toNat i))) (0 : Nat))) (D.getS (nthD (D.getL (nthD ls (Int.toNat i))) (1 : Nat))) then 
       (bif wrm_v0 (D.getB (nthD (D.getL (nthD ls (Int.toNat i))) (0 : Nat))) (D.getS (nthD (D.getL (nthD ls (Int.toNat i))) (1 : Nat))) then K (Exit.ret) (mkF (19 : Nat) [((4 : Nat), AV.dat (D.int IntKind.i64 i))]) ([]) else K (Exit.normal) (mkF (19 : Nat) [((0 : Nat), AV.dat (D.slc (Sh.agg [Sh.one, Sh.one]) ls)), ((1 : Nat), AV.dat (D.fn (Fn.func (21 : Nat)) [] [])), ((7 : Nat), AV.dat (D.int IntKind.i64 n)), ((8 : Nat), AV.dat (D.int IntKind.i64 (IntKind.wrap IntKind.i64 (i + (1 : Int))))), ((9 : Nat), AV.dat (D.bool (decide (i < n)))), ((18 : Nat), AV.dat (D.int IntKind.i64 (IntKind.wrap IntKind.i64 (i + (1 : Int)))))]) ([])) else none) else none) else none) else none) else K (Exit.exit (0 : Nat)) (mkF (19 : Nat) []) ([])) := by kernel_rfl
theorem im_hr (lp : Loops) (ls : List D) (n : Int) : ∀ (sA : Int) (K : Kt) (N : Int → Option Res), (∀ sB fr' σ', cleanF (liveAt Try.f37 0) 0 fr' = im_fr ls n sB → trim (0) (im_fr ls n sB) σ' = im_st ls n sB → K .normal fr' σ' = N sB) →
    oneRound (envOf tab ([(21, C_wrm)]) [] lp []) Try.f37 0 (0) (im_fr ls n sA) (im_st ls n sA) K = (im_step ls n sA).k (LK K N) := by
  intro i K N hN
  exact (im_round lp ls n i K).trans (cong2 (cong2 (cong2 (cong2 (cong2 (cong2 rfl (hN (IntKind.wrap IntKind.i64 (i + (1 : Int))) _ _ (by kernel_rfl) (by kernel_rfl))) rfl) rfl) rfl) rfl) rfl)
theorem im_enter (ls : List D) (n : Int) (i : Int) (fr : Frame') (hl : Nat.beq fr.length 19 = true) (g0 : fr.getD 0 .undef = AV.dat (D.slc (Sh.agg [Sh.one, Sh.one]) ls)) (g1 : fr.getD 1 .undef = AV.dat (D.fn (Fn.func 21) [] [])) (g7 : fr.getD 7 .undef = AV.dat (D.int IntKind.i64 n)) (g8 : fr.getD 8 .undef = AV.dat (D.int IntKind.i64 i)) : cleanF (liveAt Try.f37 0) 0 fr = im_fr ls n i := by
  have e : liveAt Try.f37 0 = [7, 1, 0, 8] := by kernel_rfl
  rw [clean_mk (Nat.eq_of_beq_eq_true hl), e]
  show mkF 19 [(7, fr.getD 7 .undef), (1, fr.getD 1 .undef), (0, fr.getD 0 .undef), (8, fr.getD 8 .undef)] = _
  rw [g7, g1, g0, g8]
  kernel_rfl

def im_idx  (ls : List D) : Int := bif ls.any ((fun d => wrm_v0 (usedD d) (nmD d))) then ((ls.findIdx ((fun d => wrm_v0 (usedD d) (nmD d))) : Nat) : Int) else -1
def im_okL  (ls : List D) : Bool := ls.all ((fun d => okE (.agg [.bool,.str]) d && wrm_pre (usedD d) (nmD d))) && decide (ls.length ≤ 1099511627776)
theorem im_closed (ls : List D) (n : Int)  (hc : (decide (n = (ls.length : Int)) && im_okL  ls) = true) :
    ∃ m, (iterT (im_step ls n ) m 0).run = T.run (.br (ls.any ((fun d => wrm_v0 (usedD d) (nmD d)))) (.leaf (none, mkF 19 [(4, .dat (.int .i64 (ls.findIdx ((fun d => wrm_v0 (usedD d) (nmD d))) : Nat)))], ([]))) (.leaf (some 0, mkF 19 [], ([])))) := by
  unfold im_okL at hc
  simp only [Bool.and_eq_true, decide_eq_true_eq] at hc
  obtain ⟨rfl, h1, h2⟩ := hc
  obtain ⟨m, hm⟩ := iter_find (step := im_step ls ls.length ) (ls := ls) (p := (fun d => wrm_v0 (usedD d) (nmD d))) (o := fun k => (none, mkF 19 [(4, .dat (.int .i64 (k : Int)))], ([]))) (o' := (some 0, mkF 19 [], ([])))
    (fun k hk => by
      have hq := List.all_eq_true.1 h1 _ (nthD_mem hk)
      try simp only [Bool.and_eq_true] at hq
      unfold im_step
      simp only [decide_eq_true (show (k : Int) < (ls.length : Int) by omega), decide_eq_true (show (0 : Int) ≤ (k : Int) by omega), Int.toNat_natCast, decide_eq_true hk, hq, wrap_succ (show k < 2 ^ 62 by omega), T.run_br, T.run_chk, T.run_leaf, cond_true]
      exact bif_some (((fun d => wrm_v0 (usedD d) (nmD d))) (nthD ls k)) _ _)
    (by
      unfold im_step
      rw [decide_eq_false (show ¬ (ls.length : Int) < (ls.length : Int) by omega)]
      rfl)
  refine ⟨m, hm.trans ?_⟩
  cases ls.any ((fun d => wrm_v0 (usedD d) (nmD d))) <;> rfl

def L_im : Frame' → Store → T (Exit × Frame' × Store) := fun fr σ => match fr.getD 0 .undef, fr.getD 1 .undef, fr.getD 7 .undef, fr.getD 8 .undef, σ with
  | AV.dat (D.slc (Sh.agg [Sh.one, Sh.one]) ls), AV.dat (D.fn (Fn.func 21) [] []), AV.dat (D.int IntKind.i64 n), AV.dat (D.int IntKind.i64 0), [] => .chk (Nat.beq fr.length 19 && (decide (n = (ls.length : Int)) && im_okL  ls)) (T.bind (.br (ls.any ((fun d => wrm_v0 (usedD d) (nmD d)))) (.leaf (none, mkF 19 [(4, .dat (.int .i64 (ls.findIdx ((fun d => wrm_v0 (usedD d) (nmD d))) : Nat)))], ([]))) (.leaf (some 0, mkF 19 [], ([])))) fun o => .leaf (outEx o.1, o.2.1, o.2.2))
  | _, _, _, _, _ => .fail
theorem im_sem (lp : Loops) : ∀ fr σ p, (L_im fr σ).run = some p → ∀ (K : Kt) r, K p.1 p.2.1 p.2.2 = some r → ∃ n, loopRun (envOf tab ([(21, C_wrm)]) [] lp []) Try.f37 0 σ.length n (cleanF (liveAt Try.f37 0) 0 fr) σ K = some r := by
  intro fr σ p h K r hK
  unfold L_im at h
  split at h
  · rename_i ls n g0 g1 g7 g8
    obtain ⟨hc, h'⟩ := T.chk_some h
    rw [Bool.and_eq_true] at hc
    obtain ⟨hl, hc⟩ := hc
    obtain ⟨o, ho, h'⟩ := T.bind_some h'
    have hp := T.leaf_some h'
    subst hp
    obtain ⟨nF, hn⟩ : ∃ nF, (iterT (im_step ls n) nF (0)).run = T.run (.br (ls.any ((fun d => wrm_v0 (usedD d) (nmD d)))) (.leaf (none, mkF 19 [(4, .dat (.int .i64 (ls.findIdx ((fun d => wrm_v0 (usedD d) (nmD d))) : Nat)))], ([]))) (.leaf (some 0, mkF 19 [], ([])))) := im_closed ls n  hc
    rw [ho] at hn
    refine ⟨nF, ?_⟩
    have he : cleanF (liveAt Try.f37 0) 0 fr = im_fr ls n (0) := im_enter ls n _ fr hl g0 g1 g7 g8
    refine (iter_ok (base := 0) (im_hr lp ls n) K nF (0) _ _ (by rw [clean_clean]; exact he) (by kernel_rfl)).trans ?_
    rw [T.k_run hn]
    exact hK
  · simp [T.run_fail] at h
theorem im_loopOk (lp : Loops) (hk : Loops.get lp 2 = some L_im) : LoopOk (envOf tab ([(21, C_wrm)]) [] lp []) (loopAt Try.f37 0).1 (loopAt Try.f37 0).2 := loop_ok (L := L_im) hk (im_sem lp)


def S_im : FunT := fun args σ => match args, σ with
  | [AV.dat (D.slc (Sh.agg [Sh.one, Sh.one]) ls), AV.dat (D.fn (Fn.func 21) [] [])], [] => 
    .chk (decide ((↑(List.length ls) : Int) = (↑(List.length ls) : Int)) && im_okL ls) (.leaf ([AV.dat (D.int IntKind.i64 (bif List.any ls fun d => wrm_v0 (usedD d) (nmD d) then (↑(List.findIdx (fun d => wrm_v0 (usedD d) (nmD d)) ls) : Int) else (-1 : Int)))], []))
  | _, _ => .fail
theorem im_raw0 (ls : List D) : runF (envOf tab ([(21, C_wrm)]) [] [(2, L_im)] []) true Try.f37 [.dat (.slc (.agg [.one,.one]) ls), (.dat (.fn (.func 21) [] []))] ([]) =
  (bif decide ((↑(List.length ls) : Int) = (↑(List.length ls) : Int)) && im_okL ls then 
   (bif List.any ls fun d => wrm_v0 (usedD d) (nmD d) then some ([AV.dat (D.int IntKind.i64 (↑(List.findIdx (fun d => wrm_v0 (usedD d) (nmD d)) ls) : Int))], []) else some ([AV.dat (D.int IntKind.i64 (-1 : Int))], [])) else none) := by kernel_rfl
theorem im_case0 (ls : List D) : runF (envOf tab ([(21, C_wrm)]) [] [(2, L_im)] []) true Try.f37 [.dat (.slc (.agg [.one,.one]) ls), (.dat (.fn (.func 21) [] []))] ([]) = FunT.run S_im [.dat (.slc (.agg [.one,.one]) ls), (.dat (.fn (.func 21) [] []))] ([]) := (im_raw0 ls).trans (cong2 (cond_cases (fun h0 => (by (try rw [h0]) <;> rfl)) (fun h0 => (by (try rw [h0]) <;> rfl))) rfl)
theorem im_ok : FunOk Try.prog 37 (FunT.run S_im) := by
  refine fun_ok (E := envOf tab ([(21, C_wrm)]) [] [(2, L_im)] []) (fz := true) (fn := Try.f37) (envOf_ok progOk (.cons cwrm_ok (.nil _))) (by kernel_rfl) (by kernel_rfl) (loops_one (by kernel_rfl) (im_loopOk _ rfl)) ?_
  intro args σ r h
  unfold S_im at h
  split at h
  · exact (im_case0 _).trans h
  · simp [T.run_fail] at h

def C_im : FunT := fun args σ => match args, σ with
  | [.dat (.slc (.agg [.one,.one]) ls), (.dat (.fn (.func 21) [] []))], ([]) => .chk (im_okL  ls) (.leaf ([.dat (.int .i64 (im_idx  ls))], ([])))
  | _, _ => .fail
theorem cim_ok : FunOk Try.prog 37 (FunT.run C_im) := im_ok.of (by
  intro args σ r h
  unfold C_im at h
  split at h
  · rename_i ls 
    obtain ⟨hc, h'⟩ := T.chk_some h
    rw [← T.leaf_some h']
    unfold S_im im_idx
    simp only [hc, decide_true, Bool.and_true, T.run_chk, T.run_leaf, cond_true]
    all_goals (cases ls.any ((fun d => wrm_v0 (usedD d) (nmD d))) <;> rfl)
  · simp [T.run_fail] at h)

abbrev shR : Sh := .agg [.one, .one]
abbrev pR (i : Nat) : AV := .ptr shR i 0 []
abbrev boxB (i : Nat) : Blk := ⟨.one, false, false, pR i⟩
abbrev mrow (ds : List D) : Blk := ⟨shR, false, false, .dat (.agg [.slc (.agg [.one, .one]) ds, .fn (.func 34) [] []])⟩
theorem cm0  : runF (envOf tab [] [] [] []) true Try.f47 [.dat (.slc (.agg [.one, .one]) [])] [] =some ([AV.dat (D.slc (Sh.agg [Sh.one, Sh.one]) [])], []) := by kernel_rfl
theorem cm1 (d : D) (ds : List D) : runF (envOf tab [] [] [] []) true Try.f47 [.dat (.slc (.agg [.one, .one]) (d :: ds))] [] =
  (bif fits (Sh.agg [Sh.one, Sh.one]) (d :: ds) then 
   (bif decide (((0 : Nat) + List.length (d :: ds)) * (24 : Nat) ≤ (35184372088832 : Nat)) then 
    (bif Nat.beq (List.length (d :: ds)) ((0 : Nat) + List.length (d :: ds)) then some ([AV.dat (D.slc (Sh.agg [Sh.one, Sh.one]) (seg (d :: ds) (0 : Nat) ((0 : Nat) + List.length (d :: ds))))], []) else none) else none) else none) := by kernel_rfl
theorem cmO1 (d : D) (ds : List D) : runF (envOf tab [] [] [] []) false Try.f47 [.dat (.slc (.agg [.one, .one]) (d :: ds))] [] =
  (bif fits (Sh.agg [Sh.one, Sh.one]) (d :: ds) then 
   (bif decide (((0 : Nat) + List.length (d :: ds)) * (24 : Nat) ≤ (35184372088832 : Nat)) then some ([AV.sref (Sh.agg [Sh.one, Sh.one]) (0 : Nat) ((0 : Nat) + List.length (d :: ds)) [] (0 : Nat) ((0 : Nat) + List.length (d :: ds))], [{ sh := Sh.arr (Sh.agg [Sh.one, Sh.one]) (0 : Nat), dyn := true, frz := false, v := AV.dat (D.arr (Sh.agg [Sh.one, Sh.one]) (d :: ds)) }]) else none) else none) := by kernel_rfl
def S_cm : FunT := fun args σ => match args, σ with
  | [.dat (.slc (.agg [.one, .one]) ds)], [] => .chk (fits (.agg [.one, .one]) ds && decide (ds.length * 24 ≤ LIM)) (.leaf ([.dat (.slc (.agg [.one, .one]) ds)], []))
  | _, _ => .fail
theorem cm_ok : FunOk Try.prog 47 (FunT.run S_cm) := by
  refine fun_ok (E := envOf tab [] [] [] []) (fz := true) (fn := Try.f47) (envOf_ok progOk (.nil _)) (by kernel_rfl) (by kernel_rfl) (loops_none (by kernel_rfl)) ?_
  intro args σ r h
  unfold S_cm at h
  split at h
  · rename_i ds
    obtain ⟨hc, h'⟩ := T.chk_some h
    rw [← T.leaf_some h']
    simp only [Bool.and_eq_true, decide_eq_true_eq] at hc
    cases ds with
    | nil => exact cm0
    | cons d ds =>
      rw [cm1, hc.1, Nat.zero_add, decide_eq_true (show (d :: ds).length * 24 ≤ 35184372088832 from hc.2), beq_self, seg_full]; rfl
  · simp [T.run_fail] at h
def S_cmO : FunT := fun args σ => match args, σ with
  | [.dat (.slc (.agg [.one, .one]) ds)], [] => .chk (!ds.isEmpty && fits (.agg [.one, .one]) ds && decide (ds.length * 24 ≤ LIM)) (.leaf ([.sref (.agg [.one, .one]) 0 ds.length [] 0 ds.length], [mkDyn (.agg [.one, .one]) ds]))
  | _, _ => .fail
theorem cmO_ok : FunOk Try.prog 47 (FunT.run S_cmO) := by
  refine fun_ok (E := envOf tab [] [] [] []) (fz := false) (fn := Try.f47) (envOf_ok progOk (.nil _)) (by kernel_rfl) (by kernel_rfl) (loops_none (by kernel_rfl)) ?_
  intro args σ r h
  unfold S_cmO at h
  split at h
  · rename_i ds
    obtain ⟨hc, h'⟩ := T.chk_some h
    rw [← T.leaf_some h']
    simp only [Bool.and_eq_true, decide_eq_true_eq] at hc
    cases ds with
    | nil => simp at hc
    | cons d ds => rw [cmO1, hc.1.2, Nat.zero_add, decide_eq_true (show (d :: ds).length * 24 ≤ 35184372088832 from hc.2)]; rfl
  · simp [T.run_fail] at h
def ofm_pre (ds : List D) : Bool := fits (Sh.agg [Sh.one, Sh.one]) ds && decide (List.length ds * (24 : Nat) ≤ (35184372088832 : Nat))
def C_ofm : FunT := fun args σ => match args, σ with
  | [AV.dat (D.slc (Sh.agg [Sh.one, Sh.one]) ds), AV.dat (D.fn (Fn.func f) [] [])], [] => .chk ((ofm_pre ds)) (.leaf ([AV.ptr (Sh.agg [Sh.one, Sh.one]) (0 : Nat) (0 : Nat) []], [{ sh := Sh.agg [Sh.one, Sh.one], dyn := false, frz := false, v := AV.dat (D.agg [D.slc (Sh.agg [Sh.one, Sh.one]) ds, D.fn (Fn.func f) [] []]) }]))
  | _, _ => .fail
theorem ofm_raw0 (ds : List D) (f : FuncId) : runF (envOf tab [(47, S_cm)] [] [] []) false Try.f33 [.dat (.slc (.agg [.one, .one]) ds), .dat (.fn (.func f) [] [])] [] =
  (bif fits (Sh.agg [Sh.one, Sh.one]) ds && decide (List.length ds * (24 : Nat) ≤ (35184372088832 : Nat)) then some ([AV.ptr (Sh.agg [Sh.one, Sh.one]) (0 : Nat) (0 : Nat) []], [{ sh := Sh.agg [Sh.one, Sh.one], dyn := false, frz := false, v := AV.dat (D.agg [D.slc (Sh.agg [Sh.one, Sh.one]) ds, D.fn (Fn.func f) [] []]) }]) else none) := by kernel_rfl
theorem ofm_case0 (ds : List D) (f : FuncId) : runF (envOf tab [(47, S_cm)] [] [] []) false Try.f33 [.dat (.slc (.agg [.one, .one]) ds), .dat (.fn (.func f) [] [])] [] = FunT.run C_ofm [.dat (.slc (.agg [.one, .one]) ds), .dat (.fn (.func f) [] [])] [] := (ofm_raw0 ds f).trans (by
  show _ = (cond (fits (Sh.agg [Sh.one, Sh.one]) ds && decide (List.length ds * (24 : Nat) ≤ (35184372088832 : Nat))) (some (([AV.ptr (Sh.agg [Sh.one, Sh.one]) (0 : Nat) (0 : Nat) []], [{ sh := Sh.agg [Sh.one, Sh.one], dyn := false, frz := false, v := AV.dat (D.agg [D.slc (Sh.agg [Sh.one, Sh.one]) ds, D.fn (Fn.func f) [] []]) }]) : Res)) none)
  generalize (fits (Sh.agg [Sh.one, Sh.one]) ds && decide (List.length ds * (24 : Nat) ≤ (35184372088832 : Nat))) = z0
  cases z0 with
  | true =>
   rfl
  | false =>
   rfl
  )
theorem cofm_ok : FunOk Try.prog 33 (FunT.run C_ofm) := by
  refine fun_ok (E := envOf tab [(47, S_cm)] [] [] []) (fz := false) (fn := Try.f33) (envOf_ok progOk (.cons cm_ok (.nil _))) (by kernel_rfl) (by kernel_rfl) (loops_none (by kernel_rfl)) ?_
  intro args σ r h
  unfold C_ofm at h
  split at h
  · exact (ofm_case0 _ _).trans h
  · simp [T.run_fail] at h

def C_rooms : FunT := fun args σ => match args, σ with
  | [AV.dat (D.slc (Sh.agg [Sh.one, Sh.one]) ds)], [] => .chk (ofm_pre ds) (.leaf ([AV.ptr (Sh.agg [Sh.one, Sh.one]) (0 : Nat) (0 : Nat) []], [{ sh := Sh.agg [Sh.one, Sh.one], dyn := false, frz := false, v := AV.dat (D.agg [D.slc (Sh.agg [Sh.one, Sh.one]) ds, D.fn (Fn.func (34 : Nat)) [] []]) }]))
  | _, _ => .fail
theorem rooms_raw0 (ds : List D) : runF (envOf tab [(33, C_ofm)] [] [] []) false Try.f16 [.dat (.slc (.agg [.one, .one]) ds)] [] =
  (bif ofm_pre ds then some ([AV.ptr (Sh.agg [Sh.one, Sh.one]) (0 : Nat) (0 : Nat) []], [{ sh := Sh.agg [Sh.one, Sh.one], dyn := false, frz := false, v := AV.dat (D.agg [D.slc (Sh.agg [Sh.one, Sh.one]) ds, D.fn (Fn.func (34 : Nat)) [] []]) }]) else none) := by kernel_rfl
theorem rooms_case0 (ds : List D) : runF (envOf tab [(33, C_ofm)] [] [] []) false Try.f16 [.dat (.slc (.agg [.one, .one]) ds)] [] = FunT.run C_rooms [.dat (.slc (.agg [.one, .one]) ds)] [] := (rooms_raw0 ds).trans (by
  show _ = (cond (ofm_pre ds) (some (([AV.ptr (Sh.agg [Sh.one, Sh.one]) (0 : Nat) (0 : Nat) []], [{ sh := Sh.agg [Sh.one, Sh.one], dyn := false, frz := false, v := AV.dat (D.agg [D.slc (Sh.agg [Sh.one, Sh.one]) ds, D.fn (Fn.func (34 : Nat)) [] []]) }]) : Res)) none)
  generalize (ofm_pre ds) = z0
  cases z0 with
  | true =>
   rfl
  | false =>
   rfl
  )
theorem crooms_ok : FunOk Try.prog 16 (FunT.run C_rooms) := by
  refine fun_ok (E := envOf tab [(33, C_ofm)] [] [] []) (fz := false) (fn := Try.f16) (envOf_ok progOk (.cons cofm_ok (.nil _))) (by kernel_rfl) (by kernel_rfl) (loops_none (by kernel_rfl)) ?_
  intro args σ r h
  unfold C_rooms at h
  split at h
  · exact (rooms_case0 _).trans h
  · simp [T.run_fail] at h

def C_mdm : FunT := fun args σ => match args, σ with
  | [AV.ptr (Sh.agg [Sh.one, Sh.one]) 0 0 []], [{ sh := Sh.agg [Sh.one, Sh.one], dyn := false, frz := false, v := AV.dat (D.agg [D.slc (Sh.agg [Sh.one, Sh.one]) ds, D.fn (Fn.func 34) [] []]) }] => .leaf ([AV.dat (D.bool true)], [{ sh := Sh.agg [Sh.one, Sh.one], dyn := false, frz := false, v := AV.dat (D.agg [D.slc (Sh.agg [Sh.one, Sh.one]) ds, D.fn (Fn.func (34 : Nat)) [] []]) }])
  | _, _ => .fail
theorem mdm_raw0 (ds : List D) : runF (envOf tab [] [] [] []) true Try.f48 [pR 0] [mrow ds] =some ([AV.dat (D.bool true)], [{ sh := Sh.agg [Sh.one, Sh.one], dyn := false, frz := false, v := AV.dat (D.agg [D.slc (Sh.agg [Sh.one, Sh.one]) ds, D.fn (Fn.func (34 : Nat)) [] []]) }]) := by kernel_rfl
theorem mdm_case0 (ds : List D) : runF (envOf tab [] [] [] []) true Try.f48 [pR 0] [mrow ds] = FunT.run C_mdm [pR 0] [mrow ds] := (mdm_raw0 ds).trans (by
  show _ = some (([AV.dat (D.bool true)], [{ sh := Sh.agg [Sh.one, Sh.one], dyn := false, frz := false, v := AV.dat (D.agg [D.slc (Sh.agg [Sh.one, Sh.one]) ds, D.fn (Fn.func (34 : Nat)) [] []]) }]) : Res)
  rfl
  )
theorem cmdm_ok : FunOk Try.prog 48 (FunT.run C_mdm) := by
  refine fun_ok (E := envOf tab [] [] [] []) (fz := true) (fn := Try.f48) (envOf_ok progOk (.nil _)) (by kernel_rfl) (by kernel_rfl) (loops_none (by kernel_rfl)) ?_
  intro args σ r h
  unfold C_mdm at h
  split at h
  · exact (mdm_case0 _).trans h
  · simp [T.run_fail] at h

def frm_v0 (u : Bool) : Bool := !u
def C_frm : FunT := fun args σ => match args, σ with
  | [AV.dat (D.agg [D.bool u, D.str _]), AV.ptr Sh.one 0 0 []], [{ sh := Sh.one, dyn := false, frz := false, v := AV.ptr (Sh.agg [Sh.one, Sh.one]) 1 0 [] }, { sh := Sh.agg [Sh.one, Sh.one], dyn := false, frz := false, v := AV.dat (D.agg [D.slc (Sh.agg [Sh.one, Sh.one]) ds, D.fn (Fn.func 34) [] []]) }] => .leaf ([AV.dat (D.bool (frm_v0 u))], [{ sh := Sh.one, dyn := false, frz := false, v := AV.ptr (Sh.agg [Sh.one, Sh.one]) (1 : Nat) (0 : Nat) [] }, { sh := Sh.agg [Sh.one, Sh.one], dyn := false, frz := false, v := AV.dat (D.agg [D.slc (Sh.agg [Sh.one, Sh.one]) ds, D.fn (Fn.func (34 : Nat)) [] []]) }])
  | _, _ => .fail
theorem frm_raw0 (u : Bool) (s : ByteArray) (ds : List D) : runF (envOf tab [(34, C_tkm)] [] [] []) true Try.f49 [.dat (.agg [.bool u, .str s]), .ptr .one 0 0 []] [boxB 1, mrow ds] =some ([AV.dat (D.bool !u)], [{ sh := Sh.one, dyn := false, frz := false, v := AV.ptr (Sh.agg [Sh.one, Sh.one]) (1 : Nat) (0 : Nat) [] }, { sh := Sh.agg [Sh.one, Sh.one], dyn := false, frz := false, v := AV.dat (D.agg [D.slc (Sh.agg [Sh.one, Sh.one]) ds, D.fn (Fn.func (34 : Nat)) [] []]) }]) := by kernel_rfl
theorem frm_case0 (u : Bool) (s : ByteArray) (ds : List D) : runF (envOf tab [(34, C_tkm)] [] [] []) true Try.f49 [.dat (.agg [.bool u, .str s]), .ptr .one 0 0 []] [boxB 1, mrow ds] = FunT.run C_frm [.dat (.agg [.bool u, .str s]), .ptr .one 0 0 []] [boxB 1, mrow ds] := (frm_raw0 u s ds).trans (by
  show _ = some (([AV.dat (D.bool !u)], [{ sh := Sh.one, dyn := false, frz := false, v := AV.ptr (Sh.agg [Sh.one, Sh.one]) (1 : Nat) (0 : Nat) [] }, { sh := Sh.agg [Sh.one, Sh.one], dyn := false, frz := false, v := AV.dat (D.agg [D.slc (Sh.agg [Sh.one, Sh.one]) ds, D.fn (Fn.func (34 : Nat)) [] []]) }]) : Res)
  rfl
  )
theorem cfrm_ok : FunOk Try.prog 49 (FunT.run C_frm) := by
  refine fun_ok (E := envOf tab [(34, C_tkm)] [] [] []) (fz := true) (fn := Try.f49) (envOf_ok progOk (.cons ctkm_ok (.nil _))) (by kernel_rfl) (by kernel_rfl) (loops_none (by kernel_rfl)) ?_
  intro args σ r h
  unfold C_frm at h
  split at h
  · exact (frm_case0 _ _ _).trans h
  · simp [T.run_fail] at h

def jm_fr (ls : List D) (n : Int) (_ : List D) : Int → Frame' := fun i => mkF 19 [(0, .dat (.slc (.agg [.one,.one]) ls)), (1, (.fn (.func 49) [] [.ptr .one 0 0 []])), (7, .dat (.int .i64 n)), (8, .dat (.int .i64 i))]
def jm_st (_ : List D) (_ : Int) (ds : List D) : Int → Store := fun _ => ([⟨.one, false, false, .ptr (.agg [.one, .one]) 1 0 []⟩, ⟨.agg [.one, .one], false, false, .dat (.agg [.slc (.agg [.one, .one]) ds, .fn (.func 34) [] []])⟩])
def jm_step (ls : List D) (n : Int) (ds : List D) : Int → T (Int ⊕ LOut) := fun i => 
  .br (decide (i < n)) (
   .chk (decide ((0 : Int) ≤ i)) (
    .chk (decide (Int.toNat i < List.length ls)) (
     .chk (okE (Ek.agg [Ek.bool, Ek.str]) (nthD ls (Int.toNat i))) (
      .br (frm_v0 (D.getB (nthD (D.getL (nthD ls (Int.toNat i))) (0 : Nat)))) (.leaf (.inr (none, mkF (19 : Nat) [((4 : Nat), AV.dat (D.int IntKind.i64 i))], [{ sh := Sh.one, dyn := false, frz := false, v := AV.ptr (Sh.agg [Sh.one, Sh.one]) (1 : Nat) (0 : Nat) [] }, { sh := Sh.agg [Sh.one, Sh.one], dyn := false, frz := false, v := AV.dat (D.agg [D.slc (Sh.agg [Sh.one, Sh.one]) ds, D.fn (Fn.func (34 : Nat)) [] []]) }]))) (.leaf (.inl (IntKind.wrap IntKind.i64 (i + (1 : Int))))))))) (.leaf (.inr ((some (0 : Nat)), mkF (19 : Nat) [], [{ sh := Sh.one, dyn := false, frz := false, v := AV.ptr (Sh.agg [Sh.one, Sh.one]) (1 : Nat) (0 : Nat) [] }, { sh := Sh.agg [Sh.one, Sh.one], dyn := false, frz := false, v := AV.dat (D.agg [D.slc (Sh.agg [Sh.one, Sh.one]) ds, D.fn (Fn.func (34 : Nat)) [] []]) }])))
theorem jm_round (lp : Loops) (ls : List D) (n : Int) (ds : List D) (i : Int) (K : Kt) : oneRound (envOf tab ([(49, C_frm)]) [] lp []) Try.f37 0 (2) (mkF 19 [(0, .dat (.slc (.agg [.one,.one]) ls)), (1, (.fn (.func 49) [] [.ptr .one 0 0 []])), (7, .dat (.int .i64 n)), (8, .dat (.int .i64 i))]) (([⟨.one, false, false, .ptr (.agg [.one, .one]) 1 0 []⟩, ⟨.agg [.one, .one], false, false, .dat (.agg [.slc (.agg [.one, .one]) ds, .fn (.func 34) [] []])⟩])) K =
  (bif decide (i < n) then 
   (bif decide ((0 : Int) ≤ i) then 
    (bif decide (Int.toNat i < List.length ls) then 
     (bif okE (Ek.agg [Ek.bool, Ek.str]) (nthD ls (Int.toNat i)) then 
      (bif frm_v0 (D.getB (nthD (D.getL (nthD ls (Int.toNat i))) (0 : Nat))) then K (Exit.ret) (mkF (19 : Nat) [((4 : Nat), AV.dat (D.int IntKind.i64 i))]) ([{ sh := Sh.one, dyn := false, frz := false, v := AV.ptr (Sh.agg [Sh.one, Sh.one]) (1 : Nat) (0 : Nat) [] }, { sh := Sh.agg [Sh.one, Sh.one], dyn := false, frz := false, v := AV.dat (D.agg [D.slc (Sh.agg [Sh.one, Sh.one]) ds, D.fn (Fn.func (34 : Nat)) [] []]) }]) else K (Exit.normal) (mkF (19 : Nat) [((0 : Nat), AV.dat (D.slc (Sh.agg [Sh.one, Sh.one]) ls)), ((1 : Nat), AV.fn (Fn.func (49 : Nat)) [] [AV.ptr Sh.one (0 : Nat) (0 : Nat) []]), ((7 : Nat), AV.dat (D.int IntKind.i64 n)), ((8 : Nat), AV.dat (D.int IntKind.i64 (IntKind.wrap IntKind.i64 (i + (1 : Int))))), ((9 : Nat), AV.dat (D.bool (decide (i < n)))), ((18 : Nat), AV.dat (D.int IntKind.i64 (IntKind.wrap IntKind.i64 (i + (1 : Int)))))]) ([{ sh := Sh.one, dyn := false, frz := false, v := AV.ptr (Sh.agg [Sh.one, Sh.one]) (1 : Nat) (0 : Nat) [] }, { sh := Sh.agg [Sh.one, Sh.one], dyn := false, frz := false, v := AV.dat (D.agg [D.slc (Sh.agg [Sh.one, Sh.one]) ds, D.fn (Fn.func (34 : Nat)) [] []]) }])) else none) else none) else none) else K (Exit.exit (0 : Nat)) (mkF (19 : Nat) []) ([{ sh := Sh.one, dyn := false, frz := false, v := AV.ptr (Sh.agg [Sh.one, Sh.one]) (1 : Nat) (0 : Nat) [] }, { sh := Sh.agg [Sh.one, Sh.one], dyn := false, frz := false, v := AV.dat (D.agg [D.slc (Sh.agg [Sh.one, Sh.one]) ds, D.fn (Fn.func (34 : Nat)) [] []]) }])) := by kernel_rfl
theorem jm_hr (lp : Loops) (ls : List D) (n : Int) (ds : List D) : ∀ (sA : Int) (K : Kt) (N : Int → Option Res), (∀ sB fr' σ', cleanF (liveAt Try.f37 0) 0 fr' = jm_fr ls n ds sB → trim (2) (jm_fr ls n ds sB) σ' = jm_st ls n ds sB → K .normal fr' σ' = N sB) →
    oneRound (envOf tab ([(49, C_frm)]) [] lp []) Try.f37 0 (2) (jm_fr ls n ds sA) (jm_st ls n ds sA) K = (jm_step ls n ds sA).k (LK K N) := by
  intro i K N hN
  exact (jm_round lp ls n ds i K).trans (cong2 (cong2 (cong2 (cong2 (cong2 rfl (hN (IntKind.wrap IntKind.i64 (i + (1 : Int))) _ _ (by kernel_rfl) (by kernel_rfl))) rfl) rfl) rfl) rfl)
theorem jm_enter (ls : List D) (n : Int) (ds : List D) (i : Int) (fr : Frame') (hl : Nat.beq fr.length 19 = true) (g0 : fr.getD 0 .undef = AV.dat (D.slc (Sh.agg [Sh.one, Sh.one]) ls)) (g1 : fr.getD 1 .undef = AV.fn (Fn.func 49) [] [AV.ptr Sh.one 0 0 []]) (g7 : fr.getD 7 .undef = AV.dat (D.int IntKind.i64 n)) (g8 : fr.getD 8 .undef = AV.dat (D.int IntKind.i64 i)) : cleanF (liveAt Try.f37 0) 0 fr = jm_fr ls n ds i := by
  have e : liveAt Try.f37 0 = [7, 1, 0, 8] := by kernel_rfl
  rw [clean_mk (Nat.eq_of_beq_eq_true hl), e]
  show mkF 19 [(7, fr.getD 7 .undef), (1, fr.getD 1 .undef), (0, fr.getD 0 .undef), (8, fr.getD 8 .undef)] = _
  rw [g7, g1, g0, g8]
  kernel_rfl

def jm_idx (_ : List D) (ls : List D) : Int := bif ls.any ((fun d => !usedD d)) then ((ls.findIdx ((fun d => !usedD d)) : Nat) : Int) else -1
def jm_okL (_ : List D) (ls : List D) : Bool := ls.all ((okE (.agg [.bool,.str]))) && decide (ls.length ≤ 1099511627776)
theorem jm_closed (ls : List D) (n : Int) (ds : List D) (hc : (decide (n = (ls.length : Int)) && jm_okL ds ls) = true) :
    ∃ m, (iterT (jm_step ls n ds) m 0).run = T.run (.br (ls.any ((fun d => !usedD d))) (.leaf (none, mkF 19 [(4, .dat (.int .i64 (ls.findIdx ((fun d => !usedD d)) : Nat)))], ([⟨.one, false, false, .ptr (.agg [.one, .one]) 1 0 []⟩, ⟨.agg [.one, .one], false, false, .dat (.agg [.slc (.agg [.one, .one]) ds, .fn (.func 34) [] []])⟩]))) (.leaf (some 0, mkF 19 [], ([⟨.one, false, false, .ptr (.agg [.one, .one]) 1 0 []⟩, ⟨.agg [.one, .one], false, false, .dat (.agg [.slc (.agg [.one, .one]) ds, .fn (.func 34) [] []])⟩])))) := by
  unfold jm_okL at hc
  simp only [Bool.and_eq_true, decide_eq_true_eq] at hc
  obtain ⟨rfl, h1, h2⟩ := hc
  obtain ⟨m, hm⟩ := iter_find (step := jm_step ls ls.length ds) (ls := ls) (p := (fun d => !usedD d)) (o := fun k => (none, mkF 19 [(4, .dat (.int .i64 (k : Int)))], ([⟨.one, false, false, .ptr (.agg [.one, .one]) 1 0 []⟩, ⟨.agg [.one, .one], false, false, .dat (.agg [.slc (.agg [.one, .one]) ds, .fn (.func 34) [] []])⟩]))) (o' := (some 0, mkF 19 [], ([⟨.one, false, false, .ptr (.agg [.one, .one]) 1 0 []⟩, ⟨.agg [.one, .one], false, false, .dat (.agg [.slc (.agg [.one, .one]) ds, .fn (.func 34) [] []])⟩])))
    (fun k hk => by
      have hq := List.all_eq_true.1 h1 _ (nthD_mem hk)
      try simp only [Bool.and_eq_true] at hq
      unfold jm_step
      simp only [decide_eq_true (show (k : Int) < (ls.length : Int) by omega), decide_eq_true (show (0 : Int) ≤ (k : Int) by omega), Int.toNat_natCast, decide_eq_true hk, hq, wrap_succ (show k < 2 ^ 62 by omega), T.run_br, T.run_chk, T.run_leaf, cond_true]
      exact bif_some (((fun d => !usedD d)) (nthD ls k)) _ _)
    (by
      unfold jm_step
      rw [decide_eq_false (show ¬ (ls.length : Int) < (ls.length : Int) by omega)]
      rfl)
  refine ⟨m, hm.trans ?_⟩
  cases ls.any ((fun d => !usedD d)) <;> rfl

def L_jm : Frame' → Store → T (Exit × Frame' × Store) := fun fr σ => match fr.getD 0 .undef, fr.getD 1 .undef, fr.getD 7 .undef, fr.getD 8 .undef, σ with
  | AV.dat (D.slc (Sh.agg [Sh.one, Sh.one]) ls), AV.fn (Fn.func 49) [] [AV.ptr Sh.one 0 0 []], AV.dat (D.int IntKind.i64 n), AV.dat (D.int IntKind.i64 0), [{ sh := Sh.one, dyn := false, frz := false, v := AV.ptr (Sh.agg [Sh.one, Sh.one]) 1 0 [] }, { sh := Sh.agg [Sh.one, Sh.one], dyn := false, frz := false, v := AV.dat (D.agg [D.slc (Sh.agg [Sh.one, Sh.one]) ds, D.fn (Fn.func 34) [] []]) }] => .chk (Nat.beq fr.length 19 && (decide (n = (ls.length : Int)) && jm_okL ds ls)) (T.bind (.br (ls.any ((fun d => !usedD d))) (.leaf (none, mkF 19 [(4, .dat (.int .i64 (ls.findIdx ((fun d => !usedD d)) : Nat)))], ([⟨.one, false, false, .ptr (.agg [.one, .one]) 1 0 []⟩, ⟨.agg [.one, .one], false, false, .dat (.agg [.slc (.agg [.one, .one]) ds, .fn (.func 34) [] []])⟩]))) (.leaf (some 0, mkF 19 [], ([⟨.one, false, false, .ptr (.agg [.one, .one]) 1 0 []⟩, ⟨.agg [.one, .one], false, false, .dat (.agg [.slc (.agg [.one, .one]) ds, .fn (.func 34) [] []])⟩])))) fun o => .leaf (outEx o.1, o.2.1, o.2.2))
  | _, _, _, _, _ => .fail
theorem jm_sem (lp : Loops) : ∀ fr σ p, (L_jm fr σ).run = some p → ∀ (K : Kt) r, K p.1 p.2.1 p.2.2 = some r → ∃ n, loopRun (envOf tab ([(49, C_frm)]) [] lp []) Try.f37 0 σ.length n (cleanF (liveAt Try.f37 0) 0 fr) σ K = some r := by
  intro fr σ p h K r hK
  unfold L_jm at h
  split at h
  · rename_i ls n ds g0 g1 g7 g8
    obtain ⟨hc, h'⟩ := T.chk_some h
    rw [Bool.and_eq_true] at hc
    obtain ⟨hl, hc⟩ := hc
    obtain ⟨o, ho, h'⟩ := T.bind_some h'
    have hp := T.leaf_some h'
    subst hp
    obtain ⟨nF, hn⟩ : ∃ nF, (iterT (jm_step ls n ds) nF (0)).run = T.run (.br (ls.any ((fun d => !usedD d))) (.leaf (none, mkF 19 [(4, .dat (.int .i64 (ls.findIdx ((fun d => !usedD d)) : Nat)))], ([⟨.one, false, false, .ptr (.agg [.one, .one]) 1 0 []⟩, ⟨.agg [.one, .one], false, false, .dat (.agg [.slc (.agg [.one, .one]) ds, .fn (.func 34) [] []])⟩]))) (.leaf (some 0, mkF 19 [], ([⟨.one, false, false, .ptr (.agg [.one, .one]) 1 0 []⟩, ⟨.agg [.one, .one], false, false, .dat (.agg [.slc (.agg [.one, .one]) ds, .fn (.func 34) [] []])⟩])))) := jm_closed ls n ds hc
    rw [ho] at hn
    refine ⟨nF, ?_⟩
    have he : cleanF (liveAt Try.f37 0) 0 fr = jm_fr ls n ds (0) := jm_enter ls n ds _ fr hl g0 g1 g7 g8
    refine (iter_ok (base := 2) (jm_hr lp ls n ds) K nF (0) _ _ (by rw [clean_clean]; exact he) (by kernel_rfl)).trans ?_
    rw [T.k_run hn]
    exact hK
  · simp [T.run_fail] at h
theorem jm_loopOk (lp : Loops) (hk : Loops.get lp 2 = some L_jm) : LoopOk (envOf tab ([(49, C_frm)]) [] lp []) (loopAt Try.f37 0).1 (loopAt Try.f37 0).2 := loop_ok (L := L_jm) hk (jm_sem lp)


def S_jm : FunT := fun args σ => match args, σ with
  | [AV.dat (D.slc (Sh.agg [Sh.one, Sh.one]) ls), AV.fn (Fn.func 49) [] [AV.ptr Sh.one 0 0 []]], [{ sh := Sh.one, dyn := false, frz := false, v := AV.ptr (Sh.agg [Sh.one, Sh.one]) 1 0 [] }, { sh := Sh.agg [Sh.one, Sh.one], dyn := false, frz := false, v := AV.dat (D.agg [D.slc (Sh.agg [Sh.one, Sh.one]) ds, D.fn (Fn.func 34) [] []]) }] => 
    .chk (decide ((↑(List.length ls) : Int) = (↑(List.length ls) : Int)) && jm_okL ds ls) (.leaf ([AV.dat (D.int IntKind.i64 (bif List.any ls fun d => !usedD d then (↑(List.findIdx (fun d => !usedD d) ls) : Int) else (-1 : Int)))], [{ sh := Sh.one, dyn := false, frz := false, v := AV.ptr (Sh.agg [Sh.one, Sh.one]) (1 : Nat) (0 : Nat) [] }, { sh := Sh.agg [Sh.one, Sh.one], dyn := false, frz := false, v := AV.dat (D.agg [D.slc (Sh.agg [Sh.one, Sh.one]) ds, D.fn (Fn.func (34 : Nat)) [] []]) }]))
  | _, _ => .fail
theorem jm_raw0 (ls : List D) (ds : List D) : runF (envOf tab ([(49, C_frm)]) [] [(2, L_jm)] []) true Try.f37 [.dat (.slc (.agg [.one,.one]) ls), (.fn (.func 49) [] [.ptr .one 0 0 []])] ([⟨.one, false, false, .ptr (.agg [.one, .one]) 1 0 []⟩, ⟨.agg [.one, .one], false, false, .dat (.agg [.slc (.agg [.one, .one]) ds, .fn (.func 34) [] []])⟩]) =
  (bif decide ((↑(List.length ls) : Int) = (↑(List.length ls) : Int)) && jm_okL ds ls then 
   (bif List.any ls fun d => !usedD d then some ([AV.dat (D.int IntKind.i64 (↑(List.findIdx (fun d => !usedD d) ls) : Int))], [{ sh := Sh.one, dyn := false, frz := false, v := AV.ptr (Sh.agg [Sh.one, Sh.one]) (1 : Nat) (0 : Nat) [] }, { sh := Sh.agg [Sh.one, Sh.one], dyn := false, frz := false, v := AV.dat (D.agg [D.slc (Sh.agg [Sh.one, Sh.one]) ds, D.fn (Fn.func (34 : Nat)) [] []]) }]) else some ([AV.dat (D.int IntKind.i64 (-1 : Int))], [{ sh := Sh.one, dyn := false, frz := false, v := AV.ptr (Sh.agg [Sh.one, Sh.one]) (1 : Nat) (0 : Nat) [] }, { sh := Sh.agg [Sh.one, Sh.one], dyn := false, frz := false, v := AV.dat (D.agg [D.slc (Sh.agg [Sh.one, Sh.one]) ds, D.fn (Fn.func (34 : Nat)) [] []]) }])) else none) := by kernel_rfl
theorem jm_case0 (ls : List D) (ds : List D) : runF (envOf tab ([(49, C_frm)]) [] [(2, L_jm)] []) true Try.f37 [.dat (.slc (.agg [.one,.one]) ls), (.fn (.func 49) [] [.ptr .one 0 0 []])] ([⟨.one, false, false, .ptr (.agg [.one, .one]) 1 0 []⟩, ⟨.agg [.one, .one], false, false, .dat (.agg [.slc (.agg [.one, .one]) ds, .fn (.func 34) [] []])⟩]) = FunT.run S_jm [.dat (.slc (.agg [.one,.one]) ls), (.fn (.func 49) [] [.ptr .one 0 0 []])] ([⟨.one, false, false, .ptr (.agg [.one, .one]) 1 0 []⟩, ⟨.agg [.one, .one], false, false, .dat (.agg [.slc (.agg [.one, .one]) ds, .fn (.func 34) [] []])⟩]) := (jm_raw0 ls ds).trans (cong2 (cond_cases (fun h0 => (by (try rw [h0]) <;> rfl)) (fun h0 => (by (try rw [h0]) <;> rfl))) rfl)
theorem jm_ok : FunOk Try.prog 37 (FunT.run S_jm) := by
  refine fun_ok (E := envOf tab ([(49, C_frm)]) [] [(2, L_jm)] []) (fz := true) (fn := Try.f37) (envOf_ok progOk (.cons cfrm_ok (.nil _))) (by kernel_rfl) (by kernel_rfl) (loops_one (by kernel_rfl) (jm_loopOk _ rfl)) ?_
  intro args σ r h
  unfold S_jm at h
  split at h
  · exact (jm_case0 _ _).trans h
  · simp [T.run_fail] at h

def C_jm : FunT := fun args σ => match args, σ with
  | [.dat (.slc (.agg [.one,.one]) ls), (.fn (.func 49) [] [.ptr .one 0 0 []])], ([⟨.one, false, false, .ptr (.agg [.one, .one]) 1 0 []⟩, ⟨.agg [.one, .one], false, false, .dat (.agg [.slc (.agg [.one, .one]) ds, .fn (.func 34) [] []])⟩]) => .chk (jm_okL ds ls) (.leaf ([.dat (.int .i64 (jm_idx ds ls))], ([⟨.one, false, false, .ptr (.agg [.one, .one]) 1 0 []⟩, ⟨.agg [.one, .one], false, false, .dat (.agg [.slc (.agg [.one, .one]) ds, .fn (.func 34) [] []])⟩])))
  | _, _ => .fail
theorem cjm_ok : FunOk Try.prog 37 (FunT.run C_jm) := jm_ok.of (by
  intro args σ r h
  unfold C_jm at h
  split at h
  · rename_i ls ds
    obtain ⟨hc, h'⟩ := T.chk_some h
    rw [← T.leaf_some h']
    unfold S_jm jm_idx
    simp only [hc, decide_true, Bool.and_true, T.run_chk, T.run_leaf, cond_true]
    all_goals (cases ls.any ((fun d => !usedD d)) <;> rfl)
  · simp [T.run_fail] at h)
abbrev SpM1 : Specs := [(48, C_mdm), (37, C_jm)]
theorem SpM1_ok : SpecsOk Try.prog SpM1 := .cons cmdm_ok (.cons cjm_ok (.nil _))
def fsm_v0 (ds : List D) : Int := bif decide (jm_idx ds ds < (0 : Int)) then (0 : Int) else jm_idx ds ds
def fsm_v1 (ds : List D) : Int := bif decide (jm_idx ds ds < (0 : Int)) then (8 : Int) else (0 : Int)
def C_fsm : FunT := fun args σ => match args, σ with
  | [AV.ptr (Sh.agg [Sh.one, Sh.one]) 0 0 []], [{ sh := Sh.agg [Sh.one, Sh.one], dyn := false, frz := false, v := AV.dat (D.agg [D.slc (Sh.agg [Sh.one, Sh.one]) ds, D.fn (Fn.func 34) [] []]) }] => .chk (jm_okL ds ds) (.leaf ([AV.dat (D.int IntKind.i64 (fsm_v0 ds)), AV.dat (D.int IntKind.i64 (fsm_v1 ds))], [{ sh := Sh.agg [Sh.one, Sh.one], dyn := false, frz := false, v := AV.dat (D.agg [D.slc (Sh.agg [Sh.one, Sh.one]) ds, D.fn (Fn.func (34 : Nat)) [] []]) }]))
  | _, _ => .fail
theorem fsm_raw0 (ds : List D) : runF (envOf tab SpM1 [] [] []) true Try.f35 [pR 0] [mrow ds] =
  (bif jm_okL ds ds then 
   (bif decide (jm_idx ds ds < (0 : Int)) then some ([AV.dat (D.int IntKind.i64 (0 : Int)), AV.dat (D.int IntKind.i64 (8 : Int))], [{ sh := Sh.agg [Sh.one, Sh.one], dyn := false, frz := false, v := AV.dat (D.agg [D.slc (Sh.agg [Sh.one, Sh.one]) ds, D.fn (Fn.func (34 : Nat)) [] []]) }]) else some ([AV.dat (D.int IntKind.i64 (jm_idx ds ds)), AV.dat (D.int IntKind.i64 (0 : Int))], [{ sh := Sh.agg [Sh.one, Sh.one], dyn := false, frz := false, v := AV.dat (D.agg [D.slc (Sh.agg [Sh.one, Sh.one]) ds, D.fn (Fn.func (34 : Nat)) [] []]) }])) else none) := by kernel_rfl
theorem fsm_case0 (ds : List D) : runF (envOf tab SpM1 [] [] []) true Try.f35 [pR 0] [mrow ds] = FunT.run C_fsm [pR 0] [mrow ds] := (fsm_raw0 ds).trans (by
  show _ = (cond (jm_okL ds ds) (some (([AV.dat (D.int IntKind.i64 (bif decide (jm_idx ds ds < (0 : Int)) then (0 : Int) else jm_idx ds ds)), AV.dat (D.int IntKind.i64 (bif decide (jm_idx ds ds < (0 : Int)) then (8 : Int) else (0 : Int)))], [{ sh := Sh.agg [Sh.one, Sh.one], dyn := false, frz := false, v := AV.dat (D.agg [D.slc (Sh.agg [Sh.one, Sh.one]) ds, D.fn (Fn.func (34 : Nat)) [] []]) }]) : Res)) none)
  generalize (jm_okL ds ds) = z0
  cases z0 with
  | true =>
   generalize (decide (jm_idx ds ds < (0 : Int))) = z1
   cases z1 with
   | true =>
    rfl
   | false =>
    rfl
  | false =>
   rfl
  )
theorem cfsm_ok : FunOk Try.prog 35 (FunT.run C_fsm) := by
  refine fun_ok (E := envOf tab SpM1 [] [] []) (fz := true) (fn := Try.f35) (envOf_ok progOk SpM1_ok) (by kernel_rfl) (by kernel_rfl) (loops_none (by kernel_rfl)) ?_
  intro args σ r h
  unfold C_fsm at h
  split at h
  · exact (fsm_case0 _).trans h
  · simp [T.run_fail] at h

abbrev SpM2 : Specs := [(48, C_mdm), (47, S_cmO)]
theorem SpM2_ok : SpecsOk Try.prog SpM2 := .cons cmdm_ok (.cons cmO_ok (.nil _))
def ptm_v0 (ds : List D) (i : Int) (u : Bool) (s : ByteArray) : List D := bif decide (i < (0 : Int)) then [] else bif decide (i ≥ (↑(List.length ds) : Int)) then [] else seg (List.set ds ((0 : Nat) + Int.toNat i) (D.agg [D.bool u, D.str s])) (0 : Nat) (List.length ds)
def ptm_v1 (ds : List D) (i : Int) : Int := bif decide (i < (0 : Int)) then (1 : Int) else bif decide (i ≥ (↑(List.length ds) : Int)) then (1 : Int) else (0 : Int)
def ptm_pre (ds : List D) (i : Int) (u : Bool) (s : ByteArray) : Bool := decide (i < (0 : Int)) || (decide (i ≥ (↑(List.length ds) : Int)) || !List.isEmpty ds && fits (Sh.agg [Sh.one, Sh.one]) ds && decide (List.length ds * (24 : Nat) ≤ (35184372088832 : Nat)) && (decide ((0 : Int) ≤ i) && (decide (i < (↑(List.length ds) : Int)) && (Nat.beq (List.length ds) (List.length ds) && (decide ((0 : Nat) + Int.toNat i < List.length ds) && (okS (Sh.agg [Sh.one, Sh.one]) (nthD ds ((0 : Nat) + Int.toNat i)) && (Sh.eqb (Sh.agg [D.shape (nthD (D.getL (nthD ds ((0 : Nat) + Int.toNat i))) (0 : Nat)), D.shape (nthD (D.getL (nthD ds ((0 : Nat) + Int.toNat i))) (1 : Nat))]) (Sh.agg [Sh.one, Sh.one]) && Nat.beq (List.length (List.set ds ((0 : Nat) + Int.toNat i) (D.agg [D.bool u, D.str s]))) (List.length ds))))))))
def C_ptm : FunT := fun args σ => match args, σ with
  | [AV.ptr (Sh.agg [Sh.one, Sh.one]) 0 0 [], AV.dat (D.int IntKind.i64 i), AV.dat (D.agg [D.bool u, D.str s])], [{ sh := Sh.agg [Sh.one, Sh.one], dyn := false, frz := false, v := AV.dat (D.agg [D.slc (Sh.agg [Sh.one, Sh.one]) ds, D.fn (Fn.func 34) [] []]) }] => .chk ((ptm_pre ds i u s)) (.leaf ([AV.dat (D.slc (Sh.agg [Sh.one, Sh.one]) (ptm_v0 ds i u s)), AV.dat (D.int IntKind.i64 (ptm_v1 ds i))], [{ sh := Sh.agg [Sh.one, Sh.one], dyn := false, frz := false, v := AV.dat (D.agg [D.slc (Sh.agg [Sh.one, Sh.one]) ds, D.fn (Fn.func (34 : Nat)) [] []]) }]))
  | _, _ => .fail
theorem ptm_raw0 (ds : List D) (i : Int) (u : Bool) (s : ByteArray) : runF (envOf tab SpM2 [] [] []) true Try.f36 [pR 0, .dat (.int .i64 i), .dat (.agg [.bool u, .str s])] [mrow ds] =
  (bif decide (i < (0 : Int)) == false then 
   (bif decide (i < (0 : Int)) then some ([AV.dat (D.slc (Sh.agg [Sh.one, Sh.one]) []), AV.dat (D.int IntKind.i64 (1 : Int))], [{ sh := Sh.agg [Sh.one, Sh.one], dyn := false, frz := false, v := AV.dat (D.agg [D.slc (Sh.agg [Sh.one, Sh.one]) ds, D.fn (Fn.func (34 : Nat)) [] []]) }]) else 
    (bif decide (i ≥ (↑(List.length ds) : Int)) then some ([AV.dat (D.slc (Sh.agg [Sh.one, Sh.one]) []), AV.dat (D.int IntKind.i64 (1 : Int))], [{ sh := Sh.agg [Sh.one, Sh.one], dyn := false, frz := false, v := AV.dat (D.agg [D.slc (Sh.agg [Sh.one, Sh.one]) ds, D.fn (Fn.func (34 : Nat)) [] []]) }]) else 
     (bif !List.isEmpty ds && fits (Sh.agg [Sh.one, Sh.one]) ds && decide (List.length ds * (24 : Nat) ≤ (35184372088832 : Nat)) then 
      (bif decide ((0 : Int) ≤ i) then 
       (bif decide (i < (↑(List.length ds) : Int)) then 
        (bif Nat.beq (List.length ds) (List.length ds) && true && true then 
         (bif decide ((0 : Nat) + Int.toNat i < List.length ds) then 
          (bif okS (Sh.agg [Sh.one, Sh.one]) (nthD ds ((0 : Nat) + Int.toNat i)) then 
           (bif Sh.eqb (Sh.agg [D.shape (nthD (D.getL (nthD ds ((0 : Nat) + Int.toNat i))) (0 : Nat)), D.shape (nthD (D.getL (nthD ds ((0 : Nat) + Int.toNat i))) (1 : Nat))]) (Sh.agg [Sh.one, Sh.one]) then 
            (bif Nat.beq (List.length (List.set ds ((0 : Nat) + Int.toNat i) (D.agg [D.bool u, D.str s]))) (List.length ds) then some ([AV.dat (D.slc (Sh.agg [Sh.one, Sh.one]) (seg (List.set ds ((0 : Nat) + Int.toNat i) (D.agg [D.bool u, D.str s])) (0 : Nat) (List.length ds))), AV.dat (D.int IntKind.i64 (0 : Int))], [{ sh := Sh.agg [Sh.one, Sh.one], dyn := false, frz := false, v := AV.dat (D.agg [D.slc (Sh.agg [Sh.one, Sh.one]) ds, D.fn (Fn.func (34 : Nat)) [] []]) }]) else none) else none) else none) else none) else none) else none) else none) else none))) else 
   (bif decide (i < (0 : Int)) then some ([AV.dat (D.slc (Sh.agg [Sh.one, Sh.one]) []), AV.dat (D.int IntKind.i64 (1 : Int))], [{ sh := Sh.agg [Sh.one, Sh.one], dyn := false, frz := false, v := AV.dat (D.agg [D.slc (Sh.agg [Sh.one, Sh.one]) ds, D.fn (Fn.func (34 : Nat)) [] []]) }]) else none)) := by kernel_rfl
theorem ptm_case0 (ds : List D) (i : Int) (u : Bool) (s : ByteArray) : runF (envOf tab SpM2 [] [] []) true Try.f36 [pR 0, .dat (.int .i64 i), .dat (.agg [.bool u, .str s])] [mrow ds] = FunT.run C_ptm [pR 0, .dat (.int .i64 i), .dat (.agg [.bool u, .str s])] [mrow ds] := (ptm_raw0 ds i u s).trans (by
  show _ = (cond (decide (i < (0 : Int)) || (decide (i ≥ (↑(List.length ds) : Int)) || !List.isEmpty ds && fits (Sh.agg [Sh.one, Sh.one]) ds && decide (List.length ds * (24 : Nat) ≤ (35184372088832 : Nat)) && (decide ((0 : Int) ≤ i) && (decide (i < (↑(List.length ds) : Int)) && (Nat.beq (List.length ds) (List.length ds) && (decide ((0 : Nat) + Int.toNat i < List.length ds) && (okS (Sh.agg [Sh.one, Sh.one]) (nthD ds ((0 : Nat) + Int.toNat i)) && (Sh.eqb (Sh.agg [D.shape (nthD (D.getL (nthD ds ((0 : Nat) + Int.toNat i))) (0 : Nat)), D.shape (nthD (D.getL (nthD ds ((0 : Nat) + Int.toNat i))) (1 : Nat))]) (Sh.agg [Sh.one, Sh.one]) && Nat.beq (List.length (List.set ds ((0 : Nat) + Int.toNat i) (D.agg [D.bool u, D.str s]))) (List.length ds))))))))) (some (([AV.dat (D.slc (Sh.agg [Sh.one, Sh.one]) (bif decide (i < (0 : Int)) then [] else bif decide (i ≥ (↑(List.length ds) : Int)) then [] else seg (List.set ds ((0 : Nat) + Int.toNat i) (D.agg [D.bool u, D.str s])) (0 : Nat) (List.length ds))), AV.dat (D.int IntKind.i64 (bif decide (i < (0 : Int)) then (1 : Int) else bif decide (i ≥ (↑(List.length ds) : Int)) then (1 : Int) else (0 : Int)))], [{ sh := Sh.agg [Sh.one, Sh.one], dyn := false, frz := false, v := AV.dat (D.agg [D.slc (Sh.agg [Sh.one, Sh.one]) ds, D.fn (Fn.func (34 : Nat)) [] []]) }]) : Res)) none)
  generalize (decide (i < (0 : Int))) = z0
  cases z0 with
  | true =>
   rfl
  | false =>
   generalize (decide (i ≥ (↑(List.length ds) : Int))) = z1
   cases z1 with
   | true =>
    rfl
   | false =>
    generalize (!List.isEmpty ds && fits (Sh.agg [Sh.one, Sh.one]) ds && decide (List.length ds * (24 : Nat) ≤ (35184372088832 : Nat))) = z2
    cases z2 with
    | true =>
     generalize (decide ((0 : Int) ≤ i)) = z3
     cases z3 with
     | true =>
      generalize (decide (i < (↑(List.length ds) : Int))) = z4
      cases z4 with
      | true =>
       generalize (Nat.beq (List.length ds) (List.length ds)) = z5
       cases z5 with
       | true =>
        generalize (decide ((0 : Nat) + Int.toNat i < List.length ds)) = z6
        cases z6 with
        | true =>
         generalize (okS (Sh.agg [Sh.one, Sh.one]) (nthD ds ((0 : Nat) + Int.toNat i))) = z7
         cases z7 with
         | true =>
          generalize (Sh.eqb (Sh.agg [D.shape (nthD (D.getL (nthD ds ((0 : Nat) + Int.toNat i))) (0 : Nat)), D.shape (nthD (D.getL (nthD ds ((0 : Nat) + Int.toNat i))) (1 : Nat))]) (Sh.agg [Sh.one, Sh.one])) = z8
          cases z8 with
          | true =>
           generalize (Nat.beq (List.length (List.set ds ((0 : Nat) + Int.toNat i) (D.agg [D.bool u, D.str s]))) (List.length ds)) = z9
           cases z9 with
           | true =>
            rfl
           | false =>
            rfl
          | false =>
           rfl
         | false =>
          rfl
        | false =>
         rfl
       | false =>
        rfl
      | false =>
       rfl
     | false =>
      rfl
    | false =>
     rfl
  )
theorem cptm_ok : FunOk Try.prog 36 (FunT.run C_ptm) := by
  refine fun_ok (E := envOf tab SpM2 [] [] []) (fz := true) (fn := Try.f36) (envOf_ok progOk SpM2_ok) (by kernel_rfl) (by kernel_rfl) (loops_none (by kernel_rfl)) ?_
  intro args σ r h
  unfold C_ptm at h
  split at h
  · exact (ptm_case0 _ _ _ _).trans h
  · simp [T.run_fail] at h

abbrev SpM3 : Specs := [(35, C_fsm), (36, C_ptm)]
theorem SpM3_ok : SpecsOk Try.prog SpM3 := .cons cfsm_ok (.cons cptm_ok (.nil _))
def adm_v0 (ds : List D) (u : Bool) (s : ByteArray) : List D := bif fsm_v1 ds != (0 : Int) then [] else ptm_v0 ds (fsm_v0 ds) u s
def adm_v1 (ds : List D) : Int := bif fsm_v1 ds != (0 : Int) then (0 : Int) else fsm_v0 ds
def adm_v2 (ds : List D) : Int := bif fsm_v1 ds != (0 : Int) then fsm_v1 ds else ptm_v1 ds (fsm_v0 ds)
def adm_pre (ds : List D) (u : Bool) (s : ByteArray) : Bool := jm_okL ds ds && (fsm_v1 ds != (0 : Int) || ptm_pre ds (fsm_v0 ds) u s)
def C_adm : FunT := fun args σ => match args, σ with
  | [AV.ptr (Sh.agg [Sh.one, Sh.one]) 0 0 [], AV.dat (D.agg [D.bool u, D.str s])], [{ sh := Sh.agg [Sh.one, Sh.one], dyn := false, frz := false, v := AV.dat (D.agg [D.slc (Sh.agg [Sh.one, Sh.one]) ds, D.fn (Fn.func 34) [] []]) }] => .chk ((adm_pre ds u s)) (.leaf ([AV.dat (D.slc (Sh.agg [Sh.one, Sh.one]) (adm_v0 ds u s)), AV.dat (D.int IntKind.i64 (adm_v1 ds)), AV.dat (D.int IntKind.i64 (adm_v2 ds))], [{ sh := Sh.agg [Sh.one, Sh.one], dyn := false, frz := false, v := AV.dat (D.agg [D.slc (Sh.agg [Sh.one, Sh.one]) ds, D.fn (Fn.func (34 : Nat)) [] []]) }]))
  | _, _ => .fail
theorem adm_raw0 (ds : List D) (u : Bool) (s : ByteArray) : runF (envOf tab SpM3 [] [] []) true Try.f17 [pR 0, .dat (.agg [.bool u, .str s])] [mrow ds] =
  (bif jm_okL ds ds then 
   (bif fsm_v1 ds != (0 : Int) then some ([AV.dat (D.slc (Sh.agg [Sh.one, Sh.one]) []), AV.dat (D.int IntKind.i64 (0 : Int)), AV.dat (D.int IntKind.i64 (fsm_v1 ds))], [{ sh := Sh.agg [Sh.one, Sh.one], dyn := false, frz := false, v := AV.dat (D.agg [D.slc (Sh.agg [Sh.one, Sh.one]) ds, D.fn (Fn.func (34 : Nat)) [] []]) }]) else 
    (bif ptm_pre ds (fsm_v0 ds) u s then some ([AV.dat (D.slc (Sh.agg [Sh.one, Sh.one]) (ptm_v0 ds (fsm_v0 ds) u s)), AV.dat (D.int IntKind.i64 (fsm_v0 ds)), AV.dat (D.int IntKind.i64 (ptm_v1 ds (fsm_v0 ds)))], [{ sh := Sh.agg [Sh.one, Sh.one], dyn := false, frz := false, v := AV.dat (D.agg [D.slc (Sh.agg [Sh.one, Sh.one]) ds, D.fn (Fn.func (34 : Nat)) [] []]) }]) else none)) else none) := by kernel_rfl
theorem adm_case0 (ds : List D) (u : Bool) (s : ByteArray) : runF (envOf tab SpM3 [] [] []) true Try.f17 [pR 0, .dat (.agg [.bool u, .str s])] [mrow ds] = FunT.run C_adm [pR 0, .dat (.agg [.bool u, .str s])] [mrow ds] := (adm_raw0 ds u s).trans (by
  show _ = (cond (jm_okL ds ds && (fsm_v1 ds != (0 : Int) || ptm_pre ds (fsm_v0 ds) u s)) (some (([AV.dat (D.slc (Sh.agg [Sh.one, Sh.one]) (bif fsm_v1 ds != (0 : Int) then [] else ptm_v0 ds (fsm_v0 ds) u s)), AV.dat (D.int IntKind.i64 (bif fsm_v1 ds != (0 : Int) then (0 : Int) else fsm_v0 ds)), AV.dat (D.int IntKind.i64 (bif fsm_v1 ds != (0 : Int) then fsm_v1 ds else ptm_v1 ds (fsm_v0 ds)))], [{ sh := Sh.agg [Sh.one, Sh.one], dyn := false, frz := false, v := AV.dat (D.agg [D.slc (Sh.agg [Sh.one, Sh.one]) ds, D.fn (Fn.func (34 : Nat)) [] []]) }]) : Res)) none)
  generalize (jm_okL ds ds) = z0
  cases z0 with
  | true =>
   generalize (fsm_v1 ds != (0 : Int)) = z1
   cases z1 with
   | true =>
    rfl
   | false =>
    generalize (ptm_pre ds (fsm_v0 ds) u s) = z2
    cases z2 with
    | true =>
     rfl
    | false =>
     rfl
  | false =>
   rfl
  )
theorem cadm_ok : FunOk Try.prog 17 (FunT.run C_adm) := by
  refine fun_ok (E := envOf tab SpM3 [] [] []) (fz := true) (fn := Try.f17) (envOf_ok progOk SpM3_ok) (by kernel_rfl) (by kernel_rfl) (loops_none (by kernel_rfl)) ?_
  intro args σ r h
  unfold C_adm at h
  split at h
  · exact (adm_case0 _ _ _).trans h
  · simp [T.run_fail] at h

def cfm_v0 (ls : List D) : Bool := decide (im_idx ls ≥ (0 : Int))
def C_cfm : FunT := fun args σ => match args, σ with
  | [AV.dat (D.slc (Sh.agg [Sh.one, Sh.one]) ls), AV.dat (D.fn (Fn.func 21) [] [])], [] => .chk (im_okL ls) (.leaf ([AV.dat (D.bool (cfm_v0 ls))], []))
  | _, _ => .fail
theorem cfm_raw0 (ls : List D) : runF (envOf tab [(37, C_im)] [] [] []) true Try.f20 [.dat (.slc (.agg [.one, .one]) ls), .dat (.fn (.func 21) [] [])] [] =
  (bif im_okL ls then some ([AV.dat (D.bool (decide (im_idx ls ≥ (0 : Int))))], []) else none) := by kernel_rfl
theorem cfm_case0 (ls : List D) : runF (envOf tab [(37, C_im)] [] [] []) true Try.f20 [.dat (.slc (.agg [.one, .one]) ls), .dat (.fn (.func 21) [] [])] [] = FunT.run C_cfm [.dat (.slc (.agg [.one, .one]) ls), .dat (.fn (.func 21) [] [])] [] := (cfm_raw0 ls).trans (by
  show _ = (cond (im_okL ls) (some (([AV.dat (D.bool (decide (im_idx ls ≥ (0 : Int))))], []) : Res)) none)
  generalize (im_okL ls) = z0
  cases z0 with
  | true =>
   rfl
  | false =>
   rfl
  )
theorem ccfm_ok : FunOk Try.prog 20 (FunT.run C_cfm) := by
  refine fun_ok (E := envOf tab [(37, C_im)] [] [] []) (fz := true) (fn := Try.f20) (envOf_ok progOk (.cons cim_ok (.nil _))) (by kernel_rfl) (by kernel_rfl) (loops_none (by kernel_rfl)) ?_
  intro args σ r h
  unfold C_cfm at h
  split at h
  · exact (cfm_case0 _).trans h
  · simp [T.run_fail] at h

def rmsok_v0 (ls : List D) : Bool := !cfm_v0 ls
def C_rmsok : FunT := fun args σ => match args, σ with
  | [AV.dat (D.slc (Sh.agg [Sh.one, Sh.one]) ls)], [] => .chk (im_okL ls) (.leaf ([AV.dat (D.bool (rmsok_v0 ls))], []))
  | _, _ => .fail
theorem rmsok_raw0 (ls : List D) : runF (envOf tab [(20, C_cfm)] [] [] []) true Try.f8 [.dat (.slc (.agg [.one, .one]) ls)] [] =
  (bif im_okL ls then some ([AV.dat (D.bool !cfm_v0 ls)], []) else none) := by kernel_rfl
theorem rmsok_case0 (ls : List D) : runF (envOf tab [(20, C_cfm)] [] [] []) true Try.f8 [.dat (.slc (.agg [.one, .one]) ls)] [] = FunT.run C_rmsok [.dat (.slc (.agg [.one, .one]) ls)] [] := (rmsok_raw0 ls).trans (by
  show _ = (cond (im_okL ls) (some (([AV.dat (D.bool !cfm_v0 ls)], []) : Res)) none)
  generalize (im_okL ls) = z0
  cases z0 with
  | true =>
   rfl
  | false =>
   rfl
  )
theorem crmsok_ok : FunOk Try.prog 8 (FunT.run C_rmsok) := by
  refine fun_ok (E := envOf tab [(20, C_cfm)] [] [] []) (fz := true) (fn := Try.f8) (envOf_ok progOk (.cons ccfm_ok (.nil _))) (by kernel_rfl) (by kernel_rfl) (loops_none (by kernel_rfl)) ?_
  intro args σ r h
  unfold C_rmsok at h
  split at h
  · exact (rmsok_case0 _).trans h
  · simp [T.run_fail] at h

abbrev SpM4 : Specs := [(8, C_rmsok), (15, C_nright), (16, C_rooms), (17, C_adm)]
theorem SpM4_ok : SpecsOk Try.prog SpM4 := .cons crmsok_ok (.cons cnright_ok (.cons crooms_ok (.cons cadm_ok (.nil _))))
def dig_v0 (ls : List D) (s : ByteArray) : List D := bif rmsok_v0 ls then bif nright_v0 s then adm_v0 ls true s else [] else []
def dig_v1 (ls : List D) (s : ByteArray) : Int := bif rmsok_v0 ls then bif nright_v0 s then adm_v1 ls else (0 : Int) else (0 : Int)
def dig_v2 (ls : List D) (s : ByteArray) : Int := bif rmsok_v0 ls then bif nright_v0 s then adm_v2 ls else (2 : Int) else (1 : Int)
def dig_pre (ls : List D) (s : ByteArray) : Bool := im_okL ls && (!rmsok_v0 ls || nright_pre s && (!nright_v0 s || ofm_pre ls && adm_pre ls true s))
def C_dig : FunT := fun args σ => match args, σ with
  | [AV.dat (D.slc (Sh.agg [Sh.one, Sh.one]) ls), AV.dat (D.str s)], [] => .chk ((dig_pre ls s)) (.leaf ([AV.dat (D.slc (Sh.agg [Sh.one, Sh.one]) (dig_v0 ls s)), AV.dat (D.int IntKind.i64 (dig_v1 ls s)), AV.dat (D.int IntKind.i64 (dig_v2 ls s))], []))
  | _, _ => .fail
theorem dig_raw0 (ls : List D) (s : ByteArray) : runF (envOf tab SpM4 [] [] []) true Try.f5 [.dat (.slc (.agg [.one, .one]) ls), .dat (.str s)] [] =
  (bif im_okL ls then 
   (bif !rmsok_v0 ls then some ([AV.dat (D.slc (Sh.agg [Sh.one, Sh.one]) []), AV.dat (D.int IntKind.i64 (0 : Int)), AV.dat (D.int IntKind.i64 (1 : Int))], []) else 
    (bif nright_pre s then 
     (bif !nright_v0 s then some ([AV.dat (D.slc (Sh.agg [Sh.one, Sh.one]) []), AV.dat (D.int IntKind.i64 (0 : Int)), AV.dat (D.int IntKind.i64 (2 : Int))], []) else 
      (bif ofm_pre ls then 
       (bif adm_pre ls true s then some ([AV.dat (D.slc (Sh.agg [Sh.one, Sh.one]) (adm_v0 ls true s)), AV.dat (D.int IntKind.i64 (adm_v1 ls)), AV.dat (D.int IntKind.i64 (adm_v2 ls))], []) else none) else none)) else none)) else none) := by kernel_rfl
theorem dig_case0 (ls : List D) (s : ByteArray) : runF (envOf tab SpM4 [] [] []) true Try.f5 [.dat (.slc (.agg [.one, .one]) ls), .dat (.str s)] [] = FunT.run C_dig [.dat (.slc (.agg [.one, .one]) ls), .dat (.str s)] [] := (dig_raw0 ls s).trans (by
  show _ = (cond (im_okL ls && (!rmsok_v0 ls || nright_pre s && (!nright_v0 s || ofm_pre ls && adm_pre ls true s))) (some (([AV.dat (D.slc (Sh.agg [Sh.one, Sh.one]) (bif rmsok_v0 ls then bif nright_v0 s then adm_v0 ls true s else [] else [])), AV.dat (D.int IntKind.i64 (bif rmsok_v0 ls then bif nright_v0 s then adm_v1 ls else (0 : Int) else (0 : Int))), AV.dat (D.int IntKind.i64 (bif rmsok_v0 ls then bif nright_v0 s then adm_v2 ls else (2 : Int) else (1 : Int)))], []) : Res)) none)
  generalize (im_okL ls) = z0
  cases z0 with
  | true =>
   generalize (rmsok_v0 ls) = z1
   cases z1 with
   | true =>
    generalize (nright_pre s) = z2
    cases z2 with
    | true =>
     generalize (nright_v0 s) = z3
     cases z3 with
     | true =>
      generalize (ofm_pre ls) = z4
      cases z4 with
      | true =>
       generalize (adm_pre ls true s) = z5
       cases z5 with
       | true =>
        rfl
       | false =>
        rfl
      | false =>
       rfl
     | false =>
      rfl
    | false =>
     rfl
   | false =>
    rfl
  | false =>
   rfl
  )
theorem cdig_ok : FunOk Try.prog 5 (FunT.run C_dig) := by
  refine fun_ok (E := envOf tab SpM4 [] [] []) (fz := true) (fn := Try.f5) (envOf_ok progOk SpM4_ok) (by kernel_rfl) (by kernel_rfl) (loops_none (by kernel_rfl)) ?_
  intro args σ r h
  unfold C_dig at h
  split at h
  · exact (dig_case0 _ _).trans h
  · simp [T.run_fail] at h


end Go.Proofs.Ytiegehdiffemlaa
