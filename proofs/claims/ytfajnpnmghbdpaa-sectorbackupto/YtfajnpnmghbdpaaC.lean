/- Seat 08: the sum and the document's are one. -/
import Derived.Test.YtfajnpnmghbdpaaB
namespace Go.Proofs.Ytfajnpnmghbdpaa
open Go.AX
set_option maxRecDepth 100000

def okY (ds : List D) : Bool := ds.all okB && decide (ds.length ≤ 2 ^ 40)
theorem okY_spec {ds : List D} (h : okY ds = true) : ds.all okB = true ∧ ds.length ≤ 2 ^ 40 := by
  unfold okY at h
  simpa only [Bool.and_eq_true, decide_eq_true_eq] using h
theorem okY_B8 {ds : List D} (h : okY ds = true) : okB8 ds = true := by
  obtain ⟨h1, h2⟩ := okY_spec h
  unfold okB8
  rw [decide_eq_true h2, Bool.and_true]
  have := okB_bytes h1
  unfold isBytes at this
  rw [List.all_eq_true] at this ⊢
  intro d hd
  rw [okE]; exact this d hd

theorem byteX_small {d : D} (h : okB d = true) : byteX d >>> 8 = 0#32 := by
  obtain ⟨n, rfl, h0, h1⟩ := okB_spec h
  apply BitVec.eq_of_toNat_eq
  have : toI (byteX (.int .u8 n)) = n := by
    rw [← byteI_toI]
    show IntKind.wrap .u32 n = n
    rw [IntKind.wrap_u32]; omega
  unfold toI at this
  rw [BitVec.toNat_ushiftRight, Nat.shiftRight_eq_div_pow]
  show _ = 0
  omega

theorem crc_step (x s : W32) : crcBit (x ^^^ s) = refBit x (s.getLsbD 0) ^^^ (s >>> 1) := by
  unfold crcBit refBit
  rw [BitVec.getLsbD_xor, BitVec.ushiftRight_xor_distrib]
  cases x.getLsbD 0 <;> cases s.getLsbD 0 <;> simp only [cond_true, cond_false, bne_self_eq_false, show (true != false) = true from rfl, show (false != true) = true from rfl]
  · rw [BitVec.xor_assoc, BitVec.xor_comm (s >>> 1) poly, ← BitVec.xor_assoc]
  · rw [BitVec.xor_assoc, BitVec.xor_comm (s >>> 1) poly, ← BitVec.xor_assoc]

theorem ref_crc_in (ds : List D) (r : W32) (j : Nat) : ∀ k, k ≤ 8 → crcN k (refTo ds r (8 * j) ^^^ byteX (nthD ds j)) = refTo ds r (8 * j + k) ^^^ (byteX (nthD ds j) >>> k)
  | 0, _ => by rw [BitVec.ushiftRight_zero]; rfl
  | k + 1, hk => by
    show crcBit (crcN k _) = _
    rw [ref_crc_in ds r j k (by omega), crc_step, BitVec.getLsbD_ushiftRight, BitVec.shiftRight_add]
    have h1 : (8 * j + k) / 8 = j := by omega
    have h2 : (8 * j + k) % 8 = k := by omega
    have h3 : bitAt ds (8 * j + k) = (byteX (nthD ds j)).getLsbD (k + 0) := by unfold bitAt; rw [h1, h2]; rfl
    rw [← h3]; rfl

theorem ref_crc {ds : List D} (h : ds.all okB = true) (r : W32) : ∀ j, j ≤ ds.length → refTo ds r (8 * j) = crcTo ds r j
  | 0, _ => rfl
  | j + 1, hj => by
    have h1 := ref_crc_in ds r j 8 (Nat.le_refl _)
    rw [byteX_small (List.all_eq_true.1 h _ (nthD_mem (show j < ds.length by omega))), BitVec.xor_zero] at h1
    show refTo ds r (8 * j + 8) = crcN 8 (crcTo ds r j ^^^ byteX (nthD ds j))
    rw [← h1, ref_crc h r j (by omega)]

abbrev ones : W32 := BitVec.ofInt 32 4294967295
def sumW (ds : List D) : W32 := ones ^^^ crcTo ds ones ds.length

def C_of : FunT := fun args σ => match args, σ with
  | [.dat (.slc .one ds)], [] => .chk (okY ds) (.leaf ([.dat (.int .u32 (toI (sumW ds)))], []))
  | _, _ => .fail
theorem cof_ok : FunOk Try.prog 13 (FunT.run C_of) := of_ok.of (by
  intro args σ r h
  unfold C_of at h
  split at h
  · rename_i ds
    obtain ⟨hc, h'⟩ := T.chk_some h
    rw [← T.leaf_some h']
    unfold S_of
    simp only [okY_B8 hc, decide_true, Bool.and_self, T.run_chk, cond_true, T.run_leaf, ofI_toI, xor_toI]
    rfl
  · simp [T.run_fail] at h)
def C_rof : FunT := fun args σ => match args, σ with
  | [.dat (.slc .one ds)], [] => .chk (okY ds) (.leaf ([.dat (.int .u32 (toI (sumW ds)))], []))
  | _, _ => .fail
theorem crof_ok : FunOk Try.prog 15 (FunT.run C_rof) := rof_ok.of (by
  intro args σ r h
  unfold C_rof at h
  split at h
  · rename_i ds
    obtain ⟨hc, h'⟩ := T.chk_some h
    rw [← T.leaf_some h']
    unfold S_rof
    simp only [okY_B8 hc, Bool.and_self, T.run_chk, cond_true, T.run_leaf, ofI_toI, xor_toI]
    rw [ref_crc (okY_spec hc).1 _ ds.length (Nat.le_refl _), BitVec.xor_comm]
    rfl
  · simp [T.run_fail] at h)

def S_may : FunT := fun args σ => match args, σ with
  | [AV.dat (D.int IntKind.u64 n)], [] => 
    .br (decide (n ≥ (1 : Int)) == true) (.leaf ([AV.dat (D.bool (bif decide (n ≥ (1 : Int)) then decide (n ≤ (4611686018427387904 : Int)) else false))], [])) (
     .br (decide (n ≥ (1 : Int))) (.fail) (.leaf ([AV.dat (D.bool false)], [])))
  | _, _ => .fail
theorem may_raw0 (n : Int) : runF (envOf tab [] [] [] []) true Try.f11 [.dat (.int .u64 n)] [] =
  (bif decide (n ≥ (1 : Int)) == true then 
   (bif decide (n ≥ (1 : Int)) then some ([AV.dat (D.bool (decide (n ≤ (4611686018427387904 : Int))))], []) else some ([AV.dat (D.bool false)], [])) else 
   (bif decide (n ≥ (1 : Int)) then none else some ([AV.dat (D.bool false)], []))) := by kernel_rfl
theorem may_case0 (n : Int) : runF (envOf tab [] [] [] []) true Try.f11 [.dat (.int .u64 n)] [] = FunT.run S_may [.dat (.int .u64 n)] [] := (may_raw0 n).trans (cong2 (cond_cases (fun h0 => (by (try rw [h0]) <;> rfl)) (fun h0 => (by (try rw [h0]) <;> rfl))) (cong2 rfl rfl))
theorem may_ok : FunOk Try.prog 11 (FunT.run S_may) := by
  refine fun_ok (E := envOf tab [] [] [] []) (fz := true) (fn := Try.f11) (envOf_ok progOk (.nil _)) (by kernel_rfl) (by kernel_rfl) (loops_none (by kernel_rfl)) ?_
  intro args σ r h
  unfold S_may at h
  split at h
  · exact (may_case0 _).trans h
  · simp [T.run_fail] at h


def equal_fr (_ : Store) (a b : List D) (n : Int) : Int → Frame' := fun i => mkF 26 [(0, .dat (.slc .one a)), (1, .dat (.slc .one b)), (12, .dat (.int .i64 n)), (13, .dat (.int .i64 i))]
def equal_st (σ : Store) (_ _ : List D) (_ : Int) : Int → Store := fun _ => σ
def equal_step (σ : Store) (a b : List D) (n : Int) : Int → T (Int ⊕ LOut) := fun i => 
  .br (decide (i < n)) (
   .chk (decide ((0 : Int) ≤ i)) (
    .chk (decide (Int.toNat i < List.length a)) (
     .chk (okE (Ek.int IntKind.u8) (nthD a (Int.toNat i))) (
      .chk (decide ((0 : Int) ≤ i)) (
       .chk (decide (Int.toNat i < List.length b)) (
        .chk (okE (Ek.int IntKind.u8) (nthD b (Int.toNat i))) (
         .br (D.getI (nthD a (Int.toNat i)) != D.getI (nthD b (Int.toNat i))) (.leaf (.inr (none, mkF (26 : Nat) [((4 : Nat), AV.dat (D.bool false))], σ))) (.leaf (.inl (IntKind.wrap IntKind.i64 (i + (1 : Int)))))))))))) (.leaf (.inr ((some (0 : Nat)), mkF (26 : Nat) [], σ)))
theorem equal_round (lp : Loops) (σ : Store) (a b : List D) (n : Int) (i : Int) (K : Kt) : oneRound (envOf tab [] [] lp []) Try.f17 0 (σ.length) (mkF 26 [(0, .dat (.slc .one a)), (1, .dat (.slc .one b)), (12, .dat (.int .i64 n)), (13, .dat (.int .i64 i))]) (σ) K =
  (bif decide (i < n) then 
   (bif decide ((0 : Int) ≤ i) then 
    (bif decide (Int.toNat i < List.length a) then 
     (bif okE (Ek.int IntKind.u8) (nthD a (Int.toNat i)) then 
      (bif decide ((0 : Int) ≤ i) then 
       (bif decide (Int.toNat i < List.length b) then 
        (bif okE (Ek.int IntKind.u8) (nthD b (Int.toNat i)) then 
         (bif D.getI (nthD a (Int.toNat i)) != D.getI (nthD b (Int.toNat i)) then K (Exit.ret) (mkF (26 : Nat) [((4 : Nat), AV.dat (D.bool false))]) (σ) else K (Exit.normal) (mkF (26 : Nat) [((0 : Nat), AV.dat (D.slc Sh.one a)), ((1 : Nat), AV.dat (D.slc Sh.one b)), ((12 : Nat), AV.dat (D.int IntKind.i64 n)), ((13 : Nat), AV.dat (D.int IntKind.i64 (IntKind.wrap IntKind.i64 (i + (1 : Int))))), ((14 : Nat), AV.dat (D.bool (decide (i < n)))), ((25 : Nat), AV.dat (D.int IntKind.i64 (IntKind.wrap IntKind.i64 (i + (1 : Int)))))]) (σ)) else none) else none) else none) else none) else none) else none) else K (Exit.exit (0 : Nat)) (mkF (26 : Nat) []) (σ)) := by kernel_rfl
theorem equal_hr (lp : Loops) (σ : Store) (a b : List D) (n : Int) : ∀ (sA : Int) (K : Kt) (N : Int → Option Res), (∀ sB fr' σ', cleanF (liveAt Try.f17 0) 0 fr' = equal_fr σ a b n sB → trim (σ.length) (equal_fr σ a b n sB) σ' = equal_st σ a b n sB → K .normal fr' σ' = N sB) →
    oneRound (envOf tab [] [] lp []) Try.f17 0 (σ.length) (equal_fr σ a b n sA) (equal_st σ a b n sA) K = (equal_step σ a b n sA).k (LK K N) := by
  intro i K N hN
  exact (equal_round lp σ a b n i K).trans (cong2 (cong2 (cong2 (cong2 (cong2 (cong2 (cong2 (cong2 rfl (hN (IntKind.wrap IntKind.i64 (i + (1 : Int))) _ _ (by kernel_rfl) (trim_self (Nat.le_refl _)))) rfl) rfl) rfl) rfl) rfl) rfl) rfl)
theorem equal_enter (σ : Store) (a b : List D) (n : Int) (i : Int) (fr : Frame') (hl : Nat.beq fr.length 26 = true) (g0 : fr.getD 0 .undef = AV.dat (D.slc Sh.one a)) (g1 : fr.getD 1 .undef = AV.dat (D.slc Sh.one b)) (g12 : fr.getD 12 .undef = AV.dat (D.int IntKind.i64 n)) (g13 : fr.getD 13 .undef = AV.dat (D.int IntKind.i64 i)) : cleanF (liveAt Try.f17 0) 0 fr = equal_fr σ a b n i := by
  have e : liveAt Try.f17 0 = [12, 0, 1, 13] := by kernel_rfl
  rw [clean_mk (Nat.eq_of_beq_eq_true hl), e]
  show mkF 26 [(12, fr.getD 12 .undef), (0, fr.getD 0 .undef), (1, fr.getD 1 .undef), (13, fr.getD 13 .undef)] = _
  rw [g12, g0, g1, g13]
  kernel_rfl


theorem clone0  : runF (envOf tab [] [] [] []) true Try.f18 [.dat (.slc .one [])] [] =some ([AV.dat (D.slc Sh.one [])], []) := by kernel_rfl
theorem clone1 (d : D) (ds : List D) : runF (envOf tab [] [] [] []) true Try.f18 [.dat (.slc .one (d :: ds))] [] =
  (bif fits Sh.one (d :: ds) then 
   (bif decide (((0 : Nat) + List.length (d :: ds)) * (1 : Nat) ≤ (35184372088832 : Nat)) then 
    (bif Nat.beq (List.length (d :: ds)) ((0 : Nat) + List.length (d :: ds)) then some ([AV.dat (D.slc Sh.one (seg (d :: ds) (0 : Nat) ((0 : Nat) + List.length (d :: ds))))], []) else none) else none) else none) := by kernel_rfl
theorem cloneO1 (d : D) (ds : List D) : runF (envOf tab [] [] [] []) false Try.f18 [.dat (.slc .one (d :: ds))] [] =
  (bif fits Sh.one (d :: ds) then 
   (bif decide (((0 : Nat) + List.length (d :: ds)) * (1 : Nat) ≤ (35184372088832 : Nat)) then some ([AV.sref Sh.one (0 : Nat) ((0 : Nat) + List.length (d :: ds)) [] (0 : Nat) ((0 : Nat) + List.length (d :: ds))], [{ sh := Sh.arr Sh.one (0 : Nat), dyn := true, frz := false, v := AV.dat (D.arr Sh.one (d :: ds)) }]) else none) else none) := by kernel_rfl
def S_clone : FunT := fun args σ => match args, σ with
  | [.dat (.slc .one ds)], [] => .chk (fits .one ds && decide (ds.length * 1 ≤ LIM)) (.leaf ([.dat (.slc .one ds)], []))
  | _, _ => .fail
theorem clone_ok : FunOk Try.prog 18 (FunT.run S_clone) := by
  refine fun_ok (E := envOf tab [] [] [] []) (fz := true) (fn := Try.f18) (envOf_ok progOk (.nil _)) (by kernel_rfl) (by kernel_rfl) (loops_none (by kernel_rfl)) ?_
  intro args σ r h
  unfold S_clone at h
  split at h
  · rename_i ds
    obtain ⟨hc, h'⟩ := T.chk_some h
    rw [← T.leaf_some h']
    simp only [Bool.and_eq_true, decide_eq_true_eq] at hc
    cases ds with
    | nil => exact clone0
    | cons d ds =>
      rw [clone1, hc.1, Nat.zero_add, decide_eq_true (show (d :: ds).length * 1 ≤ 35184372088832 from hc.2), beq_self, seg_full]; rfl
  · simp [T.run_fail] at h
def S_cloneO : FunT := fun args σ => match args, σ with
  | [.dat (.slc .one ds)], [] => .chk (!ds.isEmpty && fits .one ds && decide (ds.length * 1 ≤ LIM)) (.leaf ([.sref .one 0 ds.length [] 0 ds.length], [mkDyn .one ds]))
  | _, _ => .fail
theorem cloneO_ok : FunOk Try.prog 18 (FunT.run S_cloneO) := by
  refine fun_ok (E := envOf tab [] [] [] []) (fz := false) (fn := Try.f18) (envOf_ok progOk (.nil _)) (by kernel_rfl) (by kernel_rfl) (loops_none (by kernel_rfl)) ?_
  intro args σ r h
  unfold S_cloneO at h
  split at h
  · rename_i ds
    obtain ⟨hc, h'⟩ := T.chk_some h
    rw [← T.leaf_some h']
    simp only [Bool.and_eq_true, decide_eq_true_eq] at hc
    cases ds with
    | nil => simp at hc
    | cons d ds => rw [cloneO1, hc.1.2, Nat.zero_add, decide_eq_true (show (d :: ds).length * 1 ≤ 35184372088832 from hc.2)]; rfl
  · simp [T.run_fail] at h

theorem equal_closed (σ : Store) (a b : List D) (n : Int) (hc : (decide (n = (a.length : Int)) && okB8 a && okB8 b && decide (a.length = b.length)) = true) :
    ∃ m, (iterT (equal_step σ a b n) m 0).run = T.run (.br (D.eqbL a b) (.leaf (some 0, mkF 26 [], σ)) (.leaf (none, mkF 26 [(4, .dat (.bool false))], σ))) := by
  simp only [Bool.and_eq_true, decide_eq_true_eq] at hc
  obtain ⟨⟨⟨rfl, ha⟩, hb⟩, hl⟩ := hc
  obtain ⟨h1, h2⟩ := okB8_spec ha
  obtain ⟨h3, h4⟩ := okB8_spec hb
  obtain ⟨m, hm⟩ := iter_any (step := equal_step σ a b a.length) (n := a.length) (p := fun i => D.getI (nthD a i) != D.getI (nthD b i)) (o := (none, mkF 26 [(4, .dat (.bool false))], σ)) (o' := (some 0, mkF 26 [], σ))
    (fun k hk => by
      unfold equal_step
      rw [decide_eq_true (show (k : Int) < (a.length : Int) by omega), decide_eq_true (show (0 : Int) ≤ (k : Int) by omega), decide_eq_true (show Int.toNat (k : Int) < a.length by omega), decide_eq_true (show Int.toNat (k : Int) < b.length by omega), Int.toNat_natCast, allE_nth h1 hk, allE_nth h3 (by omega : k < b.length), wrap_succ (by omega)]
      cases (D.getI (nthD a k) != D.getI (nthD b k)) <;> rfl)
    (by
      unfold equal_step
      rw [decide_eq_false (show ¬ (a.length : Int) < (a.length : Int) by omega)]
      rfl)
  rw [eqbL_range a b hl h1 h3] at hm
  refine ⟨m, hm.trans ?_⟩
  cases D.eqbL a b <;> rfl

def L_equal : Frame' → Store → T (Exit × Frame' × Store) := fun fr σ => match fr.getD 0 .undef, fr.getD 1 .undef, fr.getD 12 .undef, fr.getD 13 .undef with
  | AV.dat (D.slc Sh.one a), AV.dat (D.slc Sh.one b), AV.dat (D.int IntKind.i64 n), AV.dat (D.int IntKind.i64 0) => .chk (Nat.beq fr.length 26 && (decide (n = (a.length : Int)) && okB8 a && okB8 b && decide (a.length = b.length))) (T.bind (.br (D.eqbL a b) (.leaf (some 0, mkF 26 [], σ)) (.leaf (none, mkF 26 [(4, .dat (.bool false))], σ))) fun o => .leaf (outEx o.1, o.2.1, o.2.2))
  | _, _, _, _ => .fail
theorem equal_sem (lp : Loops) : ∀ fr σ p, (L_equal fr σ).run = some p → ∀ (K : Kt) r, K p.1 p.2.1 p.2.2 = some r → ∃ n, loopRun (envOf tab [] [] lp []) Try.f17 0 σ.length n (cleanF (liveAt Try.f17 0) 0 fr) σ K = some r := by
  intro fr σ p h K r hK
  unfold L_equal at h
  split at h
  · rename_i a b n g0 g1 g12 g13
    obtain ⟨hc, h'⟩ := T.chk_some h
    rw [Bool.and_eq_true] at hc
    obtain ⟨hl, hc⟩ := hc
    obtain ⟨o, ho, h'⟩ := T.bind_some h'
    have hp := T.leaf_some h'
    subst hp
    obtain ⟨nF, hn⟩ : ∃ nF, (iterT (equal_step σ a b n) nF (0)).run = T.run (.br (D.eqbL a b) (.leaf (some 0, mkF 26 [], σ)) (.leaf (none, mkF 26 [(4, .dat (.bool false))], σ))) := equal_closed σ a b n hc
    rw [ho] at hn
    refine ⟨nF, ?_⟩
    have he : cleanF (liveAt Try.f17 0) 0 fr = equal_fr σ a b n (0) := equal_enter σ a b n _ fr hl g0 g1 g12 g13
    refine (iter_ok (base := σ.length) (equal_hr lp σ a b n) K nF (0) _ _ (by rw [clean_clean]; exact he) (trim_self (Nat.le_refl _))).trans ?_
    rw [T.k_run hn]
    exact hK
  · simp [T.run_fail] at h
theorem equal_loopOk (lp : Loops) (hk : Loops.get lp 4 = some L_equal) : LoopOk (envOf tab [] [] lp []) (loopAt Try.f17 0).1 (loopAt Try.f17 0).2 := loop_ok (L := L_equal) hk (equal_sem lp)


def S_equal : FunT := fun args σ => match args, σ with
  | [AV.dat (D.slc Sh.one a), AV.dat (D.slc Sh.one b)], [] => 
    .br ((↑(List.length a) : Int) != (↑(List.length b) : Int)) (.leaf ([AV.dat (D.bool false)], [])) (
     .chk (decide ((↑(List.length a) : Int) = (↑(List.length a) : Int)) && okB8 a && okB8 b && decide (List.length a = List.length b)) (.leaf ([AV.dat (D.bool (D.eqbL a b))], [])))
  | _, _ => .fail
theorem equal_raw0 (a b : List D) : runF (envOf tab [] [] [(4, L_equal)] []) true Try.f17 [.dat (.slc .one a), .dat (.slc .one b)] [] =
  (bif (↑(List.length a) : Int) != (↑(List.length b) : Int) then some ([AV.dat (D.bool false)], []) else 
   (bif decide ((↑(List.length a) : Int) = (↑(List.length a) : Int)) && okB8 a && okB8 b && decide (List.length a = List.length b) then 
    (bif D.eqbL a b then some ([AV.dat (D.bool true)], []) else some ([AV.dat (D.bool false)], [])) else none)) := by kernel_rfl
theorem equal_case0 (a b : List D) : runF (envOf tab [] [] [(4, L_equal)] []) true Try.f17 [.dat (.slc .one a), .dat (.slc .one b)] [] = FunT.run S_equal [.dat (.slc .one a), .dat (.slc .one b)] [] := (equal_raw0 a b).trans (cong2 rfl (cong2 (cond_cases (fun h0 => (by (try rw [h0]) <;> rfl)) (fun h0 => (by (try rw [h0]) <;> rfl))) rfl))
theorem equal_ok : FunOk Try.prog 17 (FunT.run S_equal) := by
  refine fun_ok (E := envOf tab [] [] [(4, L_equal)] []) (fz := true) (fn := Try.f17) (envOf_ok progOk (.nil _)) (by kernel_rfl) (by kernel_rfl) (loops_one (by kernel_rfl) (equal_loopOk _ rfl)) ?_
  intro args σ r h
  unfold S_equal at h
  split at h
  · exact (equal_case0 _ _).trans h
  · simp [T.run_fail] at h


theorem eqbL_len : ∀ {a b : List D}, D.eqbL a b = true → a.length = b.length
  | [], [], _ => rfl
  | _ :: _, _ :: _, h => by simp only [D.eqbL, Bool.and_eq_true] at h; simp [eqbL_len h.2]
  | [], _ :: _, h => by simp [D.eqbL] at h
  | _ :: _, [], h => by simp [D.eqbL] at h
def C_equal : FunT := fun args σ => match args, σ with
  | [.dat (.slc .one a), .dat (.slc .one b)], [] => .chk (okB8 a && okB8 b) (.leaf ([.dat (.bool (D.eqbL a b))], []))
  | _, _ => .fail
theorem cequal_ok : FunOk Try.prog 17 (FunT.run C_equal) := equal_ok.of (by
  intro args σ r h
  unfold C_equal at h
  split at h
  · rename_i a b
    obtain ⟨hc, h'⟩ := T.chk_some h
    rw [← T.leaf_some h']
    simp only [Bool.and_eq_true] at hc
    unfold S_equal
    by_cases hl : a.length = b.length
    · simp only [hc.1, hc.2, hl, T.run_br, T.run_chk, T.run_leaf, bne_self_eq_false, cond_false, cond_true, decide_true, Bool.and_self]
    · have h1 : ((a.length : Int) != (b.length : Int)) = true := by simp; omega
      have h2 : D.eqbL a b = false := by
        cases he : D.eqbL a b with
        | false => rfl
        | true => exact absurd (eqbL_len he) hl
      rw [h2]
      simp only [h1, T.run_br, T.run_leaf, cond_true]
  · simp [T.run_fail] at h)

def S_number : FunT := fun args σ => match args, σ with
  | [AV.dat (D.slc Sh.one ds)], [] => 
    .chk (isBytes ds && decide (List.length ds ≤ (35184372088832 : Nat))) (.leaf ([AV.dat (D.int IntKind.u64 (numU (0 : Int) (Sc.takes { ds := ds, f := (0 : Int), b := true } (fitI (↑(List.length ds) : Int)))))], []))
  | _, _ => .fail
theorem number_case0 (ds : List D) : runF (envOf tab [(26, S_from), (27, S_snum)] [] [] []) true Try.f16 [.dat (.slc .one ds)] [] = FunT.run S_number [.dat (.slc .one ds)] [] := by kernel_rfl
theorem number_ok : FunOk Try.prog 16 (FunT.run S_number) := by
  refine fun_ok (E := envOf tab [(26, S_from), (27, S_snum)] [] [] []) (fz := true) (fn := Try.f16) (envOf_ok progOk (.cons from_ok (.cons snum_ok (.nil _)))) (by kernel_rfl) (by kernel_rfl) (loops_none (by kernel_rfl)) ?_
  intro args σ r h
  unfold S_number at h
  split at h
  · exact (number_case0 _).trans h
  · simp [T.run_fail] at h


def mayB (n : Int) : Bool := decide (1 ≤ n) && decide (n ≤ 2 ^ 62)
def C_may : FunT := fun args σ => match args, σ with
  | [.dat (.int .u64 n)], [] => .leaf ([.dat (.bool (mayB n))], [])
  | _, _ => .fail
theorem cmay_ok : FunOk Try.prog 11 (FunT.run C_may) := may_ok.of (by
  intro args σ r h
  unfold C_may at h
  split at h
  · rename_i n
    rw [← T.leaf_some h]
    unfold S_may mayB
    by_cases g : 1 ≤ n
    · simp only [ge_iff_le, g, decide_true, T.run_br, T.run_leaf, cond_true, beq_self_eq_true, Bool.true_and]; rfl
    · simp only [ge_iff_le, g, decide_false, T.run_br, T.run_leaf, cond_false, Bool.false_and, show (false == true) = false from rfl]
  · simp [T.run_fail] at h)

abbrev Sp1 : Specs := [(11, C_may), (12, S_num), (13, C_of), (14, S_rnum), (15, C_rof), (16, S_number), (17, C_equal), (18, S_clone), (19, S_rsnum), (20, S_rtake)]
theorem Sp1_ok : SpecsOk Try.prog Sp1 := .cons cmay_ok (.cons num_ok (.cons cof_ok (.cons rnum_ok (.cons crof_ok (.cons number_ok (.cons cequal_ok (.cons clone_ok (.cons rsnum_ok (.cons rtake_ok (.nil _))))))))))

end Go.Proofs.Ytfajnpnmghbdpaa
