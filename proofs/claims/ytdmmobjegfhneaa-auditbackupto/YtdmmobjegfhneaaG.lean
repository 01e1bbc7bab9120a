/- Seat 20: numbers as bytes. -/
import Derived.Test.YtdmmobjegfhneaaF
import Derived.Test.YtdmmobjegfhneaaP
namespace Go.Proofs.Ytdmmobjegfhneaa
open Go.AX
set_option maxRecDepth 100000
theorem iter_downS {S : Type} {step : Int × S → T ((Int × S) ⊕ LOut)} {n : Nat} {o : LOut} (a : Nat) (g : Nat → S)
    (h : ∀ i, i < n → (step (((a + i : Nat) : Int), g (i + 1))).run = some (.inl (((a + i : Nat) : Int) - 1, g i)))
    (h' : (step ((a : Int) - 1, g 0)).run = some (.inr o)) : ∃ z, (iterT step z (((a + n : Nat) : Int) - 1, g n)).run = some o := by
  have key : ∀ j, j ≤ n → (iterT step (j + 1) (((a + j : Nat) : Int) - 1, g j)).run = some o := by
    intro j
    induction j with
    | zero => intro _; exact iter_out h'
    | succ j ih =>
      intro hj
      have hs := h j (by omega)
      have e : (((a + (j + 1) : Nat) : Int) - 1) = ((a + j : Nat) : Int) := by omega
      rw [e]
      exact iter_next hs (ih (by omega))
  exact ⟨n + 1, key n (Nat.le_refl n)⟩
def byteAt (n : Int) (i : Nat) : D := .int .u8 (n / 2 ^ (8 * i) % 256)
def numB (n : Int) : Nat → List D
  | 0 => []
  | k + 1 => byteAt n k :: numB n k
theorem numB_length (n : Int) : ∀ k, (numB n k).length = k
  | 0 => rfl
  | k + 1 => by rw [numB, List.length_cons, numB_length n k]
theorem numB_nth (n : Int) : ∀ {k i : Nat}, i < k → nthD (numB n k) i = byteAt n (k - 1 - i)
  | k + 1, 0, _ => rfl
  | k + 1, i + 1, h => by
    rw [numB, nthD_cons_succ, numB_nth n (show i < k by omega)]
    congr 1; omega
theorem isBytes_numB (n : Int) : ∀ k, isBytes (numB n k) = true
  | 0 => rfl
  | k + 1 => by
    have := isBytes_numB n k
    unfold isBytes at this ⊢
    rw [numB, List.all_cons, this]; rfl
theorem fits_numB (n : Int) (k : Nat) : fits .one (numB n k) = true := by
  rw [fits_one_iff]
  intro d hd
  obtain ⟨z, rfl⟩ := isBytes_mem (isBytes_numB n k) hd
  rfl
theorem pow8 (i : Nat) (hi : i < 8) : min (Int.toNat (IntKind.wrap .i64 (8 * (i : Int)))) 64 = 8 * i := by
  rw [IntKind.wrap_i64]; omega
theorem byte_wn {n : Int} (_ : 0 ≤ n) {i : Nat} (hi : i < 8) : D.int .u8 (IntKind.wrap .u8 (Int.fdiv n (2 ^ min (Int.toNat (IntKind.wrap .i64 (8 * (i : Int)))) 64))) = byteAt n i := by
  unfold byteAt
  rw [pow8 i hi, Int.fdiv_eq_ediv_of_nonneg _ (Int.pow_nonneg (by omega)), IntKind.wrap_u8]
theorem wn_closed (n i : Int) (m k : Nat) (ds : List D) (hc : (decide (m = k) && (decide (0 ≤ n) && (decide (0 ≤ i) && (decide (i < 8) && (decide (ds.length = m) && decide (ds.length ≤ 1099511627776)))))) = true) :
    ∃ z, (iterT (wn_step n) z (i, m, k, ds)).run = T.run (.leaf (some 0, mkF 29 [(7, .sref .one 0 (ds.length + (i.toNat + 1)) [] 0 (ds.length + (i.toNat + 1)))], [mkDyn .one (ds ++ numB n (i.toNat + 1))])) := by
  simp only [Bool.and_eq_true, decide_eq_true_eq] at hc
  obtain ⟨rfl, h0, h1, h2, rfl, h3⟩ := hc
  obtain ⟨k, rfl⟩ := Int.eq_ofNat_of_zero_le h1
  rw [Int.toNat_natCast]
  obtain ⟨z, hz⟩ := iter_downS (step := wn_step n) (n := k + 1) (o := (some 0, mkF 29 [(7, .sref .one 0 (ds.length + (k + 1)) [] 0 (ds.length + (k + 1)))], [mkDyn .one (ds ++ numB n (k + 1))])) 0
    (fun j => (ds.length + (k + 1 - j), ds.length + (k + 1 - j), ds ++ (numB n (k + 1)).take (k + 1 - j))) (fun j hj => by
      have hw : IntKind.wrap .i64 (8 * (j : Int)) = 8 * (j : Int) := by rw [IntKind.wrap_i64]; omega
      have hw2 : IntKind.wrap .i64 ((j : Int) - 1) = (j : Int) - 1 := by rw [IntKind.wrap_i64]; omega
      have hb := byte_wn h0 (show j < 8 by omega)
      rw [hw] at hb
      have hl : (ds ++ (numB n (k + 1)).take (k + 1 - (j + 1))).length = ds.length + (k + 1 - (j + 1)) := by rw [List.length_append, List.length_take, numB_length]; omega
      have e1 : ds.length + (k + 1 - (j + 1)) + 1 = ds.length + (k + 1 - j) := by omega
      have e2 : (ds ++ (numB n (k + 1)).take (k + 1 - (j + 1))) ++ [byteAt n j] = ds ++ (numB n (k + 1)).take (k + 1 - j) := by
        rw [List.append_assoc]
        congr 1
        rw [show k + 1 - j = (k + 1 - (j + 1)) + 1 by omega, take_succ_nth (by rw [numB_length]; omega), numB_nth n (by omega)]
        rw [show k + 1 - 1 - (k + 1 - (j + 1)) = j by omega]
      unfold wn_step
      simp only [Nat.zero_add, hw, hw2, hb, hl, e1, e2, decide_eq_true (show (0 : Int) ≤ (j : Int) by omega), decide_eq_true (show (0 : Int) ≤ 8 * (j : Int) by omega), Nat.beq_refl, decide_eq_true (show (ds.length + (k + 1 - j)) * 1 ≤ 35184372088832 by omega), Bool.not_true, Bool.false_or, Bool.true_and, T.run_br, T.run_chk, T.run_leaf, cond_true, cond_false])
    (by
      unfold wn_step
      rw [List.take_of_length_le (by rw [numB_length]; omega)]
      rfl)
  refine ⟨z, ?_⟩
  rw [Nat.sub_self, List.take_zero, List.append_nil] at hz
  rw [show (((0 + (k + 1) : Nat) : Int) - 1) = (k : Int) by omega] at hz
  exact hz
def L_wn : Frame' → Store → T (Exit × Frame' × Store) := fun fr σ => match fr.getD 1 .undef, fr.getD 7 .undef, fr.getD 8 .undef, σ with
  | AV.dat (D.int IntKind.u64 n), AV.sref Sh.one 0 m [] 0 k, AV.dat (D.int IntKind.i64 i), [{ sh := Sh.arr Sh.one 0, dyn := true, frz := false, v := AV.dat (D.arr Sh.one ds) }] => .chk (Nat.beq fr.length 29 && (decide (m = k) && (decide (0 ≤ n) && (decide (0 ≤ i) && (decide (i < 8) && (decide (ds.length = m) && decide (ds.length ≤ 1099511627776))))))) (T.bind (.leaf (some 0, mkF 29 [(7, .sref .one 0 (ds.length + (i.toNat + 1)) [] 0 (ds.length + (i.toNat + 1)))], [mkDyn .one (ds ++ numB n (i.toNat + 1))])) fun o => .leaf (outEx o.1, o.2.1, o.2.2))
  | _, _, _, _ => .fail
theorem wn_sem (lp : Loops) : ∀ fr σ p, (L_wn fr σ).run = some p → ∀ (K : Kt) r, K p.1 p.2.1 p.2.2 = some r → ∃ n, loopRun (envOf tab SpF0 [] lp []) Try.f33 0 σ.length n (cleanF (liveAt Try.f33 0) 0 fr) σ K = some r := by
  intro fr σ p h K r hK
  unfold L_wn at h
  split at h
  · rename_i n m k i ds g1 g7 g8
    obtain ⟨hc, h'⟩ := T.chk_some h
    rw [Bool.and_eq_true] at hc
    obtain ⟨hl, hc⟩ := hc
    obtain ⟨o, ho, h'⟩ := T.bind_some h'
    have hp := T.leaf_some h'
    subst hp
    obtain ⟨nF, hn⟩ : ∃ nF, (iterT (wn_step n) nF ((i, m, k, ds))).run = T.run (.leaf (some 0, mkF 29 [(7, .sref .one 0 (ds.length + (i.toNat + 1)) [] 0 (ds.length + (i.toNat + 1)))], [mkDyn .one (ds ++ numB n (i.toNat + 1))])) := wn_closed n i m k ds hc
    rw [ho] at hn
    refine ⟨nF, ?_⟩
    have he : cleanF (liveAt Try.f33 0) 0 fr = wn_fr n ((i, m, k, ds)) := wn_enter n _ _ _ _ fr hl g1 g7 g8
    refine (iter_ok (base := 1) (wn_hr lp n) K nF ((i, m, k, ds)) _ _ (by rw [clean_clean]; exact he) (by kernel_rfl)).trans ?_
    rw [T.k_run hn]
    exact hK
  · simp [T.run_fail] at h
theorem wn_loopOk {k : Nat} (lp : Loops) (hk : Loops.get lp 3 = some L_wn) : LoopOkN Try.prog k (envOf tab SpF0 [] lp []) (loopAt Try.f33 0).1 (loopAt Try.f33 0).2 := loop_okN (L := L_wn) (by kernel_rfl) hk (wn_sem lp)
def wnum_v0 (ds : List D) (n : Int) (k : Int) : List D := seg ds 0 (Int.toNat (↑(List.length ds) : Int) - 0) ++ numB n (Int.toNat (IntKind.wrap IntKind.i64 (fit_v0 k - 1)) + 1)
def wnum_pre (ds : List D) (n : Int) (k : Int) : Bool := own_pre ds && (fits Sh.one (seg ds 0 (Int.toNat (↑(List.length ds) : Int) - 0)) && (decide ((0 + List.length (seg ds 0 (Int.toNat (↑(List.length ds) : Int) - 0))) * 1 ≤ 35184372088832) && (decide (0 + List.length (seg ds 0 (Int.toNat (↑(List.length ds) : Int) - 0)) = 0 + List.length (seg ds 0 (Int.toNat (↑(List.length ds) : Int) - 0))) && (decide (0 ≤ n) && (decide (0 ≤ IntKind.wrap IntKind.i64 (fit_v0 k - 1)) && (decide (IntKind.wrap IntKind.i64 (fit_v0 k - 1) < 8) && (decide (List.length (seg ds 0 (Int.toNat (↑(List.length ds) : Int) - 0)) = 0 + List.length (seg ds 0 (Int.toNat (↑(List.length ds) : Int) - 0))) && decide (List.length (seg ds 0 (Int.toNat (↑(List.length ds) : Int) - 0)) ≤ 1099511627776))))))))
def C_wnum : FunT := fun args σ => match args, σ with
  | [AV.dat (D.slc Sh.one ds), AV.dat (D.int IntKind.u64 n), AV.dat (D.int IntKind.i64 k)], [] => .chk ((wnum_pre ds n k)) (.leaf ([AV.sref Sh.one 0 (List.length (seg ds 0 (Int.toNat (↑(List.length ds) : Int) - 0)) + (Int.toNat (IntKind.wrap IntKind.i64 (fit_v0 k - 1)) + 1)) [] 0 (List.length (seg ds 0 (Int.toNat (↑(List.length ds) : Int) - 0)) + (Int.toNat (IntKind.wrap IntKind.i64 (fit_v0 k - 1)) + 1))], [{ sh := Sh.arr Sh.one 0, dyn := true, frz := false, v := AV.dat (D.arr Sh.one (wnum_v0 ds n k)) }]))
  | _, _ => .fail
theorem wnum_raw0 (ds : List D) (n k : Int) : runF (envOf tab SpF0 [] [(3, L_wn)] []) false Try.f33 [.dat (.slc .one ds), .dat (.int .u64 n), .dat (.int .i64 k)] [] =
  (bif own_pre ds then
   (bif fits Sh.one (seg ds 0 (Int.toNat (↑(List.length ds) : Int) - 0)) then
    (bif decide ((0 + List.length (seg ds 0 (Int.toNat (↑(List.length ds) : Int) - 0))) * 1 ≤ 35184372088832) then
     (bif decide (0 + List.length (seg ds 0 (Int.toNat (↑(List.length ds) : Int) - 0)) = 0 + List.length (seg ds 0 (Int.toNat (↑(List.length ds) : Int) - 0))) && (decide (0 ≤ n) && (decide (0 ≤ IntKind.wrap IntKind.i64 (fit_v0 k - 1)) && (decide (IntKind.wrap IntKind.i64 (fit_v0 k - 1) < 8) && (decide (List.length (seg ds 0 (Int.toNat (↑(List.length ds) : Int) - 0)) = 0 + List.length (seg ds 0 (Int.toNat (↑(List.length ds) : Int) - 0))) && decide (List.length (seg ds 0 (Int.toNat (↑(List.length ds) : Int) - 0)) ≤ 1099511627776))))) then some ([AV.sref Sh.one 0 (List.length (seg ds 0 (Int.toNat (↑(List.length ds) : Int) - 0)) + (Int.toNat (IntKind.wrap IntKind.i64 (fit_v0 k - 1)) + 1)) [] 0 (List.length (seg ds 0 (Int.toNat (↑(List.length ds) : Int) - 0)) + (Int.toNat (IntKind.wrap IntKind.i64 (fit_v0 k - 1)) + 1))], [{ sh := Sh.arr Sh.one 0, dyn := true, frz := false, v := .dat (.arr Sh.one (seg ds 0 (Int.toNat (↑(List.length ds) : Int) - 0) ++ numB n (Int.toNat (IntKind.wrap IntKind.i64 (fit_v0 k - 1)) + 1))) }]) else none) else none) else none) else none) := by kernel_rfl
theorem wnum_case0 (ds : List D) (n k : Int) : runF (envOf tab SpF0 [] [(3, L_wn)] []) false Try.f33 [.dat (.slc .one ds), .dat (.int .u64 n), .dat (.int .i64 k)] [] = FunT.run C_wnum [.dat (.slc .one ds), .dat (.int .u64 n), .dat (.int .i64 k)] [] := (wnum_raw0 ds n k).trans (by
  show _ = (cond (own_pre ds && (fits Sh.one (seg ds 0 (Int.toNat (↑(List.length ds) : Int) - 0)) && (decide ((0 + List.length (seg ds 0 (Int.toNat (↑(List.length ds) : Int) - 0))) * 1 ≤ 35184372088832) && (decide (0 + List.length (seg ds 0 (Int.toNat (↑(List.length ds) : Int) - 0)) = 0 + List.length (seg ds 0 (Int.toNat (↑(List.length ds) : Int) - 0))) && (decide (0 ≤ n) && (decide (0 ≤ IntKind.wrap IntKind.i64 (fit_v0 k - 1)) && (decide (IntKind.wrap IntKind.i64 (fit_v0 k - 1) < 8) && (decide (List.length (seg ds 0 (Int.toNat (↑(List.length ds) : Int) - 0)) = 0 + List.length (seg ds 0 (Int.toNat (↑(List.length ds) : Int) - 0))) && decide (List.length (seg ds 0 (Int.toNat (↑(List.length ds) : Int) - 0)) ≤ 1099511627776))))))))) (some (([AV.sref Sh.one 0 (List.length (seg ds 0 (Int.toNat (↑(List.length ds) : Int) - 0)) + (Int.toNat (IntKind.wrap IntKind.i64 (fit_v0 k - 1)) + 1)) [] 0 (List.length (seg ds 0 (Int.toNat (↑(List.length ds) : Int) - 0)) + (Int.toNat (IntKind.wrap IntKind.i64 (fit_v0 k - 1)) + 1))], [{ sh := Sh.arr Sh.one 0, dyn := true, frz := false, v := .dat (.arr Sh.one (seg ds 0 (Int.toNat (↑(List.length ds) : Int) - 0) ++ numB n (Int.toNat (IntKind.wrap IntKind.i64 (fit_v0 k - 1)) + 1))) }]) : Res)) none)
  generalize (decide (0 + List.length (seg ds 0 (Int.toNat (↑(List.length ds) : Int) - 0)) = 0 + List.length (seg ds 0 (Int.toNat (↑(List.length ds) : Int) - 0))) && (decide (0 ≤ n) && (decide (0 ≤ IntKind.wrap IntKind.i64 (fit_v0 k - 1)) && (decide (IntKind.wrap IntKind.i64 (fit_v0 k - 1) < 8) && (decide (List.length (seg ds 0 (Int.toNat (↑(List.length ds) : Int) - 0)) = 0 + List.length (seg ds 0 (Int.toNat (↑(List.length ds) : Int) - 0))) && decide (List.length (seg ds 0 (Int.toNat (↑(List.length ds) : Int) - 0)) ≤ 1099511627776)))))) = z0
  generalize (decide ((0 + List.length (seg ds 0 (Int.toNat (↑(List.length ds) : Int) - 0))) * 1 ≤ 35184372088832)) = z1
  generalize (fits Sh.one (seg ds 0 (Int.toNat (↑(List.length ds) : Int) - 0))) = z2
  generalize (own_pre ds) = z3
  cases z3 with
  | true =>
   cases z2 with
   | true =>
    cases z1 with
    | true =>
     cases z0 with
     | true =>
      rfl
     | false =>
      rfl
    | false =>
     rfl
   | false =>
    rfl
  | false =>
   rfl
  )
theorem cwnum_ok : FunOk Try.prog 33 (FunT.run C_wnum) := by
  refine fun_ok (E := envOf tab SpF0 [] [(3, L_wn)] []) (fz := false) (fn := Try.f33) (envOf_ok progOk SpF0_ok) (by kernel_rfl) (by kernel_rfl) (loops_one (by kernel_rfl) (wn_loopOk _ rfl)) ?_
  intro args σ r h
  unfold C_wnum at h
  split at h
  · exact (wnum_case0 _ _ _).trans h
  · simp [T.run_fail] at h
abbrev okNum (ds : List D) (n k : Int) : Bool := fits .one ds && (decide (0 ≤ n) && (decide (1 ≤ k) && (decide (k ≤ 8) && decide (ds.length ≤ 1000000000000))))
def C_wnumc : FunT := fun args σ => match args, σ with
  | [.dat (.slc .one ds), .dat (.int .u64 n), .dat (.int .i64 k)], [] => .chk (okNum ds n k) (.leaf ([.sref .one 0 (ds.length + k.toNat) [] 0 (ds.length + k.toNat)], [mkDyn .one (ds ++ numB n k.toNat)]))
  | _, _ => .fail
theorem seg_all (l : List D) {n : Nat} (h : l.length ≤ n) : seg l 0 n = l := by rw [seg_take, List.take_of_length_le h]
theorem cwnumc_ok : FunOk Try.prog 33 (FunT.run C_wnumc) := FunOk.of cwnum_ok (fun args σ r h => by
  unfold C_wnumc at h
  split at h
  · rename_i ds n k
    obtain ⟨h1, h⟩ := T.chk_some h
    simp only [okNum, Bool.and_eq_true, decide_eq_true_eq] at h1
    obtain ⟨h1, h2, h3, h4, h5⟩ := h1
    rw [← T.leaf_some h]
    have e1 : fit_v0 k = k := by unfold fit_v0; rw [if_neg (show ¬ 1 > k by omega), if_neg (by omega)]
    have e2 : IntKind.wrap .i64 (k - 1) = k - 1 := by rw [IntKind.wrap_i64]; omega
    have e3 : (k - 1).toNat + 1 = k.toNat := by omega
    have e4 : seg ds 0 (Int.toNat (ds.length : Int) - 0) = ds := seg_all _ (by omega)
    have e6 : seg ds 0 (ds.length - 0) = ds := seg_all _ (by omega)
    have e5 : wnum_pre ds n k = true := by
      unfold wnum_pre own_pre
      simp only [e1, e2, e6, h1, Nat.zero_add, Int.toNat_natCast, decide_eq_true h2, decide_eq_true (show 0 ≤ k - 1 by omega), decide_eq_true (show k - 1 < 8 by omega), decide_eq_true (show ds.length ≤ 1099511627776 by omega), decide_eq_true (show ds.length * 1 ≤ 35184372088832 by omega), Bool.and_true, Nat.le_refl, decide_true]
    show T.run (.chk (wnum_pre ds n k) _) = _
    unfold wnum_v0
    rw [e5, e1, e2, e3, e4]; rfl
  · simp [T.run_fail] at h)
theorem rn_closed (b : List D) (m k : Nat) (i n : Int) (out : List D) (hc : (decide (m = k) && (decide (0 ≤ n) && (decide (n < 18446744073709551616) && (decide (b.length < m) && (decide (i = (m : Int) - 1) && (decide (m ≤ 1099511627776) && (fits .one b && D.eqbL out (b ++ List.replicate (m - b.length) (.int .u8 0))))))))) = true) :
    ∃ z, (iterT (rn_step b m k) z (i, n, out)).run = T.run (.leaf (some 0, mkF 38 [(8, .sref .one 0 m [] 0 k)], [mkDyn .one (b ++ numB n (m - b.length))])) := by
  simp only [Bool.and_eq_true, decide_eq_true_eq, eqbL_iff] at hc
  obtain ⟨rfl, h0, h1, h2, rfl, h3, hf, rfl⟩ := hc
  obtain ⟨K, rfl⟩ : ∃ K, m = b.length + K := ⟨m - b.length, by omega⟩
  rw [Nat.add_sub_cancel_left]
  have hmod : ∀ j : Nat, 0 ≤ n / 2 ^ (8 * j) ∧ n / 2 ^ (8 * j) < 18446744073709551616 := fun j => by
    have hp : (0 : Int) < 2 ^ (8 * j) := Int.pow_pos (by omega)
    refine ⟨Int.ediv_nonneg h0 (by omega), ?_⟩
    have := Int.ediv_le_self (a := n) (2 ^ (8 * j)) h0
    omega
  obtain ⟨z, hz⟩ := iter_downS (step := rn_step b (b.length + K) (b.length + K)) (n := K) (o := (some 0, mkF 38 [(8, .sref .one 0 (b.length + K) [] 0 (b.length + K))], [mkDyn .one (b ++ numB n K)])) b.length
    (fun j => (n / 2 ^ (8 * (K - j)), b ++ (List.replicate j (.int .u8 0) ++ (numB n K).drop j))) (fun j hj => by
      have hl : (b ++ (List.replicate (j + 1) (D.int .u8 0) ++ (numB n K).drop (j + 1))).length = b.length + K := by rw [List.length_append, List.length_append, List.length_replicate, List.length_drop, numB_length]; omega
      have hn : nthD (b ++ (List.replicate (j + 1) (D.int .u8 0) ++ (numB n K).drop (j + 1))) (b.length + j) = .int .u8 0 := by
        unfold nthD
        rw [List.getD_eq_getElem?_getD, List.getElem?_append_right (by omega), Nat.add_sub_cancel_left, List.getElem?_append_left (by rw [List.length_replicate]; omega), List.getElem?_replicate, if_pos (by omega)]; rfl
      have hs : (b ++ (List.replicate (j + 1) (D.int .u8 0) ++ (numB n K).drop (j + 1))).set (b.length + j) (byteAt n (K - (j + 1))) = b ++ (List.replicate j (.int .u8 0) ++ (numB n K).drop j) := by
        rw [List.set_append_right _ _ (by omega), Nat.add_sub_cancel_left, List.set_append_left _ _ (by rw [List.length_replicate]; omega)]
        congr 1
        have e : (List.replicate (j + 1) (D.int .u8 0)).set j (byteAt n (K - (j + 1))) = List.replicate j (.int .u8 0) ++ [byteAt n (K - (j + 1))] := by
          rw [List.replicate_succ', List.set_append_right _ _ (by rw [List.length_replicate]; omega), List.length_replicate, Nat.sub_self]; rfl
        have e2 : (numB n K).drop j = byteAt n (K - (j + 1)) :: (numB n K).drop (j + 1) := by
          have := drop_cons_nth (l := numB n K) (i := j) (by rw [numB_length]; exact hj)
          rw [this, numB_nth n hj, show K - 1 - j = K - (j + 1) by omega]
        rw [e, e2, List.append_assoc]; rfl
      have hq := hmod (K - (j + 1))
      have hb : D.int .u8 (IntKind.wrap .u8 (Int.tmod (n / 2 ^ (8 * (K - (j + 1)))) 256)) = byteAt n (K - (j + 1)) := by
        unfold byteAt
        rw [Int.tmod_eq_emod_of_nonneg hq.1, IntKind.wrap_u8]
        congr 1; omega
      have hd : IntKind.wrap .u64 (Int.tdiv (n / 2 ^ (8 * (K - (j + 1)))) 256) = n / 2 ^ (8 * (K - j)) := by
        rw [Int.tdiv_eq_ediv_of_nonneg hq.1, IntKind.wrap_u64]
        have e : (2 : Int) ^ (8 * (K - j)) = 2 ^ (8 * (K - (j + 1))) * 256 := by
          rw [show 8 * (K - j) = 8 * (K - (j + 1)) + 8 by omega, Int.pow_add]; rfl
        rw [e, ← Int.ediv_ediv_of_nonneg (Int.pow_nonneg (by omega))]
        omega
      have hw : IntKind.wrap .i64 (((b.length + j : Nat) : Int) - 1) = ((b.length + j : Nat) : Int) - 1 := by rw [IntKind.wrap_i64]; omega
      unfold rn_step
      simp only [Nat.zero_add, Int.toNat_natCast, hl, hn, hb, hd, hs, hw, decide_eq_true (show (b.length : Int) ≤ ((b.length + j : Nat) : Int) by omega), decide_eq_true (show (0 : Int) ≤ ((b.length + j : Nat) : Int) by omega), decide_eq_true (show ((b.length + j : Nat) : Int) < ((b.length + K : Nat) : Int) by omega), decide_eq_true (show b.length + j < b.length + K by omega), Nat.beq_refl, Bool.not_true, Bool.false_or, Bool.true_and, T.run_br, T.run_chk, T.run_leaf, cond_false]
      rfl)
    (by
      unfold rn_step
      simp only [decide_eq_false (show ¬ (b.length : Int) ≤ (b.length : Int) - 1 by omega)]
      rfl)
  refine ⟨z, ?_⟩
  rw [Nat.sub_self, Nat.mul_zero, List.drop_eq_nil_of_le (by rw [numB_length]; omega), List.append_nil] at hz
  have e : n / 2 ^ 0 = n := by rw [Int.pow_zero, Int.ediv_one]
  rw [e] at hz
  exact hz
def L_rn : Frame' → Store → T (Exit × Frame' × Store) := fun fr σ => match fr.getD 0 .undef, fr.getD 1 .undef, fr.getD 8 .undef, fr.getD 9 .undef, σ with
  | AV.dat (D.slc Sh.one b), AV.dat (D.int IntKind.u64 n), AV.sref Sh.one 0 m [] 0 k, AV.dat (D.int IntKind.i64 i), [{ sh := Sh.arr Sh.one 0, dyn := true, frz := false, v := AV.dat (D.arr Sh.one out) }] => .chk (Nat.beq fr.length 38 && (decide (m = k) && (decide (0 ≤ n) && (decide (n < 18446744073709551616) && (decide (b.length < m) && (decide (i = (m : Int) - 1) && (decide (m ≤ 1099511627776) && (fits .one b && D.eqbL out (b ++ List.replicate (m - b.length) (.int .u8 0)))))))))) (T.bind (.leaf (some 0, mkF 38 [(8, .sref .one 0 m [] 0 k)], [mkDyn .one (b ++ numB n (m - b.length))])) fun o => .leaf (outEx o.1, o.2.1, o.2.2))
  | _, _, _, _, _ => .fail
theorem rn_sem (lp : Loops) : ∀ fr σ p, (L_rn fr σ).run = some p → ∀ (K : Kt) r, K p.1 p.2.1 p.2.2 = some r → ∃ n, loopRun (envOf tab SpF0 [] lp []) Try.f34 0 σ.length n (cleanF (liveAt Try.f34 0) 0 fr) σ K = some r := by
  intro fr σ p h K r hK
  unfold L_rn at h
  split at h
  · rename_i b n m k i out g0 g1 g8 g9
    obtain ⟨hc, h'⟩ := T.chk_some h
    rw [Bool.and_eq_true] at hc
    obtain ⟨hl, hc⟩ := hc
    obtain ⟨o, ho, h'⟩ := T.bind_some h'
    have hp := T.leaf_some h'
    subst hp
    obtain ⟨nF, hn⟩ : ∃ nF, (iterT (rn_step b m k) nF ((i, n, out))).run = T.run (.leaf (some 0, mkF 38 [(8, .sref .one 0 m [] 0 k)], [mkDyn .one (b ++ numB n (m - b.length))])) := rn_closed b m k i n out hc
    rw [ho] at hn
    refine ⟨nF, ?_⟩
    have he : cleanF (liveAt Try.f34 0) 0 fr = rn_fr b m k ((i, n, out)) := rn_enter b m k _ _ _ fr hl g0 g1 g8 g9
    refine (iter_ok (base := 1) (rn_hr lp b m k) K nF ((i, n, out)) _ _ (by rw [clean_clean]; exact he) (by kernel_rfl)).trans ?_
    rw [T.k_run hn]
    exact hK
  · simp [T.run_fail] at h
theorem rn_loopOk {k : Nat} (lp : Loops) (hk : Loops.get lp 5 = some L_rn) : LoopOkN Try.prog k (envOf tab SpF0 [] lp []) (loopAt Try.f34 0).1 (loopAt Try.f34 0).2 := loop_okN (L := L_rn) (by kernel_rfl) hk (rn_sem lp)
def rnum_v0 (ds : List D) (n : Int) (k : Int) : List D := ds ++ numB n (Int.toNat (IntKind.wrap IntKind.i64 ((↑(List.length ds) : Int) + size_v0 k)) - List.length ds)
def rnum_pre (ds : List D) (n : Int) (k : Int) : Bool := decide (0 ≤ IntKind.wrap IntKind.i64 ((↑(List.length ds) : Int) + size_v0 k)) && decide (IntKind.wrap IntKind.i64 ((↑(List.length ds) : Int) + size_v0 k) ≤ IntKind.wrap IntKind.i64 ((↑(List.length ds) : Int) + size_v0 k)) && decide (IntKind.wrap IntKind.i64 ((↑(List.length ds) : Int) + size_v0 k) * 1 ≤ 35184372088832) && decide (IntKind.wrap IntKind.i64 ((↑(List.length ds) : Int) + size_v0 k) ≤ 35184372088832) && (Nat.beq (List.length (List.replicate (Int.toNat (IntKind.wrap IntKind.i64 ((↑(List.length ds) : Int) + size_v0 k))) (D.int IntKind.u8 0))) (Int.toNat (IntKind.wrap IntKind.i64 ((↑(List.length ds) : Int) + size_v0 k))) && true && true && fits Sh.one ds && (decide (Int.toNat (IntKind.wrap IntKind.i64 ((↑(List.length ds) : Int) + size_v0 k)) = Int.toNat (IntKind.wrap IntKind.i64 ((↑(List.length ds) : Int) + size_v0 k))) && (decide (0 ≤ n) && (decide (n < 18446744073709551616) && (decide (List.length ds < Int.toNat (IntKind.wrap IntKind.i64 ((↑(List.length ds) : Int) + size_v0 k))) && (decide (IntKind.wrap IntKind.i64 ((↑(Int.toNat (IntKind.wrap IntKind.i64 ((↑(List.length ds) : Int) + size_v0 k))) : Int) - 1) = (↑(Int.toNat (IntKind.wrap IntKind.i64 ((↑(List.length ds) : Int) + size_v0 k))) : Int) - 1) && (decide (Int.toNat (IntKind.wrap IntKind.i64 ((↑(List.length ds) : Int) + size_v0 k)) ≤ 1099511627776) && (fits Sh.one ds && D.eqbL (List.take (min (List.length ds) (Int.toNat (IntKind.wrap IntKind.i64 ((↑(List.length ds) : Int) + size_v0 k)))) ds ++ List.drop (0 + min (List.length ds) (Int.toNat (IntKind.wrap IntKind.i64 ((↑(List.length ds) : Int) + size_v0 k)))) (List.replicate (Int.toNat (IntKind.wrap IntKind.i64 ((↑(List.length ds) : Int) + size_v0 k))) (D.int IntKind.u8 0))) (ds ++ List.replicate (Int.toNat (IntKind.wrap IntKind.i64 ((↑(List.length ds) : Int) + size_v0 k)) - List.length ds) (D.int IntKind.u8 0))))))))))
def C_rnum : FunT := fun args σ => match args, σ with
  | [AV.dat (D.slc Sh.one ds), AV.dat (D.int IntKind.u64 n), AV.dat (D.int IntKind.i64 k)], [] => .chk ((rnum_pre ds n k)) (.leaf ([AV.sref Sh.one 0 (Int.toNat (IntKind.wrap IntKind.i64 ((↑(List.length ds) : Int) + size_v0 k))) [] 0 (Int.toNat (IntKind.wrap IntKind.i64 ((↑(List.length ds) : Int) + size_v0 k)))], [{ sh := Sh.arr Sh.one 0, dyn := true, frz := false, v := AV.dat (D.arr Sh.one (rnum_v0 ds n k)) }]))
  | _, _ => .fail
theorem rnum_raw0 (ds : List D) (n k : Int) : runF (envOf tab SpF0 [] [(5, L_rn)] []) false Try.f34 [.dat (.slc .one ds), .dat (.int .u64 n), .dat (.int .i64 k)] [] =
  (bif decide (0 ≤ IntKind.wrap IntKind.i64 ((↑(List.length ds) : Int) + size_v0 k)) && decide (IntKind.wrap IntKind.i64 ((↑(List.length ds) : Int) + size_v0 k) ≤ IntKind.wrap IntKind.i64 ((↑(List.length ds) : Int) + size_v0 k)) && decide (IntKind.wrap IntKind.i64 ((↑(List.length ds) : Int) + size_v0 k) * 1 ≤ 35184372088832) && decide (IntKind.wrap IntKind.i64 ((↑(List.length ds) : Int) + size_v0 k) ≤ 35184372088832) && true then
   (bif Nat.beq (List.length (List.replicate (Int.toNat (IntKind.wrap IntKind.i64 ((↑(List.length ds) : Int) + size_v0 k))) (D.int IntKind.u8 0))) (Int.toNat (IntKind.wrap IntKind.i64 ((↑(List.length ds) : Int) + size_v0 k))) && true && true && fits Sh.one ds then
    (bif decide (Int.toNat (IntKind.wrap IntKind.i64 ((↑(List.length ds) : Int) + size_v0 k)) = Int.toNat (IntKind.wrap IntKind.i64 ((↑(List.length ds) : Int) + size_v0 k))) && (decide (0 ≤ n) && (decide (n < 18446744073709551616) && (decide (List.length ds < Int.toNat (IntKind.wrap IntKind.i64 ((↑(List.length ds) : Int) + size_v0 k))) && (decide (IntKind.wrap IntKind.i64 ((↑(Int.toNat (IntKind.wrap IntKind.i64 ((↑(List.length ds) : Int) + size_v0 k))) : Int) - 1) = (↑(Int.toNat (IntKind.wrap IntKind.i64 ((↑(List.length ds) : Int) + size_v0 k))) : Int) - 1) && (decide (Int.toNat (IntKind.wrap IntKind.i64 ((↑(List.length ds) : Int) + size_v0 k)) ≤ 1099511627776) && (fits Sh.one ds && D.eqbL (List.take (min (List.length ds) (Int.toNat (IntKind.wrap IntKind.i64 ((↑(List.length ds) : Int) + size_v0 k)))) ds ++ List.drop (0 + min (List.length ds) (Int.toNat (IntKind.wrap IntKind.i64 ((↑(List.length ds) : Int) + size_v0 k)))) (List.replicate (Int.toNat (IntKind.wrap IntKind.i64 ((↑(List.length ds) : Int) + size_v0 k))) (D.int IntKind.u8 0))) (ds ++ List.replicate (Int.toNat (IntKind.wrap IntKind.i64 ((↑(List.length ds) : Int) + size_v0 k)) - List.length ds) (D.int IntKind.u8 0)))))))) then some ([AV.sref Sh.one 0 (Int.toNat (IntKind.wrap IntKind.i64 ((↑(List.length ds) : Int) + size_v0 k))) [] 0 (Int.toNat (IntKind.wrap IntKind.i64 ((↑(List.length ds) : Int) + size_v0 k)))], [{ sh := Sh.arr Sh.one 0, dyn := true, frz := false, v := .dat (.arr Sh.one (ds ++ numB n (Int.toNat (IntKind.wrap IntKind.i64 ((↑(List.length ds) : Int) + size_v0 k)) - List.length ds))) }]) else none) else none) else none) := by kernel_rfl
theorem rnum_case0 (ds : List D) (n k : Int) : runF (envOf tab SpF0 [] [(5, L_rn)] []) false Try.f34 [.dat (.slc .one ds), .dat (.int .u64 n), .dat (.int .i64 k)] [] = FunT.run C_rnum [.dat (.slc .one ds), .dat (.int .u64 n), .dat (.int .i64 k)] [] := (rnum_raw0 ds n k).trans (by
  show _ = (cond (decide (0 ≤ IntKind.wrap IntKind.i64 ((↑(List.length ds) : Int) + size_v0 k)) && decide (IntKind.wrap IntKind.i64 ((↑(List.length ds) : Int) + size_v0 k) ≤ IntKind.wrap IntKind.i64 ((↑(List.length ds) : Int) + size_v0 k)) && decide (IntKind.wrap IntKind.i64 ((↑(List.length ds) : Int) + size_v0 k) * 1 ≤ 35184372088832) && decide (IntKind.wrap IntKind.i64 ((↑(List.length ds) : Int) + size_v0 k) ≤ 35184372088832) && (Nat.beq (List.length (List.replicate (Int.toNat (IntKind.wrap IntKind.i64 ((↑(List.length ds) : Int) + size_v0 k))) (D.int IntKind.u8 0))) (Int.toNat (IntKind.wrap IntKind.i64 ((↑(List.length ds) : Int) + size_v0 k))) && true && true && fits Sh.one ds && (decide (Int.toNat (IntKind.wrap IntKind.i64 ((↑(List.length ds) : Int) + size_v0 k)) = Int.toNat (IntKind.wrap IntKind.i64 ((↑(List.length ds) : Int) + size_v0 k))) && (decide (0 ≤ n) && (decide (n < 18446744073709551616) && (decide (List.length ds < Int.toNat (IntKind.wrap IntKind.i64 ((↑(List.length ds) : Int) + size_v0 k))) && (decide (IntKind.wrap IntKind.i64 ((↑(Int.toNat (IntKind.wrap IntKind.i64 ((↑(List.length ds) : Int) + size_v0 k))) : Int) - 1) = (↑(Int.toNat (IntKind.wrap IntKind.i64 ((↑(List.length ds) : Int) + size_v0 k))) : Int) - 1) && (decide (Int.toNat (IntKind.wrap IntKind.i64 ((↑(List.length ds) : Int) + size_v0 k)) ≤ 1099511627776) && (fits Sh.one ds && D.eqbL (List.take (min (List.length ds) (Int.toNat (IntKind.wrap IntKind.i64 ((↑(List.length ds) : Int) + size_v0 k)))) ds ++ List.drop (0 + min (List.length ds) (Int.toNat (IntKind.wrap IntKind.i64 ((↑(List.length ds) : Int) + size_v0 k)))) (List.replicate (Int.toNat (IntKind.wrap IntKind.i64 ((↑(List.length ds) : Int) + size_v0 k))) (D.int IntKind.u8 0))) (ds ++ List.replicate (Int.toNat (IntKind.wrap IntKind.i64 ((↑(List.length ds) : Int) + size_v0 k)) - List.length ds) (D.int IntKind.u8 0))))))))))) (some (([AV.sref Sh.one 0 (Int.toNat (IntKind.wrap IntKind.i64 ((↑(List.length ds) : Int) + size_v0 k))) [] 0 (Int.toNat (IntKind.wrap IntKind.i64 ((↑(List.length ds) : Int) + size_v0 k)))], [{ sh := Sh.arr Sh.one 0, dyn := true, frz := false, v := .dat (.arr Sh.one (ds ++ numB n (Int.toNat (IntKind.wrap IntKind.i64 ((↑(List.length ds) : Int) + size_v0 k)) - List.length ds))) }]) : Res)) none)
  generalize (decide (Int.toNat (IntKind.wrap IntKind.i64 ((↑(List.length ds) : Int) + size_v0 k)) = Int.toNat (IntKind.wrap IntKind.i64 ((↑(List.length ds) : Int) + size_v0 k))) && (decide (0 ≤ n) && (decide (n < 18446744073709551616) && (decide (List.length ds < Int.toNat (IntKind.wrap IntKind.i64 ((↑(List.length ds) : Int) + size_v0 k))) && (decide (IntKind.wrap IntKind.i64 ((↑(Int.toNat (IntKind.wrap IntKind.i64 ((↑(List.length ds) : Int) + size_v0 k))) : Int) - 1) = (↑(Int.toNat (IntKind.wrap IntKind.i64 ((↑(List.length ds) : Int) + size_v0 k))) : Int) - 1) && (decide (Int.toNat (IntKind.wrap IntKind.i64 ((↑(List.length ds) : Int) + size_v0 k)) ≤ 1099511627776) && (fits Sh.one ds && D.eqbL (List.take (min (List.length ds) (Int.toNat (IntKind.wrap IntKind.i64 ((↑(List.length ds) : Int) + size_v0 k)))) ds ++ List.drop (0 + min (List.length ds) (Int.toNat (IntKind.wrap IntKind.i64 ((↑(List.length ds) : Int) + size_v0 k)))) (List.replicate (Int.toNat (IntKind.wrap IntKind.i64 ((↑(List.length ds) : Int) + size_v0 k))) (D.int IntKind.u8 0))) (ds ++ List.replicate (Int.toNat (IntKind.wrap IntKind.i64 ((↑(List.length ds) : Int) + size_v0 k)) - List.length ds) (D.int IntKind.u8 0))))))))) = z0
  generalize (decide (0 ≤ IntKind.wrap IntKind.i64 ((↑(List.length ds) : Int) + size_v0 k)) && decide (IntKind.wrap IntKind.i64 ((↑(List.length ds) : Int) + size_v0 k) ≤ IntKind.wrap IntKind.i64 ((↑(List.length ds) : Int) + size_v0 k)) && decide (IntKind.wrap IntKind.i64 ((↑(List.length ds) : Int) + size_v0 k) * 1 ≤ 35184372088832) && decide (IntKind.wrap IntKind.i64 ((↑(List.length ds) : Int) + size_v0 k) ≤ 35184372088832)) = z1
  generalize (Nat.beq (List.length (List.replicate (Int.toNat (IntKind.wrap IntKind.i64 ((↑(List.length ds) : Int) + size_v0 k))) (D.int IntKind.u8 0))) (Int.toNat (IntKind.wrap IntKind.i64 ((↑(List.length ds) : Int) + size_v0 k))) && true && true && fits Sh.one ds) = z2
  cases z1 with
  | true =>
   cases z2 with
   | true =>
    cases z0 with
    | true =>
     rfl
    | false =>
     rfl
   | false =>
    rfl
  | false =>
   rfl
  )
theorem crnum_ok : FunOk Try.prog 34 (FunT.run C_rnum) := by
  refine fun_ok (E := envOf tab SpF0 [] [(5, L_rn)] []) (fz := false) (fn := Try.f34) (envOf_ok progOk SpF0_ok) (by kernel_rfl) (by kernel_rfl) (loops_one (by kernel_rfl) (rn_loopOk _ rfl)) ?_
  intro args σ r h
  unfold C_rnum at h
  split at h
  · exact (rnum_case0 _ _ _).trans h
  · simp [T.run_fail] at h
end Go.Proofs.Ytdmmobjegfhneaa
