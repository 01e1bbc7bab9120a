/- Seat 03: what the document says is clean. -/
import Derived.Test.YtniombjfbdojjaaDoorO
namespace Go.Proofs.YtniombjfbdojjaaDoor
open Go.AX
set_option maxRecDepth 100000
def dcS (s : ByteArray) (i : Nat) : List UInt8 := trL 32 (((tl s).take i).filter pl)
theorem dcS_len (s : ByteArray) (i : Nat) : (dcS s i).length ≤ i := by
  have h1 := (trL_suffix 32 (((tl s).take i).filter pl)).length_le
  have h2 := List.length_filter_le pl ((tl s).take i)
  rw [List.length_take] at h2
  unfold dcS; omega
theorem dcS_succ {s : ByteArray} {i : Nat} (h : i < (tl s).length) : dcS s (i + 1) = if pl (strAt s i) = true then (if dcS s i = [] then (if isB 32 (strAt s i) = true then [] else [strAt s i]) else dcS s i ++ [strAt s i]) else dcS s i := by
  have e : strAt s i = (tl s)[i] := by unfold strAt; rw [List.getD_eq_getElem?_getD, List.getElem?_eq_getElem h]; rfl
  unfold dcS
  rw [List.take_succ_eq_append_getElem h, List.filter_append, ← e]
  cases hp : pl (strAt s i) with
  | true => rw [List.filter_cons, hp, if_pos rfl, if_pos rfl]; exact trL_snoc _ _ _
  | false => rw [List.filter_cons, hp]; simp
theorem sub_one {s : ByteArray} {i : Nat} (h : i < (tl s).length) : subStr s i (i + 1) = mkS [strAt s i] := by
  have e : strAt s i = (tl s)[i] := by unfold strAt; rw [List.getD_eq_getElem?_getD, List.getElem?_eq_getElem h]; rfl
  unfold subStr
  rw [List.drop_eq_getElem_cons h, show i + 1 - i = 1 by omega, e]; rfl
theorem rc_closed (s t : ByteArray) (hq : (okS s && decide (t.data.toList = [])) = true) :
    ∃ z, (iterT (rc_step s) z (0, t)).run = T.run (.leaf (some 0, mkF 54 [(3, .dat (.str (mkS (dcS s s.size))))], [])) := by
  obtain ⟨hc, h0⟩ := (Bool.and_eq_true _ _).mp hq
  have h0 := of_decide_eq_true h0
  have ht0 : t = mkS [] := by rw [← h0]
  subst ht0
  have hs := okS_iff.1 hc
  refine iter_range (n := s.size) (fun i => mkS (dcS s i)) (fun i hi => ?_) ?_
  · have hl : i < (tl s).length := by rw [tl_len]; exact hi
    have hn := dcS_len s i
    have hw : IntKind.wrap .i64 ((i : Int) + 1) = ((i + 1 : Nat) : Int) := wrap_succ (by omega)
    have ht : (mkS (dcS s i)).data.toList = dcS s i := rfl
    have hcat : catStr (mkS (dcS s i)) (mkS [strAt s i]) = mkS (dcS s i ++ [strAt s i]) := by simp [catStr, mkS]
    have hm : rmay_v0 (((strAt s i).toNat : Nat) : Int) = pl (strAt s i) := rfl
    have hb : ((((strAt s i).toNat : Nat) : Int) != 32) = !isB 32 (strAt s i) := rfl
    unfold rc_step
    simp only [rc_u0, rc_u1, rc_u2, hw, Int.toNat_natCast, sub_one hl, hcat, hm, hb, mkS_size, List.length_singleton, decide_eq_true (show (i : Int) < (s.size : Int) by omega), decide_eq_true (show (0 : Int) ≤ (i : Int) by omega), decide_eq_true hl, decide_eq_true (show (0 : Int) ≤ ((i + 1 : Nat) : Int) by omega), decide_eq_true (show i ≤ i + 1 by omega), decide_eq_true (show i + 1 ≤ s.size by omega), decide_eq_true (show (dcS s i).length + 1 ≤ 35184372088832 by omega), Bool.not_true, Bool.false_or, Bool.true_and, T.run_br, T.run_chk, T.run_leaf, cond_false, dcS_succ hl]
    cases pl (strAt s i) with
    | false => rfl
    | true =>
      by_cases h0 : dcS s i = []
      · rw [h0]
        cases isB 32 (strAt s i) <;> rfl
      · rw [if_pos rfl, if_neg h0, decide_eq_false h0]; rfl
  · unfold rc_step
    simp only [decide_eq_false (show ¬ (s.size : Int) < (s.size : Int) by omega)]
    rfl
def L_rc : Frame' → Store → T (Exit × Frame' × Store) := fun fr σ => match fr.getD 0 .undef, fr.getD 3 .undef, fr.getD 4 .undef, σ with
  | AV.dat (D.str s), AV.dat (D.str t), AV.dat (D.int IntKind.i64 0), [] => .chk (Nat.beq fr.length 54 && (okS s && decide (t.data.toList = []))) (T.bind (.leaf (some 0, mkF 54 [(3, .dat (.str (mkS (dcS s s.size))))], [])) fun o => .leaf (outEx o.1, o.2.1, o.2.2))
  | _, _, _, _ => .fail
theorem rc_sem (lp : Loops) : ∀ fr σ p, (L_rc fr σ).run = some p → ∀ (K : Kt) r, K p.1 p.2.1 p.2.2 = some r → ∃ n, loopRun (envOf tab [(23, C_rmay)] [] lp []) Tryd.f12 0 σ.length n (cleanF (liveAt Tryd.f12 0) 0 fr) σ K = some r := by
  intro fr σ p h K r hK
  unfold L_rc at h
  split at h
  · rename_i s t g0 g3 g4
    obtain ⟨hc, h'⟩ := T.chk_some h
    rw [Bool.and_eq_true] at hc
    obtain ⟨hl, hc⟩ := hc
    obtain ⟨o, ho, h'⟩ := T.bind_some h'
    have hp := T.leaf_some h'
    subst hp
    obtain ⟨nF, hn⟩ : ∃ nF, (iterT (rc_step s) nF ((0, t))).run = T.run (.leaf (some 0, mkF 54 [(3, .dat (.str (mkS (dcS s s.size))))], [])) := rc_closed s t hc
    rw [ho] at hn
    refine ⟨nF, ?_⟩
    have he : cleanF (liveAt Tryd.f12 0) 0 fr = rc_fr s ((0, t)) := rc_enter s _ _ fr hl g0 g3 g4
    refine (iter_ok (base := 0) (rc_hr lp s) K nF ((0, t)) _ _ (by rw [clean_clean]; exact he) (by kernel_rfl)).trans ?_
    rw [T.k_run hn]
    exact hK
  · simp [T.run_fail] at h
theorem rc_loopOk {k : Nat} (lp : Loops) (hk : Loops.get lp 3 = some L_rc) : LoopOkN Tryd.prog k (envOf tab [(23, C_rmay)] [] lp []) (loopAt Tryd.f12 0).1 (loopAt Tryd.f12 0).2 := loop_okN (L := L_rc) (by kernel_rfl) hk (rc_sem lp)
theorem rd_iter : ∀ r : List UInt8, r.length ≤ 1099511627776 → ∃ z, (iterT rd_step z (mkS r.reverse)).run = some (some 2, mkF 54 [(3, .dat (.str (mkS (trR 32 r.reverse))))], [])
  | [], _ => ⟨1, iter_out (by unfold rd_step; rfl)⟩
  | x :: r, hr => by
    rw [List.length_cons] at hr
    have e : (x :: r).reverse = r.reverse ++ [x] := List.reverse_cons
    rw [e]
    have hz : (mkS (r.reverse ++ [x])).size = r.length + 1 := by rw [mkS_size]; simp
    have hd : (mkS (r.reverse ++ [x])).data.toList.length = r.length + 1 := by simp
    have ht : rd_u0 (mkS (r.reverse ++ [x])) = (r.length : Int) := by
      unfold rd_u0; rw [hz, IntKind.wrap_i64]; omega
    have h0 : rd_u1 (mkS (r.reverse ++ [x])) = x.toNat := by
      unfold rd_u1; rw [ht, Int.toNat_natCast]
      unfold strAt
      rw [show (mkS (r.reverse ++ [x])).data.toList = r.reverse ++ [x] by simp, List.getD_eq_getElem?_getD, List.getElem?_append_right (by simp)]
      simp
    cases hx : isB 32 x with
    | true =>
      obtain ⟨z, hi⟩ := rd_iter r (by omega)
      refine ⟨z + 1, iter_next ?_ (hi.trans ?_)⟩
      · have hs : subStr (mkS (r.reverse ++ [x])) 0 r.length = mkS r.reverse := by
          have := sub_init x r.reverse
          rwa [List.length_reverse] at this
        unfold rd_step
        simp only [ht, h0, Int.toNat_natCast, hs, hd, hz, hx, decide_eq_true (show (0 : Int) < ((r.length + 1 : Nat) : Int) by omega), decide_eq_true (show (0 : Int) ≤ (r.length : Int) by omega), decide_eq_true (show r.length < r.length + 1 by omega), decide_eq_true (show r.length ≤ r.length + 1 by omega), Bool.not_true, Bool.false_or, Bool.true_and, T.run_chk, T.run_br, T.run_leaf, cond_true, cond_false]
      · unfold trR; simp only [List.reverse_append, List.reverse_cons, List.reverse_nil, List.nil_append, List.singleton_append, List.reverse_reverse, List.dropWhile_cons, hx, if_true]
    | false =>
      refine ⟨1, iter_out ?_⟩
      unfold rd_step trR
      simp only [ht, h0, Int.toNat_natCast, hd, hz, hx, decide_eq_true (show (0 : Int) < ((r.length + 1 : Nat) : Int) by omega), decide_eq_true (show (0 : Int) ≤ (r.length : Int) by omega), decide_eq_true (show r.length < r.length + 1 by omega), Bool.not_true, Bool.not_false, Bool.false_or, Bool.true_or, Bool.true_and, T.run_chk, T.run_br, T.run_leaf, cond_true, List.reverse_append, List.reverse_cons, List.reverse_nil, List.nil_append, List.singleton_append, List.reverse_reverse, List.dropWhile_cons]
      simp
theorem rd_closed (t : ByteArray) (hc : okS t = true) : ∃ z, (iterT rd_step z t).run = T.run (.leaf (some 2, mkF 54 [(3, .dat (.str (trimR 32 t)))], [])) := by
  have hc := okS_iff.1 hc
  obtain ⟨z, h⟩ := rd_iter t.data.toList.reverse (by rw [List.length_reverse, tl_len]; exact hc)
  rw [List.reverse_reverse, mkS_toList] at h; exact ⟨z, h⟩
def L_rd : Frame' → Store → T (Exit × Frame' × Store) := fun fr σ => match fr.getD 3 .undef, σ with
  | AV.dat (D.str t), [] => .chk (Nat.beq fr.length 54 && (okS t)) (T.bind (.leaf (some 2, mkF 54 [(3, .dat (.str (trimR 32 t)))], [])) fun o => .leaf (outEx o.1, o.2.1, o.2.2))
  | _, _ => .fail
theorem rd_sem (lp : Loops) : ∀ fr σ p, (L_rd fr σ).run = some p → ∀ (K : Kt) r, K p.1 p.2.1 p.2.2 = some r → ∃ n, loopRun (envOf tab [(23, C_rmay)] [] lp []) Tryd.f12 1 σ.length n (cleanF (liveAt Tryd.f12 1) 0 fr) σ K = some r := by
  intro fr σ p h K r hK
  unfold L_rd at h
  split at h
  · rename_i t g3
    obtain ⟨hc, h'⟩ := T.chk_some h
    rw [Bool.and_eq_true] at hc
    obtain ⟨hl, hc⟩ := hc
    obtain ⟨o, ho, h'⟩ := T.bind_some h'
    have hp := T.leaf_some h'
    subst hp
    obtain ⟨nF, hn⟩ : ∃ nF, (iterT (rd_step) nF (t)).run = T.run (.leaf (some 2, mkF 54 [(3, .dat (.str (trimR 32 t)))], [])) := rd_closed t hc
    rw [ho] at hn
    refine ⟨nF, ?_⟩
    have he : cleanF (liveAt Tryd.f12 1) 0 fr = rd_fr (t) := rd_enter _ fr hl g3
    refine (iter_ok (base := 0) (rd_hr lp) K nF (t) _ _ (by rw [clean_clean]; exact he) (by kernel_rfl)).trans ?_
    rw [T.k_run hn]
    exact hK
  · simp [T.run_fail] at h
theorem rd_loopOk {k : Nat} (lp : Loops) (hk : Loops.get lp 9 = some L_rd) : LoopOkN Tryd.prog k (envOf tab [(23, C_rmay)] [] lp []) (loopAt Tryd.f12 1).1 (loopAt Tryd.f12 1).2 := loop_okN (L := L_rd) (by kernel_rfl) hk (rd_sem lp)
abbrev LLp : Loops := [(3, L_rc), (9, L_rd)]
theorem LLp_ok : ∀ x ∈ fnLoops Tryd.f12, LoopOk Tryd.prog (envOf tab [(23, C_rmay)] [] LLp []) x.1 x.2 := loops_all 2 (by kernel_rfl) (fun i hi => match i, hi with
  | 0, _ => rc_loopOk LLp rfl
  | 1, _ => rd_loopOk LLp rfl)
def rclean_v0 (s : ByteArray) : ByteArray := bif decide (40 < (↑(ByteArray.size (mkS (dcS s (ByteArray.size s)))) : Int)) then trimR 32 (subStr (mkS (dcS s (ByteArray.size s))) 0 40) else trimR 32 (mkS (dcS s (ByteArray.size s)))
def rclean_pre (s : ByteArray) : Bool := okS s && bif decide (40 < (↑(ByteArray.size (mkS (dcS s (ByteArray.size s)))) : Int)) then decide (40 ≤ ByteArray.size (mkS (dcS s (ByteArray.size s)))) && okS (subStr (mkS (dcS s (ByteArray.size s))) 0 40) else okS (mkS (dcS s (ByteArray.size s)))
def C_rclean : FunT := fun args σ => match args, σ with
  | [AV.dat (D.str s)], [] => .chk ((rclean_pre s)) (.leaf ([AV.dat (D.str (rclean_v0 s))], []))
  | _, _ => .fail
theorem rclean_raw0 (s : ByteArray) : runF (envOf tab [(23, C_rmay)] [] LLp []) true Tryd.f12 [.dat (.str s)] [] =
  (bif okS s && true then
   (bif decide ((↑(ByteArray.size (mkS (dcS s (ByteArray.size s)))) : Int) > 40) then
    (bif decide (40 ≤ ByteArray.size (mkS (dcS s (ByteArray.size s)))) then
     (bif okS (subStr (mkS (dcS s (ByteArray.size s))) 0 40) then some ([.dat (.str (trimR 32 (subStr (mkS (dcS s (ByteArray.size s))) 0 40)))], []) else none) else none) else
    (bif okS (mkS (dcS s (ByteArray.size s))) then some ([.dat (.str (trimR 32 (mkS (dcS s (ByteArray.size s)))))], []) else none)) else none) := by kernel_rfl
theorem rclean_case0 (s : ByteArray) : runF (envOf tab [(23, C_rmay)] [] LLp []) true Tryd.f12 [.dat (.str s)] [] = FunT.run C_rclean [.dat (.str s)] [] := (rclean_raw0 s).trans (by
  show _ = (cond (okS s && bif decide (40 < (↑(ByteArray.size (mkS (dcS s (ByteArray.size s)))) : Int)) then decide (40 ≤ ByteArray.size (mkS (dcS s (ByteArray.size s)))) && okS (subStr (mkS (dcS s (ByteArray.size s))) 0 40) else okS (mkS (dcS s (ByteArray.size s)))) (some (([.dat (.str (bif decide (40 < (↑(ByteArray.size (mkS (dcS s (ByteArray.size s)))) : Int)) then trimR 32 (subStr (mkS (dcS s (ByteArray.size s))) 0 40) else trimR 32 (mkS (dcS s (ByteArray.size s)))))], []) : Res)) none)
  generalize (decide (40 < (↑(ByteArray.size (mkS (dcS s (ByteArray.size s)))) : Int))) = z0
  generalize (decide (40 ≤ ByteArray.size (mkS (dcS s (ByteArray.size s))))) = z1
  generalize (okS (subStr (mkS (dcS s (ByteArray.size s))) 0 40)) = z2
  generalize (okS (mkS (dcS s (ByteArray.size s)))) = z3
  generalize (okS s) = z4
  cases z4 with
  | true =>
   cases z0 with
   | true =>
    cases z1 with
    | true =>
     cases z2 with
     | true =>
      rfl
     | false =>
      rfl
    | false =>
     rfl
   | false =>
    cases z3 with
    | true =>
     rfl
    | false =>
     rfl
  | false =>
   rfl
  )
theorem crclean_ok : FunOk Tryd.prog 12 (FunT.run C_rclean) := by
  refine fun_ok (E := envOf tab [(23, C_rmay)] [] LLp []) (fz := true) (fn := Tryd.f12) (envOf_ok progOk (.cons crmay_ok (.nil _))) (by kernel_rfl) (by kernel_rfl) LLp_ok ?_
  intro args σ r h
  unfold C_rclean at h
  split at h
  · exact (rclean_case0 _).trans h
  · simp [T.run_fail] at h
end Go.Proofs.YtniombjfbdojjaaDoor
