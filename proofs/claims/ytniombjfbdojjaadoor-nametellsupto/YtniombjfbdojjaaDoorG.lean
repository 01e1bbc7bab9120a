/- Seat 03: Index and Apart, both. -/
import Derived.Test.YtniombjfbdojjaaDoorF
namespace Go.Proofs.YtniombjfbdojjaaDoor
open Go.AX
set_option maxRecDepth 100000
abbrev okSt (ls : List D) : Bool := ls.all (okE .str) && decide (ls.length ≤ 1099511627776)
abbrev isV (v : ByteArray) (d : D) : Bool := decide (v.data.toList = (D.getS d).data.toList)
abbrev isW (v : ByteArray) (d : D) : Bool := decide ((D.getS d).data.toList = v.data.toList)
theorem ix_closed (ls : List D) (v : ByteArray) (n : Int) (hc : (decide (n = (ls.length : Int)) && okSt ls) = true) :
    ∃ z, (iterT (ix_step ls v n) z 0).run = T.run (.br (ls.any (isV v)) (.leaf (none, mkF 19 [(4, .dat (.int .i64 ((ls.findIdx (isV v) : Nat) : Int)))], [])) (.leaf (some 0, mkF 19 [], []))) := by
  simp only [Bool.and_eq_true, decide_eq_true_eq] at hc
  obtain ⟨rfl, h1, h2⟩ := hc
  obtain ⟨z, hz⟩ := iter_find (step := ix_step ls v ls.length) (ls := ls) (p := isV v) (o := fun i => (none, mkF 19 [(4, .dat (.int .i64 (i : Int)))], [])) (o' := (some 0, mkF 19 [], [])) (fun i hi => by
    unfold ix_step
    simp only [decide_eq_true (show (i : Int) < (ls.length : Int) by omega), decide_eq_true (show (0 : Int) ≤ (i : Int) by omega), Int.toNat_natCast, decide_eq_true hi, allE_nth h1 hi, wrap_succ (show i < 2 ^ 62 by omega), Bool.not_true, Bool.false_or, Bool.true_and, T.run_br, T.run_chk, T.run_leaf, cond_true, cond_false]
    exact bif_some _ _ _) (by
    unfold ix_step
    simp only [decide_eq_false (show ¬ (ls.length : Int) < (ls.length : Int) by omega)]
    rfl)
  refine ⟨z, hz.trans ?_⟩
  cases ls.any (isV v) <;> rfl
def L_ix : Frame' → Store → T (Exit × Frame' × Store) := fun fr σ => match fr.getD 0 .undef, fr.getD 1 .undef, fr.getD 7 .undef, fr.getD 8 .undef, σ with
  | AV.dat (D.slc Sh.one ls), AV.dat (D.str v), AV.dat (D.int IntKind.i64 n), AV.dat (D.int IntKind.i64 0), [] => .chk (Nat.beq fr.length 19 && (decide (n = (ls.length : Int)) && okSt ls)) (T.bind (.br (ls.any (isV v)) (.leaf (none, mkF 19 [(4, .dat (.int .i64 ((ls.findIdx (isV v) : Nat) : Int)))], [])) (.leaf (some 0, mkF 19 [], []))) fun o => .leaf (outEx o.1, o.2.1, o.2.2))
  | _, _, _, _, _ => .fail
theorem ix_sem (lp : Loops) : ∀ fr σ p, (L_ix fr σ).run = some p → ∀ (K : Kt) r, K p.1 p.2.1 p.2.2 = some r → ∃ n, loopRun (envOf tab [] [] lp []) Tryd.f25 0 σ.length n (cleanF (liveAt Tryd.f25 0) 0 fr) σ K = some r := by
  intro fr σ p h K r hK
  unfold L_ix at h
  split at h
  · rename_i ls v n g0 g1 g7 g8
    obtain ⟨hc, h'⟩ := T.chk_some h
    rw [Bool.and_eq_true] at hc
    obtain ⟨hl, hc⟩ := hc
    obtain ⟨o, ho, h'⟩ := T.bind_some h'
    have hp := T.leaf_some h'
    subst hp
    obtain ⟨nF, hn⟩ : ∃ nF, (iterT (ix_step ls v n) nF (0)).run = T.run (.br (ls.any (isV v)) (.leaf (none, mkF 19 [(4, .dat (.int .i64 ((ls.findIdx (isV v) : Nat) : Int)))], [])) (.leaf (some 0, mkF 19 [], []))) := ix_closed ls v n hc
    rw [ho] at hn
    refine ⟨nF, ?_⟩
    have he : cleanF (liveAt Tryd.f25 0) 0 fr = ix_fr ls v n (0) := ix_enter ls v n _ fr hl g0 g1 g7 g8
    refine (iter_ok (base := 0) (ix_hr lp ls v n) K nF (0) _ _ (by rw [clean_clean]; exact he) (by kernel_rfl)).trans ?_
    rw [T.k_run hn]
    exact hK
  · simp [T.run_fail] at h
theorem ix_loopOk {k : Nat} (lp : Loops) (hk : Loops.get lp 2 = some L_ix) : LoopOkN Tryd.prog k (envOf tab [] [] lp []) (loopAt Tryd.f25 0).1 (loopAt Tryd.f25 0).2 := loop_okN (L := L_ix) (by kernel_rfl) hk (ix_sem lp)
theorem rx_closed (ls : List D) (v : ByteArray) (hc : okSt ls = true) :
    ∃ z, (iterT (rx_step ls v) z 0).run = T.run (.br (ls.any (isW v)) (.leaf (none, mkF 19 [(4, .dat (.int .i64 ((ls.findIdx (isW v) : Nat) : Int)))], [])) (.leaf (some 0, mkF 19 [], []))) := by
  simp only [Bool.and_eq_true, decide_eq_true_eq] at hc
  obtain ⟨h1, h2⟩ := hc
  obtain ⟨z, hz⟩ := iter_find (step := rx_step ls v) (ls := ls) (p := isW v) (o := fun i => (none, mkF 19 [(4, .dat (.int .i64 (i : Int)))], [])) (o' := (some 0, mkF 19 [], [])) (fun i hi => by
    unfold rx_step
    simp only [decide_eq_true (show (i : Int) < (ls.length : Int) by omega), decide_eq_true (show (0 : Int) ≤ (i : Int) by omega), Int.toNat_natCast, decide_eq_true hi, allE_nth h1 hi, wrap_succ (show i < 2 ^ 62 by omega), Bool.not_true, Bool.false_or, Bool.true_and, T.run_br, T.run_chk, T.run_leaf, cond_true, cond_false]
    exact bif_some _ _ _) (by
    unfold rx_step
    simp only [decide_eq_false (show ¬ (ls.length : Int) < (ls.length : Int) by omega)]
    rfl)
  refine ⟨z, hz.trans ?_⟩
  cases ls.any (isW v) <;> rfl
def L_rx : Frame' → Store → T (Exit × Frame' × Store) := fun fr σ => match fr.getD 0 .undef, fr.getD 1 .undef, fr.getD 5 .undef, σ with
  | AV.dat (D.slc Sh.one ls), AV.dat (D.str v), AV.dat (D.int IntKind.i64 0), [] => .chk (Nat.beq fr.length 19 && (okSt ls)) (T.bind (.br (ls.any (isW v)) (.leaf (none, mkF 19 [(4, .dat (.int .i64 ((ls.findIdx (isW v) : Nat) : Int)))], [])) (.leaf (some 0, mkF 19 [], []))) fun o => .leaf (outEx o.1, o.2.1, o.2.2))
  | _, _, _, _ => .fail
theorem rx_sem (lp : Loops) : ∀ fr σ p, (L_rx fr σ).run = some p → ∀ (K : Kt) r, K p.1 p.2.1 p.2.2 = some r → ∃ n, loopRun (envOf tab [] [] lp []) Tryd.f14 0 σ.length n (cleanF (liveAt Tryd.f14 0) 0 fr) σ K = some r := by
  intro fr σ p h K r hK
  unfold L_rx at h
  split at h
  · rename_i ls v g0 g1 g5
    obtain ⟨hc, h'⟩ := T.chk_some h
    rw [Bool.and_eq_true] at hc
    obtain ⟨hl, hc⟩ := hc
    obtain ⟨o, ho, h'⟩ := T.bind_some h'
    have hp := T.leaf_some h'
    subst hp
    obtain ⟨nF, hn⟩ : ∃ nF, (iterT (rx_step ls v) nF (0)).run = T.run (.br (ls.any (isW v)) (.leaf (none, mkF 19 [(4, .dat (.int .i64 ((ls.findIdx (isW v) : Nat) : Int)))], [])) (.leaf (some 0, mkF 19 [], []))) := rx_closed ls v hc
    rw [ho] at hn
    refine ⟨nF, ?_⟩
    have he : cleanF (liveAt Tryd.f14 0) 0 fr = rx_fr ls v (0) := rx_enter ls v _ fr hl g0 g1 g5
    refine (iter_ok (base := 0) (rx_hr lp ls v) K nF (0) _ _ (by rw [clean_clean]; exact he) (by kernel_rfl)).trans ?_
    rw [T.k_run hn]
    exact hK
  · simp [T.run_fail] at h
theorem rx_loopOk {k : Nat} (lp : Loops) (hk : Loops.get lp 2 = some L_rx) : LoopOkN Tryd.prog k (envOf tab [] [] lp []) (loopAt Tryd.f14 0).1 (loopAt Tryd.f14 0).2 := loop_okN (L := L_rx) (by kernel_rfl) hk (rx_sem lp)
def cntTo (ls : List D) : Nat → List D
  | 0 => []
  | i + 1 => mapPut (.str (D.getS (nthD ls i))) (.int .i64 (IntKind.wrap .i64 (mapGet 0 (.str (D.getS (nthD ls i))) (cntTo ls i) + 1))) (cntTo ls i)
theorem put_ok {s : ByteArray} {n : Int} {ds : List D} (h : ds.all (entOkD .str) = true) : (mapPut (.str s) (.int .i64 n) ds).all (entOkD .str) = true := by
  unfold mapPut
  cases mapHas (.str s) ds with
  | true =>
    rw [cond_true]
    rw [List.all_eq_true] at h ⊢
    intro d hd
    rcases List.mem_or_eq_of_mem_set hd with hd | rfl
    · exact h d hd
    · rfl
  | false => rw [cond_false, List.all_append, h]; rfl
theorem cnt_ok (ls : List D) : ∀ i, (cntTo ls i).all (entOkD .str) = true
  | 0 => rfl
  | i + 1 => put_ok (cnt_ok ls i)
theorem ap_closed (ls l0 : List D) (n : Int) (hc : (decide (n = (ls.length : Int)) && okSt ls) = true) :
    ∃ z, (iterT (ap_step ls l0 n) z (0, [])).run = T.run (.leaf (some 0, mkF 23 [(0, .dat (.slc .one l0)), (3, .hnd mapSh 0)], [mapBlk (cntTo ls ls.length)])) := by
  simp only [Bool.and_eq_true, decide_eq_true_eq] at hc
  obtain ⟨rfl, h1, h2⟩ := hc
  refine iter_range (n := ls.length) (fun i => cntTo ls i) (fun i hi => ?_) ?_
  · have hk : (cntTo ls i).all (entOkD (Prod.fst (TyI.ty { ty := Ty.str, sh := Sh.one, bytes := 16, zero := .dat (.str ByteArray.empty), eqv := false }, (0 : Int)))) = true := cnt_ok ls i
    unfold ap_step
    simp only [decide_eq_true (show (i : Int) < (ls.length : Int) by omega), decide_eq_true (show (0 : Int) ≤ (i : Int) by omega), Int.toNat_natCast, decide_eq_true hi, allE_nth h1 hi, hk, wrap_succ (show i < 2 ^ 62 by omega), Bool.not_true, Bool.false_or, Bool.true_and, T.run_br, T.run_chk, T.run_leaf, cond_true, cond_false]
    rfl
  · unfold ap_step
    simp only [decide_eq_false (show ¬ (ls.length : Int) < (ls.length : Int) by omega)]
    rfl
def L_ap : Frame' → Store → T (Exit × Frame' × Store) := fun fr σ => match fr.getD 0 .undef, fr.getD 3 .undef, fr.getD 7 .undef, fr.getD 8 .undef, fr.getD 9 .undef, σ with
  | AV.dat (D.slc Sh.one l0), AV.hnd (Sh.arr (Sh.agg []) 2) 0, AV.dat (D.slc Sh.one ls), AV.dat (D.int IntKind.i64 n), AV.dat (D.int IntKind.i64 0), [{ sh := Sh.arr (Sh.agg []) 2, dyn := false, frz := false, v := AV.dat (D.slc (Sh.agg [Sh.one, Sh.one]) []) }] => .chk (Nat.beq fr.length 23 && (decide (n = (ls.length : Int)) && okSt ls)) (T.bind (.leaf (some 0, mkF 23 [(0, .dat (.slc .one l0)), (3, .hnd mapSh 0)], [mapBlk (cntTo ls ls.length)])) fun o => .leaf (outEx o.1, o.2.1, o.2.2))
  | _, _, _, _, _, _ => .fail
theorem ap_sem (lp : Loops) : ∀ fr σ p, (L_ap fr σ).run = some p → ∀ (K : Kt) r, K p.1 p.2.1 p.2.2 = some r → ∃ n, loopRun (envOf tab [] [] lp []) Tryd.f15 0 σ.length n (cleanF (liveAt Tryd.f15 0) 0 fr) σ K = some r := by
  intro fr σ p h K r hK
  unfold L_ap at h
  split at h
  · rename_i l0 ls n g0 g3 g7 g8 g9
    obtain ⟨hc, h'⟩ := T.chk_some h
    rw [Bool.and_eq_true] at hc
    obtain ⟨hl, hc⟩ := hc
    obtain ⟨o, ho, h'⟩ := T.bind_some h'
    have hp := T.leaf_some h'
    subst hp
    obtain ⟨nF, hn⟩ : ∃ nF, (iterT (ap_step ls l0 n) nF ((0, []))).run = T.run (.leaf (some 0, mkF 23 [(0, .dat (.slc .one l0)), (3, .hnd mapSh 0)], [mapBlk (cntTo ls ls.length)])) := ap_closed ls l0 n hc
    rw [ho] at hn
    refine ⟨nF, ?_⟩
    have he : cleanF (liveAt Tryd.f15 0) 0 fr = ap_fr ls l0 n ((0, [])) := ap_enter ls l0 n _ _ fr hl g0 g3 g7 g8 g9
    refine (iter_ok (base := 1) (ap_hr lp ls l0 n) K nF ((0, [])) _ _ (by rw [clean_clean]; exact he) (by kernel_rfl)).trans ?_
    rw [T.k_run hn]
    exact hK
  · simp [T.run_fail] at h
theorem ap_loopOk {k : Nat} (lp : Loops) (hk : Loops.get lp 3 = some L_ap) : LoopOkN Tryd.prog k (envOf tab [] [] lp []) (loopAt Tryd.f15 0).1 (loopAt Tryd.f15 0).2 := loop_okN (L := L_ap) (by kernel_rfl) hk (ap_sem lp)
def index_v0 (ls : List D) (v : ByteArray) : Int := bif List.any ls (isV v) then (↑(List.findIdx (isV v) ls) : Int) else (-1 : Int)
def index_pre (ls : List D) : Bool := decide ((↑(List.length ls) : Int) = (↑(List.length ls) : Int)) && okSt ls
def C_index : FunT := fun args σ => match args, σ with
  | [AV.dat (D.slc Sh.one ls), AV.dat (D.str v)], [] => .chk ((index_pre ls)) (.leaf ([AV.dat (D.int IntKind.i64 (index_v0 ls v))], []))
  | _, _ => .fail
theorem index_raw0 (ls : List D) (v : ByteArray) : runF (envOf tab [] [] [(2, L_ix)] []) true Tryd.f25 [.dat (.slc .one ls), .dat (.str v)] [] =
  (bif decide ((↑(List.length ls) : Int) = (↑(List.length ls) : Int)) && okSt ls then
   (bif List.any ls (isV v) then some ([.dat (.int .i64 (↑(List.findIdx (isV v) ls) : Int))], []) else some ([.dat (.int .i64 (-1 : Int))], [])) else none) := by kernel_rfl
theorem index_case0 (ls : List D) (v : ByteArray) : runF (envOf tab [] [] [(2, L_ix)] []) true Tryd.f25 [.dat (.slc .one ls), .dat (.str v)] [] = FunT.run C_index [.dat (.slc .one ls), .dat (.str v)] [] := (index_raw0 ls v).trans (by
  show _ = (cond (decide ((↑(List.length ls) : Int) = (↑(List.length ls) : Int)) && okSt ls) (some (([.dat (.int .i64 (bif List.any ls (isV v) then (↑(List.findIdx (isV v) ls) : Int) else (-1 : Int)))], []) : Res)) none)
  generalize (decide ((↑(List.length ls) : Int) = (↑(List.length ls) : Int)) && okSt ls) = z0
  generalize (List.any ls (isV v)) = z1
  cases z0 with
  | true =>
   cases z1 with
   | true =>
    rfl
   | false =>
    rfl
  | false =>
   rfl
  )
theorem cindex_ok : FunOk Tryd.prog 25 (FunT.run C_index) := by
  refine fun_ok (E := envOf tab [] [] [(2, L_ix)] []) (fz := true) (fn := Tryd.f25) (envOf_ok progOk (.nil _)) (by kernel_rfl) (by kernel_rfl) (loops_one (by kernel_rfl) (ix_loopOk _ rfl)) ?_
  intro args σ r h
  unfold C_index at h
  split at h
  · exact (index_case0 _ _).trans h
  · simp [T.run_fail] at h
def C_nindex : FunT := fun args σ => match args, σ with
  | [AV.dat (D.slc Sh.one ls), AV.dat (D.str v)], [] => .chk (index_pre ls) (.leaf ([AV.dat (D.int IntKind.i64 (index_v0 ls v))], []))
  | _, _ => .fail
theorem nindex_raw0 (ls : List D) (v : ByteArray) : runF (envOf tab [(25, C_index)] [] [] []) true Tryd.f13 [.dat (.slc .one ls), .dat (.str v)] [] =
  (bif index_pre ls then some ([.dat (.int .i64 (index_v0 ls v))], []) else none) := by kernel_rfl
theorem nindex_case0 (ls : List D) (v : ByteArray) : runF (envOf tab [(25, C_index)] [] [] []) true Tryd.f13 [.dat (.slc .one ls), .dat (.str v)] [] = FunT.run C_nindex [.dat (.slc .one ls), .dat (.str v)] [] := (nindex_raw0 ls v).trans (by
  show _ = (cond (index_pre ls) (some (([.dat (.int .i64 (index_v0 ls v))], []) : Res)) none)
  generalize (index_pre ls) = z0
  cases z0 with
  | true =>
   rfl
  | false =>
   rfl
  )
theorem cnindex_ok : FunOk Tryd.prog 13 (FunT.run C_nindex) := by
  refine fun_ok (E := envOf tab [(25, C_index)] [] [] []) (fz := true) (fn := Tryd.f13) (envOf_ok progOk (.cons cindex_ok (.nil _))) (by kernel_rfl) (by kernel_rfl) (loops_none (by kernel_rfl)) ?_
  intro args σ r h
  unfold C_nindex at h
  split at h
  · exact (nindex_case0 _ _).trans h
  · simp [T.run_fail] at h
def rindex_v0 (ls : List D) (v : ByteArray) : Int := bif List.any ls (isW v) then (↑(List.findIdx (isW v) ls) : Int) else (-1 : Int)
def C_rindex : FunT := fun args σ => match args, σ with
  | [AV.dat (D.slc Sh.one ls), AV.dat (D.str v)], [] => .chk (okSt ls) (.leaf ([AV.dat (D.int IntKind.i64 (rindex_v0 ls v))], []))
  | _, _ => .fail
theorem rindex_raw0 (ls : List D) (v : ByteArray) : runF (envOf tab [] [] [(2, L_rx)] []) true Tryd.f14 [.dat (.slc .one ls), .dat (.str v)] [] =
  (bif okSt ls then
   (bif List.any ls (isW v) then some ([.dat (.int .i64 (↑(List.findIdx (isW v) ls) : Int))], []) else some ([.dat (.int .i64 (-1 : Int))], [])) else none) := by kernel_rfl
theorem rindex_case0 (ls : List D) (v : ByteArray) : runF (envOf tab [] [] [(2, L_rx)] []) true Tryd.f14 [.dat (.slc .one ls), .dat (.str v)] [] = FunT.run C_rindex [.dat (.slc .one ls), .dat (.str v)] [] := (rindex_raw0 ls v).trans (by
  show _ = (cond (okSt ls) (some (([.dat (.int .i64 (bif List.any ls (isW v) then (↑(List.findIdx (isW v) ls) : Int) else (-1 : Int)))], []) : Res)) none)
  generalize (List.any ls (isW v)) = z0
  generalize (okSt ls) = z1
  cases z1 with
  | true =>
   cases z0 with
   | true =>
    rfl
   | false =>
    rfl
  | false =>
   rfl
  )
theorem crindex_ok : FunOk Tryd.prog 14 (FunT.run C_rindex) := by
  refine fun_ok (E := envOf tab [] [] [(2, L_rx)] []) (fz := true) (fn := Tryd.f14) (envOf_ok progOk (.nil _)) (by kernel_rfl) (by kernel_rfl) (loops_one (by kernel_rfl) (rx_loopOk _ rfl)) ?_
  intro args σ r h
  unfold C_rindex at h
  split at h
  · exact (rindex_case0 _ _).trans h
  · simp [T.run_fail] at h
def apart_v0 (ls : List D) : Bool := (↑(List.length (cntTo ls (List.length ls))) : Int) == (↑(List.length ls) : Int)
def apart_pre (ls : List D) : Bool := decide ((↑(List.length ls) : Int) = (↑(List.length ls) : Int)) && okSt ls
def C_apart : FunT := fun args σ => match args, σ with
  | [AV.dat (D.slc Sh.one ls)], [] => .chk ((apart_pre ls)) (.leaf ([AV.dat (D.bool (apart_v0 ls))], []))
  | _, _ => .fail
theorem apart_raw0 (ls : List D) : runF (envOf tab [] [] [(3, L_ap)] []) true Tryd.f15 [.dat (.slc .one ls)] [] =
  (bif decide ((↑(List.length ls) : Int) = (↑(List.length ls) : Int)) && okSt ls then some ([.dat (.bool ((↑(List.length (cntTo ls (List.length ls))) : Int) == (↑(List.length ls) : Int)))], []) else none) := by kernel_rfl
theorem apart_case0 (ls : List D) : runF (envOf tab [] [] [(3, L_ap)] []) true Tryd.f15 [.dat (.slc .one ls)] [] = FunT.run C_apart [.dat (.slc .one ls)] [] := (apart_raw0 ls).trans (by
  show _ = (cond (decide ((↑(List.length ls) : Int) = (↑(List.length ls) : Int)) && okSt ls) (some (([.dat (.bool ((↑(List.length (cntTo ls (List.length ls))) : Int) == (↑(List.length ls) : Int)))], []) : Res)) none)
  generalize (decide ((↑(List.length ls) : Int) = (↑(List.length ls) : Int)) && okSt ls) = z0
  cases z0 with
  | true =>
   rfl
  | false =>
   rfl
  )
theorem capart_ok : FunOk Tryd.prog 15 (FunT.run C_apart) := by
  refine fun_ok (E := envOf tab [] [] [(3, L_ap)] []) (fz := true) (fn := Tryd.f15) (envOf_ok progOk (.nil _)) (by kernel_rfl) (by kernel_rfl) (loops_one (by kernel_rfl) (ap_loopOk _ rfl)) ?_
  intro args σ r h
  unfold C_apart at h
  split at h
  · exact (apart_case0 _).trans h
  · simp [T.run_fail] at h
end Go.Proofs.YtniombjfbdojjaaDoor
