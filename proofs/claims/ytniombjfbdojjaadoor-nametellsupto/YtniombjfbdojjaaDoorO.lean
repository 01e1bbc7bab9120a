/- Seat 03: the document's names and texts. -/
import Derived.Test.YtniombjfbdojjaaDoorN
namespace Go.Proofs.YtniombjfbdojjaaDoor
open Go.AX
set_option maxRecDepth 100000
abbrev cI (s : ByteArray) (i : Nat) : Int := (((strAt s i).toNat : Nat) : Int)
abbrev badR (s : ByteArray) (i : Nat) : Bool := bif decide (97 ≤ cI s i) then !decide (cI s i ≤ 122) && ((i : Int) == 0 || (decide (cI s i < 48) || decide (57 < cI s i))) else (i : Int) == 0 || (decide (cI s i < 48) || decide (57 < cI s i))
theorem rr_closed (s : ByteArray) (hc : okS s = true) :
    ∃ z, (iterT (rr_step s) z 0).run = T.run (.br ((List.range s.size).any (badR s)) (.leaf (none, mkF 47 [(2, .dat (.bool false))], [])) (.leaf (some 0, mkF 47 [], []))) := by
  have hs := okS_iff.1 hc
  obtain ⟨z, hz⟩ := iter_any (step := rr_step s) (n := s.size) (p := badR s) (o := (none, mkF 47 [(2, .dat (.bool false))], [])) (o' := (some 0, mkF 47 [], [])) (fun i hi => by
    have hl : i < s.data.toList.length := by rw [tl_len]; exact hi
    unfold rr_step rr_u0 rr_u2 rr_u3
    simp only [decide_eq_true (show (i : Int) < (s.size : Int) by omega), decide_eq_true (show (0 : Int) ≤ (i : Int) by omega), Int.toNat_natCast, decide_eq_true hl, wrap_succ (show i < 2 ^ 62 by omega), Bool.not_true, Bool.false_or, Bool.true_and, T.run_br, T.run_chk, T.run_leaf, cond_true, cond_false]
    exact bif_some _ _ _) (by
    unfold rr_step
    simp only [decide_eq_false (show ¬ (s.size : Int) < (s.size : Int) by omega)]
    rfl)
  refine ⟨z, hz.trans ?_⟩
  cases (List.range s.size).any (badR s) <;> rfl
def L_rr : Frame' → Store → T (Exit × Frame' × Store) := fun fr σ => match fr.getD 0 .undef, fr.getD 3 .undef, σ with
  | AV.dat (D.str s), AV.dat (D.int IntKind.i64 0), [] => .chk (Nat.beq fr.length 47 && (okS s)) (T.bind (.br ((List.range s.size).any (badR s)) (.leaf (none, mkF 47 [(2, .dat (.bool false))], [])) (.leaf (some 0, mkF 47 [], []))) fun o => .leaf (outEx o.1, o.2.1, o.2.2))
  | _, _, _ => .fail
theorem rr_sem (lp : Loops) : ∀ fr σ p, (L_rr fr σ).run = some p → ∀ (K : Kt) r, K p.1 p.2.1 p.2.2 = some r → ∃ n, loopRun (envOf tab [] [] lp []) Tryd.f8 0 σ.length n (cleanF (liveAt Tryd.f8 0) 0 fr) σ K = some r := by
  intro fr σ p h K r hK
  unfold L_rr at h
  split at h
  · rename_i s g0 g3
    obtain ⟨hc, h'⟩ := T.chk_some h
    rw [Bool.and_eq_true] at hc
    obtain ⟨hl, hc⟩ := hc
    obtain ⟨o, ho, h'⟩ := T.bind_some h'
    have hp := T.leaf_some h'
    subst hp
    obtain ⟨nF, hn⟩ : ∃ nF, (iterT (rr_step s) nF (0)).run = T.run (.br ((List.range s.size).any (badR s)) (.leaf (none, mkF 47 [(2, .dat (.bool false))], [])) (.leaf (some 0, mkF 47 [], []))) := rr_closed s hc
    rw [ho] at hn
    refine ⟨nF, ?_⟩
    have he : cleanF (liveAt Tryd.f8 0) 0 fr = rr_fr s (0) := rr_enter s _ fr hl g0 g3
    refine (iter_ok (base := 0) (rr_hr lp s) K nF (0) _ _ (by rw [clean_clean]; exact he) (by kernel_rfl)).trans ?_
    rw [T.k_run hn]
    exact hK
  · simp [T.run_fail] at h
theorem rr_loopOk {k : Nat} (lp : Loops) (hk : Loops.get lp 4 = some L_rr) : LoopOkN Tryd.prog k (envOf tab [] [] lp []) (loopAt Tryd.f8 0).1 (loopAt Tryd.f8 0).2 := loop_okN (L := L_rr) (by kernel_rfl) hk (rr_sem lp)
def rright_v0 (s : ByteArray) : Bool := !(↑(ByteArray.size s) : Int) == 0 && (!decide (12 < (↑(ByteArray.size s) : Int)) && !List.any (List.range (ByteArray.size s)) (badR s))
def rright_pre (s : ByteArray) : Bool := (↑(ByteArray.size s) : Int) == 0 || (decide (12 < (↑(ByteArray.size s) : Int)) || okS s)
def C_rright : FunT := fun args σ => match args, σ with
  | [AV.dat (D.str s)], [] => .chk ((rright_pre s)) (.leaf ([AV.dat (D.bool (rright_v0 s))], []))
  | _, _ => .fail
theorem rright_raw0 (s : ByteArray) : runF (envOf tab [] [] [(4, L_rr)] []) true Tryd.f8 [.dat (.str s)] [] =
  (bif (↑(ByteArray.size s) : Int) == 0 then some ([.dat (.bool false)], []) else
   (bif decide ((↑(ByteArray.size s) : Int) > 12) then some ([.dat (.bool false)], []) else
    (bif okS s then
     (bif List.any (List.range (ByteArray.size s)) (badR s) then some ([.dat (.bool false)], []) else some ([.dat (.bool true)], [])) else none))) := by kernel_rfl
theorem rright_case0 (s : ByteArray) : runF (envOf tab [] [] [(4, L_rr)] []) true Tryd.f8 [.dat (.str s)] [] = FunT.run C_rright [.dat (.str s)] [] := (rright_raw0 s).trans (by
  show _ = (cond ((↑(ByteArray.size s) : Int) == 0 || (decide (12 < (↑(ByteArray.size s) : Int)) || okS s)) (some (([.dat (.bool (!(↑(ByteArray.size s) : Int) == 0 && (!decide (12 < (↑(ByteArray.size s) : Int)) && !List.any (List.range (ByteArray.size s)) (badR s))))], []) : Res)) none)
  generalize (decide (12 < (↑(ByteArray.size s) : Int))) = z0
  generalize ((↑(ByteArray.size s) : Int) == 0) = z1
  generalize (List.any (List.range (ByteArray.size s)) (badR s)) = z2
  generalize (okS s) = z3
  cases z1 with
  | true =>
   rfl
  | false =>
   cases z0 with
   | true =>
    rfl
   | false =>
    cases z3 with
    | true =>
     cases z2 with
     | true =>
      rfl
     | false =>
      rfl
    | false =>
     rfl
  )
theorem crright_ok : FunOk Tryd.prog 8 (FunT.run C_rright) := by
  refine fun_ok (E := envOf tab [] [] [(4, L_rr)] []) (fz := true) (fn := Tryd.f8) (envOf_ok progOk (.nil _)) (by kernel_rfl) (by kernel_rfl) (loops_one (by kernel_rfl) (rr_loopOk _ rfl)) ?_
  intro args σ r h
  unfold C_rright at h
  split at h
  · exact (rright_case0 _).trans h
  · simp [T.run_fail] at h
abbrev badT (s : ByteArray) (i : Nat) : Bool := !rmay_v0 (cI s i)
theorem rt_closed (s : ByteArray) (hc : okS s = true) :
    ∃ z, (iterT (rt_step s) z 0).run = T.run (.br ((List.range s.size).any (badT s)) (.leaf (none, mkF 36 [(2, .dat (.bool false))], [])) (.leaf (some 0, mkF 36 [], []))) := by
  have hs := okS_iff.1 hc
  obtain ⟨z, hz⟩ := iter_any (step := rt_step s) (n := s.size) (p := badT s) (o := (none, mkF 36 [(2, .dat (.bool false))], [])) (o' := (some 0, mkF 36 [], [])) (fun i hi => by
    have hl : i < s.data.toList.length := by rw [tl_len]; exact hi
    unfold rt_step
    simp only [decide_eq_true (show (i : Int) < (s.size : Int) by omega), decide_eq_true (show (0 : Int) ≤ (i : Int) by omega), Int.toNat_natCast, decide_eq_true hl, wrap_succ (show i < 2 ^ 62 by omega), Bool.not_true, Bool.false_or, Bool.true_and, T.run_br, T.run_chk, T.run_leaf, cond_true, cond_false]
    exact bif_some _ _ _) (by
    unfold rt_step
    simp only [decide_eq_false (show ¬ (s.size : Int) < (s.size : Int) by omega)]
    rfl)
  refine ⟨z, hz.trans ?_⟩
  cases (List.range s.size).any (badT s) <;> rfl
def L_rt : Frame' → Store → T (Exit × Frame' × Store) := fun fr σ => match fr.getD 0 .undef, fr.getD 3 .undef, σ with
  | AV.dat (D.str s), AV.dat (D.int IntKind.i64 0), [] => .chk (Nat.beq fr.length 36 && (okS s)) (T.bind (.br ((List.range s.size).any (badT s)) (.leaf (none, mkF 36 [(2, .dat (.bool false))], [])) (.leaf (some 0, mkF 36 [], []))) fun o => .leaf (outEx o.1, o.2.1, o.2.2))
  | _, _, _ => .fail
theorem rt_sem (lp : Loops) : ∀ fr σ p, (L_rt fr σ).run = some p → ∀ (K : Kt) r, K p.1 p.2.1 p.2.2 = some r → ∃ n, loopRun (envOf tab [(23, C_rmay)] [] lp []) Tryd.f10 0 σ.length n (cleanF (liveAt Tryd.f10 0) 0 fr) σ K = some r := by
  intro fr σ p h K r hK
  unfold L_rt at h
  split at h
  · rename_i s g0 g3
    obtain ⟨hc, h'⟩ := T.chk_some h
    rw [Bool.and_eq_true] at hc
    obtain ⟨hl, hc⟩ := hc
    obtain ⟨o, ho, h'⟩ := T.bind_some h'
    have hp := T.leaf_some h'
    subst hp
    obtain ⟨nF, hn⟩ : ∃ nF, (iterT (rt_step s) nF (0)).run = T.run (.br ((List.range s.size).any (badT s)) (.leaf (none, mkF 36 [(2, .dat (.bool false))], [])) (.leaf (some 0, mkF 36 [], []))) := rt_closed s hc
    rw [ho] at hn
    refine ⟨nF, ?_⟩
    have he : cleanF (liveAt Tryd.f10 0) 0 fr = rt_fr s (0) := rt_enter s _ fr hl g0 g3
    refine (iter_ok (base := 0) (rt_hr lp s) K nF (0) _ _ (by rw [clean_clean]; exact he) (by kernel_rfl)).trans ?_
    rw [T.k_run hn]
    exact hK
  · simp [T.run_fail] at h
theorem rt_loopOk {k : Nat} (lp : Loops) (hk : Loops.get lp 4 = some L_rt) : LoopOkN Tryd.prog k (envOf tab [(23, C_rmay)] [] lp []) (loopAt Tryd.f10 0).1 (loopAt Tryd.f10 0).2 := loop_okN (L := L_rt) (by kernel_rfl) hk (rt_sem lp)
def rtext_t0 (s : ByteArray) := IntKind.wrap IntKind.i64 ((↑(ByteArray.size s) : Int) - 1)
def rtext_t1 (s : ByteArray) := UInt8.toNat (strAt s (Int.toNat (rtext_t0 s)))
def rtext_v0 (s : ByteArray) : Bool := !(↑(ByteArray.size s) : Int) == 0 && (!decide (40 < (↑(ByteArray.size s) : Int)) && (!(↑(UInt8.toNat (strAt s 0)) : Int) == 32 && (!(↑(rtext_t1 s) : Int) == 32 && !List.any (List.range (ByteArray.size s)) (badT s))))
def rtext_t2 (s : ByteArray) := Array.toList (ByteArray.data s)
def rtext_pre (s : ByteArray) : Bool := (↑(ByteArray.size s) : Int) == 0 || (decide (40 < (↑(ByteArray.size s) : Int)) || decide (0 < List.length (rtext_t2 s)) && ((↑(UInt8.toNat (strAt s 0)) : Int) == 32 || decide (0 ≤ (rtext_t0 s)) && (decide (Int.toNat (rtext_t0 s) < List.length (rtext_t2 s)) && ((↑(rtext_t1 s) : Int) == 32 || okS s))))
def C_rtext : FunT := fun args σ => match args, σ with
  | [AV.dat (D.str s)], [] => .chk ((rtext_pre s)) (.leaf ([AV.dat (D.bool (rtext_v0 s))], []))
  | _, _ => .fail
theorem rtext_raw0 (s : ByteArray) : runF (envOf tab [(23, C_rmay)] [] [(4, L_rt)] []) true Tryd.f10 [.dat (.str s)] [] =
  (bif (↑(ByteArray.size s) : Int) == 0 then some ([.dat (.bool false)], []) else
   (bif decide ((↑(ByteArray.size s) : Int) > 40) then some ([.dat (.bool false)], []) else
    (bif decide (0 < List.length (rtext_t2 s)) then
     (bif (↑(UInt8.toNat (strAt s 0)) : Int) == 32 then some ([.dat (.bool false)], []) else
      (bif decide (0 ≤ (rtext_t0 s)) then
       (bif decide (Int.toNat (rtext_t0 s) < List.length (rtext_t2 s)) then
        (bif (↑(rtext_t1 s) : Int) == 32 then some ([.dat (.bool false)], []) else
         (bif okS s then
          (bif List.any (List.range (ByteArray.size s)) (badT s) then some ([.dat (.bool false)], []) else some ([.dat (.bool true)], [])) else none)) else none) else none)) else none))) := by kernel_rfl
theorem rtext_case0 (s : ByteArray) : runF (envOf tab [(23, C_rmay)] [] [(4, L_rt)] []) true Tryd.f10 [.dat (.str s)] [] = FunT.run C_rtext [.dat (.str s)] [] := (rtext_raw0 s).trans (by
  show _ = (cond ((↑(ByteArray.size s) : Int) == 0 || (decide (40 < (↑(ByteArray.size s) : Int)) || decide (0 < List.length (rtext_t2 s)) && ((↑(UInt8.toNat (strAt s 0)) : Int) == 32 || decide (0 ≤ (rtext_t0 s)) && (decide (Int.toNat (rtext_t0 s) < List.length (rtext_t2 s)) && ((↑(rtext_t1 s) : Int) == 32 || okS s))))) (some (([.dat (.bool (!(↑(ByteArray.size s) : Int) == 0 && (!decide (40 < (↑(ByteArray.size s) : Int)) && (!(↑(UInt8.toNat (strAt s 0)) : Int) == 32 && (!(↑(rtext_t1 s) : Int) == 32 && !List.any (List.range (ByteArray.size s)) (badT s))))))], []) : Res)) none)
  generalize (decide (Int.toNat (rtext_t0 s) < List.length (rtext_t2 s))) = z0
  generalize (decide (0 ≤ (rtext_t0 s))) = z1
  generalize ((↑(rtext_t1 s) : Int) == 32) = z2
  generalize (decide (0 < List.length (rtext_t2 s))) = z3
  generalize (decide (40 < (↑(ByteArray.size s) : Int))) = z4
  generalize ((↑(UInt8.toNat (strAt s 0)) : Int) == 32) = z5
  generalize ((↑(ByteArray.size s) : Int) == 0) = z6
  generalize (List.any (List.range (ByteArray.size s)) (badT s)) = z7
  generalize (okS s) = z8
  cases z6 with
  | true =>
   rfl
  | false =>
   cases z4 with
   | true =>
    rfl
   | false =>
    cases z3 with
    | true =>
     cases z5 with
     | true =>
      rfl
     | false =>
      cases z1 with
      | true =>
       cases z0 with
       | true =>
        cases z2 with
        | true =>
         rfl
        | false =>
         cases z8 with
         | true =>
          cases z7 with
          | true =>
           rfl
          | false =>
           rfl
         | false =>
          rfl
       | false =>
        rfl
      | false =>
       rfl
    | false =>
     rfl
  )
theorem crtext_ok : FunOk Tryd.prog 10 (FunT.run C_rtext) := by
  refine fun_ok (E := envOf tab [(23, C_rmay)] [] [(4, L_rt)] []) (fz := true) (fn := Tryd.f10) (envOf_ok progOk (.cons crmay_ok (.nil _))) (by kernel_rfl) (by kernel_rfl) (loops_one (by kernel_rfl) (rt_loopOk _ rfl)) ?_
  intro args σ r h
  unfold C_rtext at h
  split at h
  · exact (rtext_case0 _).trans h
  · simp [T.run_fail] at h
end Go.Proofs.YtniombjfbdojjaaDoor
