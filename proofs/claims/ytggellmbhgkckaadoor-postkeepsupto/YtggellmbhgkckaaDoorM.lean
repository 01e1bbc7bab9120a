/- Seat 17: PostKeeps' loop and run. -/
import Derived.Test.YtggellmbhgkckaaDoorL
namespace Go.Proofs.YtggellmbhgkckaaDoor
open Go.AX
set_option maxRecDepth 100000
set_option maxHeartbeats 2000000
structure Kps (la fm to : Int) (s : ByteArray) (t n : Nat) (q : List D) : Prop where
  all : q.all okM = true
  right : right_v0 q = true
  len : q.length = n
  at_ : nthD q t = tM true la fm to s
theorem Kps.set {la fm to : Int} {s : ByteArray} {t n : Nat} {q : List D} (h : Kps la fm to s t n q) {j : Nat} (hj : j ≠ t) {x : D} (hx : okM x = true) (hw : wrD x = false) : Kps la fm to s t n (q.set j x) :=
  ⟨all_set h.all hx j, right_set h.right hw j, by rw [List.length_set]; exact h.len, by rw [nthD_set_ne hj]; exact h.at_⟩
def endP (la fm to at_ : Int) (s : ByteArray) (q : List D) : Bool := !decide ((q.length : Int) ≤ at_) && (decide (0 ≤ at_) && (decide (Int.toNat at_ < q.length) && (okE k23 (nthD q at_.toNat) && (D.getB (nthD (D.getL (nthD q at_.toNat)) 0) == true && (D.getI (nthD (D.getL (nthD q at_.toNat)) 1) == la && (D.getI (nthD (D.getL (nthD q at_.toNat)) 2) == fm && (D.getI (nthD (D.getL (nthD q at_.toNat)) 3) == to && (decide ((D.getS (nthD (D.getL (nthD q at_.toNat)) 4)).data.toList = s.data.toList) && true)))) && (iw_okL q && right_v0 q)))))
theorem Kps.endP {la fm to : Int} {s : ByteArray} {t n : Nat} {q : List D} (h : Kps la fm to s t n q) (ht : t < n) (hn : n ≤ 1000) : endP la fm to (t : Int) s q = true := by
  unfold YtggellmbhgkckaaDoor.endP
  have hl := h.len
  rw [Int.toNat_natCast, h.at_, h.right, iwL_ok h.all (by omega), decide_eq_false (show ¬ (q.length : Int) ≤ (t : Int) by omega), decide_eq_true (show (0 : Int) ≤ (t : Int) by omega), decide_eq_true (show t < q.length by omega)]
  show (true && (true && (true && (true && (true && (la == la && (fm == fm && (to == to && (decide (s.data.toList = s.data.toList) && true)))) && (true && true)))))) = true
  simp
def tosP (sl : List D) (la fm to at_ : Int) (s : ByteArray) (i w : Int) (q : List D) : Bool := toss_pre q (D.getI (nthD sl i.toNat)) w && bif toss_v1 q (D.getI (nthD sl i.toNat)) w == 0 then endP la fm to at_ s (toss_v0 q (D.getI (nthD sl i.toNat)) w) else endP la fm to at_ s q
def tailP (sl : List D) (la fm to at_ : Int) (s : ByteArray) (i w : Int) (q : List D) : Bool :=
  decide ((sl.length : Int) ≤ i) || decide (Int.toNat i < sl.length) && (okE (.int .i64) (nthD sl i.toNat) && bif D.getI (nthD sl i.toNat) == at_ then w == to || tosP sl la fm to at_ s i w q else tosP sl la fm to at_ s i w q)
def tosV (sl : List D) (i w : Int) (q : List D) : List D := bif toss_v1 q (D.getI (nthD sl i.toNat)) w == 0 then toss_v0 q (D.getI (nthD sl i.toNat)) w else q
def tailV (sl : List D) (to at_ : Int) (i w : Int) (q : List D) : List D :=
  bif decide ((sl.length : Int) ≤ i) then q else bif D.getI (nthD sl i.toNat) == at_ then bif w == to then q else tosV sl i w q else tosV sl i w q
theorem kp_stepE (ls sl : List D) (la fm to at_ : Int) (s : ByteArray) (i : Int) (now : List D) : kp_step ls sl la fm to at_ s (i, now) =
    .chk (!decide (i < (ls.length : Int)) || (!decide (i < 40) || decide (0 ≤ i) && (decide (Int.toNat i < ls.length) && (okE k23 (nthD ls i.toNat) && (put_pre now (fI (nthD ls i.toNat) 1) (fI (nthD ls i.toNat) 2) (fI (nthD ls i.toNat) 3) (fS (nthD ls i.toNat)) &&
      bif put_v2 now (fI (nthD ls i.toNat) 1) (fI (nthD ls i.toNat) 2) (fI (nthD ls i.toNat) 3) (fS (nthD ls i.toNat)) == 0 then tailP sl la fm to at_ s i (fI (nthD ls i.toNat) 3) (put_v0 now (fI (nthD ls i.toNat) 1) (fI (nthD ls i.toNat) 2) (fI (nthD ls i.toNat) 3) (fS (nthD ls i.toNat))) else tailP sl la fm to at_ s i (fI (nthD ls i.toNat) 3) now)))))
    (.br (!decide (i < (ls.length : Int)) || !decide (i < 40)) (.leaf (.inr (some 0, mkF 157 [(5, .ptr s23 0 0 []), (9, .dat (.slc s23 now)), (10, .dat (.int .i64 at_))], [boxM la fm to s]))) (.leaf (.inl (IntKind.wrap .i64 (i + 1),
      bif put_v2 now (fI (nthD ls i.toNat) 1) (fI (nthD ls i.toNat) 2) (fI (nthD ls i.toNat) 3) (fS (nthD ls i.toNat)) == 0 then tailV sl to at_ i (fI (nthD ls i.toNat) 3) (put_v0 now (fI (nthD ls i.toNat) 1) (fI (nthD ls i.toNat) 2) (fI (nthD ls i.toNat) 3) (fS (nthD ls i.toNat))) else tailV sl to at_ i (fI (nthD ls i.toNat) 3) now)))) := rfl
theorem tail_ok {la fm to : Int} {s : ByteArray} {t n : Nat} {q : List D} (h : Kps la fm to s t n q) (ht : t < n) (hn : n ≤ 1000) {sl : List D} (hs : sl.all (okE (.int .i64)) = true) (i : Nat) (w : Int) :
    tailP sl la fm to (t : Int) s i w q = true ∧ Kps la fm to s t n (tailV sl to (t : Int) i w q) := by
  have key : (D.getI (nthD sl i) = (t : Int) → w ≠ to) → tosP sl la fm to (t : Int) s i w q = true ∧ Kps la fm to s t n (tosV sl i w q) := fun hne => by
    have hl := h.len
    obtain ⟨g1, g2⟩ := toss_is h.all (show q.length ≤ 1048576 by omega) (D.getI (nthD sl i)) w
    unfold tosP tosV
    rw [Int.toNat_natCast, g1]
    cases hv : (toss_v1 q (D.getI (nthD sl i)) w == 0) with
    | false => exact ⟨h.endP ht hn, h⟩
    | true =>
      obtain ⟨_, j, e, hj, hu, hw, e2⟩ := g2 (by simpa using hv)
      have hjt : j ≠ t := by
        rintro rfl
        rw [h.at_] at hw
        exact hne e hw.symm
      have h2 : Kps la fm to s t n (q.set j nilM) := h.set hjt rfl (by rfl)
      rw [e2]
      exact ⟨h2.endP ht hn, h2⟩
  unfold tailP tailV
  cases hd : decide ((sl.length : Int) ≤ (i : Int)) with
  | true => exact ⟨rfl, h⟩
  | false =>
    have hi : i < sl.length := by have := of_decide_eq_false hd; omega
    rw [Int.toNat_natCast, decide_eq_true hi, allE_nth hs hi]
    cases he : (D.getI (nthD sl i) == (t : Int)) with
    | false =>
      obtain ⟨k1, k2⟩ := key (fun e => by rw [e] at he; simp at he)
      exact ⟨by rw [k1]; rfl, k2⟩
    | true =>
      cases hw : (w == to) with
      | true => exact ⟨rfl, h⟩
      | false =>
        obtain ⟨k1, k2⟩ := key (fun _ e => by rw [e] at hw; simp at hw)
        exact ⟨by rw [k1]; rfl, k2⟩
theorem put_keeps {la fm to : Int} {s : ByteArray} {t n : Nat} {q : List D} (h : Kps la fm to s t n q) (hn : n ≤ 1000) (_ : t < n) {x : D} (hx : okM x = true) :
    put_pre q (fI x 1) (fI x 2) (fI x 3) (fS x) = true ∧ Kps la fm to s t n (bif put_v2 q (fI x 1) (fI x 2) (fI x 3) (fS x) == 0 then put_v0 q (fI x 1) (fI x 2) (fI x 3) (fS x) else q) := by
  have hl := h.len
  have hs : okS (fS x) = true := by unfold okM at hx; exact ((Bool.and_eq_true _ _).mp hx).2
  obtain ⟨g1, g2, _⟩ := put_is h.all (show q.length ≤ 1048576 by omega) (fI x 1) (fI x 2) (fI x 3) hs
  refine ⟨g1, ?_⟩
  cases hv : (put_v2 q (fI x 1) (fI x 2) (fI x 3) (fS x) == 0) with
  | false => exact h
  | true =>
    obtain ⟨_, j, hj, hu, hw, e, _⟩ := g2 (by simpa using hv)
    rw [cond_true, e]
    refine h.set (fun e => ?_) ?_ hw
    · rw [e, h.at_] at hu
      have hu : true = false := hu
      exact absurd hu (by decide)
    · show (true && okS (fS x)) = true
      rw [hs]; rfl
def kpS (ls sl : List D) (to at_ : Int) (q : List D) : Nat → List D
  | 0 => q
  | i + 1 => tailV sl to at_ i (fI (nthD ls i) 3) (bif put_v2 (kpS ls sl to at_ q i) (fI (nthD ls i) 1) (fI (nthD ls i) 2) (fI (nthD ls i) 3) (fS (nthD ls i)) == 0 then put_v0 (kpS ls sl to at_ q i) (fI (nthD ls i) 1) (fI (nthD ls i) 2) (fI (nthD ls i) 3) (fS (nthD ls i)) else kpS ls sl to at_ q i)
theorem kpS_ok {ls sl q : List D} {la fm to : Int} {s : ByteArray} {t n : Nat} (h : Kps la fm to s t n q) (ht : t < n) (hn : n ≤ 1000) (hl : ls.all okM = true) (hs : sl.all (okE (.int .i64)) = true) : ∀ i : Nat, i ≤ ls.length → Kps la fm to s t n (kpS ls sl to (t : Int) q i)
  | 0, _ => h
  | i + 1, hi => (tail_ok (put_keeps (kpS_ok h ht hn hl hs i (by omega)) hn ht (List.all_eq_true.1 hl _ (nthD_mem (show i < ls.length by omega)))).2 ht hn hs i _).2
def kpC (ls sl : List D) (la fm to at_ : Int) (s : ByteArray) (q : List D) : Bool :=
  ls.all okM && (sl.all (okE (.int .i64)) && (q.all okM && (right_v0 q && (decide (0 ≤ at_) && (decide (at_.toNat < q.length) && (decide (q.length ≤ 1000) && D.eqb (nthD q at_.toNat) (tM true la fm to s)))))))
theorem kpC_iff {ls sl q : List D} {la fm to at_ : Int} {s : ByteArray} (h : kpC ls sl la fm to at_ s q = true) : ls.all okM = true ∧ sl.all (okE (.int .i64)) = true ∧ ∃ t : Nat, at_ = (t : Int) ∧ t < q.length ∧ q.length ≤ 1000 ∧ Kps la fm to s t q.length q := by
  unfold kpC at h
  simp only [Bool.and_eq_true] at h
  obtain ⟨h1, h2, h3, h4, h5, h6, h7, h8⟩ := h
  have h5 := of_decide_eq_true h5
  exact ⟨h1, h2, at_.toNat, by omega, of_decide_eq_true h6, of_decide_eq_true h7, h3, h4, rfl, D.eq_of_eqb h8⟩
theorem kp_closed (ls sl : List D) (la fm to at_ : Int) (s : ByteArray) (q : List D) (hc : kpC ls sl la fm to at_ s q = true) :
    ∃ z, (iterT (kp_step ls sl la fm to at_ s) z (0, q)).run = T.run (.leaf (some 0, mkF 157 [(5, .ptr s23 0 0 []), (9, .dat (.slc s23 (kpS ls sl to at_ q (min ls.length 40)))), (10, .dat (.int .i64 at_))], [boxM la fm to s])) := by
  obtain ⟨h1, h2, t, rfl, ht, hn, h3⟩ := kpC_iff hc
  refine iter_range (n := min ls.length 40) (fun i => kpS ls sl to (t : Int) q i) (fun i hi => ?_) ?_
  · have hx := List.all_eq_true.1 h1 _ (nthD_mem (show i < ls.length by omega))
    have hk : okE k23 (nthD ls i) = true := by unfold okM at hx; exact ((Bool.and_eq_true _ _).mp hx).1
    obtain ⟨g1, g2⟩ := put_keeps (kpS_ok h3 ht hn h1 h2 i (by omega)) hn ht hx
    obtain ⟨g3, _⟩ := tail_ok g2 ht hn h2 i (fI (nthD ls i) 3)
    rw [kp_stepE, T.run_chk, T.run_br, T.run_leaf, T.run_leaf, kpS]
    simp only [Int.toNat_natCast, g1, hk, decide_eq_true (show (i : Int) < (ls.length : Int) by omega), decide_eq_true (show (i : Int) < 40 by omega), decide_eq_true (show (0 : Int) ≤ (i : Int) by omega), decide_eq_true (show i < ls.length by omega), wrap_succ (show i < 2 ^ 62 by omega), Bool.not_true, Bool.false_or, Bool.true_and, cond_false]
    cases hv : (put_v2 (kpS ls sl to (t : Int) q i) (fI (nthD ls i) 1) (fI (nthD ls i) 2) (fI (nthD ls i) 3) (fS (nthD ls i)) == 0) with
    | true => rw [hv, cond_true] at g3; rw [cond_true, cond_true, cond_true, g3]; rfl
    | false => rw [hv, cond_false] at g3; rw [cond_false, cond_false, cond_false, g3]; rfl
  · rw [kp_stepE, T.run_chk, T.run_br]
    have : (!decide (((min ls.length 40 : Nat) : Int) < (ls.length : Int)) || !decide (((min ls.length 40 : Nat) : Int) < 40)) = true := by
      rcases (by omega : min ls.length 40 = ls.length ∨ min ls.length 40 = 40) with e | e <;> rw [e] <;> simp
    rw [this, cond_true]
    rcases (by omega : min ls.length 40 = ls.length ∨ min ls.length 40 = 40) with e | e
    · rw [decide_eq_false (show ¬ ((min ls.length 40 : Nat) : Int) < (ls.length : Int) by omega)]; rfl
    · rw [decide_eq_false (show ¬ ((min ls.length 40 : Nat) : Int) < 40 by omega)]
      cases decide (((min ls.length 40 : Nat) : Int) < (ls.length : Int)) <;> rfl
def L_kp : Frame' → Store → T (Exit × Frame' × Store) := fun fr σ => match fr.getD 2 .undef, fr.getD 3 .undef, fr.getD 5 .undef, fr.getD 9 .undef, fr.getD 10 .undef, fr.getD 12 .undef, σ with
  | AV.dat (D.slc (Sh.agg [Sh.one, Sh.one, Sh.one, Sh.one, Sh.one]) ls), AV.dat (D.slc Sh.one sl), AV.ptr (Sh.agg [Sh.one, Sh.one, Sh.one, Sh.one, Sh.one]) 0 0 [], AV.dat (D.slc (Sh.agg [Sh.one, Sh.one, Sh.one, Sh.one, Sh.one]) q), AV.dat (D.int IntKind.i64 at_), AV.dat (D.int IntKind.i64 0), [{ sh := Sh.agg [Sh.one, Sh.one, Sh.one, Sh.one, Sh.one], dyn := false, frz := false, v := AV.dat (D.agg [D.bool true, D.int IntKind.i64 la, D.int IntKind.i64 fm, D.int IntKind.i64 to, D.str s]) }] => .chk (Nat.beq fr.length 157 && (kpC ls sl la fm to at_ s q)) (T.bind (.leaf (some 0, mkF 157 [(5, .ptr s23 0 0 []), (9, .dat (.slc s23 (kpS ls sl to at_ q (min ls.length 40)))), (10, .dat (.int .i64 at_))], [boxM la fm to s])) fun o => .leaf (outEx o.1, o.2.1, o.2.2))
  | _, _, _, _, _, _, _ => .fail
theorem kp_sem (lp : Loops) : ∀ fr σ p, (L_kp fr σ).run = some p → ∀ (K : Kt) r, K p.1 p.2.1 p.2.2 = some r → ∃ n, loopRun (envOf tab SpK [] lp HK) Tryd.f3 0 σ.length n (cleanF (liveAt Tryd.f3 0) 0 fr) σ K = some r := by
  intro fr σ p h K r hK
  unfold L_kp at h
  split at h
  · rename_i ls sl q at_ la fm to s g2 g3 g5 g9 g10 g12
    obtain ⟨hc, h'⟩ := T.chk_some h
    rw [Bool.and_eq_true] at hc
    obtain ⟨hl, hc⟩ := hc
    obtain ⟨o, ho, h'⟩ := T.bind_some h'
    have hp := T.leaf_some h'
    subst hp
    obtain ⟨nF, hn⟩ : ∃ nF, (iterT (kp_step ls sl la fm to at_ s) nF ((0, q))).run = T.run (.leaf (some 0, mkF 157 [(5, .ptr s23 0 0 []), (9, .dat (.slc s23 (kpS ls sl to at_ q (min ls.length 40)))), (10, .dat (.int .i64 at_))], [boxM la fm to s])) := kp_closed ls sl la fm to at_ s q hc
    rw [ho] at hn
    refine ⟨nF, ?_⟩
    have he : cleanF (liveAt Tryd.f3 0) 0 fr = kp_fr ls sl la fm to at_ s ((0, q)) := kp_enter ls sl la fm to at_ s _ _ fr hl g2 g3 g5 g9 g10 g12
    refine (iter_ok (base := 1) (kp_hr lp ls sl la fm to at_ s) K nF ((0, q)) _ _ (by rw [clean_clean]; exact he) (by kernel_rfl)).trans ?_
    rw [T.k_run hn]
    exact hK
  · simp [T.run_fail] at h
theorem kp_loopOk {k : Nat} (lp : Loops) (hk : Loops.get lp 8 = some L_kp) : LoopOkN Tryd.prog k (envOf tab SpK [] lp HK) (loopAt Tryd.f3 0).1 (loopAt Tryd.f3 0).2 := loop_okN (L := L_kp) (by kernel_rfl) hk (kp_sem lp)
abbrev pk_E : Env := envOf tab SpK [] [(8, L_kp)] HK
def pk_t7 (u : Bool) (la : Int) (fm : Int) (to : Int) (s : ByteArray) : D := .agg [D.bool u, D.int .i64 la, D.int .i64 fm, D.int .i64 to, D.str s]
def pk_F0 (n : Int) (u : Bool) (la fm to : Int) (s : ByteArray) (ls sl : List D) : Frame' := mkF 157 [(0, .dat (.int IntKind.u8 n)), (1, .dat (pk_t7 u la fm to s)), (2, .dat (.slc (s23) ls)), (3, .dat (.slc Sh.one sl))]
def pk_T0 (_n : Int) (_u : Bool) (_la _fm _to : Int) (_s : ByteArray) (_ls _sl : List D) : Store := []
theorem pk_start (n : Int) (u : Bool) (la fm to : Int) (s : ByteArray) (ls sl : List D) : runF (envOf tab SpK [] [(8, L_kp)] HK) true Tryd.f3 [.dat (.int .u8 n), .dat (tM u la fm to s), .dat (.slc s23 ls), .dat (.slc .one sl)] [] = ex (Env.rebase (pk_E) 0) [8] (sqR 0 (bodyOf Tryd.f3)) [] [8] (pk_F0 n u la fm to s ls sl) (pk_T0 n u la fm to s ls sl) (finK (pk_E) true Tryd.f3 (callFin [] [])) := run_start (ρ := []) (args' := [.dat (.int IntKind.u8 n), .dat (pk_t7 u la fm to s), .dat (.slc (s23) ls), .dat (.slc Sh.one sl)]) (by kernel_rfl) (by kernel_rfl) (by kernel_rfl) (by kernel_rfl) (by kernel_rfl) (by kernel_rfl) (by kernel_rfl) (by kernel_rfl) (by kernel_rfl)
theorem pk_q0 (n : Int) (u : Bool) (la fm to : Int) (s : ByteArray) (ls sl : List D) (K : Kt) : ex (Env.rebase (pk_E) 0) [8] (sqA (sqR 0 (bodyOf Tryd.f3))) [] [0, 3, 2, 5] (pk_F0 n u la fm to s ls sl) (pk_T0 n u la fm to s ls sl) K = K .normal (mkF 157 [(0, .dat (.int IntKind.u8 n)), (1, .dat (pk_t7 u la fm to s)), (2, .dat (.slc (s23) ls)), (3, .dat (.slc Sh.one sl)), (5, AV.ptr (s23) 0 0 []), (8, .dat (.bool false))]) ([{ sh := s23, dyn := false, frz := false, v := .dat (pk_t7 u la fm to s) }]) := by kernel_rfl
def pk_F1 (n : Int) (u : Bool) (la fm to : Int) (s : ByteArray) (ls sl : List D) : Frame' := mkF 157 [(0, .dat (.int IntKind.u8 n)), (1, .dat (pk_t7 u la fm to s)), (2, .dat (.slc (s23) ls)), (3, .dat (.slc Sh.one sl)), (5, AV.ptr (s23) 0 0 []), (8, .dat (.bool false))]
def pk_T1 (_n : Int) (u : Bool) (la fm to : Int) (s : ByteArray) (_ls _sl : List D) : Store := [{ sh := s23, dyn := false, frz := false, v := .dat (pk_t7 u la fm to s) }]
theorem pk_s0 (n : Int) (u : Bool) (la fm to : Int) (s : ByteArray) (ls sl : List D) (K : Kt) : ex (Env.rebase (pk_E) 0) [8] (sqR 0 (bodyOf Tryd.f3)) [] [8] (pk_F0 n u la fm to s ls sl) (pk_T0 n u la fm to s ls sl) K = ex (Env.rebase (pk_E) 0) [8] (sqR 1 (bodyOf Tryd.f3)) [] [8] (pk_F1 n u la fm to s ls sl) (pk_T1 n u la fm to s ls sl) K := (seg_str (c := (sqR 0 (bodyOf Tryd.f3))) (a := sqA (sqR 0 (bodyOf Tryd.f3))) (b := (sqR 1 (bodyOf Tryd.f3))) (by kernel_rfl) (by kernel_rfl) (by kernel_rfl) (pk_q0 n u la fm to s ls sl) K).trans (seqK_normal (by kernel_rfl) (by kernel_rfl))
def pk_t9 (n : Int) := IntKind.wrap IntKind.i64 n
def pk_t12 (u : Bool) (la : Int) (fm : Int) (to : Int) (s : ByteArray) := D.agg [D.bool u, D.int .i64 la, D.int .i64 fm, D.int .i64 to, D.str s]
def pk_t1 (n : Int) := Int.toNat (Int.tmod (pk_t9 n) 13)
def pk_t13 (n : Int) (u : Bool) (la : Int) (fm : Int) (to : Int) (s : ByteArray) : Store := [{ sh := s23, dyn := false, frz := false, v := .dat (pk_t7 u la fm to s) }, { sh := Sh.arr (s23) 0, dyn := true, frz := true, v := .dat (.arr (s23) (List.replicate (pk_t1 n) (D.agg [D.bool false, D.int .i64 0, D.int .i64 0, D.int .i64 0, D.str { data := { toList := [] } }]))) }]
theorem pk_r1 (n : Int) (u : Bool) (la fm to : Int) (s : ByteArray) (ls sl : List D) (J : List AV → Store → Option Res) (K : Kt) : ex (Env.rebase (pk_E) 1) [8] (sqA (sqR 1 (bodyOf Tryd.f3))) [] [11, 3, 2, 9, 10, 5] (pk_F1 n u la fm to s ls sl) (pk_T1 n u la fm to s ls sl) (jK [9, 10, 11] J K) = (cond (decide (0 ≤ Int.tmod (pk_t9 n) 13) && decide (Int.tmod (pk_t9 n) 13 ≤ Int.tmod (pk_t9 n) 13) && decide (Int.tmod (pk_t9 n) 13 * 48 ≤ 35184372088832) && decide (Int.tmod (pk_t9 n) 13 ≤ 35184372088832) && true) ((cond (D.eqb (pk_t12 u la fm to s) (pk_t12 u la fm to s) && true) ((cond (Nat.beq (List.length (List.replicate (pk_t1 n) (D.agg [D.bool false, D.int .i64 0, D.int .i64 0, D.int .i64 0, D.str { data := { toList := [] } }]))) (pk_t1 n)) ((cond (put_pre (seg (List.replicate (pk_t1 n) (D.agg [D.bool false, D.int .i64 0, D.int .i64 0, D.int .i64 0, D.str { data := { toList := [] } }])) 0 (pk_t1 n)) la fm to s) (J ([.dat (.slc (s23) (put_v0 (seg (List.replicate (pk_t1 n) (D.agg [D.bool false, D.int .i64 0, D.int .i64 0, D.int .i64 0, D.str { data := { toList := [] } }])) 0 (pk_t1 n)) la fm to s)), .dat (.int .i64 (put_v1 (seg (List.replicate (pk_t1 n) (D.agg [D.bool false, D.int .i64 0, D.int .i64 0, D.int .i64 0, D.str { data := { toList := [] } }])) 0 (pk_t1 n)) la fm to s)), .dat (.int .i64 (put_v2 (seg (List.replicate (pk_t1 n) (D.agg [D.bool false, D.int .i64 0, D.int .i64 0, D.int .i64 0, D.str { data := { toList := [] } }])) 0 (pk_t1 n)) la fm to s))]) (pk_t13 n u la fm to s)) (none))) (none))) (none))) (none)) := by kernel_rfl
theorem pk_q1 (n : Int) (u : Bool) (la fm to : Int) (s : ByteArray) (ls sl : List D) (J : List AV → Store → Option Res) (K : Kt) : ex (Env.rebase (pk_E) 1) [8] (sqA (sqR 1 (bodyOf Tryd.f3))) [] [11, 3, 2, 9, 10, 5] (pk_F1 n u la fm to s ls sl) (pk_T1 n u la fm to s ls sl) (jK [9, 10, 11] J K) = (cond (decide (0 ≤ Int.tmod (pk_t9 n) 13) && decide (Int.tmod (pk_t9 n) 13 ≤ Int.tmod (pk_t9 n) 13) && decide (Int.tmod (pk_t9 n) 13 * 48 ≤ 35184372088832) && decide (Int.tmod (pk_t9 n) 13 ≤ 35184372088832) && (D.eqb (pk_t12 u la fm to s) (pk_t12 u la fm to s) && (Nat.beq (List.length (List.replicate (pk_t1 n) (D.agg [D.bool false, D.int .i64 0, D.int .i64 0, D.int .i64 0, D.str { data := { toList := [] } }]))) (pk_t1 n) && put_pre (seg (List.replicate (pk_t1 n) (D.agg [D.bool false, D.int .i64 0, D.int .i64 0, D.int .i64 0, D.str { data := { toList := [] } }])) 0 (pk_t1 n)) la fm to s))) (J ([.dat (.slc (s23) (put_v0 (seg (List.replicate (pk_t1 n) (D.agg [D.bool false, D.int .i64 0, D.int .i64 0, D.int .i64 0, D.str { data := { toList := [] } }])) 0 (pk_t1 n)) la fm to s)), .dat (.int .i64 (put_v1 (seg (List.replicate (pk_t1 n) (D.agg [D.bool false, D.int .i64 0, D.int .i64 0, D.int .i64 0, D.str { data := { toList := [] } }])) 0 (pk_t1 n)) la fm to s)), .dat (.int .i64 (put_v2 (seg (List.replicate (pk_t1 n) (D.agg [D.bool false, D.int .i64 0, D.int .i64 0, D.int .i64 0, D.str { data := { toList := [] } }])) 0 (pk_t1 n)) la fm to s))]) (pk_t13 n u la fm to s)) none) := (pk_r1 n u la fm to s ls sl J K).trans (by
  generalize (decide (0 ≤ Int.tmod (pk_t9 n) 13) && decide (Int.tmod (pk_t9 n) 13 ≤ Int.tmod (pk_t9 n) 13) && decide (Int.tmod (pk_t9 n) 13 * 48 ≤ 35184372088832) && decide (Int.tmod (pk_t9 n) 13 ≤ 35184372088832)) = z0
  generalize (put_pre (seg (List.replicate (pk_t1 n) (D.agg [D.bool false, D.int .i64 0, D.int .i64 0, D.int .i64 0, D.str { data := { toList := [] } }])) 0 (pk_t1 n)) la fm to s) = z1
  generalize (Nat.beq (List.length (List.replicate (pk_t1 n) (D.agg [D.bool false, D.int .i64 0, D.int .i64 0, D.int .i64 0, D.str { data := { toList := [] } }]))) (pk_t1 n)) = z2
  generalize (D.eqb (pk_t12 u la fm to s) (pk_t12 u la fm to s)) = z3
  cases z0 with
  | true =>
   cases z3 with
   | true =>
    cases z2 with
    | true =>
     cases z1 with
     | true =>
      rfl
     | false =>
      rfl
    | false =>
     rfl
   | false =>
    rfl
  | false =>
   rfl
  )
def pk_w1v0 (n : Int) (la : Int) (fm : Int) (to : Int) (s : ByteArray) : List D := put_v0 (seg (List.replicate (pk_t1 n) (D.agg [D.bool false, D.int .i64 0, D.int .i64 0, D.int .i64 0, D.str { data := { toList := [] } }])) 0 (pk_t1 n)) la fm to s
def pk_w1v1 (n : Int) (la : Int) (fm : Int) (to : Int) (s : ByteArray) : Int := put_v1 (seg (List.replicate (pk_t1 n) (D.agg [D.bool false, D.int .i64 0, D.int .i64 0, D.int .i64 0, D.str { data := { toList := [] } }])) 0 (pk_t1 n)) la fm to s
def pk_w1v2 (n : Int) (la : Int) (fm : Int) (to : Int) (s : ByteArray) : Int := put_v2 (seg (List.replicate (pk_t1 n) (D.agg [D.bool false, D.int .i64 0, D.int .i64 0, D.int .i64 0, D.str { data := { toList := [] } }])) 0 (pk_t1 n)) la fm to s
def pk_w1v3 (n : Int) : List D := List.replicate (pk_t1 n) (D.agg [D.bool false, D.int .i64 0, D.int .i64 0, D.int .i64 0, D.str { data := { toList := [] } }])
def pk_F2 (n : Int) (u : Bool) (la fm to : Int) (s : ByteArray) (ls sl : List D) : Frame' := mkF 157 [(0, .dat (.int IntKind.u8 n)), (1, .dat (pk_t7 u la fm to s)), (2, .dat (.slc (s23) ls)), (3, .dat (.slc Sh.one sl)), (5, AV.ptr (s23) 0 0 []), (8, .dat (.bool false)), (9, .dat (.slc (s23) (pk_w1v0 n la fm to s))), (10, .dat (.int .i64 (pk_w1v1 n la fm to s))), (11, .dat (.int .i64 (pk_w1v2 n la fm to s)))]
def pk_T2 (n : Int) (u : Bool) (la fm to : Int) (s : ByteArray) (_ls _sl : List D) : Store := [{ sh := s23, dyn := false, frz := false, v := .dat (pk_t7 u la fm to s) }, { sh := Sh.arr (s23) 0, dyn := true, frz := true, v := .dat (.arr (s23) (pk_w1v3 n)) }]
def pk_p1 (n : Int) (u : Bool) (la : Int) (fm : Int) (to : Int) (s : ByteArray) : Bool := decide (0 ≤ Int.tmod (pk_t9 n) 13) && decide (Int.tmod (pk_t9 n) 13 ≤ Int.tmod (pk_t9 n) 13) && decide (Int.tmod (pk_t9 n) 13 * 48 ≤ 35184372088832) && decide (Int.tmod (pk_t9 n) 13 ≤ 35184372088832) && (D.eqb (pk_t12 u la fm to s) (pk_t12 u la fm to s) && (Nat.beq (List.length (List.replicate (pk_t1 n) (D.agg [D.bool false, D.int .i64 0, D.int .i64 0, D.int .i64 0, D.str { data := { toList := [] } }]))) (pk_t1 n) && put_pre (seg (List.replicate (pk_t1 n) (D.agg [D.bool false, D.int .i64 0, D.int .i64 0, D.int .i64 0, D.str { data := { toList := [] } }])) 0 (pk_t1 n)) la fm to s))
theorem pk_s1 (n : Int) (u : Bool) (la fm to : Int) (s : ByteArray) (ls sl : List D) (K : Kt) : ex (Env.rebase (pk_E) 0) [8] (sqR 1 (bodyOf Tryd.f3)) [] [8] (pk_F1 n u la fm to s ls sl) (pk_T1 n u la fm to s ls sl) K = (cond (pk_p1 n u la fm to s) (ex (Env.rebase (pk_E) 0) [8] (sqR 2 (bodyOf Tryd.f3)) [] [8] (pk_F2 n u la fm to s ls sl) (pk_T2 n u la fm to s ls sl) K) none) := (seg_join (c := (sqR 1 (bodyOf Tryd.f3))) (a := sqA (sqR 1 (bodyOf Tryd.f3))) (b := (sqR 2 (bodyOf Tryd.f3))) (ds := [21, 22, 23, 24, 25, 26, 20, 27, 28, 29, 9, 10, 11]) (by kernel_rfl) (by kernel_rfl) (by kernel_rfl) (by kernel_rfl) (by kernel_rfl) (by kernel_rfl) (pk_q1 n u la fm to s ls sl) K).trans (condC (ex_same (by kernel_rfl) (by kernel_rfl)))
def pk_t14 := mkF 157 [(8, .dat (.bool true))]
def pk_t4 (n : Int) (u : Bool) (la : Int) (fm : Int) (to : Int) (s : ByteArray) : Store := [{ sh := s23, dyn := false, frz := false, v := .dat (pk_t7 u la fm to s) }, { sh := Sh.arr (s23) 0, dyn := true, frz := true, v := .dat (.arr (s23) (pk_w1v3 n)) }]
theorem pk_r2 (n : Int) (u : Bool) (la fm to : Int) (s : ByteArray) (ls sl : List D) (J : List AV → Store → Option Res) (K : Kt) : ex (Env.rebase (pk_E) 2) [8] (sqA (sqR 2 (bodyOf Tryd.f3))) [] [3, 2, 9, 10, 5] (pk_F2 n u la fm to s ls sl) (pk_T2 n u la fm to s ls sl) (jK [] J K) = (cond (pk_w1v2 n la fm to s != 0) ((cond (D.eqb (D.bool ((↑(List.length (pk_w1v0 n la fm to s)) : Int) == 0)) (D.bool true)) (K (Exit.ret) pk_t14 (pk_t4 n u la fm to s)) (none))) (J ([]) (pk_t4 n u la fm to s))) := by kernel_rfl
theorem pk_q2 (n : Int) (u : Bool) (la fm to : Int) (s : ByteArray) (ls sl : List D) (J : List AV → Store → Option Res) (K : Kt) : ex (Env.rebase (pk_E) 2) [8] (sqA (sqR 2 (bodyOf Tryd.f3))) [] [3, 2, 9, 10, 5] (pk_F2 n u la fm to s ls sl) (pk_T2 n u la fm to s ls sl) (jK [] J K) = (cond (!pk_w1v2 n la fm to s != 0 || (↑(List.length (pk_w1v0 n la fm to s)) : Int) == 0) ((cond (pk_w1v2 n la fm to s != 0) (K (Exit.ret) pk_t14 (pk_t4 n u la fm to s)) (J ([]) (pk_t4 n u la fm to s)))) none) := (pk_r2 n u la fm to s ls sl J K).trans (by
  generalize ((↑(List.length (pk_w1v0 n la fm to s)) : Int) == 0) = z0
  generalize (pk_w1v2 n la fm to s != 0) = z1
  cases z1 with
  | true =>
   cases z0 with
   | true =>
    rfl
   | false =>
    rfl
  | false =>
   rfl
  )
def pk_F3 (n : Int) (u : Bool) (la fm to : Int) (s : ByteArray) (ls sl : List D) : Frame' := mkF 157 [(0, .dat (.int IntKind.u8 n)), (1, .dat (pk_t7 u la fm to s)), (2, .dat (.slc (s23) ls)), (3, .dat (.slc Sh.one sl)), (5, AV.ptr (s23) 0 0 []), (9, .dat (.slc (s23) (pk_w1v0 n la fm to s))), (10, .dat (.int .i64 (pk_w1v1 n la fm to s))), (11, .dat (.int .i64 (pk_w1v2 n la fm to s)))]
def pk_T3 (n : Int) (u : Bool) (la fm to : Int) (s : ByteArray) (_ls _sl : List D) : Store := [{ sh := s23, dyn := false, frz := false, v := .dat (pk_t7 u la fm to s) }, { sh := Sh.arr (s23) 0, dyn := true, frz := true, v := .dat (.arr (s23) (pk_w1v3 n)) }]
def pk_p2 (n : Int) (la : Int) (fm : Int) (to : Int) (s : ByteArray) : Bool := !pk_w1v2 n la fm to s != 0 || (↑(List.length (pk_w1v0 n la fm to s)) : Int) == 0
def pk_c2_0 (n : Int) (la : Int) (fm : Int) (to : Int) (s : ByteArray) : Bool := pk_w1v2 n la fm to s != 0
theorem pk_s2 (n : Int) (u : Bool) (la fm to : Int) (s : ByteArray) (ls sl : List D) (K : Kt) : ex (Env.rebase (pk_E) 0) [8] (sqR 2 (bodyOf Tryd.f3)) [] [8] (pk_F2 n u la fm to s ls sl) (pk_T2 n u la fm to s ls sl) K = (cond (pk_p2 n la fm to s) ((cond (pk_c2_0 n la fm to s) (K (Exit.ret) pk_t14 (pk_t4 n u la fm to s)) (ex (Env.rebase (pk_E) 0) [8] (sqR 3 (bodyOf Tryd.f3)) [] [8] (pk_F3 n u la fm to s ls sl) (pk_T3 n u la fm to s ls sl) K))) none) := (seg_join (c := (sqR 2 (bodyOf Tryd.f3))) (a := sqA (sqR 2 (bodyOf Tryd.f3))) (b := (sqR 3 (bodyOf Tryd.f3))) (ds := [30, 31, 32, 33, 34, 35, 36, 37, 8]) (by kernel_rfl) (by kernel_rfl) (by kernel_rfl) (by kernel_rfl) (by kernel_rfl) (by kernel_rfl) (pk_q2 n u la fm to s ls sl) K).trans (condC (condC3 rfl (ex_same (by kernel_rfl) (by kernel_rfl))))
theorem pk_e2_0 (n : Int) (u : Bool) (la fm to : Int) (s : ByteArray) (_ls _sl : List D) : (finK (pk_E) true Tryd.f3 (callFin [] [])) (Exit.ret) pk_t14 (pk_t4 n u la fm to s) = some (([.dat (.bool true)], []) : Res) := by kernel_rfl
theorem pk_r3 (n : Int) (u : Bool) (la fm to : Int) (s : ByteArray) (ls sl : List D) (J : List AV → Store → Option Res) (K : Kt) : ex (Env.rebase (pk_E) 2) [8] (sqA (sqR 3 (bodyOf Tryd.f3))) [] [3, 2, 9, 10, 5] (pk_F3 n u la fm to s ls sl) (pk_T3 n u la fm to s ls sl) (jK [] J K) = (cond (D.eqb (D.bool (decide (pk_w1v1 n la fm to s < 0))) (D.bool false)) ((cond (D.eqb (D.bool (decide (pk_w1v1 n la fm to s ≥ (↑(List.length (pk_w1v0 n la fm to s)) : Int)))) (D.bool false)) (J ([]) (pk_t4 n u la fm to s)) (none))) (none)) := by kernel_rfl
theorem pk_q3 (n : Int) (u : Bool) (la fm to : Int) (s : ByteArray) (ls sl : List D) (J : List AV → Store → Option Res) (K : Kt) : ex (Env.rebase (pk_E) 2) [8] (sqA (sqR 3 (bodyOf Tryd.f3))) [] [3, 2, 9, 10, 5] (pk_F3 n u la fm to s ls sl) (pk_T3 n u la fm to s ls sl) (jK [] J K) = (cond (!decide (pk_w1v1 n la fm to s < 0) && !decide ((↑(List.length (pk_w1v0 n la fm to s)) : Int) ≤ pk_w1v1 n la fm to s)) (J ([]) (pk_t4 n u la fm to s)) none) := (pk_r3 n u la fm to s ls sl J K).trans (by
  generalize (decide ((↑(List.length (pk_w1v0 n la fm to s)) : Int) ≤ pk_w1v1 n la fm to s)) = z0
  generalize (decide (pk_w1v1 n la fm to s < 0)) = z1
  cases z1 with
  | true =>
   rfl
  | false =>
   cases z0 with
   | true =>
    rfl
   | false =>
    rfl
  )
def pk_F4 (n : Int) (u : Bool) (la fm to : Int) (s : ByteArray) (ls sl : List D) : Frame' := mkF 157 [(0, .dat (.int IntKind.u8 n)), (1, .dat (pk_t7 u la fm to s)), (2, .dat (.slc (s23) ls)), (3, .dat (.slc Sh.one sl)), (5, AV.ptr (s23) 0 0 []), (9, .dat (.slc (s23) (pk_w1v0 n la fm to s))), (10, .dat (.int .i64 (pk_w1v1 n la fm to s))), (11, .dat (.int .i64 (pk_w1v2 n la fm to s)))]
def pk_T4 (n : Int) (u : Bool) (la fm to : Int) (s : ByteArray) (_ls _sl : List D) : Store := [{ sh := s23, dyn := false, frz := false, v := .dat (pk_t7 u la fm to s) }, { sh := Sh.arr (s23) 0, dyn := true, frz := true, v := .dat (.arr (s23) (pk_w1v3 n)) }]
def pk_p3 (n : Int) (la : Int) (fm : Int) (to : Int) (s : ByteArray) : Bool := !decide (pk_w1v1 n la fm to s < 0) && !decide ((↑(List.length (pk_w1v0 n la fm to s)) : Int) ≤ pk_w1v1 n la fm to s)
theorem pk_s3 (n : Int) (u : Bool) (la fm to : Int) (s : ByteArray) (ls sl : List D) (K : Kt) : ex (Env.rebase (pk_E) 0) [8] (sqR 3 (bodyOf Tryd.f3)) [] [8] (pk_F3 n u la fm to s ls sl) (pk_T3 n u la fm to s ls sl) K = (cond (pk_p3 n la fm to s) (ex (Env.rebase (pk_E) 0) [8] (sqR 4 (bodyOf Tryd.f3)) [] [8] (pk_F4 n u la fm to s ls sl) (pk_T4 n u la fm to s ls sl) K) none) := (seg_join (c := (sqR 3 (bodyOf Tryd.f3))) (a := sqA (sqR 3 (bodyOf Tryd.f3))) (b := (sqR 4 (bodyOf Tryd.f3))) (ds := [38, 39, 40, 41, 42, 43, 44, 45, 8]) (by kernel_rfl) (by kernel_rfl) (by kernel_rfl) (by kernel_rfl) (by kernel_rfl) (by kernel_rfl) (pk_q3 n u la fm to s ls sl) K).trans (condC (ex_same (by kernel_rfl) (by kernel_rfl)))
def pk_t8 (la : Int) (fm : Int) (to : Int) (s : ByteArray) : D := .agg [D.bool true, D.int .i64 la, D.int .i64 fm, D.int .i64 to, D.str s]
theorem pk_q4 (n : Int) (u : Bool) (la fm to : Int) (s : ByteArray) (ls sl : List D) (K : Kt) : ex (Env.rebase (pk_E) 0) [8] (sqA (sqR 4 (bodyOf Tryd.f3))) [] [3, 2, 9, 10, 5] (pk_F4 n u la fm to s ls sl) (pk_T4 n u la fm to s ls sl) K = K .normal (mkF 157 [(2, .dat (.slc (s23) ls)), (3, .dat (.slc Sh.one sl)), (5, AV.ptr (s23) 0 0 []), (9, .dat (.slc (s23) (pk_w1v0 n la fm to s))), (10, .dat (.int .i64 (pk_w1v1 n la fm to s))), (46, AV.ptr Sh.one 0 0 [0])]) ([{ sh := s23, dyn := false, frz := false, v := .dat (pk_t8 la fm to s) }]) := by kernel_rfl
def pk_F5 (n : Int) (_u : Bool) (la fm to : Int) (s : ByteArray) (ls sl : List D) : Frame' := mkF 157 [(2, .dat (.slc (s23) ls)), (3, .dat (.slc Sh.one sl)), (5, AV.ptr (s23) 0 0 []), (9, .dat (.slc (s23) (pk_w1v0 n la fm to s))), (10, .dat (.int .i64 (pk_w1v1 n la fm to s))), (46, AV.ptr Sh.one 0 0 [0])]
def pk_T5 (_n : Int) (_u : Bool) (la fm to : Int) (s : ByteArray) (_ls _sl : List D) : Store := [{ sh := s23, dyn := false, frz := false, v := .dat (pk_t8 la fm to s) }]
theorem pk_s4 (n : Int) (u : Bool) (la fm to : Int) (s : ByteArray) (ls sl : List D) (K : Kt) : ex (Env.rebase (pk_E) 0) [8] (sqR 4 (bodyOf Tryd.f3)) [] [8] (pk_F4 n u la fm to s ls sl) (pk_T4 n u la fm to s ls sl) K = ex (Env.rebase (pk_E) 0) [8] (sqR 5 (bodyOf Tryd.f3)) [] [8] (pk_F5 n u la fm to s ls sl) (pk_T5 n u la fm to s ls sl) K := (seg_str (c := (sqR 4 (bodyOf Tryd.f3))) (a := sqA (sqR 4 (bodyOf Tryd.f3))) (b := (sqR 5 (bodyOf Tryd.f3))) (by kernel_rfl) (by kernel_rfl) (by kernel_rfl) (pk_q4 n u la fm to s ls sl) K).trans (seqK_normal (by kernel_rfl) (by kernel_rfl))
theorem pk_r5 (n : Int) (u : Bool) (la fm to : Int) (s : ByteArray) (ls sl : List D) (J : List AV → Store → Option Res) (K : Kt) : ex (Env.rebase (pk_E) 1) [8] (sqA (sqR 5 (bodyOf Tryd.f3))) [] [9, 10, 5] (pk_F5 n u la fm to s ls sl) (pk_T5 n u la fm to s ls sl) (jK [9] J K) = (cond (kpC ls sl la fm to (pk_w1v1 n la fm to s) s (pk_w1v0 n la fm to s)) (J ([.dat (.slc (s23) (kpS ls sl to (pk_w1v1 n la fm to s) (pk_w1v0 n la fm to s) (min (List.length ls) 40)))]) ([{ sh := s23, dyn := false, frz := false, v := .dat (pk_t8 la fm to s) }])) (none)) := by kernel_rfl
theorem pk_q5 (n : Int) (u : Bool) (la fm to : Int) (s : ByteArray) (ls sl : List D) (J : List AV → Store → Option Res) (K : Kt) : ex (Env.rebase (pk_E) 1) [8] (sqA (sqR 5 (bodyOf Tryd.f3))) [] [9, 10, 5] (pk_F5 n u la fm to s ls sl) (pk_T5 n u la fm to s ls sl) (jK [9] J K) = (cond (kpC ls sl la fm to (pk_w1v1 n la fm to s) s (pk_w1v0 n la fm to s)) (J ([.dat (.slc (s23) (kpS ls sl to (pk_w1v1 n la fm to s) (pk_w1v0 n la fm to s) (min (List.length ls) 40)))]) ([{ sh := s23, dyn := false, frz := false, v := .dat (pk_t8 la fm to s) }])) none) := (pk_r5 n u la fm to s ls sl J K).trans (by
  generalize (kpC ls sl la fm to (pk_w1v1 n la fm to s) s (pk_w1v0 n la fm to s)) = z0
  cases z0 with
  | true =>
   rfl
  | false =>
   rfl
  )
def pk_w5v0 (n : Int) (la : Int) (fm : Int) (to : Int) (s : ByteArray) (ls : List D) (sl : List D) : List D := kpS ls sl to (pk_w1v1 n la fm to s) (pk_w1v0 n la fm to s) (min (List.length ls) 40)
def pk_F6 (n : Int) (_u : Bool) (la fm to : Int) (s : ByteArray) (ls sl : List D) : Frame' := mkF 157 [(2, .dat (.slc (s23) ls)), (3, .dat (.slc Sh.one sl)), (5, AV.ptr (s23) 0 0 []), (9, .dat (.slc (s23) (pk_w5v0 n la fm to s ls sl))), (10, .dat (.int .i64 (pk_w1v1 n la fm to s))), (46, AV.ptr Sh.one 0 0 [0])]
def pk_T6 (_n : Int) (_u : Bool) (la fm to : Int) (s : ByteArray) (_ls _sl : List D) : Store := [{ sh := s23, dyn := false, frz := false, v := .dat (pk_t8 la fm to s) }]
def pk_p5 (n : Int) (la : Int) (fm : Int) (to : Int) (s : ByteArray) (ls : List D) (sl : List D) : Bool := kpC ls sl la fm to (pk_w1v1 n la fm to s) s (pk_w1v0 n la fm to s)
theorem pk_s5 (n : Int) (u : Bool) (la fm to : Int) (s : ByteArray) (ls sl : List D) (K : Kt) : ex (Env.rebase (pk_E) 0) [8] (sqR 5 (bodyOf Tryd.f3)) [] [8] (pk_F5 n u la fm to s ls sl) (pk_T5 n u la fm to s ls sl) K = (cond (pk_p5 n la fm to s ls sl) (ex (Env.rebase (pk_E) 0) [8] (sqR 6 (bodyOf Tryd.f3)) [] [8] (pk_F6 n u la fm to s ls sl) (pk_T6 n u la fm to s ls sl) K) none) := (seg_join (c := (sqR 5 (bodyOf Tryd.f3))) (a := sqA (sqR 5 (bodyOf Tryd.f3))) (b := (sqR 6 (bodyOf Tryd.f3))) (ds := [47, 48, 49, 50, 51, 52, 53, 54, 58, 59, 60, 61, 62, 63, 57, 64, 65, 66, 14, 67, 68, 69, 70, 71, 72, 73, 74, 75, 76, 77, 78, 79, 80, 81, 82, 83, 84, 85, 86, 87, 88, 89, 90, 91, 93, 94, 95, 96, 97, 98, 99, 100, 101, 102, 103, 92, 104, 105, 13, 15, 106, 107, 108, 9, 109, 110, 111, 112, 113, 114, 115, 116, 117, 118, 119, 120, 121, 122, 123, 124, 125, 8, 55, 56, 12]) (by kernel_rfl) (by kernel_rfl) (by kernel_rfl) (by kernel_rfl) (by kernel_rfl) (by kernel_rfl) (pk_q5 n u la fm to s ls sl) K).trans (condC (ex_same (by kernel_rfl) (by kernel_rfl)))
def pk_t15 (n : Int) (la : Int) (fm : Int) (to : Int) (s : ByteArray) (ls : List D) (sl : List D) := gett_v5 (pk_w5v0 n la fm to s ls sl) (pk_w1v1 n la fm to s) to
def pk_t0 (n : Int) (la : Int) (fm : Int) (to : Int) (s : ByteArray) (ls : List D) (sl : List D) : D := .agg [D.bool (gett_v0 (pk_w5v0 n la fm to s ls sl) (pk_w1v1 n la fm to s) to), D.int .i64 (gett_v1 (pk_w5v0 n la fm to s ls sl) (pk_w1v1 n la fm to s) to), D.int .i64 (gett_v2 (pk_w5v0 n la fm to s ls sl) (pk_w1v1 n la fm to s) to), D.int .i64 (gett_v3 (pk_w5v0 n la fm to s ls sl) (pk_w1v1 n la fm to s) to), D.str (gett_v4 (pk_w5v0 n la fm to s ls sl) (pk_w1v1 n la fm to s) to)]
def pk_t6 (n : Int) (la : Int) (fm : Int) (to : Int) (s : ByteArray) (ls : List D) (sl : List D) := mkF 157 [(5, AV.ptr (s23) 0 0 []), (9, .dat (.slc (s23) (pk_w5v0 n la fm to s ls sl))), (10, .dat (.int .i64 (pk_w1v1 n la fm to s))), (16, AV.ptr (s23) 1 0 []), (17, .dat (.int .i64 (pk_t15 n la fm to s ls sl))), (126, AV.tup [.dat (pk_t0 n la fm to s ls sl), .dat (.int .i64 (pk_t15 n la fm to s ls sl))]), (127, .dat (.slc (s23) (pk_w5v0 n la fm to s ls sl))), (128, .dat (.int .i64 (pk_w1v1 n la fm to s))), (129, AV.ptr Sh.one 0 0 [3]), (130, .dat (.int .i64 to)), (131, AV.tup [.dat (pk_t0 n la fm to s ls sl), .dat (.int .i64 (pk_t15 n la fm to s ls sl))]), (132, .dat (pk_t0 n la fm to s ls sl)), (133, .dat (.int .i64 (pk_t15 n la fm to s ls sl)))]
def pk_t2 (n : Int) (la : Int) (fm : Int) (to : Int) (s : ByteArray) (ls : List D) (sl : List D) : Store := [{ sh := s23, dyn := false, frz := false, v := .dat (pk_t8 la fm to s) }, { sh := s23, dyn := false, frz := false, v := .dat (pk_t0 n la fm to s ls sl) }]
theorem pk_r6 (n : Int) (u : Bool) (la fm to : Int) (s : ByteArray) (ls sl : List D) (K : Kt) : ex (Env.rebase (pk_E) 0) [8] (sqA (sqR 6 (bodyOf Tryd.f3))) [] [9, 10, 17, 16, 5] (pk_F6 n u la fm to s ls sl) (pk_T6 n u la fm to s ls sl) K = (cond (gett_pre (pk_w5v0 n la fm to s ls sl) (pk_w1v1 n la fm to s)) (K .normal (pk_t6 n la fm to s ls sl) (pk_t2 n la fm to s ls sl)) (none)) := by kernel_rfl
theorem pk_q6 (n : Int) (u : Bool) (la fm to : Int) (s : ByteArray) (ls sl : List D) (K : Kt) : ex (Env.rebase (pk_E) 0) [8] (sqA (sqR 6 (bodyOf Tryd.f3))) [] [9, 10, 17, 16, 5] (pk_F6 n u la fm to s ls sl) (pk_T6 n u la fm to s ls sl) K = (cond (gett_pre (pk_w5v0 n la fm to s ls sl) (pk_w1v1 n la fm to s)) (K .normal (pk_t6 n la fm to s ls sl) (pk_t2 n la fm to s ls sl)) none) := (pk_r6 n u la fm to s ls sl K).trans (by
  generalize (gett_pre (pk_w5v0 n la fm to s ls sl) (pk_w1v1 n la fm to s)) = z0
  cases z0 with
  | true =>
   rfl
  | false =>
   rfl
  )
def pk_F7 (n : Int) (_u : Bool) (la fm to : Int) (s : ByteArray) (ls sl : List D) : Frame' := (pk_t6 n la fm to s ls sl)
def pk_T7 (n : Int) (_u : Bool) (la fm to : Int) (s : ByteArray) (ls sl : List D) : Store := [{ sh := s23, dyn := false, frz := false, v := .dat (pk_t8 la fm to s) }, { sh := s23, dyn := false, frz := false, v := .dat (pk_t0 n la fm to s ls sl) }]
def pk_p6 (n : Int) (la : Int) (fm : Int) (to : Int) (s : ByteArray) (ls : List D) (sl : List D) : Bool := gett_pre (pk_w5v0 n la fm to s ls sl) (pk_w1v1 n la fm to s)
theorem pk_s6 (n : Int) (u : Bool) (la fm to : Int) (s : ByteArray) (ls sl : List D) (K : Kt) : ex (Env.rebase (pk_E) 0) [8] (sqR 6 (bodyOf Tryd.f3)) [] [8] (pk_F6 n u la fm to s ls sl) (pk_T6 n u la fm to s ls sl) K = (cond (pk_p6 n la fm to s ls sl) (ex (Env.rebase (pk_E) 0) [8] (sqR 7 (bodyOf Tryd.f3)) [] [8] (pk_F7 n u la fm to s ls sl) (pk_T7 n u la fm to s ls sl) K) none) := (seg_str (c := (sqR 6 (bodyOf Tryd.f3))) (a := sqA (sqR 6 (bodyOf Tryd.f3))) (b := (sqR 7 (bodyOf Tryd.f3))) (by kernel_rfl) (by kernel_rfl) (by kernel_rfl) (pk_q6 n u la fm to s ls sl) K).trans (condC (seqK_normal (by kernel_rfl) (by kernel_rfl)))
def pk_t11 (to : Int) := IntKind.wrap IntKind.i64 (to + 1)
def pk_t3 (n : Int) (la : Int) (fm : Int) (to : Int) (s : ByteArray) (ls : List D) (sl : List D) := mkF 157 [(5, AV.ptr (s23) 0 0 []), (9, .dat (.slc (s23) (pk_w5v0 n la fm to s ls sl))), (10, .dat (.int .i64 (pk_w1v1 n la fm to s))), (16, AV.ptr (s23) 1 0 []), (17, .dat (.int .i64 (pk_t15 n la fm to s ls sl))), (18, .dat (.slc (s23) (toss_v0 (pk_w5v0 n la fm to s ls sl) (pk_w1v1 n la fm to s) (pk_t11 to)))), (19, .dat (.int .i64 (toss_v1 (pk_w5v0 n la fm to s ls sl) (pk_w1v1 n la fm to s) (pk_t11 to)))), (134, AV.tup [.dat (.slc (s23) (toss_v0 (pk_w5v0 n la fm to s ls sl) (pk_w1v1 n la fm to s) (pk_t11 to))), .dat (.int .i64 (toss_v1 (pk_w5v0 n la fm to s ls sl) (pk_w1v1 n la fm to s) (pk_t11 to)))]), (135, .dat (.slc (s23) (pk_w5v0 n la fm to s ls sl))), (136, .dat (.int .i64 (pk_w1v1 n la fm to s))), (137, AV.ptr Sh.one 0 0 [3]), (138, .dat (.int .i64 to)), (139, .dat (.int .i64 (pk_t11 to))), (140, AV.tup [.dat (.slc (s23) (toss_v0 (pk_w5v0 n la fm to s ls sl) (pk_w1v1 n la fm to s) (pk_t11 to))), .dat (.int .i64 (toss_v1 (pk_w5v0 n la fm to s ls sl) (pk_w1v1 n la fm to s) (pk_t11 to)))]), (141, .dat (.slc (s23) (toss_v0 (pk_w5v0 n la fm to s ls sl) (pk_w1v1 n la fm to s) (pk_t11 to)))), (142, .dat (.int .i64 (toss_v1 (pk_w5v0 n la fm to s ls sl) (pk_w1v1 n la fm to s) (pk_t11 to))))]
theorem pk_r7 (n : Int) (u : Bool) (la fm to : Int) (s : ByteArray) (ls sl : List D) (K : Kt) : ex (Env.rebase (pk_E) 0) [8] (sqA (sqR 7 (bodyOf Tryd.f3))) [] [17, 16, 5, 19] (pk_F7 n u la fm to s ls sl) (pk_T7 n u la fm to s ls sl) K = (cond (toss_pre (pk_w5v0 n la fm to s ls sl) (pk_w1v1 n la fm to s) (pk_t11 to)) (K .normal (pk_t3 n la fm to s ls sl) (pk_t2 n la fm to s ls sl)) (none)) := by kernel_rfl
theorem pk_q7 (n : Int) (u : Bool) (la fm to : Int) (s : ByteArray) (ls sl : List D) (K : Kt) : ex (Env.rebase (pk_E) 0) [8] (sqA (sqR 7 (bodyOf Tryd.f3))) [] [17, 16, 5, 19] (pk_F7 n u la fm to s ls sl) (pk_T7 n u la fm to s ls sl) K = (cond (toss_pre (pk_w5v0 n la fm to s ls sl) (pk_w1v1 n la fm to s) (pk_t11 to)) (K .normal (pk_t3 n la fm to s ls sl) (pk_t2 n la fm to s ls sl)) none) := (pk_r7 n u la fm to s ls sl K).trans (by
  generalize (toss_pre (pk_w5v0 n la fm to s ls sl) (pk_w1v1 n la fm to s) (pk_t11 to)) = z0
  cases z0 with
  | true =>
   rfl
  | false =>
   rfl
  )
def pk_w7v0 (n : Int) (la : Int) (fm : Int) (to : Int) (s : ByteArray) (ls : List D) (sl : List D) : List D := toss_v0 (pk_w5v0 n la fm to s ls sl) (pk_w1v1 n la fm to s) (pk_t11 to)
def pk_w7v1 (n : Int) (la : Int) (fm : Int) (to : Int) (s : ByteArray) (ls : List D) (sl : List D) : Int := toss_v1 (pk_w5v0 n la fm to s ls sl) (pk_w1v1 n la fm to s) (pk_t11 to)
def pk_F8 (n : Int) (_u : Bool) (la fm to : Int) (s : ByteArray) (ls sl : List D) : Frame' := mkF 157 [(5, AV.ptr (s23) 0 0 []), (9, .dat (.slc (s23) (pk_w5v0 n la fm to s ls sl))), (10, .dat (.int .i64 (pk_w1v1 n la fm to s))), (16, AV.ptr (s23) 1 0 []), (17, .dat (.int .i64 (pk_t15 n la fm to s ls sl))), (18, .dat (.slc (s23) (pk_w7v0 n la fm to s ls sl))), (19, .dat (.int .i64 (pk_w7v1 n la fm to s ls sl))), (134, AV.tup [.dat (.slc (s23) (pk_w7v0 n la fm to s ls sl)), .dat (.int .i64 (pk_w7v1 n la fm to s ls sl))]), (135, .dat (.slc (s23) (pk_w5v0 n la fm to s ls sl))), (136, .dat (.int .i64 (pk_w1v1 n la fm to s))), (137, AV.ptr Sh.one 0 0 [3]), (138, .dat (.int .i64 to)), (139, .dat (.int .i64 (pk_t11 to))), (140, AV.tup [.dat (.slc (s23) (pk_w7v0 n la fm to s ls sl)), .dat (.int .i64 (pk_w7v1 n la fm to s ls sl))]), (141, .dat (.slc (s23) (pk_w7v0 n la fm to s ls sl))), (142, .dat (.int .i64 (pk_w7v1 n la fm to s ls sl)))]
def pk_T8 (n : Int) (_u : Bool) (la fm to : Int) (s : ByteArray) (ls sl : List D) : Store := [{ sh := s23, dyn := false, frz := false, v := .dat (pk_t8 la fm to s) }, { sh := s23, dyn := false, frz := false, v := .dat (pk_t0 n la fm to s ls sl) }]
def pk_p7 (n : Int) (la : Int) (fm : Int) (to : Int) (s : ByteArray) (ls : List D) (sl : List D) : Bool := toss_pre (pk_w5v0 n la fm to s ls sl) (pk_w1v1 n la fm to s) (pk_t11 to)
theorem pk_s7 (n : Int) (u : Bool) (la fm to : Int) (s : ByteArray) (ls sl : List D) (K : Kt) : ex (Env.rebase (pk_E) 0) [8] (sqR 7 (bodyOf Tryd.f3)) [] [8] (pk_F7 n u la fm to s ls sl) (pk_T7 n u la fm to s ls sl) K = (cond (pk_p7 n la fm to s ls sl) (ex (Env.rebase (pk_E) 0) [8] (sqR 8 (bodyOf Tryd.f3)) [] [8] (pk_F8 n u la fm to s ls sl) (pk_T8 n u la fm to s ls sl) K) none) := (seg_str (c := (sqR 7 (bodyOf Tryd.f3))) (a := sqA (sqR 7 (bodyOf Tryd.f3))) (b := (sqR 8 (bodyOf Tryd.f3))) (by kernel_rfl) (by kernel_rfl) (by kernel_rfl) (pk_q7 n u la fm to s ls sl) K).trans (condC (seqK_normal (by kernel_rfl) (by kernel_rfl)))
def pk_t5 (n : Int) (la : Int) (fm : Int) (to : Int) (s : ByteArray) (ls : List D) (sl : List D) := gett_v1 (pk_w5v0 n la fm to s ls sl) (pk_w1v1 n la fm to s) to == la && (gett_v2 (pk_w5v0 n la fm to s ls sl) (pk_w1v1 n la fm to s) to == fm && (gett_v3 (pk_w5v0 n la fm to s ls sl) (pk_w1v1 n la fm to s) to == to && (decide (Array.toList (ByteArray.data (gett_v4 (pk_w5v0 n la fm to s ls sl) (pk_w1v1 n la fm to s) to)) = Array.toList (ByteArray.data s)) && true)))
def pk_t10 (n : Int) (la : Int) (fm : Int) (to : Int) (s : ByteArray) (ls : List D) (sl : List D) := mkF 157 [(5, AV.ptr (s23) 0 0 []), (8, .dat (.bool true)), (16, AV.ptr (s23) 1 0 []), (17, .dat (.int .i64 (pk_t15 n la fm to s ls sl))), (19, .dat (.int .i64 (pk_w7v1 n la fm to s ls sl))), (143, .dat (.bool true)), (144, .dat (.bool true)), (146, .dat (.bool true)), (147, .dat (.bool true)), (148, .dat (.bool true)), (151, .dat (.bool true)), (152, .dat (.bool true)), (153, .dat (.bool true)), (155, .dat (.bool true)), (156, .dat (.bool true))]
theorem pk_r8 (n : Int) (u : Bool) (la fm to : Int) (s : ByteArray) (ls sl : List D) (K : Kt) : ex (Env.rebase (pk_E) 0) [8] (sqA (sqR 8 (bodyOf Tryd.f3))) [] [8] (pk_F8 n u la fm to s ls sl) (pk_T8 n u la fm to s ls sl) K = (cond (D.eqb (D.bool ((pk_t15 n la fm to s ls sl) == 0)) (D.bool true)) ((cond (D.eqb (D.bool (false != (gett_v0 (pk_w5v0 n la fm to s ls sl) (pk_w1v1 n la fm to s) to == true && (pk_t5 n la fm to s ls sl)))) (D.bool true)) ((cond (D.eqb (D.bool (pk_w7v1 n la fm to s ls sl == 3)) (D.bool true)) (K .normal (pk_t10 n la fm to s ls sl) (pk_t2 n la fm to s ls sl)) (none))) (none))) (none)) := by kernel_rfl
theorem pk_q8 (n : Int) (u : Bool) (la fm to : Int) (s : ByteArray) (ls sl : List D) (K : Kt) : ex (Env.rebase (pk_E) 0) [8] (sqA (sqR 8 (bodyOf Tryd.f3))) [] [8] (pk_F8 n u la fm to s ls sl) (pk_T8 n u la fm to s ls sl) K = (cond ((pk_t15 n la fm to s ls sl) == 0 && (gett_v0 (pk_w5v0 n la fm to s ls sl) (pk_w1v1 n la fm to s) to == true && (pk_t5 n la fm to s ls sl) && pk_w7v1 n la fm to s ls sl == 3)) (K .normal (pk_t10 n la fm to s ls sl) (pk_t2 n la fm to s ls sl)) none) := (pk_r8 n u la fm to s ls sl K).trans (by
  generalize (gett_v0 (pk_w5v0 n la fm to s ls sl) (pk_w1v1 n la fm to s) to == true && (pk_t5 n la fm to s ls sl)) = z0
  generalize ((pk_t15 n la fm to s ls sl) == 0) = z1
  generalize (pk_w7v1 n la fm to s ls sl == 3) = z2
  cases z1 with
  | true =>
   cases z0 with
   | true =>
    cases z2 with
    | true =>
     rfl
    | false =>
     rfl
   | false =>
    rfl
  | false =>
   rfl
  )
def pk_F9 (n : Int) (_u : Bool) (la fm to : Int) (s : ByteArray) (ls sl : List D) : Frame' := (pk_t10 n la fm to s ls sl)
def pk_T9 (n : Int) (_u : Bool) (la fm to : Int) (s : ByteArray) (ls sl : List D) : Store := [{ sh := s23, dyn := false, frz := false, v := .dat (pk_t8 la fm to s) }, { sh := s23, dyn := false, frz := false, v := .dat (pk_t0 n la fm to s ls sl) }]
def pk_p8 (n : Int) (la : Int) (fm : Int) (to : Int) (s : ByteArray) (ls : List D) (sl : List D) : Bool := (pk_t15 n la fm to s ls sl) == 0 && (gett_v0 (pk_w5v0 n la fm to s ls sl) (pk_w1v1 n la fm to s) to == true && (pk_t5 n la fm to s ls sl) && pk_w7v1 n la fm to s ls sl == 3)
theorem pk_s8 (n : Int) (u : Bool) (la fm to : Int) (s : ByteArray) (ls sl : List D) (K : Kt) : ex (Env.rebase (pk_E) 0) [8] (sqR 8 (bodyOf Tryd.f3)) [] [8] (pk_F8 n u la fm to s ls sl) (pk_T8 n u la fm to s ls sl) K = (cond (pk_p8 n la fm to s ls sl) (ex (Env.rebase (pk_E) 0) [8] (sqR 9 (bodyOf Tryd.f3)) [] [8] (pk_F9 n u la fm to s ls sl) (pk_T9 n u la fm to s ls sl) K) none) := (seg_str (c := (sqR 8 (bodyOf Tryd.f3))) (a := sqA (sqR 8 (bodyOf Tryd.f3))) (b := (sqR 9 (bodyOf Tryd.f3))) (by kernel_rfl) (by kernel_rfl) (by kernel_rfl) (pk_q8 n u la fm to s ls sl) K).trans (condC (seqK_normal (by kernel_rfl) (by kernel_rfl)))
theorem pk_q9 (n : Int) (u : Bool) (la fm to : Int) (s : ByteArray) (ls sl : List D) (K : Kt) : ex (Env.rebase (pk_E) 0) [8] (sqR 9 (bodyOf Tryd.f3)) [] [8] (pk_F9 n u la fm to s ls sl) (pk_T9 n u la fm to s ls sl) K = K (Exit.ret) pk_t14 (pk_t2 n la fm to s ls sl) := by kernel_rfl
theorem pk_s9 (n : Int) (u : Bool) (la fm to : Int) (s : ByteArray) (ls sl : List D) (K : Kt) : ex (Env.rebase (pk_E) 0) [8] (sqR 9 (bodyOf Tryd.f3)) [] [8] (pk_F9 n u la fm to s ls sl) (pk_T9 n u la fm to s ls sl) K = K (Exit.ret) pk_t14 (pk_t2 n la fm to s ls sl) := (pk_q9 n u la fm to s ls sl K).trans rfl
theorem pk_e9_0 (n : Int) (_u : Bool) (la fm to : Int) (s : ByteArray) (ls sl : List D) : (finK (pk_E) true Tryd.f3 (callFin [] [])) (Exit.ret) pk_t14 (pk_t2 n la fm to s ls sl) = some (([.dat (.bool true)], []) : Res) := by kernel_rfl
def C_pk : FunT := fun args σ => match args, σ with
  | [AV.dat (D.int IntKind.u8 n), AV.dat (D.agg [D.bool u, D.int IntKind.i64 la, D.int IntKind.i64 fm, D.int IntKind.i64 to, D.str s]), AV.dat (D.slc (Sh.agg [Sh.one, Sh.one, Sh.one, Sh.one, Sh.one]) ls), AV.dat (D.slc Sh.one sl)], [] => .chk (pk_p1 n u la fm to s) (.chk (pk_p2 n la fm to s) (.br (pk_c2_0 n la fm to s) (.leaf ([AV.dat (D.bool true)], [])) (.chk (pk_p3 n la fm to s) (.chk (pk_p5 n la fm to s ls sl) (.chk (pk_p6 n la fm to s ls sl) (.chk (pk_p7 n la fm to s ls sl) (.chk (pk_p8 n la fm to s ls sl) (.leaf ([AV.dat (D.bool true)], [])))))))))
  | _, _ => .fail
theorem pk_case0 (n : Int) (u : Bool) (la fm to : Int) (s : ByteArray) (ls sl : List D) : runF (envOf tab SpK [] [(8, L_kp)] HK) true Tryd.f3 [.dat (.int .u8 n), .dat (tM u la fm to s), .dat (.slc s23 ls), .dat (.slc .one sl)] [] = FunT.run C_pk [.dat (.int .u8 n), .dat (tM u la fm to s), .dat (.slc s23 ls), .dat (.slc .one sl)] [] := ((pk_start n u la fm to s ls sl).trans ((pk_s0 n u la fm to s ls sl _).trans ((pk_s1 n u la fm to s ls sl _).trans (condC ((pk_s2 n u la fm to s ls sl _).trans (condC ((condC (pk_e2_0 n u la fm to s ls sl)).trans (condC2 ((pk_s3 n u la fm to s ls sl _).trans (condC ((pk_s4 n u la fm to s ls sl _).trans ((pk_s5 n u la fm to s ls sl _).trans (condC ((pk_s6 n u la fm to s ls sl _).trans (condC ((pk_s7 n u la fm to s ls sl _).trans (condC ((pk_s8 n u la fm to s ls sl _).trans (condC ((pk_s9 n u la fm to s ls sl _).trans (pk_e9_0 n u la fm to s ls sl))))))))))))))))))))).trans (by kernel_rfl)
theorem cpk_ok : FunOk Tryd.prog 3 (FunT.run C_pk) := by
  refine fun_ok (E := pk_E) (fz := true) (fn := Tryd.f3) (envOf_ok progOk SpK_ok) (by kernel_rfl) (by kernel_rfl) (loops_one (by kernel_rfl) (kp_loopOk _ rfl)) ?_
  intro args σ r h
  unfold C_pk at h
  split at h
  · exact (pk_case0 _ _ _ _ _ _ _ _).trans h
  · simp [T.run_fail] at h
end Go.Proofs.YtggellmbhgkckaaDoor
