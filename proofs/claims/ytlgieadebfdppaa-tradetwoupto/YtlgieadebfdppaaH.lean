/- Seat 18: TradeHolds is true. -/
import Derived.Test.YtlgieadebfdppaaG
namespace Go.Proofs.Ytlgieadebfdppaa
open Go.AX
set_option maxRecDepth 100000

theorem amTo_ok (ls : List D) (c : Int) : ∀ (l out : List D), out.all (okE (.int .u64)) = true → (l.foldl (amTo ls c) out).all (okE (.int .u64)) = true ∧ (l.foldl (amTo ls c) out).length ≤ out.length + l.length
  | [], out, h => ⟨h, Nat.le_refl _⟩
  | d :: l, out, h => by
    rw [List.foldl_cons]
    have h2 : (amTo ls c out d).all (okE (.int .u64)) = true ∧ (amTo ls c out d).length ≤ out.length + 1 := by
      unfold amTo
      cases (coinAt ls d == c) with
      | true => rw [cond_true, List.all_append, h]; exact ⟨rfl, by simp⟩
      | false => exact ⟨h, Nat.le_succ _⟩
    obtain ⟨g1, g2⟩ := amTo_ok ls c l _ h2.1
    have := h2.2
    rw [List.length_cons]
    exact ⟨g1, by omega⟩
theorem held_ok {ls : List D} (h1 : ls.all (okE k27) = true) (hl : ls.length ≤ 1048576) (c : Int) : held_pre ls c = true := by
  have hus : (usTo ls).length ≤ ls.length := colTo_len (fun i => fU (nthD ls i)) ls.length
  have hpl : okPl ls.length (usTo ls) = true := okPl_col (fun i => fU (nthD ls i)) ls.length ls.length (Nat.le_refl _)
  obtain ⟨g1, g2⟩ := amTo_ok ls c (usTo ls) [] rfl
  have hT : okT ls = true := by unfold okT; rw [h1, decide_eq_true (by omega)]; rfl
  have hslots : slots_pre ls = true := by
    unfold slots_pre
    rw [hT, decide_eq_true rfl, beq_self]; rfl
  have hsum : sum_pre ((usTo ls).foldl (amTo ls c) []) = true := by
    unfold sum_pre okU
    rw [g1, decide_eq_true rfl, decide_eq_true (by simp at g2; omega)]; rfl
  unfold held_pre
  rw [seg_full, seg_full, hslots, hsum, iof_ok h1 hl, hT, hpl, decide_eq_true rfl, decide_eq_true (by omega), beq_self]
  simp
theorem may_amt {a b gc ga gi wc wa wi : Int} (h : may_v0 a b gc ga gi wc wa wi = true) : ga ≤ 4611686018427387904 := by
  unfold may_v0 pmay_v0 at h
  simp only [Bool.and_eq_true, decide_eq_true_eq] at h
  exact h.2.2.2.1.2.1
abbrev okG (ls : List D) : Prop := ∀ d ∈ ls, 0 ≤ fJ d 3 1
theorem okB_right {ls : List D} (h1 : ls.all (okE k27) = true) (hg : okG ls) (hr : right_v0 ls = true) : okB ls := by
  intro d hd hu
  refine ⟨hg d hd, ?_⟩
  have hw := right_mem hr hd
  obtain ⟨u, a, b, gc, ga, gi, wc, wa, wi, rfl⟩ := k27_form (List.all_eq_true.1 h1 d hd)
  have hu : u = true := hu
  subst hu
  have hw : (!may_v0 a b gc ga gi wc wa wi) = false := hw
  rw [Bool.not_eq_false'] at hw
  exact may_amt hw
theorem okG_set {ls : List D} (hg : okG ls) {x : D} (hx : 0 ≤ fJ x 3 1) (i : Nat) : okG (ls.set i x) := by
  intro d hd
  rcases List.mem_or_eq_of_mem_set hd with hd | rfl
  · exact hg d hd
  · exact hx
theorem gv_le {c : Int} {d : D} (h : 0 ≤ fJ d 3 1) : 0 ≤ gv c d := by
  unfold gv
  cases fU d && fJ d 3 0 == c with
  | true => exact h
  | false => exact Int.le_refl _
abbrev freeT (d : D) : Bool := !D.getB (nthD (D.getL d) 0)
/-- What comes of Open. -/
theorem open_is {ls : List D} (h1 : ls.all (okE k27) = true) (hl : ls.length ≤ 1048576) (a b gc ga gi wc wa wi : Int) :
    opn_pre ls a b gc ga gi wc wa wi = true ∧ (opn_v2 ls a b gc ga gi wc wa wi = 0 → right_v0 ls = true ∧ may_v0 a b gc ga gi wc wa wi = true ∧ ls.any freeT = true ∧
      opn_v0 ls a b gc ga gi wc wa wi = ls.set (ls.findIdx freeT) (tD true a b gc ga gi wc wa wi) ∧ opn_v1 ls a b gc ga gi wc wa wi = ((ls.findIdx freeT : Nat) : Int)) := by
  have hj : ij_okL ls ls = true := by unfold ij_okL; rw [h1, decide_eq_true (by omega)]; rfl
  have hi : ij_idx ls ls = bif ls.any freeT then ((ls.findIdx freeT : Nat) : Int) else -1 := rfl
  cases hz : ls.any freeT with
  | false =>
    rw [hz, cond_false] at hi
    have e1 : ifs_v1 ls = 8 := by unfold ifs_v1; rw [hi]; rfl
    have p : iad_pre ls true a b gc ga gi wc wa wi = true := by unfold iad_pre; rw [e1, hj]; rfl
    have v2 : iad_v2 ls = 8 := by unfold iad_v2; rw [e1]; rfl
    unfold opn_pre opn_v2
    rw [p, v2, iwL_ok h1 hl, iof_ok h1 hl, D.eqb_self]
    refine ⟨by simp, fun h => ?_⟩
    cases hr : right_v0 ls <;> cases hm : may_v0 a b gc ga gi wc wa wi <;> rw [hr, hm] at h <;> simp at h
  | true =>
    rw [hz, cond_true] at hi
    have d0 : decide (((ls.findIdx freeT : Nat) : Int) < 0) = false := decide_eq_false (by omega)
    have e1 : ifs_v1 ls = 0 := by unfold ifs_v1; rw [hi, d0]; rfl
    have e0 : ifs_v0 ls = ((ls.findIdx freeT : Nat) : Int) := by unfold ifs_v0; rw [hi, d0]; rfl
    obtain ⟨p0, p1, p2⟩ := ipt_is h1 hl (findIdx_lt hz) true a b gc ga gi wc wa wi
    have p : iad_pre ls true a b gc ga gi wc wa wi = true := by unfold iad_pre; rw [e0, p2, hj]; simp
    have v0 : iad_v0 ls true a b gc ga gi wc wa wi = ls.set (ls.findIdx freeT) (tD true a b gc ga gi wc wa wi) := by unfold iad_v0; rw [e1, e0, p0]; rfl
    have v1 : iad_v1 ls = ((ls.findIdx freeT : Nat) : Int) := by unfold iad_v1; rw [e1, e0]; rfl
    have v2 : iad_v2 ls = 0 := by unfold iad_v2; rw [e1, e0, p1]; rfl
    unfold opn_pre opn_v2 opn_v0 opn_v1
    rw [p, v0, v1, v2, iwL_ok h1 hl, iof_ok h1 hl, D.eqb_self]
    refine ⟨by simp, fun h => ?_⟩
    cases hr : right_v0 ls <;> cases hm : may_v0 a b gc ga gi wc wa wi <;> rw [hr, hm] at h <;> simp at h
    exact ⟨rfl, rfl, rfl, rfl, rfl⟩
/-- What comes of Shut, by either. -/
theorem shut_is {ls : List D} (h1 : ls.all (okE k27) = true) (hl : ls.length ≤ 1048576) (hr : right_v0 ls = true) {i : Nat} (hi : i < ls.length) {a b gc ga gi wc wa wi : Int} (hn : nthD ls i = tD true a b gc ga gi wc wa wi) {w : Int} (hw : w = a ∨ w = b) :
    shut_pre ls i w = true ∧ shut_v0 ls i w = ls.set i (tD false 0 0 0 0 0 0 0 0) ∧ shut_v1 ls i w = 0 := by
  have hh : ihas_v0 ls (i : Int) = true := by
    unfold ihas_v0
    rw [decide_eq_true (show (0 : Int) ≤ (i : Int) by omega), decide_eq_true (show (i : Int) < (ls.length : Int) by omega), Int.toNat_natCast, hn]; rfl
  have g9 : gett_v9 ls i w = 0 := by
    unfold gett_v9
    rw [hh, Int.toNat_natCast, hn]
    show (bif true then bif a != w then bif b != w then 3 else 0 else 0 else 3) = (0 : Int)
    rcases hw with rfl | rfl
    · have : (w != w) = false := by simp
      rw [this]; rfl
    · have : (w != w) = false := by simp
      rw [this]; cases (a != w) <;> rfl
  have gp : gett_pre ls i = true := by
    unfold gett_pre
    rw [iof_ok h1 hl, hh, has_pre h1, Int.toNat_natCast, decide_eq_true hi, allE_nth h1 hi, decide_eq_true (show (0 : Int) ≤ (i : Int) by omega)]; rfl
  obtain ⟨p0, p1, p2⟩ := ipt_is h1 hl hi false 0 0 0 0 0 0 0 0
  unfold shut_pre shut_v0 shut_v1
  rw [hr, g9, gp, p0, p1, p2, iof_ok h1 hl, iwL_ok h1 hl]
  exact ⟨rfl, rfl, rfl⟩

theorem holds_true {ls : List D} (h1 : ls.all (okE k27) = true) (hl : ls.length ≤ 1048576) (hg : okG ls) (u : Bool) (a b gc ga gi wc wa wi i c : Int) (hga : 0 ≤ ga) :
    FunT.run C_holds [.dat (.slc s27 ls), .dat (tD u a b gc ga gi wc wa wi), .dat (.int .i64 i), .dat (.int .i64 c)] [] = some ([.dat (.bool true)], []) := by
  obtain ⟨o1, o2⟩ := open_is h1 hl a b gc ga gi wc wa wi
  have q1 : holds_p1 ls c = true := held_ok h1 hl c
  have q2 : holds_p2 ls a b gc ga gi wc wa wi = true := o1
  unfold FunT.run C_holds
  simp only [T.run_chk, T.run_br, T.run_leaf, q1, q2, cond_true]
  cases hc3 : holds_c3_0 ls a b gc ga gi wc wa wi c with
  | true => rfl
  | false =>
    unfold holds_c3_0 at hc3
    rw [Bool.or_eq_false_iff] at hc3
    have e0 : held_v1 ls c = 0 := by simpa using hc3.1
    have e2 : opn_v2 ls a b gc ga gi wc wa wi = 0 := by simpa using hc3.2
    obtain ⟨hr, hm, hz, ho0, ho1⟩ := o2 e2
    have hb := okB_right h1 hg hr
    have hi := findIdx_lt hz
    have hfree : fU (nthD ls (ls.findIdx freeT)) = false := by
      have := findIdx_at hz
      simpa [freeT] using this
    obtain ⟨_, t0, t1, t2⟩ := held_is h1 hl hb c
    have hcr : crt_v0 c = true := by
      cases hq : crt_v0 c with
      | true => rfl
      | false => rw [t2 hq] at e0; omega
    obtain ⟨t3, t4⟩ := t1 hcr
    have hle : tot c ls ≤ 4611686018427387904 := by
      rcases Int.lt_or_le 4611686018427387904 (tot c ls) with hq | hq
      · rw [t4 hq] at e0; omega
      · exact hq
    obtain ⟨_, e1⟩ := t3 hle
    have hga2 := may_amt hm
    -- the next list
    have n1 : (ls.set (ls.findIdx freeT) (tD true a b gc ga gi wc wa wi)).all (okE k27) = true := all_set h1 rfl _
    have nl : (ls.set (ls.findIdx freeT) (tD true a b gc ga gi wc wa wi)).length = ls.length := List.length_set ..
    have ng : okG (ls.set (ls.findIdx freeT) (tD true a b gc ga gi wc wa wi)) := okG_set hg (show 0 ≤ fJ (tD true a b gc ga gi wc wa wi) 3 1 from hga) _
    have nr : right_v0 (ls.set (ls.findIdx freeT) (tD true a b gc ga gi wc wa wi)) = true := right_set hr (by
      show (!may_v0 a b gc ga gi wc wa wi) = false
      rw [hm]; rfl) _
    have nb := okB_right n1 ng nr
    have nt : tot c (ls.set (ls.findIdx freeT) (tD true a b gc ga gi wc wa wi)) = tot c ls + holds_w5v0 gc ga c := by
      rw [tot_set hi]
      have g0 : gv c (nthD ls (ls.findIdx freeT)) = 0 := by unfold gv; rw [hfree]; rfl
      have g1 : gv c (tD true a b gc ga gi wc wa wi) = holds_w5v0 gc ga c := rfl
      rw [g0, g1]; omega
    have nn : nthD (ls.set (ls.findIdx freeT) (tD true a b gc ga gi wc wa wi)) (ls.findIdx freeT) = tD true a b gc ga gi wc wa wi := nthD_set_self hi
    obtain ⟨k0, k1, k2, _⟩ := held_is n1 (by rw [nl]; exact hl) nb c
    obtain ⟨k3, k4⟩ := k2 hcr
    obtain ⟨s0, s1, s2⟩ := shut_is n1 (by rw [nl]; exact hl) nr (by rw [nl]; exact hi) nn (w := b) (.inr rfl)
    rw [List.set_set] at s1
    have hmore : 0 ≤ holds_w5v0 gc ga c ∧ holds_w5v0 gc ga c ≤ 4611686018427387904 := by
      unfold holds_w5v0
      cases gc == c
      · exact ⟨Int.le_refl _, (by decide : (0 : Int) ≤ 4611686018427387904)⟩
      · exact ⟨hga, hga2⟩
    have hwr : ∀ x : Int, 0 ≤ x → x ≤ 9223372036854775808 → IntKind.wrap .u64 x = x := by
      intro x h0 h2
      unfold IntKind.wrap
      simp [IntKind.signed, IntKind.bits]
      omega
    -- the last list
    have b1 : (ls.set (ls.findIdx freeT) (tD false 0 0 0 0 0 0 0 0)).all (okE k27) = true := all_set h1 rfl _
    have bl : (ls.set (ls.findIdx freeT) (tD false 0 0 0 0 0 0 0 0)).length = ls.length := List.length_set ..
    have br : right_v0 (ls.set (ls.findIdx freeT) (tD false 0 0 0 0 0 0 0 0)) = true := right_set hr rfl _
    have bb := okB_right b1 (okG_set hg (show 0 ≤ fJ (tD false 0 0 0 0 0 0 0 0) 3 1 from Int.le_refl 0) _) br
    have bt : tot c (ls.set (ls.findIdx freeT) (tD false 0 0 0 0 0 0 0 0)) = tot c ls := by
      rw [tot_set hi]
      have g0 : gv c (nthD ls (ls.findIdx freeT)) = 0 := by unfold gv; rw [hfree]; rfl
      have g1 : gv c (tD false 0 0 0 0 0 0 0 0) = 0 := rfl
      rw [g0, g1]; omega
    obtain ⟨l0, l1, l2, _⟩ := held_is b1 (by rw [bl]; exact hl) bb c
    obtain ⟨l3, _⟩ := l2 hcr
    rw [bt] at l3
    obtain ⟨l4, l5⟩ := l3 hle
    have q6 : holds_p6 ls a b gc ga gi wc wa wi c = true := by unfold holds_p6; rw [ho0]; exact k0
    have w8 : holds_w8v0 ls a b gc ga gi wc wa wi = ls.set (ls.findIdx freeT) (tD false 0 0 0 0 0 0 0 0) := by unfold holds_w8v0; rw [ho0, ho1]; exact s1
    have w81 : holds_w8v1 ls a b gc ga gi wc wa wi = 0 := by unfold holds_w8v1; rw [ho0, ho1]; exact s2
    have q8 : holds_p8 ls a b gc ga gi wc wa wi = true := by unfold holds_p8; rw [ho0, ho1]; exact s0
    have q9 : holds_p9 ls a b gc ga gi wc wa wi c = true := by unfold holds_p9; rw [w8]; exact l0
    have q10 : holds_p10 ls a b gc ga gi wc wa wi c = true := by
      unfold holds_p10
      rw [ho0, iwL_ok n1 (by rw [nl]; exact hl)]; simp
    simp only [q6, q8, q9, q10, cond_true, cond_false]
    cases hc7 : holds_c7_0 ls a b gc ga gi wc wa wi c with
    | true =>
      have e7 : held_v1 (ls.set (ls.findIdx freeT) (tD true a b gc ga gi wc wa wi)) c = 7 := by
        unfold holds_c7_0 at hc7
        rw [ho0] at hc7
        simpa using hc7
      have hgt : 4611686018427387904 < tot c ls + holds_w5v0 gc ga c := by
        rcases Int.lt_or_le 4611686018427387904 (tot c ls + holds_w5v0 gc ga c) with hq | hq
        · exact hq
        · rw [nt] at k3
          rw [(k3 hq).1] at e7; omega
      have : holds_o7_0v0 ls gc ga c = true := by
        unfold holds_o7_0v0
        rw [e1, hwr _ (by omega) (by omega)]
        exact decide_eq_true (by omega)
      rw [this]; rfl
    | false =>
      have e7 : held_v1 (ls.set (ls.findIdx freeT) (tD true a b gc ga gi wc wa wi)) c ≠ 7 := by
        unfold holds_c7_0 at hc7
        rw [ho0] at hc7
        simpa using hc7
      have hle2 : tot c ls + holds_w5v0 gc ga c ≤ 4611686018427387904 := by
        rcases Int.lt_or_le 4611686018427387904 (tot c ls + holds_w5v0 gc ga c) with hq | hq
        · rw [nt] at k4; exact absurd (k4 hq) e7
        · exact hq
      rw [nt] at k3
      obtain ⟨k5, k6⟩ := k3 hle2
      have : holds_w10v0 ls a b gc ga gi wc wa wi c = true := by
        unfold holds_w10v0
        rw [ho0, w8, w81, k5, k6, e1, l4, l5, bl, nr, hwr _ (by omega) (by omega)]
        simp
      rw [this]; rfl

theorem u64_nonneg {n : Int} (h : (Lit.int .u64 n).wf = true) : 0 ≤ n := by
  simp [Lit.wf, IntKind.min, IntKind.max, IntKind.signed, IntKind.bits] at h
  omega
theorem ok_part {n : Nat} {d : D} (h : okV tab (n + 1) 25 d = true) : ∃ c a i, d = .agg [.int .i64 c, .int .u64 a, .int .i64 i] ∧ 0 ≤ a := by
  cases n with
  | zero => 
    obtain ⟨l, rfl, h⟩ := okV_struct h rfl rfl
    obtain ⟨x, l, rfl, h0, h⟩ := okVL_cons h
    simp [okV] at h0
  | succ n =>
    obtain ⟨l, rfl, h⟩ := okV_struct h rfl rfl
    obtain ⟨x0, l, rfl, h0, h⟩ := okVL_cons h
    obtain ⟨x1, l, rfl, h1, h⟩ := okVL_cons h
    obtain ⟨x2, l, rfl, h2, h⟩ := okVL_cons h
    obtain rfl := okVL_nil h
    obtain ⟨c, rfl, _⟩ := okV_int h0 rfl rfl
    obtain ⟨a, rfl, ha⟩ := okV_int h1 rfl rfl
    obtain ⟨i, rfl, _⟩ := okV_int h2 rfl rfl
    exact ⟨c, a, i, rfl, u64_nonneg ha⟩
theorem ok_trade {n : Nat} {d : D} (h : okV tab (n + 2) 27 d = true) : ∃ u a b gc ga gi wc wa wi, d = tD u a b gc ga gi wc wa wi ∧ 0 ≤ ga := by
  obtain ⟨l, rfl, h⟩ := okV_struct h rfl rfl
  obtain ⟨x0, l, rfl, h0, h⟩ := okVL_cons h
  obtain ⟨x1, l, rfl, h1, h⟩ := okVL_cons h
  obtain ⟨x2, l, rfl, h2, h⟩ := okVL_cons h
  obtain ⟨x3, l, rfl, h3, h⟩ := okVL_cons h
  obtain ⟨x4, l, rfl, h4, h⟩ := okVL_cons h
  obtain rfl := okVL_nil h
  obtain ⟨u, rfl⟩ := okV_bool h0 rfl rfl
  obtain ⟨a, rfl, _⟩ := okV_int h1 rfl rfl
  obtain ⟨b, rfl, _⟩ := okV_int h2 rfl rfl
  obtain ⟨gc, ga, gi, rfl, hga⟩ := ok_part h3
  obtain ⟨wc, wa, wi, rfl, _⟩ := ok_part h4
  exact ⟨u, a, b, gc, ga, gi, wc, wa, wi, rfl, hga⟩
theorem ok_list {n : Nat} {l : List D} (h : l.all (okV tab (n + 2) 27) = true) : l.all (okE k27) = true ∧ okG l := by
  rw [List.all_eq_true] at h
  refine ⟨?_, fun d hd => ?_⟩
  · rw [List.all_eq_true]
    intro d hd
    obtain ⟨u, a, b, gc, ga, gi, wc, wa, wi, rfl, _⟩ := ok_trade (h d hd)
    rfl
  · obtain ⟨u, a, b, gc, ga, gi, wc, wa, wi, rfl, hga⟩ := ok_trade (h d hd)
    exact hga
theorem holds_law (xs : List D) (h : okAll tab 8 [22, 27, 3, 3] xs = true) (hs : sizeDL xs ≤ 1048576) : ∃ F, FunOk Try.prog 3 F ∧ F (xs.map .dat) [] = some ([.dat (.bool true)], []) := by
  obtain ⟨x0, xs, rfl, h0, h⟩ := okAll_cons h
  obtain ⟨x1, xs, rfl, h1, h⟩ := okAll_cons h
  obtain ⟨x2, xs, rfl, h2, h⟩ := okAll_cons h
  obtain ⟨x3, xs, rfl, h3, h⟩ := okAll_cons h
  obtain rfl := okAll_nil h
  obtain ⟨l, rfl, k0⟩ := okV_slc (s := s27) h0 rfl rfl rfl
  obtain ⟨u, a, b, gc, ga, gi, wc, wa, wi, rfl, hga⟩ := ok_trade h1
  obtain ⟨i, rfl, _⟩ := okV_int h2 rfl rfl
  obtain ⟨c, rfl, _⟩ := okV_int h3 rfl rfl
  simp only [sizeDL, sizeD] at hs
  have := length_sizeDL l
  obtain ⟨g1, g2⟩ := ok_list k0
  exact ⟨_, cholds_ok, holds_true g1 (by omega) g2 u a b gc ga gi wc wa wi i c hga⟩

end Go.Proofs.Ytlgieadebfdppaa
