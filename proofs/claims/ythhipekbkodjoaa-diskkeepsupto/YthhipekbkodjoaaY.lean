/- Seat 07: DiskKeeps is true. -/
import Derived.Test.YthhipekbkodjoaaX
import Derived.Test.YthhipekbkodjoaaAx31
namespace Go.Proofs.Ythhipekbkodjoaa
open Go.AX
set_option maxRecDepth 100000
theorem wr_cases {k : Nat} (_ : 0 < k) (ws b : List D) (n : Int) :
    ((write_v0 k b (-1) n false == 0) = true ∧ write_v1 k ws b n false = ws ++ [.agg [.int .i64 n, .arr .one b]] ∧ b.length = 128) ∨
    ((write_v0 k b (-1) n false == 0) = false ∧ write_v1 k ws b n false = ws) := by
  unfold write_v0 write_v1
  cases ha : (able_v0 k n false != 0) with
  | true =>
    refine .inr ⟨?_, rfl⟩
    rw [cond_true, beq_eq_false_iff_ne]
    rw [bne_iff_ne] at ha
    exact ha
  | false =>
    cases hb : ((b.length : Int) != 128) with
    | true => exact .inr ⟨rfl, rfl⟩
    | false =>
      rw [bne_eq_false_iff_eq] at hb
      refine .inl ⟨rfl, ?_, by omega⟩
      simp only [cond_false, toNat_len, seg_all ws (Nat.le_refl _), seg_all b (show b.length ≤ 128 by omega)]
      exact seg_all _ (by rw [List.length_append]; exact Nat.le_refl _)
theorem kp_inv {k : Nat} (hk : 0 < k) (at_ : Int) {l : List D} (hl : l.all okDeed = true) : ∀ i : Nat, i ≤ l.length →
    (∀ w ∈ (kpS k at_ l [] i).2.2, wAt w = at_ → 1 ≤ (kpS k at_ l [] i).1 ∧ ((kpS k at_ l [] i).1 = 1 → wWas w = (kpS k at_ l [] i).2.1)) ∧
    (1 ≤ (kpS k at_ l [] i).1 → (kpS k at_ l [] i).2.1.length = 128 ∧ isBytes (kpS k at_ l [] i).2.1 = true)
  | 0, _ => ⟨fun w hw => by simp [kpS] at hw, fun h => by simp [kpS] at h⟩
  | i + 1, hi => by
    obtain ⟨h1, h2⟩ := kp_inv hk at_ hl i (by omega)
    have h0 := kpS_mn k at_ l [] i
    have hw := List.all_eq_true.1 hl _ (nthD_mem (show i < l.length by omega))
    simp only [okDeed, Bool.and_eq_true] at hw
    have hb := okU8_bytes hw.2
    rw [kpS]
    generalize kpS k at_ l [] i = p at *
    obtain ⟨mn, la, ws⟩ := p
    simp only at h0 h1 h2 ⊢
    rcases wr_cases hk ws (kb (nthD l i)) (kn (nthD l i)) with ⟨g1, g2, g3⟩ | ⟨g1, g2⟩
    · rw [g1, g2]
      cases hn : kn (nthD l i) == at_ with
      | true =>
        simp only [cond_true]
        refine ⟨fun w hx ha => ?_, fun _ => ⟨g3, hb⟩⟩
        rcases List.mem_append.1 hx with hx | hx
        · have := h1 w hx ha
          exact ⟨by omega, fun e => by omega⟩
        · rw [List.mem_singleton] at hx
          subst hx
          exact ⟨by omega, fun _ => rfl⟩
      | false =>
        simp only [cond_true, cond_false]
        refine ⟨fun w hx ha => ?_, h2⟩
        rcases List.mem_append.1 hx with hx | hx
        · exact h1 w hx ha
        · rw [List.mem_singleton] at hx
          subst hx
          rw [beq_eq_false_iff_ne] at hn
          exact absurd ha hn
    · rw [g1, g2]
      exact ⟨h1, h2⟩
theorem take_drop_max {la old : List D} {a b : Nat} (hl : la.length = 128) (_ : a ≤ 128) (hb : b ≤ 128) :
    la.take a ++ (la.take b ++ old.drop b).drop a = la.take (max a b) ++ old.drop (max a b) := by
  have ht : (la.take b).length = b := by rw [List.length_take]; omega
  rcases Nat.le_total a b with h | h
  · rw [Nat.max_eq_right h, List.drop_append_of_le_length (by omega), ← List.append_assoc]
    congr 1
    have e : (la.take b).take a = la.take a := by rw [List.take_take, Nat.min_eq_left h]
    rw [← e, List.take_append_drop]
  · rw [Nat.max_eq_left h, List.drop_append, ht, List.drop_eq_nil_of_le (by omega), List.nil_append, List.drop_drop, show b + (a - b) = a by omega]
theorem crash_at {k : Nat} {at_ : Int} {ch ws sf la : List D} (hk : sf.length = k) (hs : ∀ d ∈ sf, secOk d) (hw : ∀ w ∈ ws, wtOk k w) (hc : ch.all okU8 = true) (h0 : 0 ≤ at_) (h1 : at_ < (k : Int))
    (hl : la.length = 128) (H : ∀ w ∈ ws, wAt w = at_ → wWas w = la) : ∀ j, j ≤ ws.length → j ≤ ch.length →
    ∃ q, q ≤ 16 ∧ D.getL (nthD (trTo ch ws sf j) at_.toNat) = la.take (8 * q) ++ (D.getL (nthD sf at_.toNat)).drop (8 * q)
  | 0, _, _ => ⟨0, by omega, rfl⟩
  | j + 1, hj, hj2 => by
    obtain ⟨q, hq, e⟩ := crash_at hk hs hw hc h0 h1 hl H j (by omega) (by omega)
    obtain ⟨g1, g2⟩ := trTo_sec (ch := ch) hk hs hw j (by omega)
    have hm := nthD_mem (show j < ws.length by omega)
    have hw' := hw _ hm
    have hH := H _ hm
    have hu := List.all_eq_true.1 hc _ (nthD_mem (show j < ch.length by omega))
    simp only [okU8, Bool.and_eq_true, decide_eq_true_eq] at hu
    rw [trTo]
    unfold trW
    obtain ⟨c, hcc, hc16⟩ : ∃ c, (cut16 (D.getI (nthD ch j))).toNat = 8 * c ∧ c ≤ 16 := by
      unfold cut16
      split
      · exact ⟨16, rfl, by omega⟩
      · exact ⟨(D.getI (nthD ch j)).toNat, by omega, by omega⟩
    rw [hcc]
    cases hz : Nat.beq (8 * c) 0 with
    | true => exact ⟨q, hq, e⟩
    | false =>
      rw [cond_false]
      rw [nthD_set (by omega)]
      cases hb : Nat.beq at_.toNat (wAt (nthD ws j)).toNat with
      | false => exact ⟨q, hq, e⟩
      | true =>
        have hb := Nat.eq_of_beq_eq_true hb
        obtain ⟨n, m, hn, hn0, hn1, _, _⟩ := hw'
        rw [hn] at hH hb ⊢
        have e1 : wAt (.agg [.int .i64 n, .arr .one m]) = n := rfl
        have e2 : wWas (.agg [.int .i64 n, .arr .one m]) = m := rfl
        rw [e1] at hH hb ⊢
        rw [e2] at hH ⊢
        have hna : n = at_ := by omega
        have hm2 := hH hna
        subst hm2
        rw [cond_true, ← hb]
        refine ⟨max c q, by omega, ?_⟩
        show m.take (8 * c) ++ (D.getL (nthD (trTo ch ws sf j) at_.toNat)).drop (8 * c) = _
        rw [e, take_drop_max hl (by omega) (by omega), show max (8 * c) (8 * q) = 8 * max c q by omega]
theorem seg8 {b : List D} (hb : b.length = 128) (i : Nat) : seg b (8 * i) 8 = (b.drop (8 * i)).take 8 := by
  unfold seg
  rw [hb, show Nat.beq 8 128 = false from rfl, Bool.and_false]; rfl
theorem torn_ok {mn : Int} {la b : List D} {c : Int} {q : Nat} (hq : q ≤ 16) (hla : la.length = 128) (hb : b = la.take (8 * q) ++ (fillZ c).drop (8 * q)) (h : mn = 1 ∨ q = 0) : kcC c b (ktT mn la b) = true := by
  have hbl : b.length = 128 := by rw [hb, List.length_append, List.length_take, List.length_drop, fillZ_len]; omega
  have hF : (List.range 16).findIdx (ktP mn la b) ≤ 16 := by
    have := List.findIdx_le_length (p := ktP mn la b) (xs := List.range 16)
    rwa [List.length_range] at this
  have hG : q ≤ (List.range 16).findIdx (ktP mn la b) := by
    rcases h with rfl | rfl
    · refine Nat.le_of_not_lt fun hlt => ?_
      have hx : (List.range 16).findIdx (ktP 1 la b) < (List.range 16).length := by rw [List.length_range]; omega
      have hp := List.findIdx_getElem (p := ktP 1 la b) (w := hx)
      rw [List.getElem_range] at hp
      generalize (List.range 16).findIdx (ktP 1 la b) = i at *
      unfold ktP at hp
      have e : seg b (8 * i) 8 = seg la (8 * i) 8 := by
        rw [seg8 hbl, seg8 hla, hb, List.drop_append_of_le_length (by rw [List.length_take]; omega), List.take_append_of_le_length (by rw [List.length_drop, List.length_take]; omega), List.drop_take, List.take_take, Nat.min_eq_left (by omega)]
      rw [e, decide_eq_true rfl] at hp
      exact absurd hp (by decide)
    · exact Nat.zero_le _
  unfold kcC ktT
  generalize (List.range 16).findIdx (ktP mn la b) = i at *
  have ei : (8 * (i : Int)).toNat = 8 * i := by omega
  rw [hbl, ei, decide_eq_true rfl, decide_eq_true (show (0 : Int) ≤ 8 * (i : Int) by omega), decide_eq_true (show 8 * (i : Int) ≤ 128 by omega), Bool.true_and, Bool.true_and, Bool.true_and, List.all_eq_true]
  intro d hd
  have ed : b.drop (8 * i) = (fillZ c).drop (8 * i) := by
    have ht : (la.take (8 * q)).length = 8 * q := by rw [List.length_take]; omega
    rw [hb, List.drop_append, ht, List.drop_eq_nil_of_le (by omega), List.nil_append, List.drop_drop, show 8 * q + (8 * i - 8 * q) = 8 * i by omega]
  rw [ed] at hd
  have := List.mem_of_mem_drop hd
  rw [fillZ_eq] at this
  rw [List.eq_of_mem_replicate this]
  exact D.eqb_self _
theorem new6_ok : OkA 6 0 [] (new_v0 6) := by
  refine ⟨⟨by omega, by omega⟩, Nat.le_refl _, by omega, ?_, ?_, by simp⟩
  · unfold new_v0; rw [List.length_replicate]; rfl
  · intro d hd
    unfold new_v0 at hd
    rw [List.eq_of_mem_replicate hd]
    refine ⟨_, rfl, List.length_replicate, ?_⟩
    unfold isBytes
    rw [List.all_eq_true]
    intro d hd
    rw [List.eq_of_mem_replicate hd]; rfl
theorem at_ok (n : Int) : 0 ≤ ks_w4v0 n ∧ ks_w4v0 n < 6 := by
  unfold ks_w4v0
  have h1 : Int.tmod n 6 < 6 := Int.tmod_lt_of_pos n (by omega)
  have h2 : -6 < Int.tmod n 6 := by
    have := Int.tmod_lt_of_pos (-n) (b := 6) (by omega)
    rw [Int.neg_tmod] at this
    omega
  by_cases h : Int.tmod n 6 < 0
  · rw [decide_eq_true h, cond_true, IntKind.wrap_i64]; omega
  · rw [decide_eq_false h, cond_false]; omega
theorem ks_true {n c : Int} {l ch : List D} (hl : l.all okDeed = true) (hc : ch.all okU8 = true) :
    ks_p5 n c = true ∧ ks_p8 n c l = true ∧ ks_p9 n c l ch = true ∧ ks_p10 n c l ch = true ∧ ks_p11 n c l ch = true ∧ (ks_w8v0 n l ≤ 1 → ks_p13 n c l ch = true ∧ ks_p14 n c l ch = true) := by
  obtain ⟨a0, a1⟩ := at_ok n
  unfold ks_p5 ks_p8 ks_p9 ks_p10 ks_p11 ks_p13 ks_p14 ks_w10v0 ks_w8v0 ks_w8v1 ks_w8v2 ks_w5v0 ks_w5v1
  generalize ks_w4v0 n = at_ at *
  obtain ⟨v2, v3⟩ := kp_f 6 (fillZ c) at_
  have hab : able_v0 6 at_ false = 0 := by
    rw [able_cases (by omega), decide_eq_false (by omega), decide_eq_false (show ¬ ((6 : Nat) : Int) ≤ at_ by omega)]; rfl
  have hv0 : write_v0 6 (fillZ c) (-1) at_ false = 0 := by
    unfold write_v0; rw [hab, fillZ_len]; rfl
  have hv1 : write_v1 6 [] (fillZ c) at_ false = [.agg [.int .i64 at_, .arr .one (fillZ c)]] := by
    rcases wr_cases (k := 6) (by omega) [] (fillZ c) at_ with ⟨_, g2, _⟩ | ⟨g1, _⟩
    · exact g2
    · rw [hv0] at g1; exact absurd g1 (by decide)
  obtain ⟨w1, _, _, _, _, _, _, w8⟩ := op_write new6_ok (by omega) (fillZ_bytes c) (-1) at_ false
  have hab0 : able_v0 6 0 false = 0 := rfl
  have hsf : OkA 6 1 [] (List.foldl setW (new_v0 6) (write_v1 6 [] (fillZ c) at_ false)) := w8.nil (by rw [foldW_len, w8.sl]) (foldW_sec _ _ w8.wo w8.so)
  have hold : D.getL (nthD (List.foldl setW (new_v0 6) (write_v1 6 [] (fillZ c) at_ false)) at_.toNat) = fillZ c := by
    rw [foldW_nth _ 6 w8.sl _ w8.wo at_.toNat (by omega), hv1]
    have := now_append [] (.agg [.int .i64 at_, .arr .one (fillZ c)]) (new_v0 6) ((at_.toNat : Nat) : Int)
    rw [List.nil_append] at this
    rw [this]
    have e1 : wAt (.agg [.int .i64 at_, .arr .one (fillZ c)]) = at_ := rfl
    have e2 : wWas (.agg [.int .i64 at_, .arr .one (fillZ c)]) = fillZ c := rfl
    rw [e1, e2, show (at_ == ((at_.toNat : Nat) : Int)) = true by rw [beq_iff_eq]; omega]; rfl
  have hfl : flush_pre 6 6 (write_v1 6 [] (fillZ c) at_ false) (new_v0 6) = true := by
    unfold flush_pre
    rw [decide_eq_true rfl, w8.okDk]; rfl
  generalize hSF : List.foldl setW (new_v0 6) (write_v1 6 [] (fillZ c) at_ false) = SF at *
  have hK := kpS_ok (at_ := at_) hsf hl (min l.length 40) (by omega) (by omega)
  obtain ⟨i1, i2⟩ := kp_inv (k := 6) (by omega) at_ hl (min l.length 40) (by omega)
  have i3 := kpS_mn 6 at_ l [] (min l.length 40)
  have hb1 : burns_v1 (-1) = -1 := rfl
  have hb2 : burns_v2 (-1) false = false := rfl
  have hb0 : burns_v0 (-1) = false := rfl
  obtain ⟨c1, _, _, _, c5⟩ := op_crash hK hc
  obtain ⟨r1, _, _, _, r5, r6⟩ := op_read c5 at_ false
  rw [hab] at r1 r5 r6
  have r1 : read_pre 6 6 [] (crash_v0 (kpS 6 at_ l [] (min l.length 40)).2.2 SF ch) at_ = true := r1
  have r5 : isBytes (now_v0 [] (crash_v0 (kpS 6 at_ l [] (min l.length 40)).2.2 SF ch) at_) = true := r5
  have r6 : (now_v0 [] (crash_v0 (kpS 6 at_ l [] (min l.length 40)).2.2 SF ch) at_).length = 128 := by simpa using r6
  have r7 := now_nil (crash_v0 (kpS 6 at_ l [] (min l.length 40)).2.2 SF ch) at_
  rw [v2, v3, hb1, hb2, hb0, hab, hab0, hv0, seg_all _ (Nat.le_of_eq r6)]
  refine ⟨?_, ?_, c1, ?_, ?_, ?_⟩
  · rw [w1, hfl]; rfl
  · unfold kpC
    rw [okAB_iff.2 (hsf.le (by omega) (by omega)), hl]; rfl
  · rw [r1]; rfl
  · rw [r6]; rfl
  · intro hmn
    obtain ⟨j, hj1, hj2, hj⟩ : ∃ j, j ≤ (kpS 6 at_ l [] (min l.length 40)).2.2.length ∧ j ≤ ch.length ∧ crash_v0 (kpS 6 at_ l [] (min l.length 40)).2.2 SF ch = trTo ch (kpS 6 at_ l [] (min l.length 40)).2.2 SF j := by
      unfold crash_v0
      by_cases hlt : ch.length < (kpS 6 at_ l [] (min l.length 40)).2.2.length
      · rw [decide_eq_true hlt]; exact ⟨_, by omega, Nat.le_refl _, rfl⟩
      · rw [decide_eq_false hlt]; exact ⟨_, Nat.le_refl _, by omega, rfl⟩
    rw [hj] at r5 r6 r7 ⊢
    generalize kpS 6 at_ l [] (min l.length 40) = p at *
    obtain ⟨mn, la, ws⟩ := p
    simp only at *
    by_cases h1 : mn = 1
    · obtain ⟨k1, k2⟩ := i2 (by omega)
      obtain ⟨q, hq, e⟩ := crash_at hK.sl hK.so hK.wo hc a0 a1 k1 (fun w hw ha => (i1 w hw ha).2 h1) j hj1 hj2
      rw [hold, ← r7] at e
      refine ⟨?_, torn_ok hq k1 e (.inl h1)⟩
      unfold ktC
      rw [r6, r5, k1, k2, decide_eq_true rfl, Bool.true_and, Bool.true_and, Bool.or_true]
    · obtain ⟨q, hq, e⟩ := crash_at hK.sl hK.so hK.wo hc a0 a1 (fillZ_len c) (fun w hw ha => absurd (i1 w hw ha).1 (by omega)) j hj1 hj2
      rw [hold, ← r7, List.take_append_drop] at e
      have hmn1 : (mn == 1) = false := by rw [beq_eq_false_iff_ne]; exact h1
      refine ⟨?_, ?_⟩
      · unfold ktC
        rw [r6, r5, hmn1, decide_eq_true rfl]; rfl
      · have := torn_ok (mn := mn) (la := fillZ c) (b := now_v0 [] (trTo ch ws SF j) at_) (c := c) (q := 0) (by omega) (fillZ_len c) (by rw [e]; rfl) (.inr rfl)
        have hz : ∀ x, (List.range 16).findIdx (ktP mn x (now_v0 [] (trTo ch ws SF j) at_)) = 0 := fun x => by
          show (0 :: (List.range' 1 15)).findIdx _ = 0
          rw [List.findIdx_cons]
          unfold ktP
          rw [hmn1]; rfl
        unfold ktT at this ⊢
        rw [hz] at this ⊢
        exact this
theorem keeps_law (xs : List D) (h : okAll tab 8 [3, 5, 22, 34] xs = true) (_ : sizeDL xs ≤ 1048576) : ∃ F, FunOk Try.prog 5 F ∧ F (xs.map .dat) [] = some ([.dat (.bool true)], []) := by
  obtain ⟨x0, xs, rfl, h0, h⟩ := okAll_cons h
  obtain ⟨x1, xs, rfl, h1, h⟩ := okAll_cons h
  obtain ⟨x2, xs, rfl, h2, h⟩ := okAll_cons h
  obtain ⟨x3, xs, rfl, h3, h⟩ := okAll_cons h
  obtain rfl := okAll_nil h
  obtain ⟨n, rfl, _⟩ := okV_int h0 rfl rfl
  obtain ⟨c, rfl, _⟩ := okV_int h1 rfl rfl
  obtain ⟨l, rfl, k2⟩ := okV_slc (s := s36) h2 rfl rfl rfl
  obtain ⟨ch, rfl, k3⟩ := okV_slc (s := .one) h3 rfl rfl rfl
  have hl : l.all okDeed = true := by
    rw [List.all_eq_true] at k2 ⊢
    intro d hd
    obtain ⟨q, rfl, hq⟩ := okV_struct (k2 d hd) rfl rfl
    obtain ⟨x0, q, rfl, h0, hq⟩ := okVL_cons hq
    obtain ⟨x1, q, rfl, h1, hq⟩ := okVL_cons hq
    obtain ⟨x2, q, rfl, h2, hq⟩ := okVL_cons hq
    obtain rfl := okVL_nil hq
    obtain ⟨a, rfl, _⟩ := okV_int h0 rfl rfl
    obtain ⟨b, rfl, _⟩ := okV_int h1 rfl rfl
    obtain ⟨c, rfl, hc⟩ := okV_slc (s := .one) h2 rfl rfl rfl
    show (true && c.all okU8) = true
    rw [Bool.true_and, List.all_eq_true]
    rw [List.all_eq_true] at hc
    intro d hd
    obtain ⟨z, rfl, hw⟩ := okV_int (hc d hd) rfl rfl
    simp [Lit.wf, IntKind.min, IntKind.max, IntKind.signed, IntKind.bits] at hw
    show (true && (decide (0 ≤ z) && decide (z ≤ 255))) = true
    rw [decide_eq_true (by omega), decide_eq_true (by omega)]; rfl
  have hch : ch.all okU8 = true := by
    rw [List.all_eq_true] at k3 ⊢
    intro d hd
    obtain ⟨z, rfl, hw⟩ := okV_int (k3 d hd) rfl rfl
    simp [Lit.wf, IntKind.min, IntKind.max, IntKind.signed, IntKind.bits] at hw
    show (true && (decide (0 ≤ z) && decide (z ≤ 255))) = true
    rw [decide_eq_true (by omega), decide_eq_true (by omega)]; rfl
  refine ⟨_, cks_ok, ?_⟩
  obtain ⟨g1, g2, g3, g4, g5, g6⟩ := ks_true (n := n) (c := c) hl hch
  show T.run (.chk (ks_p5 n c) (.chk (ks_p8 n c l) (.chk (ks_p9 n c l ch) (.chk (ks_p10 n c l ch) (.chk (ks_p11 n c l ch) (.br (ks_c11_0 n l) (.leaf ([AV.dat (D.bool true)], [])) (.chk (ks_p13 n c l ch) (.chk (ks_p14 n c l ch) (.leaf ([AV.dat (D.bool true)], [])))))))))) = _
  simp only [T.run_chk, T.run_br, T.run_leaf, g1, g2, g3, g4, g5, cond_true]
  by_cases hm : ks_w8v0 n l ≤ 1
  · obtain ⟨g7, g8⟩ := g6 hm
    rw [g7, g8]
    cases ks_c11_0 n l <;> rfl
  · have : ks_c11_0 n l = true := by
      unfold ks_c11_0
      exact decide_eq_true (by omega)
    rw [this]; rfl
end Go.Proofs.Ythhipekbkodjoaa
