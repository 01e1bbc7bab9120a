/- Seat 07: what is done to a disk, and to the document's, comes to the same. -/
import Derived.Test.YthhipekbkodjoaaK
namespace Go.Proofs.Ythhipekbkodjoaa
open Go.AX
theorem made_pos {k : Nat} (h : 0 < k) : made_v0 k = true := by unfold made_v0; exact decide_eq_true (by omega)
theorem seg_all (l : List D) {n : Nat} (h : l.length ≤ n) : seg l 0 n = l := by rw [seg_take, List.take_of_length_le h]
theorem toNat_len (l : List D) : Int.toNat (l.length : Int) - 0 = l.length := by omega
theorem isBytes_fits {b : List D} (h : isBytes b = true) : fits .one b = true := by
  rw [fits_one_iff]
  intro d hd
  obtain ⟨n, rfl⟩ := isBytes_mem h hd
  rfl
theorem able_cases {k : Nat} (h : 0 < k) (n : Int) (u : Bool) : able_v0 k n u = bif u then 15 else bif decide (n < 0) then 16 else bif decide ((k : Int) ≤ n) then 16 else 0 := by
  unfold able_v0; rw [made_pos h]; rfl
theorem wtos_ok {k : Nat} {ws : List D} (h : ∀ w ∈ ws, wtOk k w) : ws.all (okWk k) = true := by
  rw [List.all_eq_true]
  intro w hw
  obtain ⟨n, l, rfl, h1, h2, h3, h4⟩ := h w hw
  have e : (wWas (.agg [.int .i64 n, .arr .one l])) = l := rfl
  have e2 : (wAt (.agg [.int .i64 n, .arr .one l])) = n := rfl
  simp only [okWk, okW, e, e2, h3, decide_eq_true h1, decide_eq_true h2, isBytes_fits h4]
  rfl
theorem wtos_okW {k : Nat} {ws : List D} (h : ∀ w ∈ ws, wtOk k w) : ws.all okW = true := by
  have := wtos_ok h
  rw [List.all_eq_true] at this ⊢
  intro w hw
  have := this w hw
  simp only [okWk, Bool.and_eq_true] at this
  simp only [okW, Bool.and_eq_true]
  exact this.1
theorem secs_ok {sf : List D} (h : ∀ d ∈ sf, secOk d) : sf.all okSec = true := by
  rw [List.all_eq_true]
  intro d hd
  obtain ⟨l, rfl, h1, h2⟩ := h d hd
  simp only [okSec, D.getL, h1]
  rfl
theorem OkA.okDk {k j : Nat} {ws sf : List D} (h : OkA k j ws sf) : okDk k k ws sf = true := by
  simp only [Ythhipekbkodjoaa.okDk, okSf, secs_ok h.so, wtos_ok h.wo, beq_self_eq_true, h.sl, Bool.and_eq_true, decide_eq_true_eq, and_self, true_and]
  have := h.hj; have := h.hj2; omega
theorem OkA.le {k j j' : Nat} {ws sf : List D} (h : OkA k j ws sf) (hj : j ≤ j') (hj2 : j' ≤ 1000) : OkA k j' ws sf := ⟨h.hk, by have := h.hj; omega, hj2, h.sl, h.so, h.wo⟩
theorem OkA.nil {k j : Nat} {ws sf : List D} (h : OkA k j ws sf) {sf' : List D} (h1 : sf'.length = k) (h2 : ∀ d ∈ sf', secOk d) : OkA k j [] sf' := ⟨h.hk, by simp, h.hj2, h1, h2, by simp⟩
theorem now_ok {k j : Nat} {ws sf : List D} (h : OkA k j ws sf) {n : Int} (h0 : 0 ≤ n) (h1 : n < k) : (now_v0 ws sf n).length = 128 ∧ isBytes (now_v0 ws sf n) = true := by
  have e := foldW_nth sf k h.sl ws h.wo n.toNat (by omega)
  rw [show ((n.toNat : Nat) : Int) = n by omega] at e
  rw [← e]
  obtain ⟨l, hl, h2, h3⟩ := foldW_sec ws sf h.wo h.so _ (nthD_mem (show n.toNat < (ws.foldl setW sf).length by rw [foldW_len, h.sl]; omega))
  rw [hl]
  exact ⟨h2, h3⟩
theorem absN_all (k : Nat) (ws sf : List D) : (absN k ws sf).all (okE .str) = true := by
  rw [List.all_eq_true]
  intro d hd
  obtain ⟨t, rfl⟩ := absN_str k ws sf d hd
  rfl
theorem rb_eq (f : Int) : rburns_v0 f = burns_v1 f := by
  unfold rburns_v0 burns_v1
  by_cases h : f < 0
  · rw [decide_eq_true h, decide_eq_false (by omega)]; rfl
  · rw [decide_eq_false h, decide_eq_true (by omega)]; rfl
theorem rb_eq1 (f : Int) : rburns_v1 f false = burns_v0 f := by
  unfold rburns_v1 burns_v0
  by_cases h : f < 0
  · rw [decide_eq_true h, show (f == 0) = false by rw [beq_eq_false_iff_ne]; omega]; rfl
  · rw [decide_eq_false h]; simp
theorem rb_eq2 (f : Int) : rburns_v1 f false = burns_v2 f false := by
  unfold rburns_v1 burns_v2
  by_cases h : f < 0
  · rw [decide_eq_true h, show (f == 0) = false by rw [beq_eq_false_iff_ne]; omega]; rfl
  · rw [decide_eq_false h]; simp
theorem absN_snoc {k : Nat} {ws sf : List D} {n : Int} {b : List D} (h0 : 0 ≤ n) : wiTo (absN k ws sf) n (txS b) (absN k ws sf).length = absN k (ws ++ [.agg [.int .i64 n, .arr .one b]]) sf := by
  rw [wiTo_set (absN_str k ws sf) h0]
  refine ext_nthD (by rw [List.length_set, absN_len, absN_len]) fun i hi => ?_
  rw [List.length_set] at hi
  rw [nthD_set hi]
  rw [absN_len] at hi
  simp only [absN_eq]
  rw [nthD_rangeMap hi, nthD_rangeMap hi, now_append]
  have e1 : wAt (.agg [.int .i64 n, .arr .one b]) = n := rfl
  have e2 : wWas (.agg [.int .i64 n, .arr .one b]) = b := rfl
  rw [e1, e2]
  have e3 : Nat.beq i n.toNat = (n == (i : Int)) := bool_ext ⟨fun h => by have := Nat.eq_of_beq_eq_true h; rw [beq_iff_eq]; omega, fun h => beq_of_eq (by rw [beq_iff_eq] at h; omega)⟩
  rw [e3]
  cases n == (i : Int) <;> rfl
theorem fits_wtos (ws : List D) : fits (.agg [.one, .one]) (ws.map wTo) = true := by
  unfold fits
  rw [List.all_eq_true]
  intro d hd
  obtain ⟨x, _, rfl⟩ := List.mem_map.1 hd
  rfl
theorem wiTo_seg {l : List D} {n : Int} {s : ByteArray} : seg (wiTo l n s l.length) 0 l.length = wiTo l n s l.length := seg_all _ (by rw [wiTo_length]; exact Nat.le_refl _)
theorem op_write {k j : Nat} {ws sf : List D} (h : OkA k j ws sf) (hj : j + 1 ≤ 1000) {b : List D} (hb : isBytes b = true) (f n : Int) (u : Bool) :
    write_pre k ws b n u = true ∧ rwrite_pre (absN k ws sf) (ws.map wTo) b n u = true ∧ rwrite_v0 (absN k ws sf) b n u = absN k (write_v1 k ws b n u) sf ∧
    rwrite_v1 (absN k ws sf) (ws.map wTo) b n u = (write_v1 k ws b n u).map wTo ∧ rwrite_v2 (absN k ws sf) b f n u = write_v2 k b f n u ∧
    rwrite_v3 (absN k ws sf) b f n u = write_v3 k b f n u ∧ rwrite_v4 (absN k ws sf) b f n u = write_v0 k b f n u ∧ OkA k (j + 1) (write_v1 k ws b n u) sf := by
  have hA := able_cases h.hk.1 n u
  have hle := h.le (j' := j + 1) (by omega) hj
  unfold write_pre rwrite_pre rwrite_v0 rwrite_v1 rwrite_v2 rwrite_v3 rwrite_v4 write_v0 write_v1 write_v2 write_v3
  rw [hA, absN_len]
  cases u with
  | true => refine ⟨?_, ?_, ?_, ?_, ?_, ?_, ?_, hle⟩ <;> first | rfl | trivial
  | false =>
    simp only [cond_false, Bool.false_or]
    by_cases h1 : n < 0
    · simp only [decide_eq_true h1]
      refine ⟨?_, ?_, ?_, ?_, ?_, ?_, ?_, hle⟩ <;> first | rfl | trivial
    · by_cases h2 : (k : Int) ≤ n
      · simp only [decide_eq_false h1, decide_eq_true h2]
        refine ⟨?_, ?_, ?_, ?_, ?_, ?_, ?_, hle⟩ <;> first | rfl | trivial
      · simp only [decide_eq_false h1, decide_eq_false h2, cond_false, Bool.false_or, bne_self_eq_false]
        by_cases h3 : b.length = 128
        · have e3 : ((b.length : Int) != 128) = false := by rw [h3]; rfl
          have e4 : seg b 0 128 = b := seg_all _ (by omega)
          have hws := h.hj
          have hj2 := h.hj2
          have e5 : seg (ws ++ [.agg [.int .i64 n, .arr .one b]]) 0 (ws.length + 1) = ws ++ [.agg [.int .i64 n, .arr .one b]] := seg_all _ (by rw [List.length_append]; exact Nat.le_refl _)
          have e6 : (bif (ws.map wTo).isEmpty then [(.agg [.int .i64 n, .str (txS b)] : D)] else seg (ws.map wTo ++ [.agg [.int .i64 n, .str (txS b)]]) 0 (0 + (ws.map wTo).length + 1)) = ws.map wTo ++ [.agg [.int .i64 n, .str (txS b)]] := by
            rw [Nat.zero_add, seg_all _ (by rw [List.length_append]; exact Nat.le_refl _)]
            cases ws <;> rfl
          have hclip : clip_pre ws = true := by
            unfold clip_pre
            rw [decide_eq_true rfl, Bool.true_and]
            exact decide_eq_true (by omega)
          have hwp : wth_pre (absN k ws sf) n (txS b) = true := by
            have hk := h.hk
            unfold wth_pre okStrs
            rw [absN_all, wiTo_length, Nat.beq_refl, absN_len]
            simp only [Bool.true_and, Bool.and_true]
            exact decide_eq_true (by omega)
          have hsh : Sh.eqb (.arr .one 128) (.arr .one b.length) = true := by rw [h3]; rfl
          have hft : fits s67 [.agg [.int .i64 n, .arr .one b]] = true := by
            unfold fits
            rw [List.all_cons, List.all_nil, Bool.and_true]
            simp only [D.shape, D.shapeL, h3]; rfl
          have hS : wiTo (absN k ws sf) n (txS b) k = absN k (ws ++ [.agg [.int .i64 n, .arr .one b]]) sf := by
            have := absN_snoc (k := k) (ws := ws) (sf := sf) (n := n) (b := b) (by omega)
            rwa [absN_len] at this
          have hsg : seg (absN k (ws ++ [.agg [.int .i64 n, .arr .one b]]) sf) 0 k = absN k (ws ++ [.agg [.int .i64 n, .arr .one b]]) sf := seg_all _ (by rw [absN_len]; exact Nat.le_refl _)
          simp only [e3, cond_false, Bool.false_or, toNat_len, seg_all ws (Nat.le_refl _), e4, e5, hclip, hb, hwp, hsh, hft, hS, hsg, fits_wtos, rb_eq, rb_eq1, Bool.true_and, D.eqb_self, List.length_append, List.length_map, List.length_singleton, Nat.beq_refl, Nat.zero_add, Bool.and_true]
          refine ⟨?_, ?_, trivial, ?_, trivial, (rb_eq1 f).symm.trans (rb_eq2 f), trivial, ?_⟩
          · rw [decide_eq_true (show 128 ≤ b.length by omega), decide_eq_true (show (ws.length + 1) * 136 ≤ 35184372088832 by omega)]; rfl
          · rw [decide_eq_true (show ws.length * 24 ≤ 35184372088832 by omega), decide_eq_true (show (ws.length + 1) * 24 ≤ 35184372088832 by omega), Bool.or_true]; rfl
          · rw [List.map_append]; rw [List.length_map, Nat.zero_add] at e6; exact e6
          · refine ⟨h.hk, by rw [List.length_append, List.length_singleton]; omega, hj, h.sl, h.so, fun w hw => ?_⟩
            rcases List.mem_append.1 hw with hw | hw
            · exact h.wo w hw
            · rw [List.mem_singleton] at hw
              subst hw
              exact ⟨n, b, rfl, by omega, by omega, h3, hb⟩
        · have e3 : ((b.length : Int) != 128) = true := by
            rw [bne_iff_ne]; omega
          simp only [e3, cond_true, Bool.true_or]
          refine ⟨?_, ?_, ?_, ?_, ?_, ?_, ?_, hle⟩ <;> first | rfl | trivial
def flW (k : Nat) (ws : List D) (f : Int) (u : Bool) : List D := bif able_v0 k 0 u != 0 then ws else bif burns_v0 f then ws else []
def flS (k : Nat) (ws sf : List D) (f : Int) (u : Bool) : List D := bif able_v0 k 0 u != 0 then sf else bif burns_v0 f then sf else List.foldl setW sf ws
def flF (k : Nat) (f : Int) (u : Bool) : Int := bif able_v0 k 0 u != 0 then f else burns_v1 f
def flU (k : Nat) (f : Int) (u : Bool) : Bool := bif able_v0 k 0 u != 0 then u else burns_v2 f u
def flE (k : Nat) (f : Int) (u : Bool) : Int := bif able_v0 k 0 u != 0 then able_v0 k 0 u else bif burns_v0 f then 15 else 0
theorem op_flush {k j : Nat} {ws sf : List D} (h : OkA k j ws sf) (f : Int) (u : Bool) :
    (able_v0 k 0 u != 0 || (burns_v0 f || flush_pre k k ws sf)) = true ∧ rflush_v0 (absN k ws sf) (absS sf) f u = absS (flS k ws sf f u) ∧ absN k (flW k ws f u) (flS k ws sf f u) = absN k ws sf ∧
    rflush_v1 (ws.map wTo) f u = (flW k ws f u).map wTo ∧ rflush_v2 f u = flF k f u ∧ rflush_v3 f u = flU k f u ∧ rflush_v4 f u = flE k f u ∧ OkA k j (flW k ws f u) (flS k ws sf f u) := by
  have hk := h.hk
  have hA : able_v0 k 0 u = bif u then 15 else 0 := by
    rw [able_cases h.hk.1, decide_eq_false (show ¬ (0 : Int) < 0 by omega), decide_eq_false (show ¬ (k : Int) ≤ 0 by omega)]; rfl
  unfold rflush_v0 rflush_v1 rflush_v2 rflush_v3 rflush_v4 flW flS flF flU flE
  rw [hA]
  cases u with
  | true => refine ⟨?_, ?_, ?_, ?_, ?_, ?_, ?_, h⟩ <;> first | rfl | trivial
  | false =>
    simp only [cond_false, bne_self_eq_false, Bool.false_or, rb_eq, rb_eq1]
    have e2 : burns_v0 f = burns_v2 f false := (rb_eq1 f).symm.trans (rb_eq2 f)
    cases hb : burns_v0 f with
    | true => rw [← e2, hb]; refine ⟨?_, ?_, ?_, ?_, ?_, ?_, ?_, h⟩ <;> first | rfl | trivial
    | false =>
      rw [← e2, hb]
      have h1 : (ws.foldl setW sf).length = k := by rw [foldW_len, h.sl]
      refine ⟨?_, ?_, ?_, by first | rfl | trivial, by first | rfl | trivial, by first | rfl | trivial, by first | rfl | trivial, h.nil h1 (foldW_sec ws sf h.wo h.so)⟩
      · show flush_pre k k ws sf = true
        unfold flush_pre
        rw [decide_eq_true rfl, h.okDk]; rfl
      · exact (abs_flush h.sl h.wo).symm
      · show absN k [] (ws.foldl setW sf) = _
        rw [abs_nil h1, abs_flush h.sl h.wo]
theorem op_fuse {k : Nat} (hk : 0 < k) (f n : Int) : rfused_v0 n = fuse_v0 k f n := by
  unfold rfused_v0 fuse_v0
  rw [made_pos hk, cond_true]
  by_cases h : n < 0
  · rw [decide_eq_true h, cond_true]
    split <;> omega
  · rw [decide_eq_false h, cond_false, if_neg (by omega)]
theorem op_crash {k j : Nat} {ws sf ch : List D} (h : OkA k j ws sf) (hc : ch.all okU8 = true) :
    crash_pre k k ws sf ch = true ∧ rcrash_pre (absS sf) (ws.map wTo) ch = true ∧ rcTo ch (ws.map wTo) (absS sf) (ws.map wTo).length = absS (crash_v0 ws sf ch) ∧ absN k [] (crash_v0 ws sf ch) = absS (crash_v0 ws sf ch) ∧ OkA k j [] (crash_v0 ws sf ch) := by
  have hcr : crash_v0 ws sf ch = trTo ch ws sf (min ws.length ch.length) := by
    unfold crash_v0
    by_cases hl : ch.length < ws.length
    · rw [decide_eq_true hl, cond_true, show min ws.length ch.length = ch.length by omega]
    · rw [decide_eq_false hl, cond_false, show min ws.length ch.length = ws.length by omega]
  obtain ⟨h1, h2⟩ := trTo_sec (ch := ch) h.sl h.so h.wo (min ws.length ch.length) (by omega)
  refine ⟨?_, ?_, ?_, ?_, ?_⟩
  · unfold crash_pre
    rw [decide_eq_true rfl, h.okDk, hc]; rfl
  · unfold rcrash_pre
    rw [hc, Bool.and_true]
    have hj := h.hj; have hj2 := h.hj2; have hk := h.hk
    unfold okX
    simp only [Bool.and_eq_true, decide_eq_true_eq, true_and]
    refine ⟨by rw [absS_len, h.sl]; omega, ?_, ?_, by rw [List.length_map]; omega⟩
    · rw [List.all_eq_true]
      intro d hd
      obtain ⟨x, hx, rfl⟩ := List.mem_map.1 hd
      obtain ⟨l, rfl, g1, g2⟩ := h.so x hx
      exact okT_str (by rw [tx_size]; exact g1)
    · rw [List.all_eq_true]
      intro d hd
      obtain ⟨x, hx, rfl⟩ := List.mem_map.1 hd
      obtain ⟨n, l, rfl, g1, g2, g3, g4⟩ := h.wo x hx
      have e1 : aWas (wTo (.agg [.int .i64 n, .arr .one l])) = txS l := rfl
      have e2 : aAt (wTo (.agg [.int .i64 n, .arr .one l])) = n := rfl
      simp only [okWa, e1, e2, tx_size, absS_len, h.sl, g3, decide_eq_true g1, decide_eq_true g2]
      rfl
  · rw [List.length_map, abs_crash h.sl h.so h.wo hc _ (Nat.le_refl _), hcr]
  · rw [hcr]; exact abs_nil h1
  · rw [hcr]; exact h.nil h1 h2
theorem op_read {k j : Nat} {ws sf : List D} (h : OkA k j ws sf) (n : Int) (u : Bool) :
    (able_v0 k n u != 0 || read_pre k k ws sf n) = true ∧ rread_pre (absN k ws sf) n u = true ∧ rread_v1 (absN k ws sf) n u = able_v0 k n u ∧
    rread_v0 (absN k ws sf) n u = (bif able_v0 k n u != 0 then { data := { toList := [] } } else txS (now_v0 ws sf n)) ∧ (able_v0 k n u != 0 || isBytes (now_v0 ws sf n)) = true ∧ (able_v0 k n u != 0 || (now_v0 ws sf n).length == 128) = true := by
  have hA := able_cases h.hk.1 n u
  unfold rread_pre rread_v0 rread_v1
  rw [hA, absN_len]
  cases u with
  | true => refine ⟨?_, ?_, ?_, ?_, ?_, ?_⟩ <;> first | rfl | trivial
  | false =>
    simp only [cond_false, Bool.false_or]
    by_cases h1 : n < 0
    · simp only [decide_eq_true h1]
      refine ⟨?_, ?_, ?_, ?_, ?_, ?_⟩ <;> first | rfl | trivial
    · by_cases h2 : (k : Int) ≤ n
      · simp only [decide_eq_false h1, decide_eq_true h2]
        refine ⟨?_, ?_, ?_, ?_, ?_, ?_⟩ <;> first | rfl | trivial
      · simp only [decide_eq_false h1, decide_eq_false h2, cond_false, Bool.false_or, bne_self_eq_false]
        obtain ⟨g1, g2⟩ := now_ok h (show 0 ≤ n by omega) (by omega)
        have hn : nthD (absN k ws sf) n.toNat = tx (now_v0 ws sf n) := by
          simp only [absN_eq]
          rw [nthD_rangeMap (by omega), show ((n.toNat : Nat) : Int) = n by omega]
        have hs := h.sl
        refine ⟨?_, ?_, by first | rfl | trivial, ?_, g2, by rw [g1]; rfl⟩
        · unfold read_pre
          rw [g1]
          show (now_pre k k ws sf n && true) = true
          rw [Bool.and_true]
          unfold now_pre
          have hj := h.hj; have hj2 := h.hj2
          have hw : IntKind.wrap .i64 ((ws.length : Int) - 1) = (ws.length : Int) - 1 := by rw [IntKind.wrap_i64]; omega
          obtain ⟨l, hl, g3, g4⟩ := h.so _ (nthD_mem (show n.toNat < sf.length by omega))
          simp only [hw, okWs, wtos_okW h.wo, Nat.zero_add, hs, hl, Nat.beq_refl, decide_eq_true (show 0 ≤ n by omega), decide_eq_true (show n < (k : Int) by omega), decide_eq_true (show n.toNat < k by omega), decide_eq_true (show ws.length ≤ 1099511627776 by omega), D.getL, g3, Bool.true_and, Bool.and_true]
          rw [decide_eq_true trivial, Bool.true_and]
          exact Bool.or_true _
        · rw [decide_eq_true (show 0 ≤ n by omega), decide_eq_true (show n.toNat < k by omega), hn]; rfl
        · rw [hn]; rfl
end Go.Proofs.Ythhipekbkodjoaa
