/- Seat 18: sums over trades. -/
import Derived.Test.YtlgieadebfdppaaF
import Derived.Test.YtlgieadebfdppaaAx30
namespace Go.Proofs.Ytlgieadebfdppaa
open Go.AX
set_option maxRecDepth 100000

abbrev tD (u : Bool) (a b gc ga gi wc wa wi : Int) : D := .agg [.bool u, .int .i64 a, .int .i64 b, .agg [.int .i64 gc, .int .u64 ga, .int .i64 gi], .agg [.int .i64 wc, .int .u64 wa, .int .i64 wi]]
theorem k27_form {d : D} (h : okE k27 d = true) : ∃ u a b gc ga gi wc wa wi, d = tD u a b gc ga gi wc wa wi := by
  obtain ⟨x0, x1, x2, x3, x4, rfl, h0, h1, h2, h3, h4⟩ := okE_agg5 h
  obtain ⟨u, rfl⟩ := okE_bool h0
  obtain ⟨a, rfl⟩ := okE_int h1
  obtain ⟨b, rfl⟩ := okE_int h2
  obtain ⟨y0, y1, y2, rfl, g0, g1, g2⟩ := okE_agg3 h3
  obtain ⟨z0, z1, z2, rfl, k0, k1, k2⟩ := okE_agg3 h4
  obtain ⟨gc, rfl⟩ := okE_int g0
  obtain ⟨ga, rfl⟩ := okE_int g1
  obtain ⟨gi, rfl⟩ := okE_int g2
  obtain ⟨wc, rfl⟩ := okE_int k0
  obtain ⟨wa, rfl⟩ := okE_int k1
  obtain ⟨wi, rfl⟩ := okE_int k2
  exact ⟨u, a, b, gc, ga, gi, wc, wa, wi, rfl⟩
theorem k27_fits {ls : List D} (h : ls.all (okE k27) = true) : fits s27 ls = true := by
  unfold fits
  rw [List.all_eq_true] at h ⊢
  intro d hd
  obtain ⟨u, a, b, gc, ga, gi, wc, wa, wi, rfl⟩ := k27_form (h d hd)
  rfl
theorem seg_set {ls : List D} (i : Nat) (x : D) : seg (ls.set i x) 0 ls.length = ls.set i x := by
  have := seg_full (ls.set i x)
  rwa [List.length_set] at this
theorem all_set {ls : List D} {p : D → Bool} (h : ls.all p = true) {x : D} (hx : p x = true) (i : Nat) : (ls.set i x).all p = true := by
  rw [List.all_eq_true] at h ⊢
  intro d hd
  rcases List.mem_or_eq_of_mem_set hd with hd | rfl
  · exact h d hd
  · exact hx
theorem ipt_is {ls : List D} (h1 : ls.all (okE k27) = true) (_hl : ls.length ≤ 1048576) {i : Nat} (hi : i < ls.length) (u : Bool) (a b gc ga gi wc wa wi : Int) :
    ipt_v0 ls (i : Int) u a b gc ga gi wc wa wi = ls.set i (tD u a b gc ga gi wc wa wi) ∧ ipt_v1 ls (i : Int) = 0 ∧ ipt_pre ls (i : Int) u a b gc ga gi wc wa wi = true := by
  obtain ⟨u', a', b', gc', ga', gi', wc', wa', wi', hform⟩ := k27_form (allE_nth h1 hi)
  have e1 : okS s27 (nthD ls i) = true := by rw [hform]; rfl
  have hne : ls.isEmpty = false := by cases ls with | nil => simp at hi | cons => rfl
  have d0 : decide ((i : Int) < 0) = false := decide_eq_false (by omega)
  have d1 : decide ((ls.length : Int) ≤ (i : Int)) = false := decide_eq_false (by omega)
  refine ⟨by unfold ipt_v0; rw [d0, d1, cond_false, cond_false, Int.toNat_natCast, Nat.zero_add, seg_set], by unfold ipt_v1; rw [d0, d1]; rfl, ?_⟩
  unfold ipt_pre
  simp only [d0, d1, k27_fits h1, hne, hform, Int.toNat_natCast, Nat.zero_add, decide_eq_true hi, beq_self, List.length_set, decide_eq_true (show ls.length * 72 ≤ 35184372088832 by omega), decide_eq_true (show (0 : Int) ≤ (i : Int) by omega), decide_eq_true (show (i : Int) < (ls.length : Int) by omega), Bool.not_false, Bool.and_true, Bool.false_or]
  rfl
theorem iof_ok {ls : List D} (h : ls.all (okE k27) = true) (_hl : ls.length ≤ 1048576) : iof_pre ls = true := by
  unfold iof_pre
  rw [k27_fits h, decide_eq_true (by omega)]; rfl
theorem iwL_ok {ls : List D} (h : ls.all (okE k27) = true) (_hl : ls.length ≤ 1048576) : iw_okL ls = true := by
  unfold iw_okL
  rw [h, decide_eq_true (by omega)]; rfl
theorem right_is (ls : List D) : right_v0 ls = !ls.any wrD := by
  unfold right_v0 cfi_v0 iw_idx
  cases ls.any wrD with
  | true => rw [cond_true, decide_eq_true (by omega)]
  | false => rfl
theorem right_set {ls : List D} (h : right_v0 ls = true) {x : D} (hx : wrD x = false) (i : Nat) : right_v0 (ls.set i x) = true := by
  rw [right_is, Bool.not_eq_true', List.any_eq_false] at h ⊢
  intro d hd
  rcases List.mem_or_eq_of_mem_set hd with hd | rfl
  · exact h d hd
  · rw [hx]; exact Bool.false_ne_true
theorem right_mem {ls : List D} (h : right_v0 ls = true) {d : D} (hd : d ∈ ls) : wrD d = false := by
  rw [right_is, Bool.not_eq_true', List.any_eq_false] at h
  simpa using h d hd

/-- What a trade gives of a coin. -/
def gv (c : Int) (d : D) : Int := bif fU d && fJ d 3 0 == c then fJ d 3 1 else 0
def tot (c : Int) (ls : List D) : Int := (ls.map (gv c)).sum
theorem sum_set : ∀ {l : List Int} {i : Nat} (h : i < l.length) (x : Int), (l.set i x).sum = l.sum - l[i] + x
  | y :: l, 0, h, x => by simp only [List.set_cons_zero, List.sum_cons, List.getElem_cons_zero]; omega
  | y :: l, i + 1, h, x => by
    have := sum_set (l := l) (i := i) (by simpa using h) x
    simp only [List.set_cons_succ, List.sum_cons, List.getElem_cons_succ]
    omega
theorem tot_set {c : Int} {ls : List D} {i : Nat} (h : i < ls.length) (x : D) : tot c (ls.set i x) = tot c ls - gv c (nthD ls i) + gv c x := by
  unfold tot
  rw [List.map_set, sum_set (by simpa using h), List.getElem_map]
  have := nthD_some h
  rw [List.getElem?_eq_getElem h] at this
  rw [Option.some.inj this]

def sumL (l : List D) : Int := (l.map D.getI).sum
theorem sumL_append (a b : List D) : sumL (a ++ b) = sumL a + sumL b := by unfold sumL; rw [List.map_append, List.sum_append]
/-- Numbers that are added one by one, none below 0, none above the most. -/
theorem sum_is : ∀ (l : List D) (s : Int), (∀ d ∈ l, 0 ≤ D.getI d ∧ D.getI d ≤ 4611686018427387904) → 0 ≤ s → s ≤ 4611686018427387904 → 0 ≤ sumL l ∧
    (s + sumL l ≤ 4611686018427387904 → sumE s l = 0 ∧ sumV s l = s + sumL l) ∧ (4611686018427387904 < s + sumL l → sumE s l = 7)
  | [], s, _, h0, h1 => by
    refine ⟨by simp [sumL], fun _ => ⟨rfl, by simp [sumV, sumL]⟩, fun h => ?_⟩
    simp [sumL] at h
    omega
  | d :: l, s, h, h0, h1 => by
    obtain ⟨g0, g1⟩ := h d List.mem_cons_self
    have hs : sumL (d :: l) = D.getI d + sumL l := by simp [sumL]
    have ha : add64 s (D.getI d) 0 = s + D.getI d := by
      unfold add64 Extern.MathBitsCarry.m64
      simp only [Int.toNat_zero, Nat.add_zero, Int.ofNat_eq_natCast]
      omega
    have hc : carry64 s (D.getI d) 0 = 0 := by
      unfold carry64 Extern.MathBitsCarry.m64
      simp only [Int.toNat_zero, Nat.add_zero, Int.ofNat_eq_natCast]
      omega
    have hv1 : plus_v1 s (D.getI d) = bif decide (4611686018427387904 < s + D.getI d) then 7 else 0 := by
      unfold plus_v1; rw [ha, hc]; rfl
    have hv0 : plus_v0 s (D.getI d) = bif decide (4611686018427387904 < s + D.getI d) then 0 else s + D.getI d := by
      unfold plus_v0; rw [ha, hc]; rfl
    have hl : ∀ d ∈ l, 0 ≤ D.getI d ∧ D.getI d ≤ 4611686018427387904 := fun x hx => h x (List.mem_cons_of_mem _ hx)
    unfold sumE sumV
    by_cases hb : 4611686018427387904 < s + D.getI d
    · rw [decide_eq_true hb] at hv1 hv0
      obtain ⟨q0, _, _⟩ := sum_is l 0 hl (by omega) (by omega)
      rw [hv1, hs]
      exact ⟨by omega, fun hq => by omega, fun _ => rfl⟩
    · rw [decide_eq_false hb] at hv1 hv0
      obtain ⟨q0, q1, q2⟩ := sum_is l (s + D.getI d) hl (by omega) (by omega)
      rw [hv1, hv0, hs]
      refine ⟨by omega, fun hq => ?_, fun hq => ?_⟩
      · obtain ⟨r1, r2⟩ := q1 (by omega)
        exact ⟨r1, by show sumV (s + D.getI d) l = _; rw [r2]; omega⟩
      · exact q2 (by omega)

theorem amTo_is (ls : List D) (c : Int) : ∀ n, n ≤ ls.length → sumL ((colTo (fun i => fU (nthD ls i)) n).foldl (amTo ls c) []) = ((ls.take n).map (gv c)).sum
  | 0, _ => rfl
  | n + 1, h => by
    have ih := amTo_is ls c n (by omega)
    have e : ls.take (n + 1) = ls.take n ++ [nthD ls n] := by
      rw [List.take_add_one, nthD_some (by omega)]; rfl
    have ec : colTo (fun i => fU (nthD ls i)) (n + 1) = bif fU (nthD ls n) then colTo (fun i => fU (nthD ls i)) n ++ [D.int .i64 (n : Int)] else colTo (fun i => fU (nthD ls i)) n := rfl
    rw [e, List.map_append, List.sum_append, ← ih, ec]
    generalize colTo (fun i => fU (nthD ls i)) n = cl
    show _ = _ + ((gv c (nthD ls n)) + 0)
    unfold gv
    cases hu : fU (nthD ls n) with
    | false => simp only [cond_false, Bool.false_and]; omega
    | true =>
      simp only [cond_true, Bool.true_and, List.foldl_append, List.foldl_cons, List.foldl_nil]
      generalize cl.foldl (amTo ls c) [] = out
      unfold amTo
      show sumL (bif fJ (nthD ls ((n : Int)).toNat) 3 0 == c then out ++ [D.int .u64 (fJ (nthD ls ((n : Int)).toNat) 3 1)] else out) = _
      rw [Int.toNat_natCast]
      cases (fJ (nthD ls n) 3 0 == c) with
      | false => simp only [cond_false]; omega
      | true => simp only [cond_true, sumL_append]; simp [sumL, D.getI]
/-- What is collected lies between 0 and the most. -/
theorem amTo_mem (ls : List D) (c : Int) (hb : ∀ d ∈ ls, fU d = true → 0 ≤ fJ d 3 1 ∧ fJ d 3 1 ≤ 4611686018427387904) : ∀ n, n ≤ ls.length →
    (∀ d ∈ (colTo (fun i => fU (nthD ls i)) n).foldl (amTo ls c) [], 0 ≤ D.getI d ∧ D.getI d ≤ 4611686018427387904 ∧ okE (.int .u64) d = true) ∧ ((colTo (fun i => fU (nthD ls i)) n).foldl (amTo ls c) []).length ≤ n
  | 0, _ => ⟨by intro d hd; simp [colTo] at hd, Nat.le_refl _⟩
  | n + 1, h => by
    obtain ⟨ih, ihl⟩ := amTo_mem ls c hb n (by omega)
    unfold colTo
    cases hu : fU (nthD ls n) with
    | false => exact ⟨ih, Nat.le_succ_of_le ihl⟩
    | true =>
      simp only [cond_true, List.foldl_append, List.foldl_cons, List.foldl_nil]
      generalize (colTo (fun i => fU (nthD ls i)) n).foldl (amTo ls c) [] = out at ih ihl
      have hq := hb _ (nthD_mem (show n < ls.length by omega)) hu
      unfold amTo
      show (∀ d ∈ (bif fJ (nthD ls ((n : Int)).toNat) 3 0 == c then out ++ [D.int .u64 (fJ (nthD ls ((n : Int)).toNat) 3 1)] else out), _) ∧ (bif fJ (nthD ls ((n : Int)).toNat) 3 0 == c then out ++ [D.int .u64 (fJ (nthD ls ((n : Int)).toNat) 3 1)] else out).length ≤ _
      rw [Int.toNat_natCast]
      cases (fJ (nthD ls n) 3 0 == c) with
      | false => exact ⟨ih, Nat.le_succ_of_le ihl⟩
      | true =>
        simp only [cond_true, List.mem_append, List.mem_singleton, List.length_append, List.length_singleton]
        refine ⟨fun d hd => ?_, Nat.succ_le_succ ihl⟩
        rcases hd with hd | rfl
        · exact ih d hd
        · exact ⟨hq.1, hq.2, rfl⟩
theorem okPl_col (p : Nat → Bool) (N : Nat) : ∀ n, n ≤ N → okPl N (colTo p n) = true
  | 0, _ => rfl
  | n + 1, h => by
    have ih := okPl_col p N n (by omega)
    unfold colTo
    cases p n with
    | false => exact ih
    | true =>
      unfold okPl at ih ⊢
      rw [cond_true, List.all_append, ih]
      show (true && ((true && (decide (0 ≤ (n : Int)) && decide ((n : Int) < (N : Int)))) && true)) = true
      rw [decide_eq_true (by omega), decide_eq_true (by omega)]; rfl
abbrev okB (ls : List D) : Prop := ∀ d ∈ ls, fU d = true → 0 ≤ fJ d 3 1 ∧ fJ d 3 1 ≤ 4611686018427387904
/-- What is held. -/
theorem held_is {ls : List D} (h1 : ls.all (okE k27) = true) (hl : ls.length ≤ 1048576) (hb : okB ls) (c : Int) :
    held_pre ls c = true ∧ 0 ≤ tot c ls ∧ (crt_v0 c = true → (tot c ls ≤ 4611686018427387904 → held_v1 ls c = 0 ∧ held_v0 ls c = tot c ls) ∧ (4611686018427387904 < tot c ls → held_v1 ls c = 7)) ∧ (crt_v0 c = false → held_v1 ls c = 1) := by
  have e0 := amTo_is ls c ls.length (Nat.le_refl _)
  rw [List.take_length] at e0
  obtain ⟨m1, m2⟩ := amTo_mem ls c hb ls.length (Nat.le_refl _)
  have hus := colTo_len (fun i => fU (nthD ls i)) ls.length
  have hpl := okPl_col (fun i => fU (nthD ls i)) ls.length ls.length (Nat.le_refl _)
  have hT : okT ls = true := by unfold okT; rw [h1, decide_eq_true (by omega)]; rfl
  have hslots : slots_pre ls = true := by
    unfold slots_pre
    rw [hT, decide_eq_true rfl, beq_self]; rfl
  have hU : okU ((usTo ls).foldl (amTo ls c) []) = true := by
    unfold okU usTo
    rw [decide_eq_true (by omega), Bool.and_true, List.all_eq_true]
    exact fun d hd => (m1 d hd).2.2
  have hsum : sum_pre ((usTo ls).foldl (amTo ls c) []) = true := by
    unfold sum_pre
    rw [hU, decide_eq_true rfl]; rfl
  obtain ⟨q0, q1, q2⟩ := sum_is ((usTo ls).foldl (amTo ls c) []) 0 (fun d hd => ⟨(m1 d hd).1, (m1 d hd).2.1⟩) (by omega) (by omega)
  have et : sumL ((usTo ls).foldl (amTo ls c) []) = tot c ls := e0
  rw [et, Int.zero_add] at q1 q2
  rw [et] at q0
  have hpl' : okPl ls.length (usTo ls) = true := hpl
  have hus' : (usTo ls).length ≤ ls.length := hus
  refine ⟨?_, q0, fun hc => ?_, fun hc => ?_⟩
  · unfold held_pre
    rw [seg_full, seg_full, hslots, hsum, iof_ok h1 hl, hT, hpl', decide_eq_true rfl, decide_eq_true (by omega), beq_self]
    simp
  · unfold held_v0 held_v1
    rw [hc, seg_full, seg_full, cond_true, cond_true]
    unfold sum_v0 sum_v1
    refine ⟨fun h => ?_, fun h => ?_⟩
    · obtain ⟨r1, r2⟩ := q1 h
      rw [r1, r2]; exact ⟨rfl, rfl⟩
    · rw [q2 h]; rfl
  · unfold held_v1; rw [hc]; rfl

end Go.Proofs.Ytlgieadebfdppaa
