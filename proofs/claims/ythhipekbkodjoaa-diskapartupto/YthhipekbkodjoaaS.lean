/- Seat 07: DiskTells and DiskApart are true. -/
import Derived.Test.YthhipekbkodjoaaR
import Derived.Test.YthhipekbkodjoaaAx31
namespace Go.Proofs.Ythhipekbkodjoaa
open Go.AX
set_option maxRecDepth 100000
theorem byte_ok {n : Nat} {d : D} (h : okV tab (n + 1) 5 d = true) : okU8 d = true := by
  obtain ⟨z, rfl, hw⟩ := okV_int h rfl rfl
  simp [Lit.wf, IntKind.min, IntKind.max, IntKind.signed, IntKind.bits] at hw
  show (true && (decide (0 ≤ z) && decide (z ≤ 255))) = true
  rw [decide_eq_true (by omega), decide_eq_true (by omega)]; rfl
theorem bytes_ok {n : Nat} {l : List D} (h : l.all (okV tab (n + 1) 5) = true) : l.all okU8 = true := by
  rw [List.all_eq_true] at h ⊢
  exact fun d hd => byte_ok (h d hd)
theorem deeds_ok {n : Nat} {l : List D} (h : l.all (okV tab (n + 4) 36) = true) : l.all okDeed = true := by
  rw [List.all_eq_true] at h ⊢
  intro d hd
  obtain ⟨q, rfl, hq⟩ := okV_struct (h d hd) rfl rfl
  obtain ⟨x0, q, rfl, h0, hq⟩ := okVL_cons hq
  obtain ⟨x1, q, rfl, h1, hq⟩ := okVL_cons hq
  obtain ⟨x2, q, rfl, h2, hq⟩ := okVL_cons hq
  obtain rfl := okVL_nil hq
  obtain ⟨a, rfl, _⟩ := okV_int h0 rfl rfl
  obtain ⟨b, rfl, _⟩ := okV_int h1 rfl rfl
  obtain ⟨c, rfl, hc⟩ := okV_slc (s := .one) h2 rfl rfl rfl
  show (true && c.all okU8) = true
  rw [bytes_ok hc]; rfl
theorem isBytes_rep (n : Nat) : isBytes (List.replicate n (.int .u8 0)) = true := by
  unfold isBytes
  rw [List.all_eq_true]
  intro d hd
  rw [List.eq_of_mem_replicate hd]; rfl
theorem txS_zero : tx (List.replicate 128 (.int .u8 0)) = zT := by
  unfold tx zT txS byteVs
  rw [List.map_replicate]
  rfl
theorem new_ok (n : Nat) (h0 : 0 < n) (h1 : n ≤ 100000) : OkA n 0 [] (new_v0 (n : Int)) := by
  refine ⟨⟨h0, h1⟩, Nat.le_refl _, by omega, ?_, ?_, by simp⟩
  · unfold new_v0; rw [List.length_replicate]; rfl
  · intro d hd
    unfold new_v0 at hd
    rw [List.eq_of_mem_replicate hd]
    exact ⟨_, rfl, List.length_replicate, isBytes_rep 128⟩
theorem new_abs (n : Nat) : absS (new_v0 (n : Int)) = rnew_v0 (n : Int) := by
  unfold absS new_v0 rnew_v0
  rw [List.map_replicate, Int.toNat_natCast, seg_all _ (by rw [List.length_replicate]; exact Nat.le_refl _)]
  show List.replicate n (tx (List.replicate 128 (.int .u8 0))) = _
  rw [txS_zero]; rfl
theorem new_absN (n : Nat) : absN n [] (new_v0 (n : Int)) = rnew_v0 (n : Int) := by
  rw [abs_nil (by unfold new_v0; rw [List.length_replicate]; rfl), new_abs]
theorem ruC_of {k j : Nat} {l ws sf : List D} {f : Int} {u : Bool} (h : OkA k j ws sf) (hj : j ≤ 900) (hl : l.all okDeed = true) : ruC k k l ws sf (absN k ws sf) (absS sf) (ws.map wTo) f f u u = true := by
  have h2 := okAB_iff.2 (h.le hj (by omega))
  unfold ruC
  rw [h2, hl, Nat.beq_refl, D.eqbL_self, D.eqbL_self, D.eqbL_self]
  simp
theorem same_of {k j : Nat} {ws sf : List D} {u : Bool} (h : OkA k j ws sf) (hj : j ≤ 1000) : same_pre k k ws sf (absN k ws sf) (ws.map wTo) u u = true ∧ same_v0 k ws (absN k ws sf) (ws.map wTo) u u = true := by
  have h2 := okAB_iff.2 (h.le hj (by omega))
  have hm := made_pos h.hk.1
  constructor
  · unfold same_pre smC
    rw [h2, Nat.beq_refl, D.eqbL_self, D.eqb_self, D.eqb_self, D.eqb_self]
    simp
  · unfold same_v0 size_v0 off_v0 waits_v0
    rw [hm, absN_len, List.length_map]
    simp
theorem newp_ok (n : Nat) (h1 : n ≤ 100000) : new_pre (n : Int) = true := by
  unfold new_pre
  rw [decide_eq_true (by omega), decide_eq_true (by omega), decide_eq_true (by omega), decide_eq_true (by omega)]; rfl
theorem rnewp_ok (n : Nat) (h1 : n ≤ 100000) : rnew_pre (n : Int) = true := by
  unfold rnew_pre
  rw [decide_eq_true (by omega), decide_eq_true (by omega), List.length_replicate, Nat.beq_refl]; rfl
theorem tl_true (n : Int) {l : List D} (hl : l.all okDeed = true) : tl_pre n l = true := by
  unfold tl_pre
  by_cases h1 : n < 1
  · rw [decide_eq_true h1]; rfl
  · by_cases h2 : 16384 < n
    · rw [decide_eq_true h2, Bool.true_or, Bool.or_true]
    · obtain ⟨k, rfl⟩ := Int.eq_ofNat_of_zero_le (show 0 ≤ n by omega)
      have hs : size_v0 k = (k : Int) := by unfold size_v0; rw [made_pos (by omega)]; rfl
      rw [decide_eq_false h1, decide_eq_false h2, newp_ok k (by omega), Int.toNat_natCast, hs, bne_self_eq_false]
      by_cases h3 : 20 < (k : Int)
      · rw [decide_eq_true h3]; rfl
      · have hN := new_ok k (by omega) (by omega)
        have hR := ruC_of (l := l) (f := -1) (u := false) hN (by omega) hl
        rw [new_absN, new_abs] at hR
        have hA := runA_ok (a := ([], new_v0 (k : Int), (-1 : Int), false)) hN hl (min l.length 60) (by omega) (by omega)
        obtain ⟨s1, s2⟩ := same_of (u := (runA k l ([], new_v0 (k : Int), (-1 : Int), false) (min l.length 60)).2.2.2) hA (by omega)
        rw [decide_eq_false h3, rnewp_ok k (by omega)]
        simp only [List.map_nil] at hR
        rw [hR, s1, s2]; rfl
theorem fits_wts {k : Nat} {ws : List D} (h : ∀ w ∈ ws, wtOk k w) : fits s67 ws = true := by
  unfold fits
  rw [List.all_eq_true]
  intro w hw
  obtain ⟨n, l, rfl, _, _, h3, _⟩ := h w hw
  simp only [D.shape, D.shapeL, h3]; rfl
theorem fits_secs {sf : List D} (h : ∀ d ∈ sf, secOk d) : fits (.arr .one 128) sf = true := by
  unfold fits
  rw [List.all_eq_true]
  intro w hw
  obtain ⟨l, rfl, h3, _⟩ := h w hw
  simp only [D.shape, h3]; rfl
theorem clone_of {k j : Nat} {ws sf : List D} (h : OkA k j ws sf) (f : Int) (u : Bool) : clone_pre k k ws sf f u = true := by
  have hk := h.hk
  have hj := h.hj
  have hj2 := h.hj2
  have hs := h.sl
  unfold clone_pre clb_pre
  simp only [seg_all sf (Nat.le_of_eq h.sl), fits_wts h.wo, fits_secs h.so, D.eqb_self, h.sl, Nat.beq_refl, decide_eq_true (show ws.length * 136 ≤ 35184372088832 by omega), decide_eq_true (show k * 128 ≤ 35184372088832 by omega), Nat.zero_add, Bool.and_true]
  cases k with
  | zero => omega
  | succ n => rfl
theorem ap_true {l a b : List D} (hl : l.all okDeed = true) (ha : a.all okDeed = true) (hb : b.all okDeed = true) : ap_p3 l = true ∧ ap_p4 l = true ∧ ap_p6 l a = true ∧ ap_p7 l b = true ∧ ap_p8 l a b = true := by
  have hN : OkA 5 0 [] (new_v0 5) := new_ok 5 (by omega) (by omega)
  have hR := ruC_of (l := l) (f := -1) (u := false) hN (by omega) hl
  have e1 : absN 5 [] (new_v0 5) = rnew_v0 5 := new_absN 5
  have e2 : absS (new_v0 5) = rnew_v0 5 := new_abs 5
  rw [e1, e2] at hR
  have hA := runA_ok (a := ([], new_v0 5, (-1 : Int), false)) hN hl (min l.length 40) (by omega) (by omega)
  unfold ap_p3 ap_p4 ap_p6 ap_p7 ap_p8 ap_w6v0 ap_w6v2 ap_w6v4 ap_w6v5 ap_w6v6 ap_w7v0 ap_w7v2 ap_w7v4 ap_w7v5 ap_w7v6 ap_w3v0 ap_w4v0 run_v0 run_v1 run_v2 run_v3 run_v4 run_v5
  generalize runA 5 l ([], new_v0 5, (-1 : Int), false) (min l.length 40) = W at *
  obtain ⟨ws, sf, f, u⟩ := W
  have hA1 := runA_ok (a := (ws, sf, f, u)) hA ha (min a.length 40) (by omega) (by omega)
  have hA2 := runA_ok (a := (ws, sf, f, u)) hA hb (min b.length 40) (by omega) (by omega)
  obtain ⟨s1, s2⟩ := same_of (u := (runA 5 a (ws, sf, f, u) (min a.length 40)).2.2.2) hA1 (by omega)
  obtain ⟨s3, s4⟩ := same_of (u := (runA 5 b (ws, sf, f, u) (min b.length 40)).2.2.2) hA2 (by omega)
  have hs : sf.length = 5 := hA.sl
  simp only [seg_all sf (Nat.le_of_eq hs), hs, Nat.zero_add]
  exact ⟨hR, clone_of hA f u, ruC_of hA (by omega) ha, ruC_of hA (by omega) hb, by rw [s1, s2, s3, s4]; rfl⟩
theorem tells_law (xs : List D) (h : okAll tab 8 [3, 22] xs = true) (_ : sizeDL xs ≤ 1048576) : ∃ F, FunOk Try.prog 3 F ∧ F (xs.map .dat) [] = some ([.dat (.bool true)], []) := by
  obtain ⟨x0, xs, rfl, h0, h⟩ := okAll_cons h
  obtain ⟨x1, xs, rfl, h1, h⟩ := okAll_cons h
  obtain rfl := okAll_nil h
  obtain ⟨n, rfl, _⟩ := okV_int h0 rfl rfl
  obtain ⟨l, rfl, k1⟩ := okV_slc (s := s36) h1 rfl rfl rfl
  refine ⟨_, ctl_ok, ?_⟩
  show cond (tl_pre n l) _ _ = _
  rw [tl_true n (deeds_ok k1)]
  rfl
theorem apart_law (xs : List D) (h : okAll tab 8 [22, 22, 22] xs = true) (_ : sizeDL xs ≤ 1048576) : ∃ F, FunOk Try.prog 4 F ∧ F (xs.map .dat) [] = some ([.dat (.bool true)], []) := by
  obtain ⟨x0, xs, rfl, h0, h⟩ := okAll_cons h
  obtain ⟨x1, xs, rfl, h1, h⟩ := okAll_cons h
  obtain ⟨x2, xs, rfl, h2, h⟩ := okAll_cons h
  obtain rfl := okAll_nil h
  obtain ⟨l, rfl, k0⟩ := okV_slc (s := s36) h0 rfl rfl rfl
  obtain ⟨a, rfl, k1⟩ := okV_slc (s := s36) h1 rfl rfl rfl
  obtain ⟨b, rfl, k2⟩ := okV_slc (s := s36) h2 rfl rfl rfl
  refine ⟨_, cap_ok, ?_⟩
  obtain ⟨g1, g2, g3, g4, g5⟩ := ap_true (deeds_ok k0) (deeds_ok k1) (deeds_ok k2)
  show cond (ap_p3 l) (cond (ap_p4 l) (cond (ap_p6 l a) (cond (ap_p7 l b) (cond (ap_p8 l a b) _ _) _) _) _) _ = _
  rw [g1, g2, g3, g4, g5]
  rfl
end Go.Proofs.Ythhipekbkodjoaa
