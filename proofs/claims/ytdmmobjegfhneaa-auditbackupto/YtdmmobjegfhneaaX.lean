/- Seat 20: AuditBack is true. -/
import Derived.Test.YtdmmobjegfhneaaW
import Derived.Test.YtdmmobjegfhneaaRA
namespace Go.Proofs.Ytdmmobjegfhneaa
open Go.AX
set_option maxRecDepth 100000
theorem ok_bytes {n t : Nat} {l : List D} (ht : ∀ d, okV tab n t d = true → ∃ k, d = w8 k ∧ (Lit.int .u8 k).wf = true) (h : l.all (okV tab n t) = true) : l.all okU8 = true := by
  rw [List.all_eq_true] at h ⊢
  intro d hd
  obtain ⟨k, rfl, hk⟩ := ht d (h d hd)
  simp [Lit.wf, IntKind.min, IntKind.max, IntKind.signed, IntKind.bits] at hk
  have h3 : 0 ≤ k ∧ k ≤ 255 := by omega
  show (true && (decide (0 ≤ k) && decide (k ≤ 255))) = true
  rw [decide_eq_true h3.1, decide_eq_true h3.2]; rfl
theorem isBytes_ok {b : List D} (h : b.all okU8 = true) : isBytes b = true := okU8_bytes h
theorem isBytes_byD (r li la wh si ba qu qt pr sl : Int) : isBytes (byD r li la wh si ba qu qt pr sl) = true := by
  unfold byD; cases may_v0 r li la wh si ba qu qt pr sl <;> rfl
theorem read_ok {b : List D} (h : okB b = true) (hr : reR b = 0) : bb_t1 b = reE b ∧ bb_t6 b = true ∧ bb_t2 b = b ∧ u64 (reF b 0 8) = true := by
  unfold reR at hr
  rcases (by omega : b.length < 31 ∨ b.length = 31 ∨ 31 < b.length) with hl | hl | hl
  · rw [decide_eq_true hl, cond_true] at hr; exact absurd hr (by decide)
  · rw [decide_eq_false (by omega), decide_eq_false (by omega), cond_false, cond_false] at hr
    cases hm : mayD (reE b) with
    | false => rw [hm, cond_false] at hr; exact absurd hr (by decide)
    | true =>
      have hG : reG b = true := by unfold reG; rw [hm, hl]; rfl
      have e : ∀ k n, reF b k n = nb b k n := fun k n => by rw [reF, hG, cond_true]
      have h1 : bb_t1 b = reE b := by unfold bb_t1 reE; simp only [e]
      have h6 : bb_t6 b = true := by unfold bb_t6; simp only [e]; exact hm
      refine ⟨h1, h6, ?_, by rw [e]; exact nb_u64 h 0⟩
      have h2 : bb_t2 b = byL (nb b 0 8) (nb b 8 1) (nb b 9 1) (nb b 10 1) (nb b 11 1) (nb b 12 1) (nb b 13 1) (nb b 14 8) (nb b 22 8) (nb b 30 1) := by
        unfold bb_t6 at h6
        unfold bb_t2
        rw [byD, h6, cond_true]; simp only [e]
      rw [h2]
      simp only [okB, Bool.and_eq_true] at h
      exact byL_reE h.1 hl
  · rw [decide_eq_false (by omega), decide_eq_true hl, cond_true, cond_false] at hr; exact absurd hr (by decide)
theorem back_true {l b : List D} {m : Int} (h : l.all okU = true) (hb : okB b = true) :
    FunT.run C_bb [.dat (.slc s25 l), .dat (.int .i64 m), .dat (.slc .one b)] [] = some ([.dat (.bool true)], []) := by
  obtain ⟨g1, g2, g3⟩ := logS_ok (m := m) h (min l.length 60) (by omega)
  have p3 : bb_p3 l m = true := by
    show ((logS l m (min l.length 60)).all okX && decide ((logS l m (min l.length 60)).length ≤ 1000)) = true
    rw [g1, decide_eq_true (by omega)]; rfl
  have hL : okL (logS l m (min l.length 60)) = true := by rw [okL, okX_en g1, decide_eq_true (show (logS l m (min l.length 60)).length ≤ 1099511627776 by omega)]; rfl
  have r1 : rg_pre (bb_t4 l m) = true := by
    show rg_pre (logS l m (min l.length 60)) = true
    unfold rg_pre; rw [D.eqbL_self, hL, decide_eq_true rfl]; rfl
  have r2 : rg_v0 (bb_t4 l m) = true := g2
  have hbb := hb
  simp only [okB, Bool.and_eq_true] at hbb
  have hq : bb_p5 l b m = true ∧ bb_w5v0 b = true := by
    unfold bb_p5 bb_w5v0
    rw [r1, r2]
    cases hr : reR b != 0 with
    | true => exact ⟨rfl, rfl⟩
    | false =>
      obtain ⟨q1, q2, q3, q4⟩ := read_ok hb (by simpa using hr)
      have q5 : isBytes (bb_t2 b) = true := isBytes_byD _ _ _ _ _ _ _ _ _ _
      rw [q2, q1, mayR hb, q4, q5, isBytes_ok hbb.1, q3, decide_eq_true rfl]; exact ⟨rfl, rfl⟩
  show T.run (.chk (l.all okU) (.chk (bb_p3 l m) (.chk (okB b) (.chk (bb_p5 l b m) (.leaf ([AV.dat (.bool (bb_w5v0 b))], ([] : Store))))))) = _
  rw [h, p3, hb, hq.1, hq.2]; rfl
theorem back_law (xs : List D) (h : okAll tab 8 [22, 3, 34] xs = true) (hs : sizeDL xs ≤ 1048576) : ∃ F, FunOk Try.prog 5 F ∧ F (xs.map .dat) [] = some ([.dat (.bool true)], []) := by
  obtain ⟨x0, xs, rfl, h0, h⟩ := okAll_cons h
  obtain ⟨x1, xs, rfl, h1, h⟩ := okAll_cons h
  obtain ⟨x2, xs, rfl, h2, h⟩ := okAll_cons h
  obtain rfl := okAll_nil h
  obtain ⟨l, rfl, k0⟩ := okV_slc (s := s25) h0 rfl rfl rfl
  obtain ⟨m, rfl, _⟩ := okV_int h1 rfl rfl
  obtain ⟨b, rfl, kb⟩ := okV_slc (s := .one) h2 rfl rfl rfl
  simp only [sizeDL, sizeD] at hs
  have := length_sizeDL b
  refine ⟨_, cbb_ok, back_true ?_ ?_⟩
  · rw [List.all_eq_true] at k0 ⊢
    intro d hd
    have e := ok_en (k0 d hd)
    obtain ⟨r, li, la, wh, si, ba, qu, qt, pr, sl, rfl, q0, _⟩ := ok_ent (k0 d hd)
    rw [okU, e]; exact q0
  · simp only [okB, decide_eq_true (show b.length ≤ 1099511627776 by omega), Bool.and_true]
    exact ok_bytes (fun d hd => okV_int hd rfl rfl) kb
end Go.Proofs.Ytdmmobjegfhneaa
