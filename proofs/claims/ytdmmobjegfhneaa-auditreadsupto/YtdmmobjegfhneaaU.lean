/- Seat 20: AuditReads is true. -/
import Derived.Test.YtdmmobjegfhneaaS
import Derived.Test.YtdmmobjegfhneaaRA
namespace Go.Proofs.Ytdmmobjegfhneaa
open Go.AX
set_option maxRecDepth 100000
theorem ok_bytes {n t : Nat} {l : List D} (ht : ∀ d, okV tab n t d = true → ∃ k, d = w8 k ∧ (Lit.int .u8 k).wf = true) (h : l.all (okV tab n t) = true) : l.all okU8 = true := by
  rw [List.all_eq_true] at h ⊢
  intro d hd
  obtain ⟨k, rfl, hk⟩ := ht d (h d hd)
  simp [Lit.wf, IntKind.min, IntKind.max, IntKind.signed, IntKind.bits] at hk
  have h3 : 0 ≤ k ∧ k ≤ 255 := by omega
  show (true && (decide (0 ≤ k) && decide (k ≤ 255))) = true
  rw [decide_eq_true h3.1, decide_eq_true h3.2]; rfl
theorem isBytes_byD (r li la wh si ba qu qt pr sl : Int) : isBytes (byD r li la wh si ba qu qt pr sl) = true := by
  unfold byD; cases may_v0 r li la wh si ba qu qt pr sl <;> rfl
theorem reads_true {ro li la wh si ba qu qt pr sl : Int} {b : List D} (h : okEn (entD ro li la wh si ba qu qt pr sl) = true) (h0 : u64 ro = true) (hb : okB b = true) :
    FunT.run C_ar [.dat (entD ro li la wh si ba qu qt pr sl), .dat (.slc .one b)] [] = some ([.dat (.bool true)], []) := by
  have p3 : ar_p3 ro li la wh si ba qu qt pr sl b = true := by
    unfold ar_p3
    rw [h, h0, isBytes_byD, D.eqb_self, decide_eq_true rfl]
    simp only [beq_self_eq_true, Bool.and_true]
  show T.run (.chk (okB b) (.chk (okB b) (.chk (ar_p3 ro li la wh si ba qu qt pr sl b) _))) = _
  rw [T.run_chk, T.run_chk, T.run_chk, p3, hb]; rfl
theorem reads_law (xs : List D) (h : okAll tab 8 [25, 34] xs = true) (hs : sizeDL xs ≤ 1048576) : ∃ F, FunOk Try.prog 4 F ∧ F (xs.map .dat) [] = some ([.dat (.bool true)], []) := by
  obtain ⟨x0, xs, rfl, h0, h⟩ := okAll_cons h
  obtain ⟨x1, xs, rfl, h1, h⟩ := okAll_cons h
  obtain rfl := okAll_nil h
  have k2 := ok_en h0
  obtain ⟨r, li, la, wh, si, ba, qu, qt, pr, sl, rfl, k0, _⟩ := ok_ent h0
  obtain ⟨b, rfl, kb⟩ := okV_slc (s := .one) h1 rfl rfl rfl
  simp only [sizeDL, sizeD] at hs
  have := length_sizeDL b
  refine ⟨_, car_ok, reads_true k2 k0 ?_⟩
  simp only [okB, decide_eq_true (show b.length ≤ 1099511627776 by omega), Bool.and_true]
  exact ok_bytes (fun d hd => okV_int hd rfl rfl) kb
end Go.Proofs.Ytdmmobjegfhneaa
