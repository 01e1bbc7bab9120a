/- Seat 03: NameClean is true. -/
import Derived.Test.YtniombjfbdojjaaDoorL
import Derived.Test.YtniombjfbdojjaaDoorAx24
namespace Go.Proofs.YtniombjfbdojjaaDoor
open Go.AX
set_option maxRecDepth 100000
abbrev sg (x : UInt8) : Bool := sign_v0 ((x.toNat : Nat) : Int)
theorem sall_is (s : ByteArray) : sall_v0 s = (tl s).all sg := by
  have e : (bytesD s).any (fun d => nsign_v0 (D.getI d)) = !(tl s).all sg := by
    rw [List.not_all_eq_any_not]
    unfold bytesD
    rw [List.any_map]; rfl
  unfold sall_v0 cfs_v0 ib_idx
  rw [seg_full, e]
  cases (tl s).all sg with
  | true => rfl
  | false => rw [Bool.not_false, cond_true, decide_eq_true (by omega)]; rfl
theorem nright_ok {s : ByteArray} (h : okS s = true) : nright_pre s = true := by
  have hs := okS_iff.1 h
  have hp : sall_pre s = true := by
    unfold sall_pre ib_okL
    rw [seg_full, bytes_okE, okE_int_fits (bytes_okE s), decide_eq_true (show (bytesD s).length ≤ 1099511627776 by rw [bytes_len]; exact hs), Nat.beq_refl, decide_eq_true (by omega)]; rfl
  unfold nright_pre
  rw [hp]
  by_cases h0 : (s.size : Int) < 1
  · rw [decide_eq_true h0]; rfl
  · have hl : 0 < (tl s).length := by rw [tl_len]; omega
    rw [decide_eq_true hl]; simp
theorem sg_facts {x : UInt8} (h : sg x = true) : pl x = true ∧ isB 32 x = false := by
  unfold sg sign_v0 small_v0 digit_v0 at h
  rw [Bool.or_eq_true, Bool.and_eq_true, Bool.and_eq_true, decide_eq_true_eq, decide_eq_true_eq, decide_eq_true_eq, decide_eq_true_eq] at h
  refine ⟨?_, ?_⟩
  · unfold pl plain_v0
    rw [decide_eq_true (by omega), decide_eq_true (by omega)]; rfl
  · have : ((x.toNat : Nat) : Int) ≠ 32 := by omega
    simpa [isB] using this
theorem right_text {s : ByteArray} (h : nright_v0 s = true) : txB (tl s) = true := by
  unfold nright_v0 at h
  rw [sall_is] at h
  simp only [Bool.and_eq_true, Bool.not_eq_true', decide_eq_false_iff_not] at h
  obtain ⟨h1, h2, _, h3⟩ := h
  rw [List.all_eq_true] at h3
  have hl := tl_len s
  refine txB_iff.2 ⟨by omega, by omega, ?_, tr_none fun x hx => (sg_facts (h3 x hx)).2⟩
  rw [List.all_eq_true]
  exact fun x hx => (sg_facts (h3 x hx)).1
theorem clean_true {s : ByteArray} (h : okS s = true) : FunT.run C_nc [.dat (.str s)] [] = some ([.dat (.bool true)], []) := by
  have hs := okS_iff.1 h
  have hl := clL_len (tl s)
  have hc : okS (mkS (clL (tl s))) = true := by refine okS_iff.2 ?_; rw [mkS_size]; omega
  have e : ∀ l : List UInt8, tl (mkS l) = l := fun l => rfl
  have hx : (decide (clL (tl s) = []) || okS (mkS (clL (tl s))) && txB (tl (mkS (clL (tl s))))) = true := by
    rw [hc, e]
    by_cases h0 : clL (tl s) = []
    · rw [decide_eq_true h0]; rfl
    · rw [decide_eq_false h0, text_clean h0]; rfl
  have p1 : nc_p1 s = true := h
  have p2 : nc_p2 s = true := by
    unfold nc_p2
    rw [nright_ok h, h, hx]
    cases hn : nright_v0 s with
    | true =>
      have ht := right_text hn
      rw [ht, clean_text ht, decide_eq_true rfl]; rfl
    | false =>
      cases ht : txB (tl s) with
      | true => rw [clean_text ht, decide_eq_true rfl]; rfl
      | false => rfl
  have p3 : nc_p3 s = true := by
    unfold nc_p3
    have e2 : ((mkS (clL (tl s))).size : Int) ≤ (s.size : Int) := by rw [mkS_size]; have := tl_len s; omega
    rw [hc, e, clL_twice, decide_eq_true rfl, decide_eq_true e2]; rfl
  show T.run (.chk (nc_p1 s) (.chk (nc_p2 s) (.chk (nc_p3 s) (.leaf ([AV.dat (.bool true)], ([] : Store)))))) = _
  rw [p1, p2, p3]; rfl
theorem clean_law (xs : List D) (h : okAll tab 8 [9] xs = true) (hs : sizeDL xs ≤ 1048576) : ∃ F, FunOk Tryd.prog 5 F ∧ F (xs.map .dat) [] = some ([.dat (.bool true)], []) := by
  obtain ⟨x0, xs, rfl, h0, h⟩ := okAll_cons h
  obtain rfl := okAll_nil h
  obtain ⟨v, rfl⟩ := okV_str h0 rfl rfl
  simp only [sizeDL, sizeD] at hs
  exact ⟨_, cnc_ok, clean_true (okS_iff.2 (by omega))⟩
end Go.Proofs.YtniombjfbdojjaaDoor
