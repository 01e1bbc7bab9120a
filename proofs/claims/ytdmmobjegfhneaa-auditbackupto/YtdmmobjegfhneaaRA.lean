/- Seat 20: arguments that may be. -/
import Derived.Test.YtdmmobjegfhneaaO
import Derived.Test.YtdmmobjegfhneaaAx24
namespace Go.Proofs.Ytdmmobjegfhneaa
open Go.AX
set_option maxRecDepth 100000
theorem wf_u64 {n : Int} (h : (Lit.int .u64 n).wf = true) : u64 n = true := by
  simp [Lit.wf, IntKind.min, IntKind.max, IntKind.signed, IntKind.bits] at h
  rw [u64_iff]; omega
theorem ok_ent {n : Nat} {d : D} (h : okV tab (n + 2) 25 d = true) : ∃ r li la wh si ba qu qt pr sl, d = entD r li la wh si ba qu qt pr sl ∧ u64 r = true ∧ u64 qt = true ∧ u64 pr = true := by
  obtain ⟨l, rfl, h⟩ := okV_struct h rfl rfl
  obtain ⟨x0, l, rfl, h0, h⟩ := okVL_cons h
  obtain ⟨x1, l, rfl, h1, h⟩ := okVL_cons h
  obtain ⟨x2, l, rfl, h2, h⟩ := okVL_cons h
  obtain ⟨x3, l, rfl, h3, h⟩ := okVL_cons h
  obtain ⟨x4, l, rfl, h4, h⟩ := okVL_cons h
  obtain ⟨x5, l, rfl, h5, h⟩ := okVL_cons h
  obtain ⟨x6, l, rfl, h6, h⟩ := okVL_cons h
  obtain ⟨x7, l, rfl, h7, h⟩ := okVL_cons h
  obtain ⟨x8, l, rfl, h8, h⟩ := okVL_cons h
  obtain ⟨x9, l, rfl, h9, h⟩ := okVL_cons h
  obtain rfl := okVL_nil h
  obtain ⟨r, rfl, q0⟩ := okV_int h0 rfl rfl
  obtain ⟨li, rfl, _⟩ := okV_int h1 rfl rfl
  obtain ⟨la, rfl, _⟩ := okV_int h2 rfl rfl
  obtain ⟨wh, rfl, _⟩ := okV_int h3 rfl rfl
  obtain ⟨si, rfl, _⟩ := okV_int h4 rfl rfl
  obtain ⟨ba, rfl, _⟩ := okV_int h5 rfl rfl
  obtain ⟨qu, rfl, _⟩ := okV_int h6 rfl rfl
  obtain ⟨qt, rfl, q7⟩ := okV_int h7 rfl rfl
  obtain ⟨pr, rfl, q8⟩ := okV_int h8 rfl rfl
  obtain ⟨sl, rfl, _⟩ := okV_int h9 rfl rfl
  exact ⟨r, li, la, wh, si, ba, qu, qt, pr, sl, rfl, wf_u64 q0, wf_u64 q7, wf_u64 q8⟩
theorem ok_en {n : Nat} {d : D} (h : okV tab (n + 2) 25 d = true) : okEn d = true := by
  obtain ⟨r, li, la, wh, si, ba, qu, qt, pr, sl, rfl, _, h7, h8⟩ := ok_ent h
  show (true && (u64 qt && u64 pr)) = true
  rw [h7, h8]; rfl
theorem ok_log {n : Nat} {l : List D} (h : l.all (okV tab (n + 2) 25) = true) : l.all okEn = true := by
  rw [List.all_eq_true] at h ⊢
  exact fun d hd => ok_en (h d hd)
end Go.Proofs.Ytdmmobjegfhneaa
