/- Seat 07: what may be, as something that is told; deeds. -/
import Derived.Test.YthhipekbkodjoaaL
namespace Go.Proofs.Ythhipekbkodjoaa
open Go.AX
set_option maxRecDepth 100000
def secB (d : D) : Bool := okSec d && isBytes (D.getL d)
def wtB (k : Nat) (w : D) : Bool := okWk k w && isBytes (wWas w)
def okAB (k j : Nat) (ws sf : List D) : Bool := decide (0 < k) && decide (k ≤ 100000) && decide (ws.length ≤ j) && decide (j ≤ 1000) && Nat.beq sf.length k && sf.all secB && ws.all (wtB k)
theorem secB_iff {d : D} : secB d = true ↔ secOk d := by
  constructor
  · intro h
    simp only [secB, okSec, Bool.and_eq_true, beq_iff_eq] at h
    obtain ⟨⟨h1, h2⟩, h3⟩ := h
    obtain ⟨l, rfl⟩ := okE_arr (s := .one) (d := d) h1
    exact ⟨l, rfl, h2, h3⟩
  · rintro ⟨l, rfl, h1, h2⟩
    simp only [secB, okSec, D.getL, h1, h2]
    rfl
theorem wtB_iff {k : Nat} {w : D} : wtB k w = true ↔ wtOk k w := by
  constructor
  · intro h
    simp only [wtB, okWk, okW, Bool.and_eq_true, beq_iff_eq, decide_eq_true_eq] at h
    obtain ⟨⟨⟨h1, h2⟩, h3, h4, h5⟩, h6⟩ := h
    obtain ⟨a, b, rfl, g1, g2⟩ := okE_agg2 h1
    obtain ⟨n, rfl⟩ := okE_int g1
    obtain ⟨l, rfl⟩ := okE_arr g2
    exact ⟨n, l, rfl, h3, h4, h2, h6⟩
  · rintro ⟨n, l, rfl, h1, h2, h3, h4⟩
    have e : wWas (.agg [.int .i64 n, .arr .one l]) = l := rfl
    have e2 : wAt (.agg [.int .i64 n, .arr .one l]) = n := rfl
    simp only [wtB, okWk, okW, e, e2, h3, h4, decide_eq_true h1, decide_eq_true h2, isBytes_fits h4]
    rfl
theorem okAB_iff {k j : Nat} {ws sf : List D} : okAB k j ws sf = true ↔ OkA k j ws sf := by
  simp only [okAB, Bool.and_eq_true, decide_eq_true_eq, List.all_eq_true, secB_iff, wtB_iff, Nat.beq_eq]
  constructor
  · rintro ⟨⟨⟨⟨⟨⟨h1, h2⟩, h3⟩, h4⟩, h5⟩, h6⟩, h7⟩
    exact ⟨⟨h1, h2⟩, h3, h4, h5, h6, h7⟩
  · rintro ⟨⟨h1, h2⟩, h3, h4, h5, h6, h7⟩
    exact ⟨⟨⟨⟨⟨⟨h1, h2⟩, h3⟩, h4⟩, h5⟩, h6⟩, h7⟩
abbrev kd (w : D) : Int := D.getI (nthD (D.getL w) 0)
abbrev kn (w : D) : Int := D.getI (nthD (D.getL w) 1)
abbrev kb (w : D) : List D := D.getL (nthD (D.getL w) 2)
def okDeed (w : D) : Bool := okE (.agg [.int .i64, .int .i64, .slc .one]) w && (kb w).all okU8
abbrev A := List D × List D × Int × Bool
theorem okU8_bytes {b : List D} (h : b.all okU8 = true) : isBytes b = true := by
  unfold isBytes
  rw [List.all_eq_true] at h ⊢
  intro d hd
  have := h d hd
  simp only [okU8, Bool.and_eq_true] at this
  exact this.1
end Go.Proofs.Ythhipekbkodjoaa
