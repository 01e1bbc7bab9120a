/- Seat 17: what comes of Put and of Toss. -/
import Derived.Test.YtggellmbhgkckaaDoorK
import Derived.Test.YtggellmbhgkckaaDoorAx22
namespace Go.Proofs.YtggellmbhgkckaaDoor
open Go.AX
set_option maxRecDepth 100000
abbrev nilM : D := tM false 0 0 0 ⟨⟨[]⟩⟩
theorem ipt_is {ls : List D} (h1 : ls.all (okE k23) = true) (_hl : ls.length ≤ 1048576) {i : Nat} (hi : i < ls.length) (u : Bool) (la fm to : Int) (s : ByteArray) :
    ipt_v0 ls (i : Int) u la fm to s = ls.set i (tM u la fm to s) ∧ ipt_v1 ls (i : Int) = 0 ∧ ipt_pre ls (i : Int) u la fm to s = true := by
  obtain ⟨u', a', b', c', s', hform⟩ := k23_form (allE_nth h1 hi)
  have hne : ls.isEmpty = false := by cases ls with | nil => simp at hi | cons => rfl
  have d0 : decide ((i : Int) < 0) = false := decide_eq_false (by omega)
  have d1 : decide ((ls.length : Int) ≤ (i : Int)) = false := decide_eq_false (by omega)
  refine ⟨by unfold ipt_v0; rw [d0, d1, cond_false, cond_false, Int.toNat_natCast, Nat.zero_add, seg_set], by unfold ipt_v1; rw [d0, d1]; rfl, ?_⟩
  unfold ipt_pre
  simp only [d0, d1, k23_fits h1, hne, hform, Int.toNat_natCast, Nat.zero_add, decide_eq_true hi, beq_self, List.length_set, decide_eq_true (show ls.length * 48 ≤ 35184372088832 by omega), decide_eq_true (show (0 : Int) ≤ (i : Int) by omega), decide_eq_true (show (i : Int) < (ls.length : Int) by omega), Bool.not_false, Bool.and_true, Bool.false_or]
  rfl
def freeM (d : D) : Bool := !D.getB (nthD (D.getL d) 0)
theorem put_is {ls : List D} (h : ls.all okM = true) (hl : ls.length ≤ 1048576) (la fm to : Int) {s : ByteArray} (hs : okS s = true) :
    put_pre ls la fm to s = true ∧ (put_v2 ls la fm to s = 0 → right_v0 ls = true ∧ ∃ j : Nat, j < ls.length ∧ fU (nthD ls j) = false ∧ wrD (tM true la fm to s) = false ∧
      put_v0 ls la fm to s = ls.set j (tM true la fm to s) ∧ put_v1 ls la fm to s = (j : Int)) ∧ (put_v2 ls la fm to s ≠ 0 → put_v0 ls la fm to s = []) := by
  have h1 := okM_k h
  have hj : ij_okL ls ls = true := by unfold ij_okL; rw [h1, decide_eq_true (by omega)]; rfl
  have hi : ij_idx ls ls = bif ls.any freeM then ((ls.findIdx freeM : Nat) : Int) else -1 := rfl
  have ht := text_ok hs
  cases hz : ls.any freeM with
  | false =>
    rw [hz, cond_false] at hi
    have e1 : ifs_v1 ls = 8 := by unfold ifs_v1; rw [hi]; rfl
    have p : iad_pre ls true la fm to s = true := by unfold iad_pre; rw [e1, hj]; rfl
    have v2 : iad_v2 ls = 8 := by unfold iad_v2; rw [e1]; rfl
    have v0 : iad_v0 ls true la fm to s = [] := by unfold iad_v0; rw [e1]; rfl
    unfold put_pre put_v2 put_v0
    rw [p, v2, v0, iwL_ok h hl, iof_ok h1 hl, D.eqb_self, ht]
    refine ⟨by simp, fun h => ?_, fun _ => ?_⟩
    · cases hr : right_v0 ls <;> cases hm : nums_v0 la fm to <;> cases hx : text_v0 s <;> rw [hr, hm, hx] at h <;> simp at h
    · cases right_v0 ls <;> cases nums_v0 la fm to <;> cases text_v0 s <;> rfl
  | true =>
    rw [hz, cond_true] at hi
    have d0 : decide (((ls.findIdx freeM : Nat) : Int) < 0) = false := decide_eq_false (by omega)
    have e1 : ifs_v1 ls = 0 := by unfold ifs_v1; rw [hi, d0]; rfl
    have e0 : ifs_v0 ls = ((ls.findIdx freeM : Nat) : Int) := by unfold ifs_v0; rw [hi, d0]; rfl
    obtain ⟨p0, p1, p2⟩ := ipt_is h1 hl (findIdx_lt hz) true la fm to s
    have p : iad_pre ls true la fm to s = true := by unfold iad_pre; rw [e0, p2, hj]; simp
    have v0 : iad_v0 ls true la fm to s = ls.set (ls.findIdx freeM) (tM true la fm to s) := by unfold iad_v0; rw [e1, e0, p0]; rfl
    have v1 : iad_v1 ls = ((ls.findIdx freeM : Nat) : Int) := by unfold iad_v1; rw [e1, e0]; rfl
    have v2 : iad_v2 ls = 0 := by unfold iad_v2; rw [e1, e0, p1]; rfl
    have hf := findIdx_at hz
    have hw : nums_v0 la fm to = true → text_v0 s = true → wrD (tM true la fm to s) = false := fun a b => by
      show (!nums_v0 la fm to || !text_v0 s) = false
      rw [a, b]; rfl
    unfold put_pre put_v2 put_v0 put_v1
    rw [p, v0, v1, v2, iwL_ok h hl, iof_ok h1 hl, D.eqb_self, ht]
    refine ⟨by simp, fun h => ?_, fun h => ?_⟩
    · cases hr : right_v0 ls <;> cases hm : nums_v0 la fm to <;> cases hx : text_v0 s <;> rw [hr, hm, hx] at h <;> simp at h
      refine ⟨rfl, ls.findIdx freeM, findIdx_lt hz, ?_, hw hm hx, rfl, rfl⟩
      have hf : (!fU (nthD ls (ls.findIdx freeM))) = true := hf
      simpa using hf
    · cases hr : right_v0 ls <;> cases hm : nums_v0 la fm to <;> cases hx : text_v0 s <;> rw [hr, hm, hx] at h <;> first | rfl | exact absurd rfl h
theorem toss_is {ls : List D} (h : ls.all okM = true) (hl : ls.length ≤ 1048576) (i w : Int) :
    toss_pre ls i w = true ∧ (toss_v1 ls i w = 0 → right_v0 ls = true ∧ ∃ j : Nat, i = (j : Int) ∧ j < ls.length ∧ fU (nthD ls j) = true ∧ fI (nthD ls j) 3 = w ∧ toss_v0 ls i w = ls.set j nilM) := by
  have h1 := okM_k h
  have hh : ∀ i : Int, ihas_v0 ls i = true → ∃ j : Nat, i = (j : Int) ∧ j < ls.length ∧ fU (nthD ls j) = true := fun i hi => by
    unfold ihas_v0 at hi
    simp only [Bool.and_eq_true, decide_eq_true_eq] at hi
    exact ⟨i.toNat, by omega, by omega, hi.2.2⟩
  have gp : gett_pre ls i = true := by
    unfold gett_pre
    rw [iof_ok h1 hl, has_pre h1]
    cases hi : ihas_v0 ls i with
    | false => rfl
    | true =>
      obtain ⟨j, rfl, hj, _⟩ := hh i hi
      rw [Int.toNat_natCast, decide_eq_true hj, allE_nth h1 hj, decide_eq_true (show (0 : Int) ≤ (j : Int) by omega)]; rfl
  have g5 : gett_v5 ls i w = 0 → ∃ j : Nat, i = (j : Int) ∧ j < ls.length ∧ fU (nthD ls j) = true ∧ fI (nthD ls j) 3 = w := fun g => by
    unfold gett_v5 at g
    cases hi : ihas_v0 ls i with
    | false => rw [hi] at g; exact absurd g (by simp)
    | true =>
      obtain ⟨j, rfl, hj, hu⟩ := hh i hi
      rw [hi, cond_true, Int.toNat_natCast] at g
      refine ⟨j, rfl, hj, hu, ?_⟩
      cases hw : (fI (nthD ls j) 3 != w) with
      | true => rw [hw, cond_true] at g; exact absurd g (by decide)
      | false => simpa using hw
  unfold toss_pre toss_v1 toss_v0
  rw [iwL_ok h hl, gp, iof_ok h1 hl]
  cases hg : (gett_v5 ls i w != 0) with
  | true =>
    refine ⟨by simp, fun g => ?_⟩
    cases hr : right_v0 ls with
    | false => rw [hr] at g; exact absurd g (by simp)
    | true =>
      rw [hr, cond_true, cond_true] at g
      rw [g] at hg; exact absurd hg (by decide)
  | false =>
    have g0 : gett_v5 ls i w = 0 := by simpa using hg
    obtain ⟨j, rfl, hj, hu, hw⟩ := g5 g0
    obtain ⟨p0, p1, p2⟩ := ipt_is h1 hl hj false 0 0 0 ⟨⟨[]⟩⟩
    rw [p2, p1, p0]
    refine ⟨by simp, fun g => ?_⟩
    cases hr : right_v0 ls with
    | false => rw [hr] at g; exact absurd g (by simp)
    | true => exact ⟨rfl, j, rfl, hj, hu, hw, rfl⟩
end Go.Proofs.YtggellmbhgkckaaDoor
