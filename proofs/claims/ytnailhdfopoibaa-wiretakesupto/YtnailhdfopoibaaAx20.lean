import Derived.Test.YtnailhdfopoibaaAx6
import Derived.Test.YtnailhdfopoibaaAx18
import Derived.Test.YtnailhdfopoibaaAx19
/- AX, part 24a: what operations depend on. -/
namespace Go.AX

mutual
theorem D.eq_of_eqb : ∀ {a b : D}, D.eqb a b = true → a = b
  | .int k n, .int k' n', h => by simp only [D.eqb, Bool.and_eq_true, decide_eq_true_eq] at h; rw [h.1, h.2]
  | .bool a, .bool b, h => by simp only [D.eqb, beq_iff_eq] at h; rw [h]
  | .str a, .str b, h => by
    simp only [D.eqb, decide_eq_true_eq] at h
    have : a.data = b.data := Array.toList_inj.1 h
    cases a; cases b; simp_all
  | .nilp, .nilp, _ => rfl
  | .nilf, .nilf, _ => rfl
  | .nili, .nili, _ => rfl
  | .nilm, .nilm, _ => rfl
  | .agg l, .agg l', h => by rw [D.eqb] at h; rw [D.eqL_of_eqb h]
  | .arr s l, .arr s' l', h => by simp only [D.eqb, Bool.and_eq_true] at h; rw [Sh.eq_of_eqb h.1, D.eqL_of_eqb h.2]
  | .slc s l, .slc s' l', h => by simp only [D.eqb, Bool.and_eq_true] at h; rw [Sh.eq_of_eqb h.1, D.eqL_of_eqb h.2]
  | .vptr s d, .vptr s' d', h => by simp only [D.eqb, Bool.and_eq_true] at h; rw [Sh.eq_of_eqb h.1, D.eq_of_eqb h.2]
  | .fn f a b, .fn f' a' b', h => by simp only [D.eqb, Bool.and_eq_true, decide_eq_true_eq] at h; rw [h.1.1, D.eqL_of_eqb h.1.2, D.eqL_of_eqb h.2]
  | .ifc t d, .ifc t' d', h => by simp only [D.eqb, Bool.and_eq_true] at h; rw [Nat.eq_of_beq_eq_true h.1, D.eq_of_eqb h.2]
  | .int .., .bool _, h | .int .., .str _, h | .int .., .nilp, h | .int .., .nilf, h | .int .., .nili, h | .int .., .nilm, h | .int .., .agg _, h | .int .., .arr .., h | .int .., .slc .., h | .int .., .vptr .., h | .int .., .fn .., h | .int .., .ifc .., h => by simp [D.eqb] at h
  | .bool .., .int .., h | .bool .., .str _, h | .bool .., .nilp, h | .bool .., .nilf, h | .bool .., .nili, h | .bool .., .nilm, h | .bool .., .agg _, h | .bool .., .arr .., h | .bool .., .slc .., h | .bool .., .vptr .., h | .bool .., .fn .., h | .bool .., .ifc .., h => by simp [D.eqb] at h
  | .str .., .int .., h | .str .., .bool _, h | .str .., .nilp, h | .str .., .nilf, h | .str .., .nili, h | .str .., .nilm, h | .str .., .agg _, h | .str .., .arr .., h | .str .., .slc .., h | .str .., .vptr .., h | .str .., .fn .., h | .str .., .ifc .., h => by simp [D.eqb] at h
  | .nilp, .int .., h | .nilp, .bool _, h | .nilp, .str _, h | .nilp, .nilf, h | .nilp, .nili, h | .nilp, .nilm, h | .nilp, .agg _, h | .nilp, .arr .., h | .nilp, .slc .., h | .nilp, .vptr .., h | .nilp, .fn .., h | .nilp, .ifc .., h => by simp [D.eqb] at h
  | .nilf, .int .., h | .nilf, .bool _, h | .nilf, .str _, h | .nilf, .nilp, h | .nilf, .nili, h | .nilf, .nilm, h | .nilf, .agg _, h | .nilf, .arr .., h | .nilf, .slc .., h | .nilf, .vptr .., h | .nilf, .fn .., h | .nilf, .ifc .., h => by simp [D.eqb] at h
  | .nili, .int .., h | .nili, .bool _, h | .nili, .str _, h | .nili, .nilp, h | .nili, .nilf, h | .nili, .nilm, h | .nili, .agg _, h | .nili, .arr .., h | .nili, .slc .., h | .nili, .vptr .., h | .nili, .fn .., h | .nili, .ifc .., h => by simp [D.eqb] at h
  | .nilm, .int .., h | .nilm, .bool _, h | .nilm, .str _, h | .nilm, .nilp, h | .nilm, .nilf, h | .nilm, .nili, h | .nilm, .agg _, h | .nilm, .arr .., h | .nilm, .slc .., h | .nilm, .vptr .., h | .nilm, .fn .., h | .nilm, .ifc .., h => by simp [D.eqb] at h
  | .agg .., .int .., h | .agg .., .bool _, h | .agg .., .str _, h | .agg .., .nilp, h | .agg .., .nilf, h | .agg .., .nili, h | .agg .., .nilm, h | .agg .., .arr .., h | .agg .., .slc .., h | .agg .., .vptr .., h | .agg .., .fn .., h | .agg .., .ifc .., h => by simp [D.eqb] at h
  | .arr .., .int .., h | .arr .., .bool _, h | .arr .., .str _, h | .arr .., .nilp, h | .arr .., .nilf, h | .arr .., .nili, h | .arr .., .nilm, h | .arr .., .agg .., h | .arr .., .slc .., h | .arr .., .vptr .., h | .arr .., .fn .., h | .arr .., .ifc .., h => by simp [D.eqb] at h
  | .slc .., .int .., h | .slc .., .bool _, h | .slc .., .str _, h | .slc .., .nilp, h | .slc .., .nilf, h | .slc .., .nili, h | .slc .., .nilm, h | .slc .., .agg .., h | .slc .., .arr .., h | .slc .., .vptr .., h | .slc .., .fn .., h | .slc .., .ifc .., h => by simp [D.eqb] at h
  | .vptr .., .int .., h | .vptr .., .bool _, h | .vptr .., .str _, h | .vptr .., .nilp, h | .vptr .., .nilf, h | .vptr .., .nili, h | .vptr .., .nilm, h | .vptr .., .agg .., h | .vptr .., .arr .., h | .vptr .., .slc .., h | .vptr .., .fn .., h | .vptr .., .ifc .., h => by simp [D.eqb] at h
  | .fn .., .int .., h | .fn .., .bool _, h | .fn .., .str _, h | .fn .., .nilp, h | .fn .., .nilf, h | .fn .., .nili, h | .fn .., .nilm, h | .fn .., .agg .., h | .fn .., .arr .., h | .fn .., .slc .., h | .fn .., .vptr .., h | .fn .., .ifc .., h => by simp [D.eqb] at h
  | .ifc .., .int .., h | .ifc .., .bool _, h | .ifc .., .str _, h | .ifc .., .nilp, h | .ifc .., .nilf, h | .ifc .., .nili, h | .ifc .., .nilm, h | .ifc .., .agg .., h | .ifc .., .arr .., h | .ifc .., .slc .., h | .ifc .., .vptr .., h | .ifc .., .fn .., h => by simp [D.eqb] at h
theorem D.eqL_of_eqb : ∀ {a b : List D}, D.eqbL a b = true → a = b
  | [], [], _ => rfl
  | d :: l, d' :: l', h => by simp only [D.eqbL, Bool.and_eq_true] at h; rw [D.eq_of_eqb h.1, D.eqL_of_eqb h.2]
  | [], _ :: _, h => by simp [D.eqbL] at h
  | _ :: _, [], h => by simp [D.eqbL] at h
end

theorem natsEq {a b : List Nat} (h : natsEqb a b = true) : a = b := by
  induction a generalizing b with
  | nil => cases b <;> simp_all [natsEqb]
  | cons x l ih =>
    cases b with
    | nil => simp [natsEqb] at h
    | cons y k => simp only [natsEqb, Bool.and_eq_true] at h; rw [Nat.eq_of_beq_eq_true h.1, ih h.2]

mutual
theorem AV.eq_of_eqb : ∀ {a b : AV}, AV.eqb a b = true → a = b
  | .dat a, b, h => by cases b <;> simp only [AV.eqb, Bool.false_eq_true] at h; rw [D.eq_of_eqb h]
  | .fslc s l, b, h => by cases b <;> simp only [AV.eqb, Bool.and_eq_true, Bool.false_eq_true] at h; rw [Sh.eq_of_eqb h.1, D.eqL_of_eqb h.2]
  | .ptr .., b, h => by
    cases b <;> simp only [AV.eqb, Bool.and_eq_true, Bool.false_eq_true] at h
    rw [Sh.eq_of_eqb h.1.1.1, Nat.eq_of_beq_eq_true h.1.1.2, Nat.eq_of_beq_eq_true h.1.2, natsEq h.2]
  | .sref .., b, h => by
    cases b <;> simp only [AV.eqb, Bool.and_eq_true, Bool.false_eq_true] at h
    rw [Sh.eq_of_eqb h.1.1.1.1.1, Nat.eq_of_beq_eq_true h.1.1.1.1.2, Nat.eq_of_beq_eq_true h.1.1.1.2, natsEq h.1.1.2, Nat.eq_of_beq_eq_true h.1.2, Nat.eq_of_beq_eq_true h.2]
  | .agg l, b, h => by cases b <;> simp only [AV.eqb, Bool.false_eq_true] at h; rw [AV.eqL_of_eqb h]
  | .fn f x y, b, h => by
    cases b <;> simp only [AV.eqb, Bool.and_eq_true, Bool.false_eq_true, decide_eq_true_eq] at h
    rw [h.1.1, AV.eqL_of_eqb h.1.2, AV.eqL_of_eqb h.2]
  | .undef, b, h => by cases b <;> simp [AV.eqb] at h
  | .tup _, b, h => by cases b <;> simp [AV.eqb] at h
theorem AV.eqL_of_eqb : ∀ {a b : List AV}, AV.eqbL a b = true → a = b
  | [], [], _ => rfl
  | d :: l, d' :: l', h => by simp only [AV.eqbL, Bool.and_eq_true] at h; rw [AV.eq_of_eqb h.1, AV.eqL_of_eqb h.2]
  | [], _ :: _, h => by simp [AV.eqbL] at h
  | _ :: _, [], h => by simp [AV.eqbL] at h
end

mutual
theorem D.eqb_self : ∀ d : D, D.eqb d d = true
  | .int .. => by simp [D.eqb]
  | .bool _ => by simp [D.eqb]
  | .str _ => by simp [D.eqb]
  | .nilp => rfl
  | .nilf => rfl
  | .nili => rfl
  | .nilm => rfl
  | .agg l => by rw [D.eqb]; exact D.eqbL_self l
  | .arr s l => by rw [D.eqb, Sh.eqb_self, D.eqbL_self l]; rfl
  | .slc s l => by rw [D.eqb, Sh.eqb_self, D.eqbL_self l]; rfl
  | .vptr s d => by rw [D.eqb, Sh.eqb_self, D.eqb_self d]; rfl
  | .fn f a b => by rw [D.eqb, D.eqbL_self a, D.eqbL_self b]; simp
  | .ifc t d => by rw [D.eqb, D.eqb_self d]; simp
theorem D.eqbL_self : ∀ l : List D, D.eqbL l l = true
  | [] => rfl
  | d :: l => by rw [D.eqbL, D.eqb_self d, D.eqbL_self l]; rfl
end

theorem natsEqb_self (l : List Nat) : natsEqb l l = true := by
  induction l with
  | nil => rfl
  | cons x l ih => simp [natsEqb, ih]

end Go.AX
