import Derived.Test.YtniombjfbdojjaaDoorAx3
/- AX, part 5b: when stores are the same. -/
namespace Go.AX
def Blk.eqb (a b : Blk) : Bool := Sh.eqb a.sh b.sh && (a.dyn == b.dyn) && (a.frz == b.frz) && AV.eqb a.v b.v
def Store.eqb : Store → Store → Bool
  | [], [] => true
  | a :: l, b :: l' => Blk.eqb a b && Store.eqb l l'
  | _, _ => false
theorem Store.eq_of_eqb : ∀ {a b : Store}, Store.eqb a b = true → a = b
  | [], [], _ => rfl
  | a :: l, b :: l', h => by
    simp only [Store.eqb, Blk.eqb, Bool.and_eq_true, beq_iff_eq] at h
    obtain ⟨⟨⟨⟨h1, h2⟩, h3⟩, h4⟩, h5⟩ := h
    have : a = b := by
      cases a; cases b
      simp only at h1 h2 h3 h4
      rw [Sh.eq_of_eqb h1, h2, h3, AV.eq_of_eqb h4]
    rw [this, Store.eq_of_eqb h5]
  | [], _ :: _, h => by simp [Store.eqb] at h
  | _ :: _, [], h => by simp [Store.eqb] at h
def both : Option Res → Option Res → Option Res
  | some a, some b => bif AV.eqbL a.1 b.1 && Store.eqb a.2 b.2 then some a else none
  | _, _ => none
theorem both_some {a b : Option Res} {r : Res} (h : both a b = some r) : a = some r ∧ b = some r := by
  unfold both at h
  split at h
  · rename_i x y
    cases hc : (AV.eqbL x.1 y.1 && Store.eqb x.2 y.2) with
    | false => rw [hc] at h; simp at h
    | true =>
      rw [hc] at h
      simp only [cond_true, Option.some.injEq] at h
      simp only [Bool.and_eq_true] at hc
      subst h
      refine ⟨rfl, ?_⟩
      obtain ⟨x1, x2⟩ := x
      obtain ⟨y1, y2⟩ := y
      simp only at hc
      rw [AV.eqL_of_eqb hc.1, Store.eq_of_eqb hc.2]
  · simp at h
end Go.AX
