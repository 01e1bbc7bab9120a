/- Seat 15: lists of exits, in plain words. -/
import Derived.Test.YtiegehdiffemlaaG
namespace Go.Proofs.Ytiegehdiffemlaa
open Go.AX
set_option maxRecDepth 100000

abbrev keyP (a b d : Int) (x : D) : Bool := ix1_v0 (usedD x) (pR2 x 1 0) (pR2 x 1 1) (pI x 3) a b d
abbrev keyOf (x y : D) : Bool := keyP (pR2 x 1 0) (pR2 x 1 1) (pI x 3) y
abbrev exD (u : Bool) (a b x y d : Int) : D := .agg [.bool u, .agg [.int .i64 a, .int .i64 b], .agg [.int .i64 x, .int .i64 y], .int .i64 d]

theorem ix_is (a b d : Int) (ls : List D) : ix_idx a b d ls = bif ls.any (keyP a b d) then ((ls.findIdx (keyP a b d) : Nat) : Int) else -1 := rfl
theorem key_iff {a b d : Int} {x : D} : keyP a b d x = true ↔ usedD x = true ∧ pR2 x 1 0 = a ∧ pR2 x 1 1 = b ∧ pI x 3 = d := by
  unfold keyP ix1_v0
  simp only [Bool.and_eq_true, beq_iff_eq, Bool.and_true, and_assoc]
theorem any_nth {p : D → Bool} {ls : List D} : ls.any p = true ↔ ∃ i, i < ls.length ∧ p (nthD ls i) = true := by
  rw [List.any_eq_true]
  constructor
  · rintro ⟨d, hd, hp⟩
    obtain ⟨i, hi, rfl⟩ := List.getElem_of_mem hd
    exact ⟨i, hi, by unfold nthD; rw [List.getD_eq_getElem?_getD, List.getElem?_eq_getElem hi]; exact hp⟩
  · rintro ⟨i, hi, hp⟩
    exact ⟨_, nthD_mem hi, hp⟩
theorem find_nth {p : D → Bool} {ls : List D} {i : Nat} (hi : i < ls.length) : ls.findIdx p = i ↔ p (nthD ls i) = true ∧ ∀ j, j < i → p (nthD ls j) = false := by
  have e : ∀ j, (hj : j < ls.length) → nthD ls j = ls[j] := fun j hj => by unfold nthD; rw [List.getD_eq_getElem?_getD, List.getElem?_eq_getElem hj]; rfl
  rw [List.findIdx_eq hi, e i hi]
  constructor
  · rintro ⟨h1, h2⟩
    exact ⟨h1, fun j hj => by rw [e j (by omega)]; simpa using h2 j hj⟩
  · rintro ⟨h1, h2⟩
    exact ⟨h1, fun j hj => by have := h2 j hj; rw [e j (by omega)] at this; simpa using this⟩
theorem find_spec {p : D → Bool} {ls : List D} (h : ls.any p = true) : ls.findIdx p < ls.length ∧ p (nthD ls (ls.findIdx p)) = true ∧ ∀ j, j < ls.findIdx p → p (nthD ls j) = false := by
  have hlt := idx_lt h
  exact ⟨hlt, (find_nth hlt).1 rfl⟩

/-- A list that may be. -/
structure Good (ls : List D) : Prop where
  ok : okX ls = true
  wr : ∀ i, i < ls.length → wrD (nthD ls i) = false
  one : ∀ i, i < ls.length → usedD (nthD ls i) = true → ∀ j, j < i → keyOf (nthD ls i) (nthD ls j) = false

theorem key_self {x : D} (h : usedD x = true) : keyOf x x = true := key_iff.2 ⟨h, rfl, rfl, rfl⟩
theorem exok_good {ls : List D} (h : Good ls) : exok_v0 ls = true := by
  unfold exok_v0
  rw [Bool.not_eq_true', List.any_eq_false]
  intro i hi
  have hi' : i < ls.length := by simpa using hi
  unfold badX
  rw [h.wr i hi', Bool.false_or]
  cases hu : usedD (nthD ls i) with
  | false => simp
  | true =>
    have ha : ls.any (keyOf (nthD ls i)) = true := any_nth.2 ⟨i, hi', key_self hu⟩
    have hf : ls.findIdx (keyOf (nthD ls i)) = i := (find_nth hi').2 ⟨key_self hu, h.one i hi' hu⟩
    have : idxD ls (nthD ls i) = (i : Int) := by
      show ix_idx _ _ _ ls = _
      rw [ix_is]
      rw [show ls.any (keyP (pR2 (nthD ls i) 1 0) (pR2 (nthD ls i) 1 1) (pI (nthD ls i) 3)) = true from ha]
      rw [cond_true]
      exact congrArg Nat.cast hf
    rw [this]; simp
theorem ekX_form {d : D} (h : okE ekX d = true) : ∃ u a b x y k, d = exD u a b x y k := by
  obtain ⟨p, q, r, s, rfl, h1, h2, h3, h4⟩ := okE_agg4 h
  obtain ⟨u, rfl⟩ := okE_bool h1
  obtain ⟨a, b, rfl, h5, h6⟩ := okE_agg2 h2
  obtain ⟨x, y, rfl, h7, h8⟩ := okE_agg2 h3
  obtain ⟨k, rfl⟩ := okE_int h4
  obtain ⟨a, rfl⟩ := okE_int h5
  obtain ⟨b, rfl⟩ := okE_int h6
  obtain ⟨x, rfl⟩ := okE_int h7
  obtain ⟨y, rfl⟩ := okE_int h8
  exact ⟨u, a, b, x, y, k, rfl⟩
theorem okX_fits {ls : List D} (h : ls.all (okE ekX) = true) : fits (.agg [.one, .agg [.one, .one], .agg [.one, .one], .one]) ls = true := by
  unfold fits
  rw [List.all_eq_true] at h ⊢
  intro d hd
  obtain ⟨u, a, b, x, y, k, rfl⟩ := ekX_form (h d hd)
  rfl
theorem okX_set {ls : List D} (h : okX ls = true) (i : Nat) (u : Bool) (a b x y k : Int) : okX (ls.set i (exD u a b x y k)) = true := by
  obtain ⟨h1, h2⟩ := okX_spec h
  unfold okX
  rw [List.length_set, decide_eq_true h2, Bool.and_true, List.all_eq_true]
  intro d hd
  rcases List.mem_or_eq_of_mem_set hd with hd | rfl
  · exact List.all_eq_true.1 h1 d hd
  · rfl
theorem nthD_set' {l : List D} {i j : Nat} {x : D} (hi : i < l.length) : nthD (l.set i x) j = if i = j then x else nthD l j := by
  unfold nthD
  rw [List.getD_eq_getElem?_getD, List.getD_eq_getElem?_getD, List.getElem?_set]
  by_cases h : i = j
  · subst h; simp [hi]
  · simp [h]

/-- What comes of Put and Add. -/
theorem ptx_is {ls : List D} (h : okX ls = true) (hl : ls.length ≤ 1048576) {i : Nat} (hi : i < ls.length) (u : Bool) (a b x y k : Int) :
    ptx_v0 ls (i : Int) u a b x y k = ls.set i (exD u a b x y k) ∧ ptx_v1 ls (i : Int) = 0 ∧ ptx_pre ls (i : Int) u a b x y k = true ∧ ofx_pre ls = true := by
  obtain ⟨h1, h2⟩ := okX_spec h
  have hf := okX_fits h1
  have d0 : decide ((i : Int) < 0) = false := decide_eq_false (by omega)
  have d1 : decide ((i : Int) ≥ (ls.length : Int)) = false := decide_eq_false (by omega)
  have d1' : decide ((ls.length : Int) ≤ (i : Int)) = false := d1
  have d2 : decide ((0 : Int) ≤ (i : Int)) = true := decide_eq_true (by omega)
  have d3 : decide ((i : Int) < (ls.length : Int)) = true := decide_eq_true (by omega)
  have hne : ls.isEmpty = false := by cases ls with | nil => simp at hi | cons => rfl
  obtain ⟨u', a', b', x', y', k', he⟩ := ekX_form (allE_nth h1 hi)
  refine ⟨?_, ?_, ?_, ?_⟩
  · unfold ptx_v0
    simp only [d0, d1, cond_false, Int.toNat_natCast, Nat.zero_add, seg_set]
  · unfold ptx_v1
    simp only [d0, d1, cond_false]
  · unfold ptx_pre
    simp only [d0, d1, d2, d3, hne, hf, he, Int.toNat_natCast, Nat.zero_add, decide_eq_true hi, beq_self, List.length_set, decide_eq_true (show ls.length * 48 ≤ 35184372088832 by omega), Bool.not_false, Bool.and_true]
    rfl
  · unfold ofx_pre; rw [hf, decide_eq_true (by omega)]; rfl

abbrev freeX (d : D) : Bool := !usedD d
theorem adx_is {ls : List D} (h : okX ls = true) (hl : ls.length ≤ 1048576) (u : Bool) (a b x y k : Int) :
    adx_pre ls u a b x y k = true ∧ adx_v0 ls u a b x y k = (bif ls.any freeX then ls.set (ls.findIdx freeX) (exD u a b x y k) else []) ∧
    adx_v1 ls = (bif ls.any freeX then ((ls.findIdx freeX : Nat) : Int) else 0) ∧ adx_v2 ls = bif ls.any freeX then 0 else 8 := by
  have hi : jx_idx ls ls = bif ls.any freeX then ((ls.findIdx freeX : Nat) : Int) else -1 := rfl
  have hj : jx_okL ls ls = true := okX_jx h ls
  cases hz : ls.any freeX with
  | false =>
    rw [hz, cond_false] at hi
    have e1 : fsx_v1 ls = 8 := by unfold fsx_v1; rw [hi]; rfl
    unfold adx_pre adx_v0 adx_v1 adx_v2
    rw [e1, hj]
    exact ⟨rfl, rfl, rfl, rfl⟩
  | true =>
    rw [hz, cond_true] at hi
    have hlt := idx_lt hz
    have d0 : decide (((ls.findIdx freeX : Nat) : Int) < 0) = false := decide_eq_false (by omega)
    have e1 : fsx_v1 ls = 0 := by unfold fsx_v1; rw [hi, d0]; rfl
    have e0 : fsx_v0 ls = ((ls.findIdx freeX : Nat) : Int) := by unfold fsx_v0; rw [hi, d0]; rfl
    obtain ⟨p0, p1, p2, _⟩ := ptx_is h hl hlt u a b x y k
    unfold adx_pre adx_v0 adx_v1 adx_v2
    rw [e0, e1, p0, p1, p2, hj]
    exact ⟨rfl, rfl, rfl, rfl⟩

/-! Linking and closing. -/
theorem good_link {ls : List D} (h : Good ls) {f : Nat} (hf : f < ls.length) (_ : usedD (nthD ls f) = false) {a b x y d : Int} (h1 : isref_v0 a b = true) (h2 : isref_v0 x y = true) (h3 : isdir_v0 d = true)
    (hn : ls.any (keyP a b d) = false) : Good (ls.set f (exD true a b x y d)) := by
  have hno : ∀ j, j < ls.length → keyP a b d (nthD ls j) = false := by
    intro j hj
    cases hk : keyP a b d (nthD ls j) with
    | false => rfl
    | true => rw [any_nth.2 ⟨j, hj, hk⟩] at hn; exact hn
  refine ⟨okX_set h.ok _ _ _ _ _ _ _, fun i hi => ?_, fun i hi hui j hj => ?_⟩
  · rw [List.length_set] at hi
    rw [nthD_set' hf]
    split
    · show wrx_v0 true a b x y d = false
      unfold wrx_v0; rw [h1, h2, h3]; rfl
    · exact h.wr i hi
  · rw [List.length_set] at hi
    rw [nthD_set' hf] at hui ⊢
    rw [nthD_set' hf]
    by_cases e1 : f = i
    · rw [if_pos e1, if_neg (by omega)]
      exact hno j (by omega)
    · rw [if_neg e1] at hui ⊢
      by_cases e2 : f = j
      · rw [if_pos e2]
        cases hk : keyOf (nthD ls i) (exD true a b x y d) with
        | false => rfl
        | true =>
          obtain ⟨_, k1, k2, k3⟩ := key_iff.1 hk
          have : keyP a b d (nthD ls i) = true := key_iff.2 ⟨hui, k1.symm, k2.symm, k3.symm⟩
          rw [hno i hi] at this; exact absurd this (by decide)
      · rw [if_neg e2]; exact h.one i hi hui j hj
theorem good_close {ls : List D} (h : Good ls) {f : Nat} (hf : f < ls.length) : Good (ls.set f (exD false 0 0 0 0 0)) := by
  refine ⟨okX_set h.ok _ _ _ _ _ _ _, fun i hi => ?_, fun i hi hui j hj => ?_⟩
  · rw [List.length_set] at hi
    rw [nthD_set' hf]
    split
    · rfl
    · exact h.wr i hi
  · rw [List.length_set] at hi
    rw [nthD_set' hf] at hui ⊢
    rw [nthD_set' hf]
    by_cases e1 : f = i
    · rw [if_pos e1] at hui; exact absurd hui (by decide)
    · rw [if_neg e1] at hui ⊢
      by_cases e2 : f = j
      · rw [if_pos e2]
        cases hk : keyOf (nthD ls i) (exD false 0 0 0 0 0) with
        | false => rfl
        | true => exact absurd (key_iff.1 hk).1 (by decide)
      · rw [if_neg e2]; exact h.one i hi hui j hj

def manyU (ls : List D) : Nat := (ls.filter fun d => usedD d).length
theorem many_set {ls : List D} {i : Nat} (hi : i < ls.length) (x : D) : manyU (ls.set i x) + (if usedD (nthD ls i) then 1 else 0) = manyU ls + if usedD x then 1 else 0 := by
  induction ls generalizing i with
  | nil => simp at hi
  | cons d ls ih =>
    cases i with
    | zero =>
      unfold manyU
      show (((x :: ls).filter _).length) + (if usedD d then 1 else 0) = _
      simp only [List.filter_cons]
      cases usedD x <;> cases usedD d <;> simp
    | succ i =>
      have := ih (i := i) (by simpa using hi)
      unfold manyU at this ⊢
      show (((d :: ls.set i x).filter _).length) + (if usedD (nthD ls i) then 1 else 0) = _
      simp only [List.filter_cons]
      cases usedD d <;> simp <;> omega
theorem many_full {ls : List D} (h : ls.any freeX = false) : manyU ls = ls.length := by
  unfold manyU
  rw [List.filter_eq_self.2]
  intro d hd
  have := List.any_eq_false.1 h d hd
  simpa using this
theorem many_le (ls : List D) : manyU ls ≤ ls.length := List.length_filter_le _ _

/-- What is found in a list. -/
theorem find_is {ls : List D} (h : okX ls = true) (a b d : Int) : find_pre ls a b d = true ∧ find_v2 ls a b d = ls.any (keyP a b d) ∧
    (ls.any (keyP a b d) = true → find_v0 ls a b d = pR2 (nthD ls (ls.findIdx (keyP a b d))) 2 0 ∧ find_v1 ls a b d = pR2 (nthD ls (ls.findIdx (keyP a b d))) 2 1) := by
  have hi := ix_is a b d ls
  have hk := okX_ix h a b d
  unfold find_pre find_v2 find_v0 find_v1
  cases hz : ls.any (keyP a b d) with
  | false =>
    rw [hz, cond_false] at hi
    rw [hi, hk]
    exact ⟨rfl, rfl, fun h => absurd h (by decide)⟩
  | true =>
    rw [hz, cond_true] at hi
    have hlt := idx_lt hz
    have d0 : decide (((ls.findIdx (keyP a b d) : Nat) : Int) < 0) = false := decide_eq_false (by omega)
    have d1 : decide ((0 : Int) ≤ ((ls.findIdx (keyP a b d) : Nat) : Int)) = true := decide_eq_true (by omega)
    rw [hi, hk, d0, d1, Int.toNat_natCast, decide_eq_true hlt, allE_nth (okX_spec h).1 hlt]
    exact ⟨rfl, rfl, fun _ => ⟨rfl, rfl⟩⟩

/-- The ways of Link. -/
theorem link_ways {ls : List D} (g : Good ls) (hl : ls.length ≤ 1048576) (a b x y d : Int) : link_pre ls a b x y d = true ∧
    (link_v2 ls a b x y d = 1 ∨ (link_v2 ls a b x y d = 4 ∧ ls.any (keyP a b d) = true) ∨ (link_v2 ls a b x y d = 8 ∧ ls.any freeX = false) ∨
     (link_v2 ls a b x y d = 0 ∧ ls.any (keyP a b d) = false ∧ isref_v0 a b = true ∧ isref_v0 x y = true ∧ isdir_v0 d = true ∧ ls.any freeX = true ∧ link_v1 ls a b x y d = ((ls.findIdx freeX : Nat) : Int) ∧ link_v0 ls a b x y d = ls.set (ls.findIdx freeX) (exD true a b x y d))) := by
  have hex := exok_good g
  have hexp : exok_pre ls = true := by unfold exok_pre; rw [g.ok, D.eqbL_self, decide_eq_true rfl]; rfl
  have hk := okX_ix g.ok a b d
  have hof : ofx_pre ls = true := by unfold ofx_pre; rw [okX_fits (okX_spec g.ok).1, decide_eq_true (by omega)]; rfl
  obtain ⟨a0, a1, a2, a3⟩ := adx_is g.ok hl true a b x y d
  have hi := ix_is a b d ls
  unfold link_pre link_v2 link_v1 link_v0
  rw [hex, hexp, hk, hof, a0, a1, a2, a3, D.eqb_self, D.eqb_self]
  cases r1 : isref_v0 a b with
  | false => exact ⟨rfl, .inl rfl⟩
  | true =>
    cases r2 : isref_v0 x y with
    | false => exact ⟨rfl, .inl rfl⟩
    | true =>
      cases r3 : isdir_v0 d with
      | false => exact ⟨rfl, .inl rfl⟩
      | true =>
        cases hz : ls.any (keyP a b d) with
        | true =>
          rw [hz, cond_true] at hi
          have : decide (ix_idx a b d ls ≥ 0) = true := decide_eq_true (by rw [hi]; omega)
          have h' : decide (0 ≤ ix_idx a b d ls) = true := this
          simp only [this]
          exact ⟨rfl, .inr (.inl ⟨rfl, by trivial⟩)⟩
        | false =>
          rw [hz, cond_false] at hi
          have : decide (ix_idx a b d ls ≥ 0) = false := decide_eq_false (by rw [hi]; omega)
          have h' : decide (0 ≤ ix_idx a b d ls) = false := this
          simp only [this]
          cases hf : ls.any freeX with
          | false => exact ⟨rfl, .inr (.inr (.inl ⟨rfl, by trivial⟩))⟩
          | true => exact ⟨rfl, .inr (.inr (.inr ⟨rfl, by trivial, by trivial, by trivial, by trivial, by trivial, rfl, rfl⟩))⟩

theorem close_ways {ls : List D} (g : Good ls) (hl : ls.length ≤ 1048576) (a b d : Int) : close_pre ls a b d = true ∧
    ((close_v1 ls a b d = 3 ∧ ls.any (keyP a b d) = false) ∨ (close_v1 ls a b d = 0 ∧ ls.any (keyP a b d) = true ∧ close_v0 ls a b d = ls.set (ls.findIdx (keyP a b d)) (exD false 0 0 0 0 0))) := by
  have hex := exok_good g
  have hexp : exok_pre ls = true := by unfold exok_pre; rw [g.ok, D.eqbL_self, decide_eq_true rfl]; rfl
  have hk := okX_ix g.ok a b d
  have hof : ofx_pre ls = true := by unfold ofx_pre; rw [okX_fits (okX_spec g.ok).1, decide_eq_true (by omega)]; rfl
  have hi := ix_is a b d ls
  unfold close_pre close_v1 close_v0
  rw [hex, hexp, hk, hof]
  cases hz : ls.any (keyP a b d) with
  | false =>
    rw [hz, cond_false] at hi
    rw [hi]
    exact ⟨rfl, .inl ⟨rfl, rfl⟩⟩
  | true =>
    rw [hz, cond_true] at hi
    obtain ⟨p0, p1, p2, _⟩ := ptx_is g.ok hl (idx_lt hz) false 0 0 0 0 0
    have d0 : decide (((ls.findIdx (keyP a b d) : Nat) : Int) < 0) = false := decide_eq_false (by omega)
    rw [hi, d0, p0, p1, p2]
    exact ⟨rfl, .inr ⟨rfl, rfl, rfl⟩⟩
end Go.Proofs.Ytiegehdiffemlaa
