/- Seat 03: the document's way to what is clean, and blanks at the ends. -/
import Derived.Test.YtniombjfbdojjaaDoorK
namespace Go.Proofs.YtniombjfbdojjaaDoor
open Go.AX
set_option maxRecDepth 100000
theorem dw_nil {p : UInt8 → Bool} : ∀ {l : List UInt8}, (∀ x ∈ l, p x = true) → l.dropWhile p = []
  | [], _ => rfl
  | x :: l, h => by rw [List.dropWhile_cons, h x List.mem_cons_self]; exact dw_nil fun y hy => h y (List.mem_cons_of_mem _ hy)
theorem tw_mem {p : UInt8 → Bool} : ∀ {l : List UInt8} {x : UInt8}, x ∈ l.takeWhile p → p x = true
  | [], x, h => by simp at h
  | y :: l, x, h => by
    rw [List.takeWhile_cons] at h
    cases hy : p y with
    | false => rw [hy] at h; simp at h
    | true =>
      rw [hy] at h
      rcases List.mem_cons.1 h with rfl | h
      · exact hy
      · exact tw_mem h
theorem trR_append (c : Int) (a z : List UInt8) : trR c (a ++ z) = if trR c z = [] then trR c a else a ++ trR c z := by
  unfold trR
  rw [List.reverse_append, List.dropWhile_append]
  by_cases h : z.reverse.dropWhile (isB c) = []
  · rw [h]; simp
  · have h' : ¬ (z.reverse.dropWhile (isB c)).reverse = [] := fun e => h (by simpa using e)
    rw [if_neg h']
    have : (z.reverse.dropWhile (isB c)).isEmpty = false := by
      cases hz : z.reverse.dropWhile (isB c) with
      | nil => exact absurd hz h
      | cons => rfl
    rw [this]; simp
theorem trR_blank {c : Int} {b : List UInt8} (h : ∀ x ∈ b, isB c x = true) : trR c b = [] := by
  unfold trR
  rw [dw_nil (fun x hx => h x (List.mem_reverse.1 hx))]; rfl
theorem trR_rest (c : Int) (y : List UInt8) : ∃ b, y = trR c y ++ b ∧ ∀ x ∈ b, isB c x = true := by
  refine ⟨(y.reverse.takeWhile (isB c)).reverse, ?_, fun x hx => ?_⟩
  · unfold trR
    rw [← List.reverse_append, List.takeWhile_append_dropWhile, List.reverse_reverse]
  · have := List.mem_reverse.1 hx
    exact tw_mem this
theorem trR_head {c : Int} {x : UInt8} {r : List UInt8} (h : isB c x = false) : trR c (x :: r) ≠ [] := by
  rw [show x :: r = [x] ++ r from rfl, trR_append]
  by_cases hr : trR c r = []
  · rw [if_pos hr]
    unfold trR
    rw [List.reverse_singleton, List.dropWhile_cons, h]; simp
  · rw [if_neg hr]; simp
theorem tr_comm (c : Int) (f : List UInt8) : trL c (trR c f) = trR c (trL c f) := by
  have hf : f = f.takeWhile (isB c) ++ trL c f := (List.takeWhile_append_dropWhile).symm
  have hp : ∀ x ∈ f.takeWhile (isB c), isB c x = true := fun x hx => tw_mem hx
  cases hz : trL c f with
  | nil =>
    rw [hz, List.append_nil] at hf
    rw [hf, trR_blank hp]; rfl
  | cons x r =>
    have hx := trL_head hz
    have hne := trR_head (r := r) hx
    have e : trR c f = f.takeWhile (isB c) ++ trR c (x :: r) := by
      conv => lhs; rw [hf, hz]
      rw [trR_append, if_neg hne]
    have h0 : trL c (f.takeWhile (isB c) ++ trR c (x :: r)) = trL c (trR c (x :: r)) := by
      unfold trL
      rw [List.dropWhile_append]
      have : (f.takeWhile (isB c)).dropWhile (isB c) = [] := dw_nil hp
      rw [this]; rfl
    rw [e, h0]
    obtain ⟨q, hq⟩ := trR_prefix c (x :: r)
    refine trL_id fun y t hy => ?_
    rw [hy] at hq
    have : y = x := by simpa using congrArg List.head? hq
    rw [this]; exact hx
theorem take_trR (c : Int) (y : List UInt8) (n : Nat) : trR c ((trR c y).take n) = trR c (y.take n) := by
  obtain ⟨b, hb, hbl⟩ := trR_rest c y
  have e : y.take n = (trR c y).take n ++ b.take (n - (trR c y).length) := by
    conv => lhs; rw [hb]
    rw [List.take_append]
  rw [e, trR_append, if_pos (trR_blank fun x hx => hbl x (List.mem_of_mem_take hx))]
theorem clL_doc (l : List UInt8) : clL l = trR 32 ((trL 32 (l.filter pl)).take 40) := by
  unfold clL
  rw [tr_comm, take_trR]
theorem trL_snoc (c : Int) (f : List UInt8) (x : UInt8) : trL c (f ++ [x]) = if trL c f = [] then (if isB c x = true then [] else [x]) else trL c f ++ [x] := by
  unfold trL
  rw [List.dropWhile_append]
  by_cases h : f.dropWhile (isB c) = []
  · rw [h]
    show (if ([] : List UInt8).isEmpty = true then [x].dropWhile (isB c) else [] ++ [x]) = _
    rw [List.dropWhile_cons]
    cases isB c x <;> rfl
  · have : (f.dropWhile (isB c)).isEmpty = false := by
      cases hz : f.dropWhile (isB c) with
      | nil => exact absurd hz h
      | cons => rfl
    rw [this, if_neg h]; rfl
theorem tr_ends {c : Int} {l : List UInt8} {x y : UInt8} (hx : l.head? = some x) (hy : l.getLast? = some y) : trL c (trR c l) = l ↔ isB c x = false ∧ isB c y = false := by
  constructor
  · intro h
    have h2 := trR_of_both h
    refine ⟨?_, ?_⟩
    · cases l with
      | nil => simp at hx
      | cons z r =>
        have hz : z = x := by simpa using hx
        subst hz
        exact trL_head h
    · have e : trL c l.reverse = l.reverse := by
        have := congrArg List.reverse h2
        unfold trR at this
        rwa [List.reverse_reverse] at this
      have hr : l.reverse.head? = some y := by rw [List.head?_reverse]; exact hy
      cases hq : l.reverse with
      | nil => rw [hq] at hr; simp at hr
      | cons z r =>
        rw [hq] at hr e
        have hz : z = y := by simpa using hr
        subst hz
        exact trL_head e
  · rintro ⟨h1, h2⟩
    have e : trR c l = l := by
      have : trL c l.reverse = l.reverse := trL_id fun z r hz => by
        have hr : l.reverse.head? = some y := by rw [List.head?_reverse]; exact hy
        rw [hz] at hr
        have : z = y := by simpa using hr
        rw [this]; exact h2
      show (trL c l.reverse).reverse = l
      rw [this, List.reverse_reverse]
    rw [e]
    exact trL_id fun z r hz => by
      rw [hz] at hx
      have : z = x := by simpa using hx
      rw [this]; exact h1
end Go.Proofs.YtniombjfbdojjaaDoor
