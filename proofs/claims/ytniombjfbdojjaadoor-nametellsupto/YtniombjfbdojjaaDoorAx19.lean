import Derived.Test.YtniombjfbdojjaaDoorAx18
import Derived.Orders
/- AX, part 24f: any order of a drawn region does as the run as it stands. -/
namespace Go.AX
structure FrameOk (all : List Oper) (V : Nat → AV) (fr0 : Frame') (p : Nat → Prop) (fr : Frame') : Prop where
  len : fr.length = fr0.length
  done : ∀ (j : Nat) o s, all[j]? = some o → o.dst = some s → p j → fr.getD s .undef = if s < fr0.length then V j else .undef
  else_ : ∀ s, (∀ (j : Nat) o, all[j]? = some o → p j → o.dst ≠ some s) → fr.getD s .undef = fr0.getD s .undef
theorem getD_set_eq {fr : Frame'} {d : Nat} {v : AV} : (fr.set d v).getD d .undef = if d < fr.length then v else .undef := by
  rw [List.getD_eq_getElem?_getD]
  split
  · rename_i h; rw [List.getElem?_set_self h]; rfl
  · rename_i h; rw [List.getElem?_eq_none (by simpa using h)]; rfl
theorem getD_set_other {fr : Frame'} {d s : Nat} {v : AV} (h : d ≠ s) : (fr.set d v).getD s .undef = fr.getD s .undef := by
  rw [List.getD_eq_getElem?_getD, List.getD_eq_getElem?_getD, List.getElem?_set_ne h]
theorem FrameOk.put {all : List Oper} {V : Nat → AV} {fr0 fr : Frame'} {p q : Nat → Prop} {i : Nat} {o : Oper} (h : FrameOk all V fr0 p fr) (ho : all[i]? = some o) (hq : ∀ j, q j ↔ p j ∨ j = i)
    (hd : ∀ (j : Nat) oj s, all[j]? = some oj → oj.dst = some s → o.dst = some s → j = i) : FrameOk all V fr0 q (setDst fr o.dst (V i)) := by
  cases hdst : o.dst with
  | none =>
    refine ⟨h.len, fun j oj s hj hs hp => ?_, fun s hs => h.else_ s fun j oj hj hp => hs j oj hj ((hq j).2 (.inl hp))⟩
    rcases (hq j).1 hp with hp | rfl
    · exact h.done j oj s hj hs hp
    · rw [ho] at hj
      simp only [Option.some.injEq] at hj
      subst hj
      rw [hdst] at hs; simp at hs
  | some d =>
    simp only [setDst]
    refine ⟨by simp [h.len], fun j oj s hj hs hp => ?_, fun s hs => ?_⟩
    · by_cases he : d = s
      · subst he
        have := hd j oj d hj hs hdst
        subst this
        rw [getD_set_eq, h.len]
      · rw [getD_set_other he]
        rcases (hq j).1 hp with hp | rfl
        · exact h.done j oj s hj hs hp
        · rw [ho] at hj
          simp only [Option.some.injEq] at hj
          subst hj
          rw [hdst] at hs
          simp only [Option.some.injEq] at hs
          exact absurd hs he
    · have he : d ≠ s := fun he => hs i o ho ((hq i).2 (.inr rfl)) (by rw [hdst, he])
      rw [getD_set_other he]
      exact h.else_ s fun j oj hj hp => hs j oj hj ((hq j).2 (.inl hp))
theorem FrameOk.agree {all : List Oper} {V : Nat → AV} {fr0 fr fr' : Frame'} {p q : Nat → Prop} (h : FrameOk all V fr0 p fr) (h' : FrameOk all V fr0 q fr') {s : Nat} (hs : ∀ (j : Nat) o, all[j]? = some o → o.dst = some s → (p j ↔ q j)) :
    fr.getD s .undef = fr'.getD s .undef := by
  by_cases hex : ∃ (j : Nat) (o : Oper), all[j]? = some o ∧ p j ∧ o.dst = some s
  · obtain ⟨j, o, h1, h2, h3⟩ := hex
    rw [h.done j o s h1 h3 h2, h'.done j o s h1 h3 ((hs j o h1 h3).1 h2)]
  · rw [h.else_ s fun j o hj hp hd => hex ⟨j, o, hj, hp, hd⟩, h'.else_ s fun j o hj hp hd => hex ⟨j, o, hj, (hs j o hj hd).2 hp, hd⟩]
theorem idx_mem {α : Type} : ∀ {l : List α} {i k : Nat} {x : α}, l[k]? = some x → (i + k, x) ∈ idx i l
  | y :: l, i, 0, x, h => by
    simp only [List.getElem?_cons_zero, Option.some.injEq] at h
    subst h
    exact List.mem_cons_self
  | y :: l, i, k + 1, x, h => by
    simp only [List.getElem?_cons_succ] at h
    have := idx_mem (i := i + 1) h
    rw [idx]
    refine List.mem_cons_of_mem _ ?_
    have e : i + (k + 1) = i + 1 + k := by omega
    rw [e]; exact this
structure DrawOk (tab : Env) (all : List Oper) : Prop where
  before : ∀ (i : Nat) o, all[i]? = some o → ∀ j ∈ afts o, j < i
  guard : ∀ (i : Nat) o j w, all[i]? = some o → o.guard = some (j, w) → j ∈ afts o ∧ ∃ d, gdst all j = some d
  look : ∀ (i : Nat) o (j : Nat) oj d, all[i]? = some o → all[j]? = some oj → i ≠ j → oj.dst = some d → d ∈ looksL all o → (j < i → j ∈ afts o) ∧ (i < j → i ∈ afts oj)
  dst : ∀ (i : Nat) o (j : Nat) oj d, all[i]? = some o → all[j]? = some oj → o.dst = some d → oj.dst = some d → i = j
  chain : ∀ (i : Nat) o (j : Nat) oj, all[i]? = some o → all[j]? = some oj → opCls tab o.op = 2 → opCls tab oj.op = 2 → j < i → j ∈ (ancs all []).getD i []
theorem drawOk_spec {tab : Env} {all : List Oper} (h : drawOk tab all = true) : DrawOk tab all := by
  unfold drawOk at h
  simp only [List.all_eq_true, Bool.and_eq_true] at h
  have key := fun (i : Nat) (o : Oper) (ho : all[i]? = some o) => h (0 + i, o) (idx_mem ho)
  simp only [Nat.zero_add] at key
  have pair := fun (i : Nat) (o : Oper) (j : Nat) (oj : Oper) (ho : all[i]? = some o) (hj : all[j]? = some oj) (_ : i ≠ j) => (((key i o ho).2 (0 + j, oj) (idx_mem hj)))
  simp only [Nat.zero_add, Bool.or_eq_true, Bool.and_eq_true] at pair
  have pair' := fun (i : Nat) (o : Oper) (j : Nat) (oj : Oper) (ho : all[i]? = some o) (hj : all[j]? = some oj) (hne : i ≠ j) => (pair i o j oj ho hj hne).resolve_left fun hq => hne (Nat.eq_of_beq_eq_true hq)
  refine ⟨fun i o ho j hj => ?_, fun i o j w ho hg => ?_, fun i o j oj d ho hj hne hd hl => ?_, fun i o j oj d ho hj hd hd' => ?_, fun i o j oj ho hj hc hc' hlt => ?_⟩
  · have := (key i o ho).1.1 j hj
    simpa using this
  · have := (key i o ho).1.2
    rw [hg] at this
    simp only [Bool.and_eq_true] at this
    exact ⟨inL_iff.1 this.1, Option.isSome_iff_exists.1 this.2⟩
  · have := (pair' i o j oj ho hj hne).1.1
    rw [hd] at this
    simp only [Bool.or_eq_true, Bool.not_eq_true'] at this
    rcases this with h1 | h1
    · rw [inL_iff.2 hl] at h1; simp at h1
    · refine ⟨fun hlt => ?_, fun hlt => ?_⟩
      · rw [decide_eq_true hlt] at h1
        exact inL_iff.1 h1
      · rw [decide_eq_false (by omega)] at h1
        exact inL_iff.1 h1
  · by_cases hne : i = j
    · exact hne
    · have := (pair' i o j oj ho hj hne).1.2
      rw [hd, hd'] at this
      simp at this
  · have := (pair' i o j oj ho hj (by omega)).2
    rw [hc, hc', decide_eq_true hlt] at this
    simp only [Nat.beq_refl, Bool.not_true, Bool.false_eq_true, false_or, cond_true] at this
    exact inL_iff.1 this
end Go.AX

namespace Go.AX
theorem ancs_prefix : ∀ (l : List Oper) (acc : List (List Nat)) (k : Nat), k < acc.length → (ancs l acc).getD k [] = acc.getD k []
  | [], acc, k, h => rfl
  | o :: l, acc, k, h => by
    rw [ancs, ancs_prefix l _ k (by simp; omega)]
    rw [List.getD_eq_getElem?_getD, List.getD_eq_getElem?_getD, List.getElem?_append_left h]
theorem ancs_get : ∀ (l : List Oper) (acc : List (List Nat)) (t : Nat) (o : Oper), l[t]? = some o → ∀ x, x ∈ (ancs l acc).getD (acc.length + t) [] → ∃ j ∈ afts o, x = j ∨ x ∈ (ancs l acc).getD j []
  | [], acc, t, o, h, x, hx => by simp at h
  | o' :: l, acc, 0, o, h, x, hx => by
    simp only [List.getElem?_cons_zero, Option.some.injEq] at h
    subst h
    rw [ancs, Nat.add_zero, ancs_prefix l _ acc.length (by simp)] at hx
    rw [List.getD_eq_getElem?_getD, List.getElem?_append_right (Nat.le_refl _), Nat.sub_self] at hx
    simp only [List.getElem?_cons_zero, Option.getD_some, List.mem_flatMap, List.mem_cons] at hx
    obtain ⟨j, hj, hx⟩ := hx
    refine ⟨j, hj, hx.imp id fun hx => ?_⟩
    rcases Nat.lt_or_ge j acc.length with hl | hl
    · rw [ancs, ancs_prefix l _ j (by simp; omega), List.getD_eq_getElem?_getD, List.getElem?_append_left hl, ← List.getD_eq_getElem?_getD]
      exact hx
    · rw [List.getD_eq_getElem?_getD, List.getElem?_eq_none hl] at hx
      simp at hx
  | o' :: l, acc, t + 1, o, h, x, hx => by
    simp only [List.getElem?_cons_succ] at h
    rw [ancs] at hx ⊢
    refine ancs_get l _ t o h x ?_
    simp only [List.length_append, List.length_cons, List.length_nil]
    have e : acc.length + (0 + 1) + t = acc.length + (t + 1) := by omega
    rw [e]; exact hx
theorem anc_closed {tab : Env} {all : List Oper} (hok : DrawOk tab all) {p : Nat → Prop} (hp : ∀ (i : Nat) o, all[i]? = some o → p i → ∀ j ∈ afts o, p j) : ∀ (n i : Nat) (o : Oper), i < n → all[i]? = some o → (∀ j ∈ afts o, p j) → ∀ x ∈ (ancs all []).getD i [], p x
  | 0, i, o, hlt, _, _, _, _ => absurd hlt (Nat.not_lt_zero i)
  | n + 1, i, o, hlt, ho, ha, x, hx => by
    have := ancs_get all [] i o ho x (by simpa using hx)
    obtain ⟨j, hj, rfl | hx'⟩ := this
    · exact ha _ hj
    · have hji := hok.before i o ho j hj
      cases hoj : all[j]? with
      | none =>
        have := List.getElem?_eq_none_iff.1 hoj
        have := (List.getElem?_eq_some_iff.1 ho).1
        omega
      | some oj => exact anc_closed hok hp n j oj (by omega) hoj (hp j oj hoj (ha j hj)) x hx'
end Go.AX

namespace Go.AX
variable {bg : Bg}
section
variable {P : Program} {E : Env} {ops : Array Oper} {Q : Exit → Act → World → Prop} {K : Frame' → Store → Option Res} {r : Res} {fr0 : Frame'} {σ1 : Store}
  {F : Nat → Frame'} {G : Nat → Store} {V : Nat → AV} {W : Nat → Bool}
theorem G_const (hr : RunOk E ops.toList (ancs ops.toList []) K r ops.toList 0 fr0 σ1 [] [] [] F G V W) : ∀ (k p : Nat), p + k ≤ ops.toList.length → (∀ (c : Nat) oc, p ≤ c → c < p + k → ops.toList[c]? = some oc → opCls E oc.op = 2 → W c = false) → (∀ (c : Nat) oc, ops.toList[c]? = some oc → opCls E oc.op ≤ 2) → G (p + k) = G p
  | 0, p, _, _, _ => rfl
  | k + 1, p, hle, h, h2 => by
    have ih := G_const hr k p (by omega) (fun c oc h1 h2 h3 h4 => h c oc h1 (by omega) h3 h4) h2
    have hl : p + k < ops.toList.length := by omega
    have hst := hr.step (p + k) _ (List.getElem?_eq_getElem hl)
    simp only [Nat.zero_add] at hst
    rw [← Nat.add_assoc, ← ih]
    rcases hst.act with ⟨_, _, h3, _⟩ | ⟨hw, hd, _⟩
    · exact h3
    · have hc := h2 (p + k) _ (List.getElem?_eq_getElem hl)
      have : opCls E (ops.toList[p + k]).op = 0 ∨ opCls E (ops.toList[p + k]).op = 1 ∨ opCls E (ops.toList[p + k]).op = 2 := by omega
      rcases this with hc | hc | hc
      · exact (hd.pure hc).1
      · exact hd.look hc
      · rw [h (p + k) _ (by omega) (by omega) (List.getElem?_eq_getElem hl) hc] at hw; simp at hw
theorem opCls_le (tab : Env) (o : Op) : opCls tab o ≤ 2 := by
  unfold opCls
  split <;> first | omega | (split <;> first | omega | (split <;> first | omega | (split <;> first | omega | (split <;> omega))) | (cases pureF tab _ <;> simp))
structure DSit (bg : Bg) (E : Env) (all : List Oper) (F : Nat → Frame') (G : Nat → Store) (V : Nat → AV) (W : Nat → Bool) (fr0 : Frame') (w0 : World) (S0 : Nat → Prop) (m0 : List (Option Nat)) (σ0 : Store) (a0 : Act)
    (p : Nat → Prop) (a : Act) (w : World) : Prop where
  closed : ∀ (i : Nat) o, all[i]? = some o → p i → ∀ j ∈ afts o, p j
  sit : ∃ q S m fr, q ≤ all.length ∧ (∀ (c : Nat) o, all[c]? = some o → opCls E o.op = 2 → (p c ↔ c < q)) ∧ FrameOk all V fr0 p fr ∧ Sit0 bg w0 S0 m0 σ0 w S m (G q) fr a
  skip : ∀ (i : Nat) o d, all[i]? = some o → p i → W i = false → o.dst = some d → a.tmps.getD d Go.undef = Go.undef
  same : Same (opsDst all) a0 a
theorem does_in_window (hok : DrawOk E ops.toList) (hr : RunOk E ops.toList (ancs ops.toList []) K r ops.toList 0 fr0 σ1 [] [] [] F G V W) {p : Nat → Prop} (hcl : ∀ (i : Nat) o, ops.toList[i]? = some o → p i → ∀ j ∈ afts o, p j) {q : Nat} (hq : q ≤ ops.toList.length)
    (hch : ∀ (c : Nat) o, ops.toList[c]? = some o → opCls E o.op = 2 → (p c ↔ c < q)) {i : Nat} {o : Oper} (ho : ops.toList[i]? = some o) (hni : ¬ p i) (haft : ∀ j ∈ afts o, p j) (hw : W i = true) (hd : Does E (F i) o (G i) (V i) (G (i + 1))) :
    ∃ q', q' ≤ ops.toList.length ∧ Does E (F i) o (G q) (V i) (G q') ∧ ∀ (c : Nat) oc, ops.toList[c]? = some oc → opCls E oc.op = 2 → ((p c ∨ c = i) ↔ c < q') := by
  have hil : i < ops.toList.length := (List.getElem?_eq_some_iff.1 ho).1
  have han : ∀ x ∈ (ancs ops.toList []).getD i [], p x := anc_closed hok hcl (i + 1) i o (Nat.lt_succ_self i) ho haft
  have hle2 : ∀ (c : Nat) oc, ops.toList[c]? = some oc → opCls E oc.op ≤ 2 := fun c oc _ => opCls_le _ _
  have hcase : opCls E o.op = 0 ∨ opCls E o.op = 1 ∨ opCls E o.op = 2 := by have := opCls_le E o.op; omega
  have keep : opCls E o.op ≠ 2 → ∀ (c : Nat) oc, ops.toList[c]? = some oc → opCls E oc.op = 2 → ((p c ∨ c = i) ↔ c < q) := by
    intro hne c oc hoc hc
    rw [← hch c oc hoc hc]
    refine ⟨fun h => h.elim id fun h => ?_, .inl⟩
    subst h
    rw [ho] at hoc
    simp only [Option.some.injEq] at hoc
    subst hoc
    exact absurd hc hne
  rcases hcase with hc | hc | hc
  · exact ⟨q, hq, (hd.pure hc).2 _, keep (by omega)⟩
  · refine ⟨q, hq, ?_, keep (by omega)⟩
    have hsame : G (i + 1) = G i := hd.look hc
    have hdi : Does E (F i) o (G i) (V i) (G i) := by rw [hsame] at hd; exact hd
    rcases Nat.lt_or_ge i q with hlt | hge
    · -- what changes the store, behind i and ahead of q, is done
      by_cases hex : ∃ c, c < q ∧ i < c ∧ (∃ oc, ops.toList[c]? = some oc ∧ opCls E oc.op = 2 ∧ W c = true) ∧ ∀ c', c < c' → c' < q → ∀ oc, ops.toList[c']? = some oc → opCls E oc.op = 2 → W c' = false
      · obtain ⟨c, h1, h2, ⟨oc, h3, h4, h5⟩, h6⟩ := hex
        have hpc : p c := (hch c oc h3 h4).2 h1
        have hna : i ∉ (ancs ops.toList []).getD c [] := fun hm => hni (anc_closed hok hcl (c + 1) c oc (Nat.lt_succ_self c) h3 (hcl c oc h3 hpc) i hm)
        have := (hr.forth c oc h3 (by simpa using h5) h4).2 i o ho h2 (by simpa using hw) hc (by simpa using hna)
        simp only [Nat.zero_add] at this
        have hg : G q = G (c + 1) := by
          have := G_const hr (q - (c + 1)) (c + 1) (by omega) (fun c' oc' g1 g2 g3 g4 => h6 c' (by omega) (by omega) oc' g3 g4) hle2
          rw [← this]; congr 1; omega
        rw [hg]
        exact sameIn_does hc hdi this
      · have hg : G q = G i := by
          have hno : ∀ (c : Nat) oc, i < c → c < q → ops.toList[c]? = some oc → opCls E oc.op = 2 → W c = false := by
            have key : ∀ n, ∀ (c : Nat) oc, q - c ≤ n → i < c → c < q → ops.toList[c]? = some oc → opCls E oc.op = 2 → W c = false := by
              intro n
              induction n with
              | zero => intro c oc h1 h2 h3; omega
              | succ n ih =>
                intro c oc h1 h2 h3 h4 h5
                cases hwc : W c with
                | false => rfl
                | true => exact absurd ⟨c, h3, h2, ⟨oc, h4, h5, hwc⟩, fun c' g1 g2 oc' g3 g4 => ih c' oc' (by omega) (by omega) g2 g3 g4⟩ hex
            exact fun c oc h1 h2 h3 h4 => key (q - c) c oc (Nat.le_refl _) h1 h2 h3 h4
          have := G_const hr (q - i) i (by omega) (fun c oc g1 g2 g3 g4 => by
            rcases Nat.lt_or_ge i c with g | g
            · exact hno c oc g (by omega) g3 g4
            · have : c = i := by omega
              subst this
              rw [ho] at g3
              simp only [Option.some.injEq] at g3
              subst g3
              omega) hle2
          rw [← this]; congr 1; omega
        rw [hg]; exact hdi
    · by_cases hex : ∃ c, q ≤ c ∧ c < i ∧ (∃ oc, ops.toList[c]? = some oc ∧ opCls E oc.op = 2 ∧ W c = true) ∧ ∀ c', q ≤ c' → c' < c → ∀ oc, ops.toList[c']? = some oc → opCls E oc.op = 2 → W c' = false
      · obtain ⟨c, h1, h2, ⟨oc, h3, h4, h5⟩, h6⟩ := hex
        have hpc : ¬ p c := fun h => by have := (hch c oc h3 h4).1 h; omega
        have hna : c ∉ (ancs ops.toList []).getD i [] := fun hm => hpc (han c hm)
        have := (hr.back i o ho (by simpa using hw) hc).2 c oc h3 h2 (by simpa using h5) h4 (by simpa using hna)
        simp only [Nat.zero_add] at this
        have hg : G c = G q := by
          have := G_const hr (c - q) q (by omega) (fun c' oc' g1 g2 g3 g4 => h6 c' g1 (by omega) oc' g3 g4) hle2
          rw [← this]; congr 1; omega
        rw [← hg]
        exact sameIn_does hc hdi this
      · have hno : ∀ (c : Nat) oc, q ≤ c → c < i → ops.toList[c]? = some oc → opCls E oc.op = 2 → W c = false := by
          have key : ∀ n, ∀ (c : Nat) oc, c ≤ n → q ≤ c → c < i → ops.toList[c]? = some oc → opCls E oc.op = 2 → W c = false := by
            intro n
            induction n with
            | zero =>
              intro c oc h1 h2 h3 h4 h5
              cases hwc : W c with
              | false => rfl
              | true => exact absurd ⟨c, h2, h3, ⟨oc, h4, h5, hwc⟩, fun c' g1 g2 => by omega⟩ hex
            | succ n ih =>
              intro c oc h1 h2 h3 h4 h5
              cases hwc : W c with
              | false => rfl
              | true => exact absurd ⟨c, h2, h3, ⟨oc, h4, h5, hwc⟩, fun c' g1 g2 oc' g3 g4 => ih c' oc' (by omega) g1 (by omega) g3 g4⟩ hex
          exact fun c oc h1 h2 h3 h4 => key c c oc (Nat.le_refl _) h1 h2 h3 h4
        have hg : G i = G q := by
          have := G_const hr (i - q) q (by omega) (fun c oc g1 g2 g3 g4 => hno c oc g1 (by omega) g3 g4) hle2
          rw [← this]; congr 1; omega
        rw [← hg]; exact hdi
  · have hlow : ∀ (c : Nat) oc, ops.toList[c]? = some oc → opCls E oc.op = 2 → c < i → p c := fun c oc h1 h2 h3 => han c (hok.chain i o c oc ho h1 hc h2 h3)
    have hhigh : ∀ (c : Nat) oc, ops.toList[c]? = some oc → opCls E oc.op = 2 → i < c → ¬ p c := fun c oc h1 h2 h3 h4 =>
      hni (anc_closed hok hcl (c + 1) c oc (Nat.lt_succ_self c) h1 (hcl c oc h1 h4) i (hok.chain c oc i o h1 ho h2 hc h3))
    have hqi : q ≤ i := by
      rcases Nat.lt_or_ge i q with h | h
      · exact absurd ((hch i o ho hc).2 h) hni
      · exact h
    have hg : G i = G q := by
      have := G_const hr (i - q) q (by omega) (fun c oc g1 g2 g3 g4 => by
        have h1 := hlow c oc g3 g4 (by omega)
        have h2 := (hch c oc g3 g4).1 h1
        omega) hle2
      rw [← this]; congr 1; omega
    refine ⟨i + 1, hil, by rw [← hg]; exact hd, fun c oc hoc hcc => ?_⟩
    rcases Nat.lt_trichotomy c i with h | h | h
    · exact ⟨fun _ => by omega, fun _ => .inl (hlow c oc hoc hcc h)⟩
    · exact ⟨fun _ => by omega, fun _ => .inr h⟩
    · refine ⟨fun hh => hh.elim (fun h' => absurd h' (hhigh c oc hoc hcc h)) (fun h' => by omega), fun hh => by omega⟩
end
end Go.AX

namespace Go.AX
variable {bg : Bg}
theorem opnd_mono {x : Operand} {l k : List Nat} (h : ∀ s ∈ l, s ∈ k) : ∀ s ∈ opnd x l, s ∈ opnd x k := fun s hs => opnd_mem.2 ((opnd_mem.1 hs).imp id (h s))
theorem opndO_mono {x : Option Operand} {l k : List Nat} (h : ∀ s ∈ l, s ∈ k) : ∀ s ∈ opndO x l, s ∈ opndO x k := fun s hs => opndO_mem.2 ((opndO_mem.1 hs).imp id (h s))
theorem opnds_mono {x : List Operand} {l k : List Nat} (h : ∀ s ∈ l, s ∈ k) : ∀ s ∈ opnds x l, s ∈ opnds x k := fun s hs => opnds_mem.2 ((opnds_mem.1 hs).imp id (h s))
theorem opnds2_mono {x : List (Nat × Operand)} {l k : List Nat} (h : ∀ s ∈ l, s ∈ k) : ∀ s ∈ opnds2 x l, s ∈ opnds2 x k := fun s hs => opnds2_mem.2 ((opnds2_mem.1 hs).imp id (h s))
theorem opLive_mono {o : Op} {l k : List Nat} (h : ∀ s ∈ l, s ∈ k) : ∀ s ∈ opLive o l, s ∈ opLive o k := by
  cases o with
  | pick c a b => exact opnd_mono (opnd_mono (opnd_mono h))
  | build _ ps => exact opnds2_mono h
  | buildSlice _ _ ps => exact opnds2_mono h
  | store | binOp | makeSlice | indexAddr | index | lookup | mapEntry | send => exact opnd_mono (opnd_mono h)
  | makeFunc => exact opnds_mono (opnds_mono h)
  | makeMap => exact opndO_mono h
  | slice => exact opnd_mono (opndO_mono (opndO_mono (opndO_mono h)))
  | mapUpdate | entryStore | insert => exact opnd_mono (opnd_mono (opnd_mono h))
  | call c | go c | defer c =>
    simp only [opLive]
    cases c.callee with
    | value f => exact opnd_mono (opnds_mono h)
    | invoke r n => exact opnd_mono (opnds_mono h)
    | builtin b => exact opnds_mono h
  | select cs b =>
    simp only [opLive]
    generalize cs.toList = cs
    induction cs with
    | nil => exact h
    | cons c cs ih => exact opnd_mono (opndO_mono ih)
  | alloc | ready | waits => exact h
  | _ => exact opnd_mono h
section
variable {P : Program} {E : Env} {ops : Array Oper} {Q : Exit → Act → World → Prop} {K : Frame' → Store → Option Res} {r : Res} {fr0 : Frame'} {σ1 : Store}
  {F : Nat → Frame'} {G : Nat → Store} {V : Nat → AV} {W : Nat → Bool}
theorem F_ok (hok : DrawOk E ops.toList) (hr : RunOk E ops.toList (ancs ops.toList []) K r ops.toList 0 fr0 σ1 [] [] [] F G V W) : ∀ i : Nat, i ≤ ops.toList.length → FrameOk ops.toList V fr0 (· < i) (F i)
  | 0, _ => by
    rw [hr.f0]
    exact ⟨rfl, fun j o s _ _ h => absurd h (Nat.not_lt_zero j), fun s _ => rfl⟩
  | i + 1, hl => by
    have ih := F_ok hok hr i (by omega)
    have hst := hr.step i _ (List.getElem?_eq_getElem (by omega))
    simp only [Nat.zero_add] at hst
    rw [hst.fr]
    refine ih.put (List.getElem?_eq_getElem (by omega)) (fun j => by omega) ?_
    intro j oj s hj hs hd
    exact (hok.dst _ _ j oj s (List.getElem?_eq_getElem (by omega)) hj hd hs).symm
theorem skip_window (hok : DrawOk E ops.toList) (hr : RunOk E ops.toList (ancs ops.toList []) K r ops.toList 0 fr0 σ1 [] [] [] F G V W) {p : Nat → Prop} (hcl : ∀ (i : Nat) o, ops.toList[i]? = some o → p i → ∀ j ∈ afts o, p j) {q : Nat} (hq : q ≤ ops.toList.length)
    (hch : ∀ (c : Nat) o, ops.toList[c]? = some o → opCls E o.op = 2 → (p c ↔ c < q)) {i : Nat} {o : Oper} (ho : ops.toList[i]? = some o) (hni : ¬ p i) (haft : ∀ j ∈ afts o, p j) (hg1 : G (i + 1) = G i) :
    ∃ q', q' ≤ ops.toList.length ∧ G q' = G q ∧ ∀ (c : Nat) oc, ops.toList[c]? = some oc → opCls E oc.op = 2 → ((p c ∨ c = i) ↔ c < q') := by
  have hil : i < ops.toList.length := (List.getElem?_eq_some_iff.1 ho).1
  by_cases hc : opCls E o.op = 2
  · have han : ∀ x ∈ (ancs ops.toList []).getD i [], p x := anc_closed hok hcl (i + 1) i o (Nat.lt_succ_self i) ho haft
    have hlow : ∀ (c : Nat) oc, ops.toList[c]? = some oc → opCls E oc.op = 2 → c < i → p c := fun c oc h1 h2 h3 => han c (hok.chain i o c oc ho h1 hc h2 h3)
    have hhigh : ∀ (c : Nat) oc, ops.toList[c]? = some oc → opCls E oc.op = 2 → i < c → ¬ p c := fun c oc h1 h2 h3 h4 =>
      hni (anc_closed hok hcl (c + 1) c oc (Nat.lt_succ_self c) h1 (hcl c oc h1 h4) i (hok.chain c oc i o h1 ho h2 hc h3))
    have hqi : q ≤ i := by
      rcases Nat.lt_or_ge i q with h | h
      · exact absurd ((hch i o ho hc).2 h) hni
      · exact h
    have hg : G i = G q := by
      have := G_const hr (i - q) q (by omega) (fun c oc g1 g2 g3 g4 => by
        have h1 := hlow c oc g3 g4 (by omega)
        have h2 := (hch c oc g3 g4).1 h1
        omega) (fun c oc _ => opCls_le _ _)
      rw [← this]; congr 1; omega
    refine ⟨i + 1, hil, by rw [hg1, hg], fun c oc hoc hcc => ?_⟩
    rcases Nat.lt_trichotomy c i with h | h | h
    · exact ⟨fun _ => by omega, fun _ => .inl (hlow c oc hoc hcc h)⟩
    · exact ⟨fun _ => by omega, fun _ => .inr h⟩
    · refine ⟨fun hh => hh.elim (fun h' => absurd h' (hhigh c oc hoc hcc h)) (fun h' => by omega), fun hh => by omega⟩
  · refine ⟨q, hq, rfl, fun c oc hoc hcc => ?_⟩
    rw [← hch c oc hoc hcc]
    refine ⟨fun h => h.elim id fun h => ?_, .inl⟩
    subst h
    rw [ho] at hoc
    simp only [Option.some.injEq] at hoc
    subst hoc
    exact absurd hcc hc
theorem slot_bool {w : World} {S : Nat → Prop} {T : Nat → Option Ent} {v : AV} {b : Bool} {u : Value} (h : Rs w S T v u) (hv : v = aBool b) : u = .bool b := by
  subst hv
  exact asB_sound (v := aBool b) rfl h
theorem yielded_bool {a : Act} {j d : Nat} {b : Bool} (hd : gdst ops.toList j = some d) (h : a.tmps.getD d Go.undef = .bool b) : yielded ops a.tmps j = some b := by
  unfold yielded
  rw [← gdst_eq, hd]
  simp only [Option.bind_some]
  rw [Array.getD_eq_getD_getElem?] at h
  cases ht : a.tmps[d]? with
  | none => rw [ht] at h; simp [Go.undef] at h
  | some u => rw [ht] at h; simp only [Option.getD_some] at h; subst h; rfl
theorem yielded_undef {a : Act} {j d : Nat} (hd : gdst ops.toList j = some d) (h : a.tmps.getD d Go.undef = Go.undef) : yielded ops a.tmps j = none := by
  unfold yielded
  rw [← gdst_eq, hd]
  simp only [Option.bind_some]
  rw [Array.getD_eq_getD_getElem?] at h
  cases ht : a.tmps[d]? with
  | none => rfl
  | some u => rw [ht] at h; simp only [Option.getD_some] at h; subst h; rfl
theorem gdst_all {j d : Nat} {all : List Oper} (h : gdst all j = some d) : ∃ oj, all[j]? = some oj ∧ oj.dst = some d := by
  unfold gdst at h
  simpa only [Option.bind_eq_some_iff] using h
theorem drawn_step (hE : EnvOk bg P E) (hok : DrawOk E ops.toList) (hr : RunOk E ops.toList (ancs ops.toList []) K r ops.toList 0 fr0 σ1 [] [] [] F G V W)
    {w0 : World} {S0 : Nat → Prop} {m0 : List (Option Nat)} {σ0 : Store} {a0 : Act} {p : Nat → Prop} {a : Act} {w : World} (hs : DSit bg E ops.toList F G V W fr0 w0 S0 m0 σ0 a0 p a w)
    {i : Nat} {o : Oper} (ho : ops.toList[i]? = some o) (hni : ¬ p i) (haft : ∀ j ∈ afts o, p j) {next : Act → World → Prop}
    (hn : ∀ a' w', DSit bg E ops.toList F G V W fr0 w0 S0 m0 σ0 a0 (fun j => p j ∨ j = i) a' w' → next a' w') : wpOpIn (Fz bg.ro) 0 P ops Q i next a w := by
  have ho' : ops[i]? = some o := by rw [← ho, Array.getElem?_toList]
  have hil : i < ops.toList.length := (List.getElem?_eq_some_iff.1 ho).1
  have hst := hr.step i o ho
  simp only [Nat.zero_add] at hst
  obtain ⟨q, S, m, fr, hq, hch, hfr, hsit⟩ := hs.sit
  have hF := F_ok hok hr i (by omega)
  have closed' : ∀ (k : Nat) ok, ops.toList[k]? = some ok → (p k ∨ k = i) → ∀ j ∈ afts ok, (p j ∨ j = i) := by
    intro k ok hk hp j hj
    rcases hp with hp | rfl
    · exact .inl (hs.closed k ok hk hp j hj)
    · rw [ho] at hk
      simp only [Option.some.injEq] at hk
      subst hk
      exact .inl (haft j hj)
  have dsts : ∀ (j : Nat) (oj : Oper) (s : Nat), ops.toList[j]? = some oj → oj.dst = some s → o.dst = some s → j = i := fun j oj s hj hs hd => (hok.dst i o j oj s ho hj hd hs).symm
  have same' : ∀ v, Same (opsDst ops.toList) a0 (a.put o.dst v) := fun v => hs.same.trans (Same.put fun d hd => opsDst_mem.2 ⟨o, List.mem_of_getElem? ho, hd⟩)
  have skip' : ∀ v, (W i = false → v = Go.undef) → ∀ (k : Nat) ok d, ops.toList[k]? = some ok → (p k ∨ k = i) → W k = false → ok.dst = some d → (a.put o.dst v).tmps.getD d Go.undef = Go.undef := by
    intro v hv k ok d hk hp hw hd
    rcases hp with hp | rfl
    · have h1 := hs.skip k ok d hk hp hw hd
      cases hod : o.dst with
      | none => exact h1
      | some e =>
        have hne : e ≠ d := by
          rintro rfl
          have := dsts k ok e hk hd hod
          exact hni (this ▸ hp)
        simp only [Act.put, Array.getD_eq_getD_getElem?, Array.getElem?_setIfInBounds_ne hne] at h1 ⊢
        exact h1
    · rw [ho] at hk
      simp only [Option.some.injEq] at hk
      subst hk
      rw [hd, hv hw]
      simp only [Act.put, Array.getD_eq_getD_getElem?]
      rcases Nat.lt_or_ge d a.tmps.size with hl | hl
      · rw [Array.getElem?_setIfInBounds_self_of_lt hl]; rfl
      · rw [Array.getElem?_eq_none (by simpa using hl)]; rfl
  have guardSlot : ∀ j w' d, o.guard = some (j, w') → gdst ops.toList j = some d → fr.getD d .undef = (F i).getD d .undef := by
    intro j w' d hg hd
    obtain ⟨oj, h1, h2⟩ := gdst_all hd
    have hj := (hok.guard i o j w' ho hg).1
    rw [hfr.done j oj d h1 h2 (haft j hj), hF.done j oj d h1 h2 (hok.before i o ho j hj)]
  unfold wpOpIn
  rw [ho']
  simp only
  rcases hst.act with ⟨hw, hv, hg1, j, w', hg, hsk⟩ | ⟨hw, hd, hg⟩
  · have hnw : Region.wanted o (yielded ops a.tmps) = false := by
      simp only [Region.wanted, hg]
      rcases hsk with hsk | ⟨d, b, h1, h2, h3⟩
      · rcases hsk with hsk | ⟨_, hji, hwj⟩
        · simp at hsk
        · obtain ⟨d, hd⟩ := (hok.guard i o j w' ho hg).2
          obtain ⟨oj, h1, h2⟩ := gdst_all hd
          have hp := haft j (hok.guard i o j w' ho hg).1
          rw [yielded_undef hd (hs.skip j oj d h1 hp hwj h2)]
          rfl
      · have h4 := guardSlot j w' d hg h1
        have h5 := slot_bool (hsit.sit.slot d) (h4.trans h2)
        rw [yielded_bool h1 h5]
        simpa using h3
    rw [hnw]
    simp only [Bool.false_eq_true, if_false]
    refine ⟨fun _ _ => trivial, ?_⟩
    obtain ⟨q', hq', hgq, hch'⟩ := skip_window hok hr hs.closed hq hch ho hni haft hg1
    refine hn _ _ ⟨closed', ⟨q', S, m, setDst fr o.dst (V i), hq', hch', hfr.put ho (fun j => Iff.rfl) dsts, ?_⟩, skip' _ (fun _ => rfl), same' _⟩
    rw [hv, hgq]
    exact hsit.put o.dst trivial
  · have hwn : Region.wanted o (yielded ops a.tmps) = true := by
      simp only [Region.wanted]
      rcases hg with hg | ⟨j, w', d, hg, h1, h2⟩
      · rw [hg]
      · rw [hg]
        have h4 := guardSlot j w' d hg h1
        have h5 := slot_bool (hsit.sit.slot d) (h4.trans h2)
        simp only
        rw [yielded_bool h1 h5]
        simp
    rw [hwn]
    simp only [if_true]
    obtain ⟨q', hq', hdq, hch'⟩ := does_in_window hok hr hs.closed hq hch ho hni haft hw hd
    have hcg : opK0 E fr o (G q) (fun v s => some ([v], s)) = opK0 E (F i) o (G q) (fun v s => some ([v], s)) := by
      refine opK0_congr fun s hsl => ?_
      refine hfr.agree hF fun j oj hj hjd => ?_
      have hsl' : s ∈ looksL ops.toList o := opLive_mono (by simp) s hsl
      by_cases hji : j = i
      · subst hji
        exact ⟨fun h => absurd h hni, fun h => absurd h (Nat.lt_irrefl _)⟩
      · obtain ⟨l1, l2⟩ := hok.look i o j oj s ho hj (fun h => hji h.symm) hjd hsl'
        refine ⟨fun hp => ?_, fun hlt => haft j (l1 hlt)⟩
        rcases Nat.lt_or_ge j i with h | h
        · exact h
        · exact absurd (hs.closed j oj hj hp i (l2 (by omega))) hni
    rw [hdq] at hcg
    refine opK0_sound hE hsit.sit ?_ hcg bg.ro
    intro v σ' val w' S' m' hst' hv' hk
    simp only [Option.some.injEq, Prod.mk.injEq, List.cons.injEq, and_true] at hk
    obtain ⟨rfl, rfl⟩ := hk
    exact hn _ _ ⟨closed', ⟨q', S', m', setDst fr o.dst (V i), hq', hch', hfr.put ho (fun j => Iff.rfl) dsts, (hsit.step hst').put o.dst hv'⟩, skip' _ (fun h => by rw [hw] at h; simp at h), same' _⟩
theorem drawn_any (hE : EnvOk bg P E) (hok : DrawOk E ops.toList) (hr : RunOk E ops.toList (ancs ops.toList []) K r ops.toList 0 fr0 σ1 [] [] [] F G V W)
    {w0 : World} {S0 : Nat → Prop} {m0 : List (Option Nat)} {σ0 : Store} {a0 : Act}
    (hQ : ∀ a w, DSit bg E ops.toList F G V W fr0 w0 S0 m0 σ0 a0 (fun i => i < ops.toList.length) a w → Q .normal a w) :
    ∀ (n : Nat) (listed : Array Bool) (a : Act) (w : World), listed.size = ops.size → ((List.range ops.size).filter fun i => !listed.getD i false).length ≤ n →
      DSit bg E ops.toList F G V W fr0 w0 S0 m0 σ0 a0 (fun i => listed.getD i false = true) a w → wpAnyIn (Fz bg.ro) 0 P .any ops Q n listed a w := by
  have stuck : ∀ (listed : Array Bool), listed.size = ops.size → Region.ready .any ops listed = [] → ∀ i, i < ops.size → listed.getD i false = true := by
    intro listed hsz hnil i
    induction i using Nat.strongRecOn with
    | ind i ih =>
      intro hi
      cases hli : listed.getD i false with
      | true => rfl
      | false =>
        have hm : i ∈ Region.ready .any ops listed := by
          rw [mem_ready]
          refine ⟨?_, ops[i], by rw [Array.getElem?_eq_getElem hi], fun e he hb => ?_⟩
          · rw [Array.getD_eq_getD_getElem?, Array.getElem?_eq_getElem (by omega)] at hli ⊢
            simpa using hli
          · have hj : e.on ∈ afts ops[i] := by
              unfold afts
              refine List.mem_filterMap.2 ⟨e, by simpa using he, by rw [hb]; rfl⟩
            have hlt := hok.before i ops[i] (by rw [Array.getElem?_toList, Array.getElem?_eq_getElem hi]) e.on hj
            exact ih e.on hlt (by omega)
        rw [hnil] at hm
        simp at hm
  have done : ∀ (listed : Array Bool) (a : Act) (w : World), listed.size = ops.size → Region.ready .any ops listed = [] → DSit bg E ops.toList F G V W fr0 w0 S0 m0 σ0 a0 (fun i => listed.getD i false = true) a w → Q .normal a w := by
    intro listed a w hsz hnil hs
    have heq : (fun i => listed.getD i false = true) = (fun i => i < ops.toList.length) := by
      funext i
      refine propext ⟨fun h => ?_, fun h => stuck listed hsz hnil i (by simpa using h)⟩
      rcases Nat.lt_or_ge i listed.size with h' | h'
      · rw [Array.length_toList]; omega
      · simp [Array.getElem?_eq_none h'] at h
    rw [heq] at hs
    exact hQ a w hs
  intro n
  induction n with
  | zero =>
    intro listed a w hsz hn hs
    have hnil : Region.ready .any ops listed = [] := by
      refine List.eq_nil_iff_forall_not_mem.2 fun i hi => ?_
      rw [mem_ready] at hi
      obtain ⟨h1, o, h2, _⟩ := hi
      have hlt := (Array.getElem?_eq_some_iff.1 h2).1
      have : i ∈ (List.range ops.size).filter fun i => !listed.getD i false := by
        rw [List.mem_filter, List.mem_range]
        refine ⟨hlt, ?_⟩
        rw [Array.getD_eq_getD_getElem?, Array.getElem?_eq_getElem (by omega)] at h1 ⊢
        simpa using h1
      have h0 := List.length_pos_of_mem this
      omega
    exact ⟨hnil, done listed a w hsz hnil hs⟩
  | succ n ih =>
    intro listed a w hsz hn hs
    refine ⟨fun hnil => done listed a w hsz hnil hs, fun i hi => ?_⟩
    rw [mem_ready] at hi
    obtain ⟨h1, o, h2, h3⟩ := hi
    have hlt := (Array.getElem?_eq_some_iff.1 h2).1
    have hli : listed.getD i false = false := by
      rw [Array.getD_eq_getD_getElem?, Array.getElem?_eq_getElem (by omega)] at h1 ⊢
      simpa using h1
    have haft : ∀ j ∈ afts o, listed.getD j false = true := by
      intro j hj
      unfold afts at hj
      obtain ⟨e, he, hb⟩ := List.mem_filterMap.1 hj
      cases hb2 : Region.binds .any e with
      | false => rw [hb2] at hb; simp at hb
      | true =>
        rw [hb2] at hb
        simp only [cond_true, Option.some.injEq] at hb
        subst hb
        exact h3 e (by simpa using he) hb2
    refine drawn_step hE hok hr hs (by rw [Array.getElem?_toList]; exact h2) (by rw [hli]; simp) haft ?_
    intro a' w' hs'
    have hset : ∀ j, ((listed.setIfInBounds i true).getD j false = true) ↔ (listed.getD j false = true ∨ j = i) := by
      intro j
      by_cases hij : i = j
      · subst hij
        simp [Array.getElem?_setIfInBounds_self_of_lt (show i < listed.size by omega)]
      · rw [getD_set_ne false hij]
        exact ⟨.inl, fun h => h.elim id fun h => absurd h.symm hij⟩
    refine ih _ a' w' (by simpa using hsz) ?_ ?_
    · -- one less
      have key : ∀ (l : List Nat), l.Nodup → i ∈ l → (l.filter fun j => !(listed.setIfInBounds i true).getD j false).length + 1 ≤ (l.filter fun j => !listed.getD j false).length := by
        have notin : ∀ (l : List Nat), i ∉ l → l.filter (fun j => !(listed.setIfInBounds i true).getD j false) = l.filter (fun j => !listed.getD j false) := by
          intro l hl
          refine List.filter_congr fun j hj => ?_
          rw [getD_set_ne false (fun e => hl (by rw [e]; exact hj))]
        intro l
        induction l with
        | nil => intro _ h; simp at h
        | cons x l ihl =>
          intro hnd hx
          rw [List.nodup_cons] at hnd
          by_cases hxi : x = i
          · subst hxi
            rw [List.filter_cons, List.filter_cons, notin l hnd.1, (hset x).2 (.inr rfl), hli]
            simp
          · have hm : i ∈ l := (List.mem_cons.1 hx).resolve_left fun h => hxi h.symm
            have := ihl hnd.2 hm
            rw [List.filter_cons, List.filter_cons, getD_set_ne false (fun e => hxi e.symm)]
            split
            · simp only [List.length_cons]; omega
            · exact this
      have := key (List.range ops.size) List.nodup_range (List.mem_range.2 hlt)
      omega
    · have heq : (fun j => (listed.setIfInBounds i true).getD j false = true) = (fun j => listed.getD j false = true ∨ j = i) := by
        funext j; exact propext (hset j)
      rw [heq]
      exact hs'
theorem drawn_sound (hE : EnvOk bg P E) (hm : P.follows .mixedOrders = true) {rg : Nat} {w0 : World} {S0 S : Nat → Prop} {m0 : List (Option Nat)} {σ0 : Store} {w : World} {m : List (Option Nat)} {σ : Store} {fr : Frame'} {a : Act}
    (hok : drawOk E ops.toList = true) (h : drawK E ops.toList (ancs ops.toList []) ops.toList 0 fr σ [] [] [] K = some r) (hs : Sit0 bg w0 S0 m0 σ0 w S m σ fr a)
    (hK : ∀ w' S' m' σ' fr' a', Sit0 bg w0 S0 m0 σ0 w' S' m' σ' fr' a' → Same (opsDst ops.toList) a a' → K fr' σ' = some r → Q .normal a' w') : (Code.region rg ops true).wpIn (Fz bg.ro) 0 P Q a w := by
  have hok := drawOk_spec hok
  obtain ⟨F, G, V, W, hr⟩ := drawK_run _ _ _ _ _ _ _ h
  refine wpIn_region_any hm ?_
  have hlen : ops.toList.length = ops.size := Array.length_toList
  refine drawn_any (w0 := w0) (S0 := S0) (m0 := m0) (σ0 := σ0) (a0 := a) hE hok hr ?_ ops.size _ a _ (by simp) ?_ ?_
  · intro a' w' hd
    obtain ⟨q, S', m', fr', hq, hch, hfr, hsit⟩ := hd.sit
    have hg : G ops.toList.length = G q := by
      have := G_const hr (ops.toList.length - q) q (by omega) (fun c oc g1 g2 g3 g4 => by
        have := (hch c oc g3 g4).1 (by omega)
        omega) (fun c oc _ => opCls_le _ _)
      rw [← this]; congr 1; omega
    have hff := F_ok hok hr ops.toList.length (Nat.le_refl _)
    have hfe : fr' = F ops.toList.length := by
      refine List.ext_getElem? fun s => ?_
      have h1 := hfr.agree hff (s := s) (fun j o hj hd => Iff.rfl)
      rw [List.getD_eq_getElem?_getD, List.getD_eq_getElem?_getD] at h1
      have h2 : fr'.length = (F ops.toList.length).length := by rw [hfr.len, hff.len]
      rcases Nat.lt_or_ge s fr'.length with hl | hl
      · rw [List.getElem?_eq_getElem hl, List.getElem?_eq_getElem (by omega)] at h1 ⊢
        simpa using h1
      · rw [List.getElem?_eq_none hl, List.getElem?_eq_none (by omega)]
    refine hK w' S' m' (G q) fr' a' hsit hd.same ?_
    have := hr.fin
    simp only [Nat.zero_add] at this
    rw [hfe, ← hg]
    exact this
  · refine Nat.le_trans (List.length_filter_le _ _) (by simp)
  · have hf : ∀ i : Nat, ¬ ((Array.replicate ops.size false).getD i false = true) := by
      intro i
      rw [Array.getD_eq_getD_getElem?, Array.getElem?_replicate]
      split <;> simp
    refine ⟨fun i o _ h => absurd h (hf i), ⟨0, S, m, fr, Nat.zero_le _, fun c o _ _ => ⟨fun h => absurd h (hf c), fun h => absurd h (Nat.not_lt_zero c)⟩, ⟨rfl, fun j o s _ _ h => absurd h (hf j), fun s _ => rfl⟩, ?_⟩, fun i o d _ h => absurd h (hf i), Same.refl _ _⟩
    rw [hr.g0]
    exact hs.step (hs.sit.inv.drew _)
end
end Go.AX
