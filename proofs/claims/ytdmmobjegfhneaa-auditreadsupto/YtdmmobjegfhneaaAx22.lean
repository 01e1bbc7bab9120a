import Derived.Test.YtdmmobjegfhneaaAx21
import Derived.Test.YtdmmobjegfhneaaAx20
/- AX, part 24b: what operations depend on. -/
namespace Go.AX
theorem opnd_mem {x : Operand} {l : List Nat} {s : Nat} : s ∈ opnd x l ↔ x = .tmp s ∨ s ∈ l := by
  unfold opnd
  split
  · rw [ins_mem]
    simp only [Operand.tmp.injEq]
    constructor
    · rintro (rfl | h)
      · exact .inl rfl
      · exact .inr h
    · rintro (rfl | h)
      · exact .inl rfl
      · exact .inr h
  · rename_i h
    constructor
    · exact .inr
    · rintro (rfl | h')
      · exact absurd rfl (h s)
      · exact h'
theorem opnds_mem {s : Nat} {l : List Nat} : ∀ {xs : List Operand}, s ∈ opnds xs l ↔ .tmp s ∈ xs ∨ s ∈ l
  | [] => by simp [opnds]
  | x :: xs => by
    have : opnds (x :: xs) l = opnd x (opnds xs l) := rfl
    rw [this, opnd_mem, opnds_mem (xs := xs), List.mem_cons]
    constructor
    · rintro (rfl | h | h)
      · exact .inl (.inl rfl)
      · exact .inl (.inr h)
      · exact .inr h
    · rintro ((rfl | h) | h)
      · exact .inl rfl
      · exact .inr (.inl h)
      · exact .inr (.inr h)
theorem opnds2_mem {s : Nat} {l : List Nat} : ∀ {xs : List (Nat × Operand)}, s ∈ opnds2 xs l ↔ .tmp s ∈ xs.map (·.2) ∨ s ∈ l
  | [] => by simp [opnds2]
  | x :: xs => by
    have : opnds2 (x :: xs) l = opnd x.2 (opnds2 xs l) := rfl
    rw [this, opnd_mem, opnds2_mem (xs := xs), List.map_cons, List.mem_cons]
    constructor
    · rintro (h | h | h)
      · exact .inl (.inl h.symm)
      · exact .inl (.inr h)
      · exact .inr h
    · rintro ((h | h) | h)
      · exact .inl h.symm
      · exact .inr (.inl h)
      · exact .inr (.inr h)
theorem opndO_mem {x : Option Operand} {l : List Nat} {s : Nat} : s ∈ opndO x l ↔ x = some (.tmp s) ∨ s ∈ l := by
  cases x with
  | none => simp [opndO]
  | some x => simp [opndO, opnd_mem]
section
variable {E : Env} {fr fr' : Frame'} {σ : Store}
theorem ev_congr {tab : Tab} {t : TypeId} {x : Operand} (h : ∀ s, x = .tmp s → fr.getD s .undef = fr'.getD s .undef) : ev tab fr t x = ev tab fr' t x := by
  cases x with
  | tmp i => simp only [ev]; rw [h i rfl]
  | _ => rfl
theorem evs_congr {tab : Tab} : ∀ {ts : List TypeId} {xs : List Operand}, (∀ s, .tmp s ∈ xs → fr.getD s .undef = fr'.getD s .undef) → evs tab fr ts xs = evs tab fr' ts xs
  | ts, [], _ => by cases ts <;> rfl
  | [], x :: xs, h => by
    simp only [evs]
    rw [ev_congr (fun s hs => h s (by rw [hs]; exact List.mem_cons_self)), evs_congr (fun s hs => h s (List.mem_cons_of_mem _ hs))]
  | t :: ts, x :: xs, h => by
    simp only [evs]
    rw [ev_congr (fun s hs => h s (by rw [hs]; exact List.mem_cons_self)), evs_congr (fun s hs => h s (List.mem_cons_of_mem _ hs))]
theorem evParts_congr {tab : Tab} {ty : Nat → TypeId} : ∀ {ps : List (Nat × Operand)}, (∀ s, .tmp s ∈ ps.map (·.2) → fr.getD s .undef = fr'.getD s .undef) → evParts tab fr ty ps = evParts tab fr' ty ps
  | [], _ => rfl
  | (i, x) :: ps, h => by
    simp only [evParts]
    rw [ev_congr (fun s hs => h s (by rw [hs]; exact List.mem_cons_self)), evParts_congr (fun s hs => h s (List.mem_cons_of_mem _ hs))]
theorem opK0_congr {o : Oper} {K : AV → Store → Option Res} (h : ∀ s, s ∈ opLive o.op [] → fr.getD s .undef = fr'.getD s .undef) : opK0 E fr o σ K = opK0 E fr' o σ K := by
  unfold opK0
  cases hop : o.op with
  | move x | assign x =>
    rw [hop] at h
    simp only [opLive, opnd_mem] at h
    simp only [ev_congr (fun s hs => h s (.inl hs))]
  | pick c x y =>
    rw [hop] at h
    simp only [opLive, opnd_mem] at h
    simp only
    rw [ev_congr (x := c) (fun s hs => h s (.inl hs)), ev_congr (x := x) (fun s hs => h s (.inr (.inl hs))), ev_congr (x := y) (fun s hs => h s (.inr (.inr (.inl hs))))]
  | alloc t => rfl
  | box t x | load t x =>
    rw [hop] at h
    simp only [opLive, opnd_mem] at h
    simp only [ev_congr (x := x) (fun s hs => h s (.inl hs))]
  | build t ps =>
    rw [hop] at h
    simp only [opLive, opnds2_mem] at h
    simp only [evParts_congr (ps := ps.toList) (fun s hs => h s (.inl hs))]
  | buildSlice t n ps =>
    rw [hop] at h
    simp only [opLive, opnds2_mem] at h
    simp only [evParts_congr (ps := ps.toList) (fun s hs => h s (.inl hs))]
  | store t x y | makeSlice t x y | indexAddr t x y | index t x y =>
    rw [hop] at h
    simp only [opLive, opnd_mem] at h
    simp only [ev_congr (x := x) (fun s hs => h s (.inl hs)), ev_congr (x := y) (fun s hs => h s (.inr (.inl hs)))]
  | binOp op t x y yt =>
    rw [hop] at h
    simp only [opLive, opnd_mem] at h
    simp only [ev_congr (x := x) (fun s hs => h s (.inl hs)), ev_congr (x := y) (fun s hs => h s (.inr (.inl hs)))]
  | nilCheck x =>
    rw [hop] at h
    simp only [opLive, opnd_mem] at h
    simp only [ev_congr (x := x) (fun s hs => h s (.inl hs))]
  | unOp op t x | sliceToArrayPointer t x | convert a b x | fieldAddr t x f | field t x f | extract x i =>
    rw [hop] at h
    simp only [opLive, opnd_mem] at h
    simp only [ev_congr (x := x) (fun s hs => h s (.inl hs))]
  | makeFunc f a b =>
    rw [hop] at h
    simp only [opLive, opnds_mem] at h
    simp only [evs_congr (xs := a.toList) (fun s hs => h s (.inl hs)), evs_congr (xs := b.toList) (fun s hs => h s (.inr (.inl hs)))]
  | slice t x lo hi mx =>
    rw [hop] at h
    simp only [opLive, opnd_mem, opndO_mem] at h
    have hx := fun t => ev_congr (tab := E.tab) (t := t) (x := x) (fun s hs => h s (.inl hs))
    have hl : ∀ l, lo = some l → ∀ t, ev E.tab fr t l = ev E.tab fr' t l := fun l hl t => ev_congr (fun s hs => h s (.inr (.inl (by rw [hl, hs]))))
    have hh : ∀ l, hi = some l → ∀ t, ev E.tab fr t l = ev E.tab fr' t l := fun l hl t => ev_congr (fun s hs => h s (.inr (.inr (.inl (by rw [hl, hs])))))
    have hm : ∀ l, mx = some l → ∀ t, ev E.tab fr t l = ev E.tab fr' t l := fun l hl t => ev_congr (fun s hs => h s (.inr (.inr (.inr (.inl (by rw [hl, hs]))))))
    have fin : ∀ (vx : AV) (v1 v2 : Option AV), (bif known E.tab t then match E.tab[t]? with
        | some I => match I.ty, mx with
          | .arr n e, none => (E.tab.sh e).bind fun s => one (oSliceA s n vx v1 v2 σ) σ K
          | .slc e, none => bif fitsSlc E.tab e vx then one (oSlice vx v1 v2 false) σ K else none
          | .str, none => bif isStr vx then one (oSlice vx v1 v2 false) σ K else none
          | .slc e, some m => (ev E.tab fr 0 m).bind fun m => match v2 with
            | some h => (asI h).bind fun a => (asI m).bind fun b => bif fitsSlc E.tab e vx && decide (a = b) then one (oSlice vx v1 (some h) true) σ K else none
            | none => none
          | _, _ => none
        | none => none else none) = (bif known E.tab t then match E.tab[t]? with
        | some I => match I.ty, mx with
          | .arr n e, none => (E.tab.sh e).bind fun s => one (oSliceA s n vx v1 v2 σ) σ K
          | .slc e, none => bif fitsSlc E.tab e vx then one (oSlice vx v1 v2 false) σ K else none
          | .str, none => bif isStr vx then one (oSlice vx v1 v2 false) σ K else none
          | .slc e, some m => (ev E.tab fr' 0 m).bind fun m => match v2 with
            | some h => (asI h).bind fun a => (asI m).bind fun b => bif fitsSlc E.tab e vx && decide (a = b) then one (oSlice vx v1 (some h) true) σ K else none
            | none => none
          | _, _ => none
        | none => none else none) := by
      intro vx v1 v2
      cases known E.tab t with
      | false => rfl
      | true =>
        simp only [cond_true]
        cases E.tab[t]? with
        | none => rfl
        | some I =>
          simp only
          cases I.ty <;> cases mx <;> first | rfl | (rename_i m; simp only [hm m rfl])
    simp only [hx]
    cases ev E.tab fr' t x with
    | none => rfl
    | some vx =>
      cases lo with
      | none =>
        cases hi with
        | none => exact fin vx none none
        | some l =>
          simp only [hh l rfl]
          cases ev E.tab fr' 0 l with
          | none => rfl
          | some v => exact fin vx none (some v)
      | some k =>
        simp only [hl k rfl]
        cases ev E.tab fr' 0 k with
        | none => rfl
        | some u =>
          cases hi with
          | none => exact fin vx (some u) none
          | some l =>
            simp only [hh l rfl]
            cases ev E.tab fr' 0 l with
            | none => rfl
            | some v => exact fin vx (some u) (some v)
  | call c =>
    rw [hop] at h
    simp only [opLive] at h
    have ha := fun ts => evs_congr (tab := E.tab) (ts := ts) (xs := c.args.toList) (fun s hs => h s (by
      cases c.callee with
      | value f => exact opnd_mem.2 (.inr (opnds_mem.2 (.inl hs)))
      | invoke r n => exact opnd_mem.2 (.inr (opnds_mem.2 (.inl hs)))
      | builtin b => exact opnds_mem.2 (.inl hs)))
    simp only [ha]
    cases hc : c.callee with
    | value f =>
      rw [hc] at h
      have hf := fun t => ev_congr (tab := E.tab) (t := t) (x := f) (fun s hs => h s (opnd_mem.2 (.inl hs)))
      cases f with
      | func g => rfl
      | _ => simp only [hf]
    | invoke r n => rfl
    | builtin b => cases b <;> rfl
  | _ => rfl
end
end Go.AX
