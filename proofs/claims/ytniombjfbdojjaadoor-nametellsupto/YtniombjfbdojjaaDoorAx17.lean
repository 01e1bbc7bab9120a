import Derived.Test.YtniombjfbdojjaaDoorAx7
import Derived.Test.YtniombjfbdojjaaDoorAx15
import Derived.Test.YtniombjfbdojjaaDoorAx16
/- AX, part 24a: what operations depend on. -/
namespace Go.AX
end Go.AX

namespace Go.AX
theorem opnd_mem {x : Operand} {l : List Nat} {s : Nat} : s ∈ opnd x l ↔ x = .tmp s ∨ s ∈ l := by
  unfold opnd
  split
  · rw [ins_mem]
    simp only [Operand.tmp.injEq]
    constructor
    · rintro (rfl | h)
      · exact .inl rfl
      · exact .inr h
    · rintro (rfl | h)
      · exact .inl rfl
      · exact .inr h
  · rename_i h
    constructor
    · exact .inr
    · rintro (rfl | h')
      · exact absurd rfl (h s)
      · exact h'
theorem opnds_mem {s : Nat} {l : List Nat} : ∀ {xs : List Operand}, s ∈ opnds xs l ↔ .tmp s ∈ xs ∨ s ∈ l
  | [] => by simp [opnds]
  | x :: xs => by
    have : opnds (x :: xs) l = opnd x (opnds xs l) := rfl
    rw [this, opnd_mem, opnds_mem (xs := xs), List.mem_cons]
    constructor
    · rintro (rfl | h | h)
      · exact .inl (.inl rfl)
      · exact .inl (.inr h)
      · exact .inr h
    · rintro ((rfl | h) | h)
      · exact .inl rfl
      · exact .inr (.inl h)
      · exact .inr (.inr h)
theorem opnds2_mem {s : Nat} {l : List Nat} : ∀ {xs : List (Nat × Operand)}, s ∈ opnds2 xs l ↔ .tmp s ∈ xs.map (·.2) ∨ s ∈ l
  | [] => by simp [opnds2]
  | x :: xs => by
    have : opnds2 (x :: xs) l = opnd x.2 (opnds2 xs l) := rfl
    rw [this, opnd_mem, opnds2_mem (xs := xs), List.map_cons, List.mem_cons]
    constructor
    · rintro (h | h | h)
      · exact .inl (.inl h.symm)
      · exact .inl (.inr h)
      · exact .inr h
    · rintro ((h | h) | h)
      · exact .inl h.symm
      · exact .inr (.inl h)
      · exact .inr (.inr h)
theorem opndO_mem {x : Option Operand} {l : List Nat} {s : Nat} : s ∈ opndO x l ↔ x = some (.tmp s) ∨ s ∈ l := by
  cases x with
  | none => simp [opndO]
  | some x => simp [opndO, opnd_mem]
section
variable {E : Env} {fr fr' : Frame'} {σ : Store}
theorem ev_congr {tab : Tab} {t : TypeId} {x : Operand} (h : ∀ s, x = .tmp s → fr.getD s .undef = fr'.getD s .undef) : ev tab fr t x = ev tab fr' t x := by
  cases x with
  | tmp i => simp only [ev]; rw [h i rfl]
  | _ => rfl
theorem evs_congr {tab : Tab} : ∀ {ts : List TypeId} {xs : List Operand}, (∀ s, .tmp s ∈ xs → fr.getD s .undef = fr'.getD s .undef) → evs tab fr ts xs = evs tab fr' ts xs
  | ts, [], _ => by cases ts <;> rfl
  | [], x :: xs, h => by
    simp only [evs]
    rw [ev_congr (fun s hs => h s (by rw [hs]; exact List.mem_cons_self)), evs_congr (fun s hs => h s (List.mem_cons_of_mem _ hs))]
  | t :: ts, x :: xs, h => by
    simp only [evs]
    rw [ev_congr (fun s hs => h s (by rw [hs]; exact List.mem_cons_self)), evs_congr (fun s hs => h s (List.mem_cons_of_mem _ hs))]
theorem evParts_congr {tab : Tab} {ty : Nat → TypeId} : ∀ {ps : List (Nat × Operand)}, (∀ s, .tmp s ∈ ps.map (·.2) → fr.getD s .undef = fr'.getD s .undef) → evParts tab fr ty ps = evParts tab fr' ty ps
  | [], _ => rfl
  | (i, x) :: ps, h => by
    simp only [evParts]
    rw [ev_congr (fun s hs => h s (by rw [hs]; exact List.mem_cons_self)), evParts_congr (fun s hs => h s (List.mem_cons_of_mem _ hs))]
theorem opK0_congr {o : Oper} {K : AV → Store → Option Res} (h : ∀ s, s ∈ opLive o.op [] → fr.getD s .undef = fr'.getD s .undef) : opK0 E fr o σ K = opK0 E fr' o σ K := by
  unfold opK0
  cases hop : o.op with
  | move x | assign x =>
    rw [hop] at h
    simp only [opLive, opnd_mem] at h
    simp only [ev_congr (fun s hs => h s (.inl hs))]
  | pick c x y =>
    rw [hop] at h
    simp only [opLive, opnd_mem] at h
    simp only
    rw [ev_congr (x := c) (fun s hs => h s (.inl hs)), ev_congr (x := x) (fun s hs => h s (.inr (.inl hs))), ev_congr (x := y) (fun s hs => h s (.inr (.inr (.inl hs))))]
  | alloc t => rfl
  | box t x | load t x =>
    rw [hop] at h
    simp only [opLive, opnd_mem] at h
    simp only [ev_congr (x := x) (fun s hs => h s (.inl hs))]
  | build t ps =>
    rw [hop] at h
    simp only [opLive, opnds2_mem] at h
    simp only [evParts_congr (ps := ps.toList) (fun s hs => h s (.inl hs))]
  | buildSlice t n ps =>
    rw [hop] at h
    simp only [opLive, opnds2_mem] at h
    simp only [evParts_congr (ps := ps.toList) (fun s hs => h s (.inl hs))]
  | store t x y | makeSlice t x y | indexAddr t x y | index t x y =>
    rw [hop] at h
    simp only [opLive, opnd_mem] at h
    simp only [ev_congr (x := x) (fun s hs => h s (.inl hs)), ev_congr (x := y) (fun s hs => h s (.inr (.inl hs)))]
  | lookup t x k ok =>
    rw [hop] at h
    simp only [opLive, opnd_mem] at h
    cases ok with
    | true => rfl
    | false => simp only [ev_congr (x := x) (fun s hs => h s (.inl hs)), ev_congr (x := k) (fun s hs => h s (.inr (.inl hs)))]
  | mapUpdate t x k v =>
    rw [hop] at h
    simp only [opLive, opnd_mem] at h
    simp only [ev_congr (x := x) (fun s hs => h s (.inl hs)), ev_congr (x := k) (fun s hs => h s (.inr (.inl hs))), ev_congr (x := v) (fun s hs => h s (.inr (.inr (.inl hs))))]
  | makeMap t rr => cases rr <;> rfl
  | binOp op t x y yt =>
    rw [hop] at h
    simp only [opLive, opnd_mem] at h
    simp only [ev_congr (x := x) (fun s hs => h s (.inl hs)), ev_congr (x := y) (fun s hs => h s (.inr (.inl hs)))]
  | nilCheck x =>
    rw [hop] at h
    simp only [opLive, opnd_mem] at h
    simp only [ev_congr (x := x) (fun s hs => h s (.inl hs))]
  | unOp op t x | sliceToArrayPointer t x | convert a b x | fieldAddr t x f | field t x f | extract x i =>
    rw [hop] at h
    simp only [opLive, opnd_mem] at h
    simp only [ev_congr (x := x) (fun s hs => h s (.inl hs))]
  | makeFunc f a b =>
    rw [hop] at h
    simp only [opLive, opnds_mem] at h
    simp only [evs_congr (xs := a.toList) (fun s hs => h s (.inl hs)), evs_congr (xs := b.toList) (fun s hs => h s (.inr (.inl hs)))]
  | slice t x lo hi mx =>
    rw [hop] at h
    simp only [opLive, opnd_mem, opndO_mem] at h
    have hx := fun t => ev_congr (tab := E.tab) (t := t) (x := x) (fun s hs => h s (.inl hs))
    have hl : ∀ l, lo = some l → ∀ t, ev E.tab fr t l = ev E.tab fr' t l := fun l hl t => ev_congr (fun s hs => h s (.inr (.inl (by rw [hl, hs]))))
    have hh : ∀ l, hi = some l → ∀ t, ev E.tab fr t l = ev E.tab fr' t l := fun l hl t => ev_congr (fun s hs => h s (.inr (.inr (.inl (by rw [hl, hs])))))
    have hm : ∀ l, mx = some l → ∀ t, ev E.tab fr t l = ev E.tab fr' t l := fun l hl t => ev_congr (fun s hs => h s (.inr (.inr (.inr (.inl (by rw [hl, hs]))))))
    have fin : ∀ (vx : AV) (v1 v2 : Option AV), (bif known E.tab t then match E.tab[t]? with
        | some I => match I.ty, mx with
          | .arr n e, none => (E.tab.sh e).bind fun s => one (oSliceA s n vx v1 v2 σ) σ K
          | .slc e, none => bif fitsSlc E.tab e vx then one (oSlice vx v1 v2 false) σ K else none
          | .str, none => bif isStr vx then one (oSlice vx v1 v2 false) σ K else none
          | .slc e, some m => (ev E.tab fr 0 m).bind fun m => match v2 with
            | some h => (asI h).bind fun a => (asI m).bind fun b => bif fitsSlc E.tab e vx && decide (a = b) then one (oSlice vx v1 (some h) true) σ K else none
            | none => none
          | _, _ => none
        | none => none else none) = (bif known E.tab t then match E.tab[t]? with
        | some I => match I.ty, mx with
          | .arr n e, none => (E.tab.sh e).bind fun s => one (oSliceA s n vx v1 v2 σ) σ K
          | .slc e, none => bif fitsSlc E.tab e vx then one (oSlice vx v1 v2 false) σ K else none
          | .str, none => bif isStr vx then one (oSlice vx v1 v2 false) σ K else none
          | .slc e, some m => (ev E.tab fr' 0 m).bind fun m => match v2 with
            | some h => (asI h).bind fun a => (asI m).bind fun b => bif fitsSlc E.tab e vx && decide (a = b) then one (oSlice vx v1 (some h) true) σ K else none
            | none => none
          | _, _ => none
        | none => none else none) := by
      intro vx v1 v2
      cases known E.tab t with
      | false => rfl
      | true =>
        simp only [cond_true]
        cases E.tab[t]? with
        | none => rfl
        | some I =>
          simp only
          cases I.ty <;> cases mx <;> first | rfl | (rename_i m; simp only [hm m rfl])
    simp only [hx]
    cases ev E.tab fr' t x with
    | none => rfl
    | some vx =>
      cases lo with
      | none =>
        cases hi with
        | none => exact fin vx none none
        | some l =>
          simp only [hh l rfl]
          cases ev E.tab fr' 0 l with
          | none => rfl
          | some v => exact fin vx none (some v)
      | some k =>
        simp only [hl k rfl]
        cases ev E.tab fr' 0 k with
        | none => rfl
        | some u =>
          cases hi with
          | none => exact fin vx (some u) none
          | some l =>
            simp only [hh l rfl]
            cases ev E.tab fr' 0 l with
            | none => rfl
            | some v => exact fin vx (some u) (some v)
  | call c =>
    rw [hop] at h
    simp only [opLive] at h
    have ha := fun ts => evs_congr (tab := E.tab) (ts := ts) (xs := c.args.toList) (fun s hs => h s (by
      cases c.callee with
      | value f => exact opnd_mem.2 (.inr (opnds_mem.2 (.inl hs)))
      | invoke r n => exact opnd_mem.2 (.inr (opnds_mem.2 (.inl hs)))
      | builtin b => exact opnds_mem.2 (.inl hs)))
    simp only [ha]
    cases hc : c.callee with
    | value f =>
      rw [hc] at h
      have hf := fun t => ev_congr (tab := E.tab) (t := t) (x := f) (fun s hs => h s (opnd_mem.2 (.inl hs)))
      cases f with
      | func g => rfl
      | _ => simp only [hf]
    | invoke r n => rfl
    | builtin b => cases b <;> rfl
  | _ => rfl
end
end Go.AX

namespace Go.AX
theorem cond_bind {α β : Type} {c : Bool} {x : Option α} {f : α → Option β} : (bif c then x.bind f else none) = (bif c then x else none).bind f := by cases c <;> rfl
theorem look_form0 {E : Env} {fr : Frame'} {o : Oper} (h : opCls E o.op = 0) : ∃ x : Option AV, ∀ σ K, opK0 E fr o σ K = x.bind fun v => K v σ := by
  unfold opK0
  cases hop : o.op with
  | move x | assign x => exact ⟨ev E.tab fr o.type x, fun σ K => rfl⟩
  | pick c a b =>
    refine ⟨(ev E.tab fr 0 c).bind fun c => (asB c).bind fun c => (ev E.tab fr o.type a).bind fun a => (ev E.tab fr o.type b).bind fun b => some (cond c a b), fun σ K => ?_⟩
    simp only [Option.bind_assoc, Option.bind_some]
  | nilCheck x => exact ⟨(ev E.tab fr 0 x).bind oNilCheck, fun σ K => by simp only [one, Option.bind_assoc]⟩
  | binOp op t x y yt =>
    refine ⟨(ev E.tab fr t x).bind fun x => (ev E.tab fr t y).bind fun y => match op with
      | .eql => bif known E.tab t then oEq E.tab false t x y else none
      | .neq => bif known E.tab t then oEq E.tab true t x y else none
      | op => oBin op x y, fun σ K => ?_⟩
    simp only [Option.bind_assoc]
    cases ev E.tab fr t x with
    | none => rfl
    | some vx =>
      cases ev E.tab fr t y with
      | none => rfl
      | some vy => cases op <;> simp only [Option.bind_some, one] <;> first | rfl | exact cond_bind
  | unOp op t x => exact ⟨(ev E.tab fr 0 x).bind (oUn op), fun σ K => by simp only [one, Option.bind_assoc]⟩
  | makeFunc f a b =>
    refine ⟨(evs E.tab fr [] a.toList).bind fun a => (evs E.tab fr [] b.toList).bind fun b => bif realL a && realL b then some (oFn f a b) else none, fun σ K => ?_⟩
    simp only [Option.bind_assoc]
    cases evs E.tab fr [] a.toList with
    | none => rfl
    | some va =>
      cases evs E.tab fr [] b.toList with
      | none => rfl
      | some vb =>
        simp only [Option.bind_some]
        cases realL va && realL vb <;> rfl
  | sliceToArrayPointer t x =>
    refine ⟨(ev E.tab fr 0 x).bind fun x => bif known E.tab t then match E.tab[t]? with
      | some I => match I.ty with
        | .arr n e => (E.tab.sh e).bind fun s => oS2A s n x
        | _ => none
      | none => none else none, fun σ K => ?_⟩
    simp only [Option.bind_assoc]
    cases ev E.tab fr 0 x with
    | none => rfl
    | some vx =>
      simp only [Option.bind_some]
      cases known E.tab t with
      | false => rfl
      | true =>
        simp only [cond_true]
        cases E.tab[t]? with
        | none => rfl
        | some I => cases hty : I.ty <;> simp only [hty, Option.bind_none, Option.bind_assoc, one]
  | fieldAddr t x f =>
    refine ⟨(ev E.tab fr 0 x).bind fun x => bif known E.tab t then match E.tab[t]? with
      | some I => match I.ty, I.sh with
        | .struct _, .agg l => match l[f]? with
          | some s => oFieldAddr I.sh s f x
          | none => none
        | _, _ => none
      | none => none else none, fun σ K => ?_⟩
    simp only [Option.bind_assoc]
    cases ev E.tab fr 0 x with
    | none => rfl
    | some vx =>
      simp only [Option.bind_some]
      cases known E.tab t with
      | false => rfl
      | true =>
        simp only [cond_true]
        cases E.tab[t]? with
        | none => rfl
        | some I =>
          simp only
          cases I.ty <;> try rfl
          cases I.sh <;> try rfl
          rename_i l
          cases hl : l[f]? <;> simp only [hl] <;> rfl
  | field t x f =>
    refine ⟨(ev E.tab fr 0 x).bind fun x => bif known E.tab t then match E.tab[t]? with
      | some I => match I.ty with
        | .struct _ => bif Sh.eqb x.shape I.sh then oField f x else none
        | _ => none
      | none => none else none, fun σ K => ?_⟩
    simp only [Option.bind_assoc]
    cases ev E.tab fr 0 x with
    | none => rfl
    | some vx =>
      simp only [Option.bind_some]
      cases known E.tab t with
      | false => rfl
      | true =>
        simp only [cond_true]
        cases E.tab[t]? with
        | none => rfl
        | some I =>
          simp only
          cases I.ty <;> try rfl
          exact cond_bind
  | indexAddr t x i =>
    refine ⟨(ev E.tab fr t x).bind fun x => (ev E.tab fr 0 i).bind fun i => bif known E.tab t then match E.tab[t]? with
      | some I => match I.ty with
        | .slc e => (E.tab.sh e).bind fun s => oIndexAddr s x i
        | .arr n e => (E.tab.sh e).bind fun s => oIndexAddrA s n x i
        | _ => none
      | none => none else none, fun σ K => ?_⟩
    simp only [Option.bind_assoc]
    cases ev E.tab fr t x with
    | none => rfl
    | some vx =>
      cases ev E.tab fr 0 i with
      | none => rfl
      | some vi =>
        simp only [Option.bind_some]
        cases known E.tab t with
        | false => rfl
        | true =>
          simp only [cond_true]
          cases E.tab[t]? with
          | none => rfl
          | some I =>
            simp only
            cases I.ty <;> try rfl
            all_goals (simp only [one, Option.bind_assoc])
  | index t x i =>
    refine ⟨(ev E.tab fr t x).bind fun x => (ev E.tab fr 0 i).bind fun i => bif known E.tab t then match E.tab[t]? with
      | some I => match I.ty with
        | .str => oIndexS x i
        | .arr _ _ => bif Sh.eqb x.shape I.sh then oIndexA x i else none
        | _ => none
      | none => none else none, fun σ K => ?_⟩
    simp only [Option.bind_assoc]
    cases ev E.tab fr t x with
    | none => rfl
    | some vx =>
      cases ev E.tab fr 0 i with
      | none => rfl
      | some vi =>
        simp only [Option.bind_some]
        cases known E.tab t with
        | false => rfl
        | true =>
          simp only [cond_true]
          cases E.tab[t]? with
          | none => rfl
          | some I =>
            simp only
            cases I.ty <;> try rfl
            exact cond_bind
  | extract x i => exact ⟨(ev E.tab fr 0 x).bind (oExtract i), fun σ K => by simp only [one, Option.bind_assoc]⟩
  | build t ps =>
    rw [hop] at h
    simp only [opCls] at h
    split at h
    · rename_i I hI
      split at h
      · rename_i fs hty
        refine ⟨bif known E.tab t then I.zero.parts.bind fun zs => (evParts E.tab fr (fieldTy fs) ps.toList).bind fun ps => (partsAll (zs.map (nrm (rawB E t))) (ps.map fun p => (p.1, nrm (rawB E t) p.2))).bind fun vs => some (pck (rawB E t) vs) else none, fun σ K => ?_⟩
        simp only [hI, hty]
        cases known E.tab t with
        | false => rfl
        | true => simp only [cond_true, Option.bind_assoc, Option.bind_some]
      · simp at h
    · simp at h
  | convert s d x =>
    rw [hop] at h
    simp only [opCls] at h
    split at h
    · rename_i I J hI hJ
      split at h
      · rename_i k k' h1 h2
        refine ⟨(ev E.tab fr s x).bind fun x => bif known E.tab s && known E.tab d then oConvI k' x else none, fun σ K => ?_⟩
        simp only [hI, hJ, h1, h2, Option.bind_assoc]
        cases ev E.tab fr s x with
        | none => rfl
        | some v => exact cond_bind
      · simp at h
      · simp at h
    · simp at h
  | call c =>
    rw [hop] at h
    simp only [opCls] at h
    cases hc : c.callee with
    | value f =>
      rw [hc] at h
      cases f with
      | func g =>
        simp only at h
        cases hp : pureF E g with
        | false => rw [hp] at h; simp at h
        | true =>
          refine ⟨(evs E.tab fr c.argTypes.toList c.args.toList).bind fun args => (E.callee g).bind fun F => (pureC F args).run, fun σ K => ?_⟩
          simp only [hc, hp, cond_true, one, Option.bind_assoc]
      | _ => simp at h
    | invoke a b => rw [hc] at h; simp at h
    | builtin b =>
      cases b with
      | len =>
        refine ⟨(evs E.tab fr c.argTypes.toList c.args.toList).bind fun args => match args, c.argTypes[0]? with
          | [x], some t => bif known E.tab t then match E.tab[t]? with
            | some I => match I.ty with
              | .slc _ => bif (slcSh x).isSome then oLen x else none
              | .str => bif isStr x then oLen x else none
              | .arr n _ => some (aInt n)
              | _ => none
            | none => none else none
          | _, _ => none, fun σ K => ?_⟩
        simp only [hc, Option.bind_assoc]
        cases evs E.tab fr c.argTypes.toList c.args.toList with
        | none => rfl
        | some args =>
          simp only [Option.bind_some]
          rcases args with _ | ⟨x, _ | ⟨y, l⟩⟩
          · rfl
          · cases hq : c.argTypes[0]? with
            | none => rfl
            | some t =>
              simp only
              cases known E.tab t with
              | false => rfl
              | true =>
                simp only [cond_true]
                cases ht : E.tab[t]? with
                | none => rfl
                | some I =>
                  simp only
                  cases hty : I.ty <;> first | rfl | exact cond_bind | (exfalso; rw [hc] at h; simp [hq, ht, hty] at h)
          · rfl
      | max =>
        refine ⟨(evs E.tab fr c.argTypes.toList c.args.toList).bind fun args => match args with | [x, y] => oMax x y | [x, y, z] => (oMax x y).bind fun x => oMax x z | _ => none, fun σ K => ?_⟩
        simp only [hc, Option.bind_assoc]
        cases evs E.tab fr c.argTypes.toList c.args.toList with
        | none => rfl
        | some args =>
          simp only [Option.bind_some, one]
          rcases args with _ | ⟨x, _ | ⟨y, _ | ⟨z, _ | ⟨u, l⟩⟩⟩⟩ <;> simp only [Option.bind_assoc] <;> rfl
      | min =>
        refine ⟨(evs E.tab fr c.argTypes.toList c.args.toList).bind fun args => match args with | [x, y] => oMin x y | [x, y, z] => (oMin x y).bind fun x => oMin x z | _ => none, fun σ K => ?_⟩
        simp only [hc, Option.bind_assoc]
        cases evs E.tab fr c.argTypes.toList c.args.toList with
        | none => rfl
        | some args =>
          simp only [Option.bind_some, one]
          rcases args with _ | ⟨x, _ | ⟨y, _ | ⟨z, _ | ⟨u, l⟩⟩⟩⟩ <;> simp only [Option.bind_assoc] <;> rfl
      | _ => rw [hc] at h; simp at h
  | _ => rw [hop] at h; simp [opCls] at h
theorem look_form1 {E : Env} {fr : Frame'} {o : Oper} (h : opCls E o.op = 1) : ∃ x : Store → Option AV, ∀ σ K, opK0 E fr o σ K = (x σ).bind fun v => K v σ := by
  unfold opK0
  cases hop : o.op with
  | load t x =>
    refine ⟨fun σ => (ev E.tab fr 0 x).bind fun x => bif known E.tab t then (E.tab.sh t).bind fun s => oLoad s x σ else none, fun σ K => ?_⟩
    simp only [Option.bind_assoc]
    cases ev E.tab fr 0 x with
    | none => rfl
    | some vx =>
      simp only [Option.bind_some]
      cases known E.tab t with
      | false => rfl
      | true => simp only [cond_true, one, Option.bind_assoc]
  | slice t x lo hi mx =>
    refine ⟨fun σ => (ev E.tab fr t x).bind fun x =>
      (match lo with | none => some none | some l => (ev E.tab fr 0 l).map some).bind fun lo =>
      (match hi with | none => some none | some l => (ev E.tab fr 0 l).map some).bind fun hi =>
      bif known E.tab t then match E.tab[t]? with
        | some I => match I.ty, mx with
          | .arr n e, none => (E.tab.sh e).bind fun s => oSliceA s n x lo hi σ
          | .slc e, none => bif fitsSlc E.tab e x then oSlice x lo hi false else none
          | .str, none => bif isStr x then oSlice x lo hi false else none
          | .slc e, some m => (ev E.tab fr 0 m).bind fun m => match hi with
            | some h => (asI h).bind fun a => (asI m).bind fun b => bif fitsSlc E.tab e x && decide (a = b) then oSlice x lo (some h) true else none
            | none => none
          | _, _ => none
        | none => none else none, fun σ K => ?_⟩
    have fin : ∀ (vx : AV) (v1 v2 : Option AV), (bif known E.tab t then match E.tab[t]? with
        | some I => match I.ty, mx with
          | .arr n e, none => (E.tab.sh e).bind fun s => one (oSliceA s n vx v1 v2 σ) σ K
          | .slc e, none => bif fitsSlc E.tab e vx then one (oSlice vx v1 v2 false) σ K else none
          | .str, none => bif isStr vx then one (oSlice vx v1 v2 false) σ K else none
          | .slc e, some m => (ev E.tab fr 0 m).bind fun m => match v2 with
            | some h => (asI h).bind fun a => (asI m).bind fun b => bif fitsSlc E.tab e vx && decide (a = b) then one (oSlice vx v1 (some h) true) σ K else none
            | none => none
          | _, _ => none
        | none => none else none) = (bif known E.tab t then match E.tab[t]? with
        | some I => match I.ty, mx with
          | .arr n e, none => (E.tab.sh e).bind fun s => oSliceA s n vx v1 v2 σ
          | .slc e, none => bif fitsSlc E.tab e vx then oSlice vx v1 v2 false else none
          | .str, none => bif isStr vx then oSlice vx v1 v2 false else none
          | .slc e, some m => (ev E.tab fr 0 m).bind fun m => match v2 with
            | some h => (asI h).bind fun a => (asI m).bind fun b => bif fitsSlc E.tab e vx && decide (a = b) then oSlice vx v1 (some h) true else none
            | none => none
          | _, _ => none
        | none => none else none).bind fun v => K v σ := by
      intro vx v1 v2
      cases known E.tab t with
      | false => rfl
      | true =>
        simp only [cond_true]
        cases E.tab[t]? with
        | none => rfl
        | some I =>
          simp only
          cases I.ty <;> cases mx <;> simp only [one, Option.bind_assoc] <;> try first | rfl | exact cond_bind
          rename_i m
          cases ev E.tab fr 0 m with
          | none => rfl
          | some vm =>
            simp only [Option.bind_some]
            cases v2 with
            | none => rfl
            | some vh =>
              simp only [Option.bind_assoc]
              cases asI vh with
              | none => rfl
              | some n1 =>
                cases asI vm with
                | none => rfl
                | some n2 => exact cond_bind
    simp only [Option.bind_assoc]
    cases ev E.tab fr t x with
    | none => rfl
    | some vx =>
      cases lo with
      | none =>
        cases hi with
        | none => exact fin vx none none
        | some l =>
          simp only
          cases ev E.tab fr 0 l with
          | none => rfl
          | some v => exact fin vx none (some v)
      | some k =>
        simp only
        cases ev E.tab fr 0 k with
        | none => rfl
        | some u =>
          cases hi with
          | none => exact fin vx (some u) none
          | some l =>
            simp only
            cases ev E.tab fr 0 l with
            | none => rfl
            | some v => exact fin vx (some u) (some v)
  | convert s d x =>
    rw [hop] at h
    simp only [opCls] at h
    split at h
    · rename_i I J hI hJ
      split at h
      · simp at h
      · rename_i e h1 h2
        refine ⟨fun σ => (ev E.tab fr s x).bind fun x => bif known E.tab s && known E.tab d then match E.tab[e]? with
          | some L => match L.ty with | .int .u8 => oToStr x σ | _ => none
          | none => none else none, fun σ K => ?_⟩
        simp only [hI, hJ, h1, h2, Option.bind_assoc]
        cases ev E.tab fr s x with
        | none => rfl
        | some v =>
          simp only [Option.bind_some]
          cases known E.tab s && known E.tab d with
          | false => rfl
          | true =>
            simp only [cond_true]
            cases E.tab[e]? with
            | none => rfl
            | some L =>
              simp only
              split <;> rename_i hk <;> simp only [hk] <;> first | rfl | (split <;> simp_all)
      · simp at h
    · simp at h
  | call c =>
    rw [hop] at h
    simp only [opCls] at h
    split at h
    · split at h
      · split at h
        · split at h <;> simp at h
        · simp at h
      · simp at h
    · simp at h
    · simp at h
    · rename_i g hg
      cases hp : pureF E g <;> rw [hp] at h <;> simp at h
    · simp at h
  | build t ps =>
    rw [hop] at h
    simp only [opCls] at h
    split at h
    · split at h <;> simp at h
    · simp at h
  | _ => rw [hop] at h; simp [opCls] at h
end Go.AX
