import Derived.Test.YtdmmobjegfhneaaAx23
/- AX, part 24d: an operation's outcome, apart from what follows. -/
namespace Go.AX
theorem bind2_eq {α β γ : Type} (x : Option (α × β)) (K : α → β → Option γ) : bind2 x K = x.bind fun p => K p.1 p.2 := rfl
theorem cond_none {α : Type} {c : Bool} {x y : Option α} (h : x = y) : (bif c then x else none) = (bif c then y else none) := by rw [h]
theorem call1_form {E : Env} {ref : Bool} {f : List AV → Store → Option (List AV × Store)} {args : List AV} {σ : Store} {K : AV → Store → Option Res} :
    call1 E ref f args σ K = (bif realL args then (bif ref then (f args σ).bind fun r => some (res1 r.1, r.2) else (freezeL args σ).bind fun a => (f a.1 a.2).bind fun r => some (res1 r.1, r.2)) else none).bind fun p => K p.1 p.2 := by
  unfold call1
  cases realL args with
  | false => rfl
  | true =>
    cases ref with
    | true => simp only [cond_true, bind2_eq, Option.bind_assoc, Option.bind_some]
    | false => simp only [cond_true, cond_false, bind2_eq, Option.bind_assoc, Option.bind_some]
theorem opK0_form (E : Env) (fr : Frame') (o : Oper) : ∃ x : Store → Option (AV × Store), ∀ σ K, opK0 E fr o σ K = (x σ).bind fun p => K p.1 p.2 := by
  have low0 : opCls E o.op = 0 → ∃ x : Store → Option (AV × Store), ∀ σ K, opK0 E fr o σ K = (x σ).bind fun p => K p.1 p.2 := fun h => by
    obtain ⟨x, hx⟩ := look_form0 (fr := fr) h
    exact ⟨fun σ => x.bind fun v => some (v, σ), fun σ K => by simp only [hx, Option.bind_assoc, Option.bind_some]⟩
  have low1 : opCls E o.op = 1 → ∃ x : Store → Option (AV × Store), ∀ σ K, opK0 E fr o σ K = (x σ).bind fun p => K p.1 p.2 := fun h => by
    obtain ⟨x, hx⟩ := look_form1 (fr := fr) h
    exact ⟨fun σ => (x σ).bind fun v => some (v, σ), fun σ K => by simp only [hx, Option.bind_assoc, Option.bind_some]⟩
  cases hop : o.op with
  | move | assign | sliceToArrayPointer | pick | nilCheck | binOp | unOp | makeFunc | fieldAddr | field | indexAddr | index | extract => exact low0 (by rw [hop]; rfl)
  | load | slice => exact low1 (by rw [hop]; rfl)
  | alloc t =>
    unfold opK0
    refine ⟨fun σ => match E.tab[t]? with | some I => bif known E.tab t then oNew I.zero σ else none | none => none, fun σ K => ?_⟩
    simp only [hop]
    cases E.tab[t]? with
    | none => rfl
    | some I => exact cond_bind
  | box t x =>
    unfold opK0
    refine ⟨fun σ => (ev E.tab fr t x).bind fun v => match E.tab[t]? with | some I => bif known E.tab t && Sh.eqb v.shape I.sh then oNew v σ else none | none => none, fun σ K => ?_⟩
    simp only [hop, Option.bind_assoc]
    cases ev E.tab fr t x with
    | none => rfl
    | some v =>
      simp only [Option.bind_some]
      cases E.tab[t]? with
      | none => rfl
      | some I => exact cond_bind
  | build t ps =>
    by_cases h : opCls E o.op = 0
    · exact low0 h
    · unfold opK0
      refine ⟨fun σ => match E.tab[t]? with
        | some I => match I.ty with
          | .arr n e => bif known E.tab t then
              (evParts E.tab fr (fun _ => e) ps.toList).bind fun ps => (freezeP ps σ).bind fun p => match I.zero with
                | .dat (.arr s zs) => bif fits s (p.1.map (·.2)) then (setAll zs p.1).bind fun ds => some (.dat (.arr s ds), p.2) else none
                | _ => none
              else none
          | _ => none
        | none => none, fun σ K => ?_⟩
      rw [hop] at h
      simp only [opCls] at h
      simp only [hop]
      cases hI : E.tab[t]? with
      | none => rfl
      | some I =>
        rw [hI] at h
        simp only at h ⊢
        cases hty : I.ty with
        | struct fs => rw [hty] at h; simp at h
        | arr n e =>
          simp only
          cases known E.tab t with
          | false => rfl
          | true =>
            simp only [cond_true, Option.bind_assoc, bind2_eq]
            cases evParts E.tab fr (fun _ => e) ps.toList with
            | none => rfl
            | some qs =>
              simp only [Option.bind_some]
              cases freezeP qs σ with
              | none => rfl
              | some p =>
                simp only [Option.bind_some]
                split
                · rename_i s zs hz
                  rw [hz]
                  simp only
                  cases fits s (p.1.map (·.2)) with
                  | false => rfl
                  | true => simp only [cond_true, Option.bind_assoc, Option.bind_some]
                · rename_i hz
                  split
                  · rename_i s zs hz'
                    exact absurd hz' (hz s zs)
                  · rfl
        | _ => rfl
  | buildSlice t n ps =>
    unfold opK0
    refine ⟨fun σ => match E.tab[t]? with
      | some I => match I.ty with
        | .slc e => bif known E.tab t then match E.tab[e]? with
          | some J => (evParts E.tab fr (fun _ => e) ps.toList).bind fun ps => (freezeP ps σ).bind fun p => J.zero.toD.bind fun z =>
              bif decide (n * J.sh.size ≤ 2 ^ 24) && fits J.sh (p.1.map (·.2)) then (setAll (List.replicate n z) p.1).bind fun ds => oNewSlice J.sh ds p.2 else none
          | none => none else none
        | _ => none
      | none => none, fun σ K => ?_⟩
    simp only [hop]
    cases E.tab[t]? with
    | none => rfl
    | some I =>
      simp only
      cases I.ty <;> try rfl
      rename_i e
      simp only
      cases known E.tab t with
      | false => rfl
      | true =>
        simp only [cond_true]
        cases E.tab[e]? with
        | none => rfl
        | some J =>
          simp only [Option.bind_assoc, bind2_eq]
          cases evParts E.tab fr (fun _ => e) ps.toList with
          | none => rfl
          | some qs =>
            simp only [Option.bind_some]
            cases freezeP qs σ with
            | none => rfl
            | some p =>
              simp only [Option.bind_some]
              cases J.zero.toD with
              | none => rfl
              | some z =>
                simp only [Option.bind_some]
                cases decide (n * J.sh.size ≤ 2 ^ 24) && fits J.sh (p.1.map (·.2)) with
                | false => rfl
                | true => simp only [cond_true, Option.bind_assoc]
  | store t x v =>
    unfold opK0
    refine ⟨fun σ => (ev E.tab fr 0 x).bind fun x => (ev E.tab fr t v).bind fun v => bif known E.tab t then (E.tab.sh t).bind fun s => (oStore s x v σ).bind fun σ => some (.undef, σ) else none, fun σ K => ?_⟩
    simp only [hop, Option.bind_assoc]
    cases ev E.tab fr 0 x with
    | none => rfl
    | some vx =>
      cases ev E.tab fr t v with
      | none => rfl
      | some vv =>
        simp only [Option.bind_some]
        cases known E.tab t with
        | false => rfl
        | true => simp only [cond_true, Option.bind_assoc, Option.bind_some]
  | makeSlice t n c =>
    unfold opK0
    refine ⟨fun σ => (ev E.tab fr 0 n).bind fun n => (ev E.tab fr 0 c).bind fun c => bif known E.tab t then match E.tab[t]? with
      | some I => match I.ty with
        | .slc e => match E.tab[e]? with
          | some J => oMake J.sh J.bytes J.zero n c σ
          | none => none
        | _ => none
      | none => none else none, fun σ K => ?_⟩
    simp only [hop, Option.bind_assoc]
    cases ev E.tab fr 0 n with
    | none => rfl
    | some vx =>
      cases ev E.tab fr 0 c with
      | none => rfl
      | some vv =>
        simp only [Option.bind_some]
        cases known E.tab t with
        | false => rfl
        | true =>
          simp only [cond_true]
          cases E.tab[t]? with
          | none => rfl
          | some I =>
            simp only
            cases I.ty <;> try rfl
            rename_i e
            simp only
            cases E.tab[e]? <;> rfl
  | convert s d x =>
    by_cases h0 : opCls E o.op = 0
    · exact low0 h0
    · by_cases h1 : opCls E o.op = 1
      · exact low1 h1
      · unfold opK0
        refine ⟨fun σ => (ev E.tab fr s x).bind fun x => bif known E.tab s && known E.tab d then match E.tab[s]?, E.tab[d]? with
          | some I, some J => match I.ty, J.ty with
            | .str, .slc e => match E.tab[e]? with
              | some L => match L.ty with | .int .u8 => oToBytes x σ | _ => none
              | none => none
            | .slc _, .slc e => bif Nat.beq s d then match E.tab[e]? with
              | some L => match L.ty with | .int .u8 => oMark x σ | _ => none
              | none => none else none
            | .str, .str => bif isStr x then some (x, σ) else none
            | _, _ => none
          | _, _ => none else none, fun σ K => ?_⟩
        rw [hop] at h0 h1
        simp only [opCls] at h0 h1
        simp only [hop, Option.bind_assoc]
        cases ev E.tab fr s x with
        | none => rfl
        | some v =>
          simp only [Option.bind_some]
          cases known E.tab s && known E.tab d with
          | false => rfl
          | true =>
            simp only [cond_true]
            cases hI : E.tab[s]? with
            | none => rfl
            | some I =>
              cases hJ : E.tab[d]? with
              | none => rfl
              | some J =>
                rw [hI, hJ] at h0 h1
                simp only at h0 h1 ⊢
                cases hty : I.ty <;> cases hty' : J.ty <;> simp only <;> first | rfl | (rw [hty, hty'] at h0; simp at h0; done) | (rw [hty, hty'] at h1; simp at h1; done) | skip
                · cases isStr v <;> rfl
                · rename_i e
                  cases E.tab[e]? with
                  | none => rfl
                  | some L =>
                    simp only
                    split <;> rename_i hk
                    · simp only [hk]; rfl
                    · split
                      · rename_i hk'; exact absurd hk' hk
                      · rfl
                · rename_i e
                  cases Nat.beq s d with
                  | false => rfl
                  | true =>
                    simp only [cond_true]
                    cases E.tab[e]? with
                    | none => rfl
                    | some L =>
                      simp only
                      split <;> rename_i hk
                      · simp only [hk]; rfl
                      · split
                        · rename_i hk'; exact absurd hk' hk
                        · rfl
  | call c =>
    cases hc : c.callee with
    | invoke r n =>
      unfold opK0
      refine ⟨fun _ => none, fun σ K => ?_⟩
      simp only [hop, hc]
      cases evs E.tab fr c.argTypes.toList c.args.toList <;> rfl
    | value f =>
      unfold opK0
      by_cases hf : ∃ g, f = .func g
      · obtain ⟨g, rfl⟩ := hf
        cases hp : pureF E g with
        | true =>
          refine ⟨fun σ => ((evs E.tab fr c.argTypes.toList c.args.toList).bind fun args => (E.callee g).bind fun F => (pureC F args).run).bind fun v => some (v, σ), fun σ K => ?_⟩
          simp only [hop, hc, hp, cond_true, one, Option.bind_assoc, Option.bind_some]
        | false =>
        refine ⟨fun σ => (evs E.tab fr c.argTypes.toList c.args.toList).bind fun args => (E.callee g).bind fun F => (bif realL args then (bif E.byref g then (callS (FunT.run F) args σ).bind fun r => some (res1 r.1, r.2) else (freezeL args σ).bind fun a => (callS (FunT.run F) a.1 a.2).bind fun r => some (res1 r.1, r.2)) else none), fun σ K => ?_⟩
        simp only [hop, hc, hp, cond_false, call1_form, Option.bind_assoc]
      · refine ⟨fun σ => (evs E.tab fr c.argTypes.toList c.args.toList).bind fun args => (ev E.tab fr 0 f).bind fun f => (bif realL args then ((freezeL args σ).bind fun a => (dynY E f a.1 a.2).bind fun r => some (res1 r.1, r.2)) else none), fun σ K => ?_⟩
        simp only [hop, hc, Option.bind_assoc]
        cases evs E.tab fr c.argTypes.toList c.args.toList with
        | none => rfl
        | some args =>
          simp only [Option.bind_some]
          cases f with
          | func g => exact absurd ⟨g, rfl⟩ hf
          | _ =>
            simp only [call1_form]
            rfl
    | builtin b =>
      by_cases h0 : opCls E o.op = 0
      · exact low0 h0
      · rw [hop] at h0
        simp only [opCls, hc] at h0
        cases b with
        | len | max | min => simp at h0
        | append =>
          unfold opK0
          refine ⟨fun σ => (evs E.tab fr c.argTypes.toList c.args.toList).bind fun args => match args, c.argTypes[0]?, c.argTypes[1]? with
            | [x, y], some t, some u => bif known E.tab t && known E.tab u then match E.tab[t]?, E.tab[u]? with
              | some I, some L => match I.ty, L.ty with
                | .slc e, .slc _ => match E.tab[e]? with | some J => (elems y σ).bind fun ys => apnd (apF E o) J.sh J.bytes x ys σ | none => none
                | .slc e, .str => match E.tab[e]? with | some J => (elems y σ).bind fun ys => apnd (apF E o) J.sh J.bytes x ys σ | none => none
                | .slc e, .int _ => match E.tab[e]? with | some J => (zerosOf J.zero y).bind fun ys => apnd (apF E o) J.sh J.bytes x ys σ | none => none
                | _, _ => none
              | _, _ => none else none
            | _, _, _ => none, fun σ K => ?_⟩
          simp only [hop, hc, Option.bind_assoc]
          cases evs E.tab fr c.argTypes.toList c.args.toList with
          | none => rfl
          | some args =>
            simp only [Option.bind_some]
            rcases args with _ | ⟨x, _ | ⟨y, _ | ⟨z, l⟩⟩⟩ <;> try rfl
            cases c.argTypes[0]? <;> try rfl
            cases c.argTypes[1]? <;> try rfl
            rename_i t u
            simp only
            cases known E.tab t && known E.tab u <;> try rfl
            simp only [cond_true]
            cases E.tab[t]? <;> try rfl
            cases E.tab[u]? <;> try rfl
            rename_i I L
            simp only
            cases I.ty <;> try rfl
            rename_i e
            cases L.ty <;> try rfl
            · simp only
              cases E.tab[e]? <;> try rfl
              simp only [bind2_eq, Option.bind_assoc]
            · simp only
              cases E.tab[e]? <;> try rfl
              simp only [bind2_eq, Option.bind_assoc]
            · simp only
              cases E.tab[e]? <;> try rfl
              simp only [bind2_eq, Option.bind_assoc]
        | copy =>
          unfold opK0
          refine ⟨fun σ => (evs E.tab fr c.argTypes.toList c.args.toList).bind fun args => match args, c.argTypes[0]? with
            | [x, y], some t => bif known E.tab t then match E.tab[t]? with
              | some I => match I.ty with
                | .slc e => match E.tab[e]? with | some J => (elems y σ).bind fun ys => oCopy J.sh x ys σ | none => none
                | _ => none
              | none => none else none
            | _, _ => none, fun σ K => ?_⟩
          simp only [hop, hc, Option.bind_assoc]
          cases evs E.tab fr c.argTypes.toList c.args.toList with
          | none => rfl
          | some args =>
            simp only [Option.bind_some]
            rcases args with _ | ⟨x, _ | ⟨y, _ | ⟨z, l⟩⟩⟩ <;> try rfl
            cases c.argTypes[0]? <;> try rfl
            rename_i t
            simp only
            cases known E.tab t <;> try rfl
            simp only [cond_true]
            cases E.tab[t]? <;> try rfl
            rename_i I
            simp only
            cases I.ty <;> try rfl
            rename_i e
            simp only
            cases E.tab[e]? <;> try rfl
            simp only [bind2_eq, Option.bind_assoc]
        | clear =>
          unfold opK0
          refine ⟨fun σ => (evs E.tab fr c.argTypes.toList c.args.toList).bind fun args => match args, c.argTypes[0]? with
            | [x], some t => bif known E.tab t then match E.tab[t]? with
              | some I => match I.ty with
                | .slc e => match E.tab[e]? with | some J => J.zero.toD.bind fun zd => oClear J.sh zd x σ | none => none
                | _ => none
              | none => none else none
            | _, _ => none, fun σ K => ?_⟩
          simp only [hop, hc, Option.bind_assoc]
          cases evs E.tab fr c.argTypes.toList c.args.toList with
          | none => rfl
          | some args =>
            simp only [Option.bind_some]
            rcases args with _ | ⟨x, _ | ⟨y, l⟩⟩ <;> try rfl
            cases c.argTypes[0]? <;> try rfl
            rename_i t
            simp only
            cases known E.tab t <;> try rfl
            simp only [cond_true]
            cases E.tab[t]? <;> try rfl
            rename_i I
            simp only
            cases I.ty <;> try rfl
            rename_i e
            simp only
            cases E.tab[e]? <;> try rfl
            simp only [bind2_eq, Option.bind_assoc]
        | _ =>
          unfold opK0
          refine ⟨fun _ => none, fun σ K => ?_⟩
          simp only [hop, hc]
          cases evs E.tab fr c.argTypes.toList c.args.toList <;> rfl
  | _ =>
    unfold opK0
    refine ⟨fun _ => none, fun σ K => ?_⟩
    simp only [hop]
    rfl
end Go.AX
