import Derived.Test.YtniombjfbdojjaaDoorAx17
/- AX, part 24d: an operation's outcome, apart from what follows. -/
namespace Go.AX
theorem bind2_eq {α β γ : Type} (x : Option (α × β)) (K : α → β → Option γ) : bind2 x K = x.bind fun p => K p.1 p.2 := rfl
theorem cond_none {α : Type} {c : Bool} {x y : Option α} (h : x = y) : (bif c then x else none) = (bif c then y else none) := by rw [h]
theorem call1_form {E : Env} {ref : Bool} {f : List AV → Store → Option (List AV × Store)} {args : List AV} {σ : Store} {K : AV → Store → Option Res} :
    call1 E ref f args σ K = (bif realL args then (bif ref then (f args σ).bind fun r => some (res1 r.1, r.2) else (freezeL args σ).bind fun a => (f a.1 a.2).bind fun r => some (res1 r.1, r.2)) else none).bind fun p => K p.1 p.2 := by
  unfold call1
  cases realL args with
  | false => rfl
  | true =>
    cases ref with
    | true => simp only [cond_true, bind2_eq, Option.bind_assoc, Option.bind_some]
    | false => simp only [cond_true, cond_false, bind2_eq, Option.bind_assoc, Option.bind_some]
theorem opK0_form (E : Env) (fr : Frame') (o : Oper) : ∃ x : Store → Option (AV × Store), ∀ σ K, opK0 E fr o σ K = (x σ).bind fun p => K p.1 p.2 := by
  have low0 : opCls E o.op = 0 → ∃ x : Store → Option (AV × Store), ∀ σ K, opK0 E fr o σ K = (x σ).bind fun p => K p.1 p.2 := fun h => by
    obtain ⟨x, hx⟩ := look_form0 (fr := fr) h
    exact ⟨fun σ => x.bind fun v => some (v, σ), fun σ K => by simp only [hx, Option.bind_assoc, Option.bind_some]⟩
  have low1 : opCls E o.op = 1 → ∃ x : Store → Option (AV × Store), ∀ σ K, opK0 E fr o σ K = (x σ).bind fun p => K p.1 p.2 := fun h => by
    obtain ⟨x, hx⟩ := look_form1 (fr := fr) h
    exact ⟨fun σ => (x σ).bind fun v => some (v, σ), fun σ K => by simp only [hx, Option.bind_assoc, Option.bind_some]⟩
  cases hop : o.op with
  | move | assign | sliceToArrayPointer | pick | nilCheck | binOp | unOp | makeFunc | fieldAddr | field | indexAddr | index | extract => exact low0 (by rw [hop]; rfl)
  | load | slice => exact low1 (by rw [hop]; rfl)
  | alloc t =>
    unfold opK0
    refine ⟨fun σ => match E.tab[t]? with | some I => bif known E.tab t then oNew I.zero σ else none | none => none, fun σ K => ?_⟩
    simp only [hop]
    cases E.tab[t]? with
    | none => rfl
    | some I => exact cond_bind
  | box t x =>
    unfold opK0
    refine ⟨fun σ => (ev E.tab fr t x).bind fun v => match E.tab[t]? with | some I => bif known E.tab t && Sh.eqb v.shape I.sh then oNew v σ else none | none => none, fun σ K => ?_⟩
    simp only [hop, Option.bind_assoc]
    cases ev E.tab fr t x with
    | none => rfl
    | some v =>
      simp only [Option.bind_some]
      cases E.tab[t]? with
      | none => rfl
      | some I => exact cond_bind
  | build t ps =>
    by_cases h : opCls E o.op = 0
    · exact low0 h
    · unfold opK0
      refine ⟨fun σ => match E.tab[t]? with
        | some I => match I.ty with
          | .arr n e => bif known E.tab t then
              (evParts E.tab fr (fun _ => e) ps.toList).bind fun ps => (freezeP ps σ).bind fun p => match I.zero with
                | .dat (.arr s zs) => bif fits s (p.1.map (·.2)) then (setAll zs p.1).bind fun ds => some (.dat (.arr s ds), p.2) else none
                | _ => none
              else none
          | _ => none
        | none => none, fun σ K => ?_⟩
      rw [hop] at h
      simp only [opCls] at h
      simp only [hop]
      cases hI : E.tab[t]? with
      | none => rfl
      | some I =>
        rw [hI] at h
        simp only at h ⊢
        cases hty : I.ty with
        | struct fs => rw [hty] at h; simp at h
        | arr n e =>
          simp only
          cases known E.tab t with
          | false => rfl
          | true =>
            simp only [cond_true, Option.bind_assoc, bind2_eq]
            cases evParts E.tab fr (fun _ => e) ps.toList with
            | none => rfl
            | some qs =>
              simp only [Option.bind_some]
              cases freezeP qs σ with
              | none => rfl
              | some p =>
                simp only [Option.bind_some]
                split
                · rename_i s zs hz
                  rw [hz]
                  simp only
                  cases fits s (p.1.map (·.2)) with
                  | false => rfl
                  | true => simp only [cond_true, Option.bind_assoc, Option.bind_some]
                · rename_i hz
                  split
                  · rename_i s zs hz'
                    exact absurd hz' (hz s zs)
                  · rfl
        | _ => rfl
  | buildSlice t n ps =>
    unfold opK0
    refine ⟨fun σ => match E.tab[t]? with
      | some I => match I.ty with
        | .slc e => bif known E.tab t then match E.tab[e]? with
          | some J => (evParts E.tab fr (fun _ => e) ps.toList).bind fun ps => (freezeP ps σ).bind fun p => J.zero.toD.bind fun z =>
              bif decide (n * J.sh.size ≤ 2 ^ 24) && fits J.sh (p.1.map (·.2)) then (setAll (List.replicate n z) p.1).bind fun ds => oNewSlice J.sh ds p.2 else none
          | none => none else none
        | _ => none
      | none => none, fun σ K => ?_⟩
    simp only [hop]
    cases E.tab[t]? with
    | none => rfl
    | some I =>
      simp only
      cases I.ty <;> try rfl
      rename_i e
      simp only
      cases known E.tab t with
      | false => rfl
      | true =>
        simp only [cond_true]
        cases E.tab[e]? with
        | none => rfl
        | some J =>
          simp only [Option.bind_assoc, bind2_eq]
          cases evParts E.tab fr (fun _ => e) ps.toList with
          | none => rfl
          | some qs =>
            simp only [Option.bind_some]
            cases freezeP qs σ with
            | none => rfl
            | some p =>
              simp only [Option.bind_some]
              cases J.zero.toD with
              | none => rfl
              | some z =>
                simp only [Option.bind_some]
                cases decide (n * J.sh.size ≤ 2 ^ 24) && fits J.sh (p.1.map (·.2)) with
                | false => rfl
                | true => simp only [cond_true, Option.bind_assoc]
  | store t x v =>
    unfold opK0
    refine ⟨fun σ => (ev E.tab fr 0 x).bind fun x => (ev E.tab fr t v).bind fun v => bif known E.tab t then (E.tab.sh t).bind fun s => (oStore s x v σ).bind fun σ => some (.undef, σ) else none, fun σ K => ?_⟩
    simp only [hop, Option.bind_assoc]
    cases ev E.tab fr 0 x with
    | none => rfl
    | some vx =>
      cases ev E.tab fr t v with
      | none => rfl
      | some vv =>
        simp only [Option.bind_some]
        cases known E.tab t with
        | false => rfl
        | true => simp only [cond_true, Option.bind_assoc, Option.bind_some]
  | makeMap t rr =>
    unfold opK0
    cases rr with
    | none => exact ⟨fun σ => some (.hnd mapSh σ.length, σ ++ [mapBlk []]), fun σ K => by simp only [hop, Option.bind_some]⟩
    | some rr => exact ⟨fun _ => none, fun σ K => by simp only [hop, Option.bind_none]⟩
  | lookup t x k ok =>
    unfold opK0
    cases ok with
    | true => exact ⟨fun _ => none, fun σ K => by simp only [hop, Option.bind_none]⟩
    | false => exact ⟨fun σ => (ev E.tab fr 0 x).bind fun x => (ev E.tab fr 0 k).bind fun k => (mapTy E.tab t).bind fun T' => (oLook T' x k σ).bind fun v => some (v, σ), fun σ K => by simp only [hop, one, Option.bind_assoc, Option.bind_some]⟩
  | mapUpdate t x k v =>
    unfold opK0
    exact ⟨fun σ => (ev E.tab fr 0 x).bind fun x => (ev E.tab fr 0 k).bind fun k => (ev E.tab fr 0 v).bind fun v => (mapTy E.tab t).bind fun T' => (oMapUpd T' x k v σ).bind fun σ => some (.undef, σ), fun σ K => by simp only [hop, Option.bind_assoc, Option.bind_some]⟩
  | makeSlice t n c =>
    unfold opK0
    refine ⟨fun σ => (ev E.tab fr 0 n).bind fun n => (ev E.tab fr 0 c).bind fun c => bif known E.tab t then match E.tab[t]? with
      | some I => match I.ty with
        | .slc e => match E.tab[e]? with
          | some J => oMake J.sh J.bytes J.zero n c σ
          | none => none
        | _ => none
      | none => none else none, fun σ K => ?_⟩
    simp only [hop, Option.bind_assoc]
    cases ev E.tab fr 0 n with
    | none => rfl
    | some vx =>
      cases ev E.tab fr 0 c with
      | none => rfl
      | some vv =>
        simp only [Option.bind_some]
        cases known E.tab t with
        | false => rfl
        | true =>
          simp only [cond_true]
          cases E.tab[t]? with
          | none => rfl
          | some I =>
            simp only
            cases I.ty <;> try rfl
            rename_i e
            simp only
            cases E.tab[e]? <;> rfl
  | convert s d x =>
    by_cases h0 : opCls E o.op = 0
    · exact low0 h0
    · by_cases h1 : opCls E o.op = 1
      · exact low1 h1
      · unfold opK0
        refine ⟨fun σ => (ev E.tab fr s x).bind fun x => bif known E.tab s && known E.tab d then match E.tab[s]?, E.tab[d]? with
          | some I, some J => match I.ty, J.ty with
            | .str, .slc e => match E.tab[e]? with
              | some L => match L.ty with | .int .u8 => oToBytes x σ | _ => none
              | none => none
            | .slc _, .slc e => bif Nat.beq s d then match E.tab[e]? with
              | some L => match L.ty with | .int .u8 => oMark x σ | _ => none
              | none => none else none
            | .str, .str => bif isStr x then some (x, σ) else none
            | _, _ => none
          | _, _ => none else none, fun σ K => ?_⟩
        rw [hop] at h0 h1
        simp only [opCls] at h0 h1
        simp only [hop, Option.bind_assoc]
        cases ev E.tab fr s x with
        | none => rfl
        | some v =>
          simp only [Option.bind_some]
          cases known E.tab s && known E.tab d with
          | false => rfl
          | true =>
            simp only [cond_true]
            cases hI : E.tab[s]? with
            | none => rfl
            | some I =>
              cases hJ : E.tab[d]? with
              | none => rfl
              | some J =>
                rw [hI, hJ] at h0 h1
                simp only at h0 h1 ⊢
                cases hty : I.ty <;> cases hty' : J.ty <;> simp only <;> first | rfl | (rw [hty, hty'] at h0; simp at h0; done) | (rw [hty, hty'] at h1; simp at h1; done) | skip
                · cases isStr v <;> rfl
                · rename_i e
                  cases E.tab[e]? with
                  | none => rfl
                  | some L =>
                    simp only
                    split <;> rename_i hk
                    · simp only [hk]; rfl
                    · split
                      · rename_i hk'; exact absurd hk' hk
                      · rfl
                · rename_i e
                  cases Nat.beq s d with
                  | false => rfl
                  | true =>
                    simp only [cond_true]
                    cases E.tab[e]? with
                    | none => rfl
                    | some L =>
                      simp only
                      split <;> rename_i hk
                      · simp only [hk]; rfl
                      · split
                        · rename_i hk'; exact absurd hk' hk
                        · rfl
  | call c =>
    cases hc : c.callee with
    | invoke r n =>
      unfold opK0
      refine ⟨fun _ => none, fun σ K => ?_⟩
      simp only [hop, hc]
      cases evs E.tab fr c.argTypes.toList c.args.toList <;> rfl
    | value f =>
      unfold opK0
      by_cases hf : ∃ g, f = .func g
      · obtain ⟨g, rfl⟩ := hf
        cases hp : pureF E g with
        | true =>
          refine ⟨fun σ => ((evs E.tab fr c.argTypes.toList c.args.toList).bind fun args => (E.callee g).bind fun F => (pureC F args).run).bind fun v => some (v, σ), fun σ K => ?_⟩
          simp only [hop, hc, hp, cond_true, one, Option.bind_assoc, Option.bind_some]
        | false =>
        refine ⟨fun σ => (evs E.tab fr c.argTypes.toList c.args.toList).bind fun args => (E.callee g).bind fun F => (bif realL args then (bif E.byref g then (callS (FunT.run F) args σ).bind fun r => some (res1 r.1, r.2) else (freezeL args σ).bind fun a => (callS (FunT.run F) a.1 a.2).bind fun r => some (res1 r.1, r.2)) else none), fun σ K => ?_⟩
        simp only [hop, hc, hp, cond_false, call1_form, Option.bind_assoc]
      · refine ⟨fun σ => (evs E.tab fr c.argTypes.toList c.args.toList).bind fun args => (ev E.tab fr 0 f).bind fun f => (bif realL args then ((freezeL args σ).bind fun a => (dynY E f a.1 a.2).bind fun r => some (res1 r.1, r.2)) else none), fun σ K => ?_⟩
        simp only [hop, hc, Option.bind_assoc]
        cases evs E.tab fr c.argTypes.toList c.args.toList with
        | none => rfl
        | some args =>
          simp only [Option.bind_some]
          cases f with
          | func g => exact absurd ⟨g, rfl⟩ hf
          | _ =>
            simp only [call1_form]
            rfl
    | builtin b =>
      by_cases h0 : opCls E o.op = 0
      · exact low0 h0
      · rw [hop] at h0
        simp only [opCls, hc] at h0
        cases b with
        | max | min => simp at h0
        | len =>
          simp only at h0
          cases hq : c.argTypes[0]? with
          | none => rw [hq] at h0; simp at h0
          | some t =>
            cases ht : E.tab[t]? with
            | none => rw [hq] at h0; simp [ht] at h0
            | some I =>
              cases hty : I.ty with
              | map ka eb =>
                unfold opK0
                refine ⟨fun σ => (evs E.tab fr c.argTypes.toList c.args.toList).bind fun args => match args with | [x] => bif known E.tab t then (mapOf x σ).bind fun p => some (aInt p.2.length, σ) else none | _ => none, fun σ K => ?_⟩
                simp only [hop, hc, hq, Option.bind_assoc]
                cases evs E.tab fr c.argTypes.toList c.args.toList with
                | none => rfl
                | some args =>
                  simp only [Option.bind_some]
                  rcases args with _ | ⟨x, _ | ⟨y, l⟩⟩
                  · rfl
                  · simp only [ht, hty]
                    cases known E.tab t with
                    | false => rfl
                    | true => simp only [cond_true, Option.bind_assoc, Option.bind_some]
                  · rfl
              | _ => rw [hq] at h0; simp [ht, hty] at h0
        | append =>
          unfold opK0
          refine ⟨fun σ => (evs E.tab fr c.argTypes.toList c.args.toList).bind fun args => match args, c.argTypes[0]?, c.argTypes[1]? with
            | [x, y], some t, some u => bif known E.tab t && known E.tab u then match E.tab[t]?, E.tab[u]? with
              | some I, some L => match I.ty, L.ty with
                | .slc e, .slc _ => match E.tab[e]? with | some J => (elems y σ).bind fun ys => apnd (apF E o) J.sh J.bytes x ys σ | none => none
                | .slc e, .str => match E.tab[e]? with | some J => (elems y σ).bind fun ys => apnd (apF E o) J.sh J.bytes x ys σ | none => none
                | .slc e, .int _ => match E.tab[e]? with | some J => (zerosOf J.zero y).bind fun ys => apnd (apF E o) J.sh J.bytes x ys σ | none => none
                | _, _ => none
              | _, _ => none else none
            | _, _, _ => none, fun σ K => ?_⟩
          simp only [hop, hc, Option.bind_assoc]
          cases evs E.tab fr c.argTypes.toList c.args.toList with
          | none => rfl
          | some args =>
            simp only [Option.bind_some]
            rcases args with _ | ⟨x, _ | ⟨y, _ | ⟨z, l⟩⟩⟩ <;> try rfl
            cases c.argTypes[0]? <;> try rfl
            cases c.argTypes[1]? <;> try rfl
            rename_i t u
            simp only
            cases known E.tab t && known E.tab u <;> try rfl
            simp only [cond_true]
            cases E.tab[t]? <;> try rfl
            cases E.tab[u]? <;> try rfl
            rename_i I L
            simp only
            cases I.ty <;> try rfl
            rename_i e
            cases L.ty <;> try rfl
            · simp only
              cases E.tab[e]? <;> try rfl
              simp only [bind2_eq, Option.bind_assoc]
            · simp only
              cases E.tab[e]? <;> try rfl
              simp only [bind2_eq, Option.bind_assoc]
            · simp only
              cases E.tab[e]? <;> try rfl
              simp only [bind2_eq, Option.bind_assoc]
        | copy =>
          unfold opK0
          refine ⟨fun σ => (evs E.tab fr c.argTypes.toList c.args.toList).bind fun args => match args, c.argTypes[0]? with
            | [x, y], some t => bif known E.tab t then match E.tab[t]? with
              | some I => match I.ty with
                | .slc e => match E.tab[e]? with | some J => (elems y σ).bind fun ys => oCopy J.sh x ys σ | none => none
                | _ => none
              | none => none else none
            | _, _ => none, fun σ K => ?_⟩
          simp only [hop, hc, Option.bind_assoc]
          cases evs E.tab fr c.argTypes.toList c.args.toList with
          | none => rfl
          | some args =>
            simp only [Option.bind_some]
            rcases args with _ | ⟨x, _ | ⟨y, _ | ⟨z, l⟩⟩⟩ <;> try rfl
            cases c.argTypes[0]? <;> try rfl
            rename_i t
            simp only
            cases known E.tab t <;> try rfl
            simp only [cond_true]
            cases E.tab[t]? <;> try rfl
            rename_i I
            simp only
            cases I.ty <;> try rfl
            rename_i e
            simp only
            cases E.tab[e]? <;> try rfl
            simp only [bind2_eq, Option.bind_assoc]
        | clear =>
          unfold opK0
          refine ⟨fun σ => (evs E.tab fr c.argTypes.toList c.args.toList).bind fun args => match args, c.argTypes[0]? with
            | [x], some t => bif known E.tab t then match E.tab[t]? with
              | some I => match I.ty with
                | .slc e => match E.tab[e]? with | some J => J.zero.toD.bind fun zd => oClear J.sh zd x σ | none => none
                | _ => none
              | none => none else none
            | _, _ => none, fun σ K => ?_⟩
          simp only [hop, hc, Option.bind_assoc]
          cases evs E.tab fr c.argTypes.toList c.args.toList with
          | none => rfl
          | some args =>
            simp only [Option.bind_some]
            rcases args with _ | ⟨x, _ | ⟨y, l⟩⟩ <;> try rfl
            cases c.argTypes[0]? <;> try rfl
            rename_i t
            simp only
            cases known E.tab t <;> try rfl
            simp only [cond_true]
            cases E.tab[t]? <;> try rfl
            rename_i I
            simp only
            cases I.ty <;> try rfl
            rename_i e
            simp only
            cases E.tab[e]? <;> try rfl
            simp only [bind2_eq, Option.bind_assoc]
        | _ =>
          unfold opK0
          refine ⟨fun _ => none, fun σ K => ?_⟩
          simp only [hop, hc]
          cases evs E.tab fr c.argTypes.toList c.args.toList <;> rfl
  | _ =>
    unfold opK0
    refine ⟨fun _ => none, fun σ K => ?_⟩
    simp only [hop]
    rfl
end Go.AX

namespace Go.AX
def Does (E : Env) (fr : Frame') (o : Oper) (σ : Store) (v : AV) (σ' : Store) : Prop := ∀ K, opK0 E fr o σ K = K v σ'
theorem Does.pure {E : Env} {fr : Frame'} {o : Oper} {σ σ' : Store} {v : AV} (hc : opCls E o.op = 0) (h : Does E fr o σ v σ') : σ' = σ ∧ ∀ s, Does E fr o s v s := by
  obtain ⟨x, hx⟩ := look_form0 (fr := fr) hc
  have h1 := h fun v s => some ([v], s)
  rw [hx] at h1
  cases x with
  | none => simp at h1
  | some u =>
    simp only [Option.bind_some, Option.some.injEq, Prod.mk.injEq, List.cons.injEq, and_true] at h1
    refine ⟨h1.2.symm, fun s K => ?_⟩
    rw [hx, Option.bind_some, h1.1]
theorem Does.look {E : Env} {fr : Frame'} {o : Oper} {σ σ' : Store} {v : AV} (hc : opCls E o.op = 1) (h : Does E fr o σ v σ') : σ' = σ := by
  obtain ⟨x, hx⟩ := look_form1 (fr := fr) hc
  have h1 := h fun v s => some ([v], s)
  rw [hx] at h1
  cases hxs : x σ with
  | none => rw [hxs] at h1; simp at h1
  | some u =>
    rw [hxs] at h1
    simp only [Option.bind_some, Option.some.injEq, Prod.mk.injEq, List.cons.injEq, and_true] at h1
    exact h1.2.symm
theorem Does.of_form {E : Env} {fr : Frame'} {o : Oper} {σ : Store} {K : AV → Store → Option Res} {r : Res} (h : opK0 E fr o σ K = some r) : ∃ v σ', Does E fr o σ v σ' ∧ K v σ' = some r := by
  obtain ⟨x, hx⟩ := opK0_form E fr o
  rw [hx] at h
  simp only [Option.bind_eq_some_iff] at h
  obtain ⟨⟨v, σ'⟩, h1, h2⟩ := h
  exact ⟨v, σ', fun K => by rw [hx, h1]; rfl, h2⟩
theorem does_of_tree {E : Env} {fr : Frame'} {o : Oper} {σ : Store} {p : AV × Store} (h : (opT E fr o σ).run = some p) : Does E fr o σ p.1 p.2 := by
  obtain ⟨v, σ', h1, h2⟩ := Does.of_form (opT_run h)
  simp only [Option.some.injEq, Prod.mk.injEq, List.cons.injEq, and_true] at h2
  obtain ⟨rfl, rfl⟩ := h2
  exact h1
theorem opK_does {E : Env} {fr : Frame'} {o : Oper} {σ : Store} {K : AV → Store → Option Res} {r : Res} (h : opK E fr o σ K = some r) : ∃ v σ', Does E fr o σ v σ' ∧ K v σ' = some r := by
  obtain ⟨p, h1, h2⟩ := T.k_some h
  exact ⟨p.1, p.2, does_of_tree h1, asV_some h2⟩
theorem oLoad_noref {sh : Sh} {v : AV} {σ : Store} (h : v.ids = []) : oLoad sh v σ = oLoad sh v [] := by
  cases v with
  | ptr s id n p => simp [AV.ids] at h
  | dat d => cases d <;> rfl
  | _ => rfl
theorem elems_noref {v : AV} {σ : Store} (h : v.ids = []) : elems v σ = elems v [] := by
  cases v with
  | sref s id n p o l => simp [AV.ids] at h
  | dat d => cases d <;> rfl
  | _ => rfl
theorem noRef_form {E : Env} {fr : Frame'} {o : Oper} (hc : opCls E o.op = 1) (h : noRef E fr o = true) : ∃ x : Option AV, ∀ σ K, opK0 E fr o σ K = x.bind fun v => K v σ := by
  unfold noRef at h
  cases hop : o.op with
  | load t x =>
    rw [hop] at h
    simp only at h
    cases hv : ev E.tab fr 0 x with
    | none => rw [hv] at h; simp at h
    | some v =>
      rw [hv] at h
      simp only [List.isEmpty_iff] at h
      unfold opK0
      refine ⟨bif known E.tab t then (E.tab.sh t).bind fun s => oLoad s v [] else none, fun σ K => ?_⟩
      simp only [hop, hv, Option.bind_some]
      cases known E.tab t with
      | false => rfl
      | true =>
        simp only [cond_true]
        cases E.tab.sh t with
        | none => rfl
        | some s => simp only [Option.bind_some, one, oLoad_noref h]
  | convert a b x =>
    rw [hop] at h hc
    simp only at h
    cases hv : ev E.tab fr a x with
    | none => rw [hv] at h; simp at h
    | some v =>
      rw [hv] at h
      simp only [List.isEmpty_iff] at h
      have hts : ∀ σ, oToStr v σ = oToStr v [] := fun σ => by unfold oToStr; rw [elems_noref h]
      simp only [opCls] at hc
      split at hc
      · rename_i I J hI hJ
        split at hc
        · simp at hc
        · rename_i e hty hty'
          unfold opK0
          refine ⟨bif known E.tab a && known E.tab b then (match E.tab[e]? with | some L => (match L.ty with | .int .u8 => oToStr v [] | _ => none) | none => none) else none, fun σ K => ?_⟩
          simp only [hop, hv, Option.bind_some, hI, hJ, hty, hty']
          cases known E.tab a && known E.tab b with
          | false => rfl
          | true =>
            simp only [cond_true]
            cases E.tab[e]? with
            | none => rfl
            | some L =>
              simp only
              by_cases hL : L.ty = .int .u8
              · simp only [hL, one, hts]
              · split
                · rename_i hq; exact absurd hq hL
                · split
                  · rename_i hq; exact absurd hq hL
                  · rfl
        · simp at hc
      · simp at hc
  | _ => rw [hop] at h; simp at h
theorem sameIn_does {E : Env} {fr : Frame'} {o : Oper} {s s0 : Store} {v : AV} (hc : opCls E o.op = 1) (hd0 : Does E fr o s0 v s0) (h : sameIn E fr o v s = true) : Does E fr o s v s := by
  unfold sameIn at h
  cases hn : noRef E fr o with
  | true =>
    obtain ⟨x, hx⟩ := noRef_form hc hn
    have h1 := hd0 fun v s => some ([v], s)
    rw [hx] at h1
    cases x with
    | none => simp at h1
    | some u =>
      simp only [Option.bind_some, Option.some.injEq, Prod.mk.injEq, List.cons.injEq, and_true] at h1
      intro K
      rw [hx, Option.bind_some, h1]
  | false =>
    rw [hn, Bool.false_or] at h
    obtain ⟨p, h1, h2⟩ := T.all_run h
    have hd := does_of_tree h1
    have h3 := AV.eq_of_eqb h2
    have h4 := hd.look hc
    rw [h4, ← h3] at hd
    exact hd
structure StepOk (E : Env) (all : List Oper) (F : Nat → Frame') (G : Nat → Store) (V : Nat → AV) (W : Nat → Bool) (Sk : Nat → Prop) (i : Nat) (o : Oper) : Prop where
  fr : F (i + 1) = setDst (F i) o.dst (V i)
  act : (W i = false ∧ V i = .undef ∧ G (i + 1) = G i ∧ ∃ j w, o.guard = some (j, w) ∧ (Sk j ∨ ∃ d b, gdst all j = some d ∧ (F i).getD d .undef = aBool b ∧ b ≠ w)) ∨
    (W i = true ∧ Does E (F i) o (G i) (V i) (G (i + 1)) ∧ (o.guard = none ∨ ∃ j w d, o.guard = some (j, w) ∧ gdst all j = some d ∧ (F i).getD d .undef = aBool w))
structure RunOk (E : Env) (all : List Oper) (an : List (List Nat)) (K : Frame' → Store → Option Res) (r : Res) (l : List Oper) (i : Nat) (fr : Frame') (σ : Store) (sk : List Nat) (hist : List (Nat × Store)) (lks : List DLook)
    (F : Nat → Frame') (G : Nat → Store) (V : Nat → AV) (W : Nat → Bool) : Prop where
  f0 : F i = fr
  g0 : G i = σ
  step : ∀ k o, l[k]? = some o → StepOk E all F G V W (fun j => j ∈ sk ∨ (i ≤ j ∧ j < i + k ∧ W j = false)) (i + k) o
  back : ∀ k o, l[k]? = some o → W (i + k) = true → opCls E o.op = 1 → (∀ h ∈ hist, h.1 ∉ an.getD (i + k) [] → sameIn E (F (i + k)) o (V (i + k)) h.2 = true) ∧
    (∀ c oc, l[c]? = some oc → c < k → W (i + c) = true → opCls E oc.op = 2 → i + c ∉ an.getD (i + k) [] → sameIn E (F (i + k)) o (V (i + k)) (G (i + c)) = true)
  forth : ∀ c oc, l[c]? = some oc → W (i + c) = true → opCls E oc.op = 2 → (∀ k ∈ lks, k.1 ∉ an.getD (i + c) [] → sameIn E k.2.1 k.2.2.1 k.2.2.2 (G (i + c + 1)) = true) ∧
    (∀ k o, l[k]? = some o → k < c → W (i + k) = true → opCls E o.op = 1 → i + k ∉ an.getD (i + c) [] → sameIn E (F (i + k)) o (V (i + k)) (G (i + c + 1)) = true)
  fin : K (F (i + l.length)) (G (i + l.length)) = some r
theorem RunOk.cons {E : Env} {all : List Oper} {an : List (List Nat)} {K : Frame' → Store → Option Res} {r : Res} {o : Oper} {l : List Oper} {i : Nat} {fr : Frame'} {σ σ1 : Store} {v : AV} {wv : Bool} {sk sk' : List Nat} {hist hist' : List (Nat × Store)} {lks lks' : List DLook}
    {F' : Nat → Frame'} {G' : Nat → Store} {V' : Nat → AV} {W' : Nat → Bool}
    (hn : RunOk E all an K r l (i + 1) (setDst fr o.dst v) σ1 sk' hist' lks' F' G' V' W')
    (hact : (wv = false ∧ v = .undef ∧ σ1 = σ ∧ ∃ j w, o.guard = some (j, w) ∧ (j ∈ sk ∨ ∃ d b, gdst all j = some d ∧ fr.getD d .undef = aBool b ∧ b ≠ w)) ∨
      (wv = true ∧ Does E fr o σ v σ1 ∧ (o.guard = none ∨ ∃ j w d, o.guard = some (j, w) ∧ gdst all j = some d ∧ fr.getD d .undef = aBool w)))
    (hsk : ∀ j ∈ sk', j ∈ sk ∨ (j = i ∧ wv = false)) (hh : ∀ h ∈ hist, h ∈ hist') (hh2 : wv = true → opCls E o.op = 2 → (i, σ) ∈ hist')
    (hl : ∀ k ∈ lks, k ∈ lks') (hl2 : wv = true → opCls E o.op = 1 → (i, fr, o, v) ∈ lks')
    (hb : wv = true → opCls E o.op = 1 → ∀ h ∈ hist, h.1 ∉ an.getD i [] → sameIn E fr o v h.2 = true)
    (hf : wv = true → opCls E o.op = 2 → ∀ k ∈ lks, k.1 ∉ an.getD i [] → sameIn E k.2.1 k.2.2.1 k.2.2.2 σ1 = true) :
    ∃ F G V W, RunOk E all an K r (o :: l) i fr σ sk hist lks F G V W := by
  have e : ∀ (k : Nat) {α : Type} (a b : α), (if i + 1 + k ≤ i then a else b) = b := fun k _ a b => if_neg (by omega)
  have e' : ∀ (k : Nat) {α : Type} (a b : α), (if i + 1 + k = i then a else b) = b := fun k _ a b => if_neg (by omega)
  have ei : ∀ k, i + (k + 1) = i + 1 + k := fun k => by omega
  refine ⟨fun x => if x ≤ i then fr else F' x, fun x => if x ≤ i then σ else G' x, fun x => if x = i then v else V' x, fun x => if x = i then wv else W' x, ?_⟩
  refine ⟨if_pos (Nat.le_refl i), if_pos (Nat.le_refl i), ?_, ?_, ?_, ?_⟩
  · intro k o' ho'
    cases k with
    | zero =>
      simp only [List.getElem?_cons_zero, Option.some.injEq] at ho'
      subst ho'
      refine ⟨?_, ?_⟩
      · simp only [Nat.add_zero, Nat.le_refl, if_true, if_neg (show ¬ i + 1 ≤ i by omega)]
        exact hn.f0
      · simp only [Nat.add_zero, Nat.le_refl, if_true, if_neg (show ¬ i + 1 ≤ i by omega)]
        rw [hn.g0]
        rcases hact with ⟨h1, h2, h3, j, w, h4, h5⟩ | h
        · exact .inl ⟨h1, h2, h3, j, w, h4, h5.imp (fun h => .inl h) id⟩
        · exact .inr h
    | succ k =>
      have hs := hn.step k o' (by simpa using ho')
      refine ⟨?_, ?_⟩
      · have h1 := hs.fr
        simp only [e k, e' k, if_neg (show ¬ i + 1 + k + 1 ≤ i by omega), ei k]
        exact h1
      · have h1 := hs.act
        simp only [e k, e' k, if_neg (show ¬ i + 1 + k + 1 ≤ i by omega), ei k]
        rcases h1 with ⟨h1, h2, h3, j, w, h4, h5⟩ | h
        · refine .inl ⟨h1, h2, h3, j, w, h4, h5.imp ?_ id⟩
          rintro (h | ⟨h6, h7, h8⟩)
          · rcases hsk j h with h | ⟨rfl, h⟩
            · exact .inl h
            · exact .inr ⟨Nat.le_refl _, by omega, by rw [if_pos rfl]; exact h⟩
          · exact .inr ⟨by omega, by omega, by rw [if_neg (by omega)]; exact h8⟩
        · exact .inr h
  · intro k o' ho' hw hc
    cases k with
    | zero =>
      simp only [List.getElem?_cons_zero, Option.some.injEq] at ho'
      subst ho'
      simp only [Nat.add_zero, if_true, Nat.le_refl] at hw ⊢
      exact ⟨hb hw hc, fun c oc _ hlt => absurd hlt (Nat.not_lt_zero c)⟩
    | succ k =>
      simp only [e k, e' k, ei k] at hw ⊢
      obtain ⟨b1, b2⟩ := hn.back k o' (by simpa using ho') hw hc
      refine ⟨fun h hm => b1 h (hh h hm), fun c oc hoc hlt hwc hcc hna => ?_⟩
      cases c with
      | zero =>
        simp only [List.getElem?_cons_zero, Option.some.injEq] at hoc
        subst hoc
        simp only [Nat.add_zero, if_true, Nat.le_refl] at hwc hna ⊢
        exact b1 (i, σ) (hh2 hwc hcc) hna
      | succ c =>
        simp only [e c, e' c, ei c] at hwc hna ⊢
        exact b2 c oc (by simpa using hoc) (by omega) hwc hcc hna
  · intro c oc hoc hw hc
    cases c with
    | zero =>
      simp only [List.getElem?_cons_zero, Option.some.injEq] at hoc
      subst hoc
      simp only [Nat.add_zero, if_true, if_neg (show ¬ i + 1 ≤ i by omega)] at hw ⊢
      rw [hn.g0]
      exact ⟨hf hw hc, fun k o' _ hlt => absurd hlt (Nat.not_lt_zero k)⟩
    | succ c =>
      simp only [e' c, ei c] at hw
      simp only [ei c, if_neg (show ¬ i + 1 + c + 1 ≤ i by omega)]
      obtain ⟨b1, b2⟩ := hn.forth c oc (by simpa using hoc) hw hc
      refine ⟨fun k hm => b1 k (hl k hm), fun k o' ho' hlt hwk hck hna => ?_⟩
      cases k with
      | zero =>
        simp only [List.getElem?_cons_zero, Option.some.injEq] at ho'
        subst ho'
        simp only [Nat.add_zero, if_true, Nat.le_refl] at hwk hna ⊢
        exact b1 (i, fr, o, v) (hl2 hwk hck) hna
      | succ k =>
        simp only [e k, e' k, ei k] at hwk hna ⊢
        exact b2 k o' (by simpa using ho') (by omega) hwk hck hna
  · have := hn.fin
    simp only [List.length_cons, e l.length, ei l.length]
    exact this
theorem set_self {fr : Frame'} {d : Nat} {v : AV} (h : fr.getD d .undef = v) (hv : v ≠ .undef) : fr.set d v = fr := by
  rw [List.getD_eq_getElem?_getD] at h
  rcases Nat.lt_or_ge d fr.length with hl | hl
  · rw [List.getElem?_eq_getElem hl, Option.getD_some] at h
    rw [← h]; exact List.set_getElem_self hl
  · rw [List.getElem?_eq_none hl] at h
    exact absurd h.symm hv
theorem asB_eq {v : AV} {b : Bool} (h : asB v = some b) : v = aBool b := by
  unfold asB at h
  split at h
  · simp only [Option.some.injEq] at h; subst h; rfl
  · simp at h
theorem drawK_run {E : Env} {all : List Oper} {an : List (List Nat)} {K : Frame' → Store → Option Res} {r : Res} : ∀ (l : List Oper) (i : Nat) (fr : Frame') (σ : Store) (sk : List Nat) (hist : List (Nat × Store)) (lks : List DLook),
    drawK E all an l i fr σ sk hist lks K = some r → ∃ F G V W, RunOk E all an K r l i fr σ sk hist lks F G V W
  | [], i, fr, σ, sk, hist, lks, h => ⟨fun _ => fr, fun _ => σ, fun _ => .undef, fun _ => false, rfl, rfl, by simp, by simp, by simp, by simpa [drawK] using h⟩
  | o :: l, i, fr, σ, sk, hist, lks, h => by
    have skip : (∃ j w, o.guard = some (j, w) ∧ (j ∈ sk ∨ ∃ d b, gdst all j = some d ∧ fr.getD d .undef = aBool b ∧ b ≠ w)) → drawK E all an l (i + 1) (setDst fr o.dst .undef) σ (i :: sk) hist lks K = some r →
        ∃ F G V W, RunOk E all an K r (o :: l) i fr σ sk hist lks F G V W := by
      intro hg hd
      obtain ⟨F', G', V', W', hn⟩ := drawK_run l (i + 1) _ _ _ _ _ hd
      exact hn.cons (wv := false) (.inl ⟨rfl, rfl, rfl, hg⟩) (fun j hj => (List.mem_cons.1 hj).elim (fun h => .inr ⟨h, rfl⟩) .inl) (fun _ h => h) (by simp) (fun _ h => h) (by simp) (by simp) (by simp)
    have go : (o.guard = none ∨ ∃ j w d, o.guard = some (j, w) ∧ gdst all j = some d ∧ fr.getD d .undef = aBool w) → (match opCls E o.op with
        | 0 => opK E fr o σ fun v _ => drawK E all an l (i + 1) (setDst fr o.dst v) σ sk hist lks K
        | 1 => opK E fr o σ fun v _ =>
          bif hist.all (fun h => inL h.1 (an.getD i []) || sameIn E fr o v h.2) then drawK E all an l (i + 1) (setDst fr o.dst v) σ sk hist ((i, fr, o, v) :: lks) K else none
        | _ => opK E fr o σ fun v σ' =>
          bif lks.all (fun k => inL k.1 (an.getD i []) || sameIn E k.2.1 k.2.2.1 k.2.2.2 σ') then drawK E all an l (i + 1) (setDst fr o.dst v) σ' sk ((i, σ) :: hist) lks K else none) = some r →
        ∃ F G V W, RunOk E all an K r (o :: l) i fr σ sk hist lks F G V W := by
      intro hg hd
      match hc : opCls E o.op with
      | 0 =>
        rw [hc] at hd
        obtain ⟨v, σ', h1, h2⟩ := opK_does hd
        obtain ⟨rfl, _⟩ := h1.pure hc
        obtain ⟨F', G', V', W', hn⟩ := drawK_run l (i + 1) _ _ _ _ _ h2
        exact hn.cons (wv := true) (.inr ⟨rfl, h1, hg⟩) (fun j hj => .inl hj) (fun _ h => h) (by simp [hc]) (fun _ h => h) (by simp [hc]) (by simp [hc]) (by simp [hc])
      | 1 =>
        rw [hc] at hd
        obtain ⟨v, σ', h1, h2⟩ := opK_does hd
        have := h1.look hc
        subst this
        obtain ⟨hck, h2⟩ := cond_some h2
        obtain ⟨F', G', V', W', hn⟩ := drawK_run l (i + 1) _ _ _ _ _ h2
        refine hn.cons (wv := true) (.inr ⟨rfl, h1, hg⟩) (fun j hj => .inl hj) (fun _ h => h) (by simp [hc]) (fun _ h => List.mem_cons_of_mem _ h) (fun _ _ => List.mem_cons_self) (fun _ _ h hm hna => ?_) (by simp [hc])
        have := List.all_eq_true.1 hck h hm
        simp only [Bool.or_eq_true] at this
        exact this.resolve_left fun hq => hna (inL_iff.1 hq)
      | n + 2 =>
        rw [hc] at hd
        have hd' : opK E fr o σ (fun v σ' => bif lks.all (fun k => inL k.1 (an.getD i []) || sameIn E k.2.1 k.2.2.1 k.2.2.2 σ') then drawK E all an l (i + 1) (setDst fr o.dst v) σ' sk ((i, σ) :: hist) lks K else none) = some r := hd
        obtain ⟨v, σ', h1, h2⟩ := opK_does hd'
        obtain ⟨hck, h2⟩ := cond_some h2
        obtain ⟨F', G', V', W', hn⟩ := drawK_run l (i + 1) _ _ _ _ _ h2
        refine hn.cons (wv := true) (.inr ⟨rfl, h1, hg⟩) (fun j hj => .inl hj) (fun _ h => List.mem_cons_of_mem _ h) (fun _ _ => List.mem_cons_self) (fun _ h => h) (fun _ hq => by omega) (fun _ hq => by omega) (fun _ _ k hm hna => ?_)
        have := List.all_eq_true.1 hck k hm
        simp only [Bool.or_eq_true] at this
        exact this.resolve_left fun hq => hna (inL_iff.1 hq)
    unfold drawK at h
    simp only at h
    cases hg : o.guard with
    | none => rw [hg] at h; exact go (.inl hg) h
    | some g =>
      obtain ⟨j, w⟩ := g
      rw [hg] at h
      simp only at h
      cases hj : inL j sk with
      | true =>
        rw [hj] at h
        exact skip ⟨j, w, hg, .inl (inL_iff.1 hj)⟩ h
      | false =>
        rw [hj] at h
        simp only [cond_false] at h
        cases hd : gdst all j with
        | none => rw [hd] at h; simp at h
        | some d =>
          rw [hd] at h
          simp only [Option.bind_eq_some_iff] at h
          obtain ⟨b, hb, h⟩ := h
          have hb := asB_eq hb
          cases b with
          | true =>
            simp only [cond_true, set_self hb (by simp [aBool])] at h
            cases w with
            | true => exact go (.inr ⟨j, true, d, hg, hd, hb⟩) h
            | false => exact skip ⟨j, false, hg, .inr ⟨d, true, hd, hb, by simp⟩⟩ h
          | false =>
            simp only [cond_false, set_self hb (by simp [aBool])] at h
            cases w with
            | true => exact skip ⟨j, true, hg, .inr ⟨d, false, hd, hb, by simp⟩⟩ h
            | false => exact go (.inr ⟨j, false, d, hg, hd, hb⟩) h
end Go.AX
