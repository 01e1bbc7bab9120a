import Derived.Test.YtniombjfbdojjaaDoorAx5
/- AX, part 5d: an operation's tree says what the operation does. -/
namespace Go.AX
theorem call_tree {E : Env} {fr : Frame'} {o : Oper} {σ : Store} {p : AV × Store} {c : Call} (hop : o.op = .call c) (h : (opT E fr o σ).run = some p) : opK0 E fr o σ K1 = some ([p.1], p.2) := by
  unfold opT at h
  rw [hop] at h
  simp only at h
  cases hc : c.callee with
  | invoke r n => rw [hc] at h; exact opD_run h
  | builtin b =>
    rw [hc] at h
    cases b <;> first | exact opD_run h | skip
    case append =>
      simp only at h
      obtain ⟨args, h1, h⟩ := T.bind_some h
      unfold opK0
      simp only [hop, hc, T.of_some h1, Option.bind_some]
      split at h
      · rename_i x y t u ht hu
        rw [ht, hu]
        simp only
        obtain ⟨h2, h⟩ := T.chk_some h
        rw [h2, cond_true]
        split at h
        · rename_i I L hI hL
          rw [hI, hL]
          simp only
          split at h
          · rename_i e _ hty hty'
            rw [hty, hty']
            simp only
            split at h
            · rename_i J hJ
              obtain ⟨ys, h3, h⟩ := T.bind_some h
              rw [hJ]
              simp only [elemsT_run h3, Option.bind_some]
              exact bind2_run (apndT_run h)
            · simp [T.run_fail] at h
          · rename_i e hty hty'
            rw [hty, hty']
            simp only
            split at h
            · rename_i J hJ
              obtain ⟨ys, h3, h⟩ := T.bind_some h
              rw [hJ]
              simp only [elemsT_run h3, Option.bind_some]
              exact bind2_run (apndT_run h)
            · simp [T.run_fail] at h
          · rename_i e _ hty hty'
            rw [hty, hty']
            simp only
            split at h
            · rename_i J hJ
              obtain ⟨ys, h3, h⟩ := T.bind_some h
              rw [hJ]
              simp only [zerosT_run h3, Option.bind_some]
              exact bind2_run (apndT_run h)
            · simp [T.run_fail] at h
          · simp [T.run_fail] at h
        · simp [T.run_fail] at h
      · simp [T.run_fail] at h
    case copy =>
      simp only at h
      obtain ⟨args, h1, h⟩ := T.bind_some h
      unfold opK0
      simp only [hop, hc, T.of_some h1, Option.bind_some]
      split at h
      · rename_i x y t ht
        rw [ht]
        simp only
        obtain ⟨h2, h⟩ := T.chk_some h
        rw [h2, cond_true]
        split at h
        · rename_i I hI
          rw [hI]
          simp only
          split at h
          · rename_i e hty
            rw [hty]
            simp only
            split at h
            · rename_i J hJ
              obtain ⟨ys, h3, h⟩ := T.bind_some h
              rw [hJ]
              simp only [elemsT_run h3, Option.bind_some]
              exact bind2_run (oCopyT_run h)
            · simp [T.run_fail] at h
          · simp [T.run_fail] at h
        · simp [T.run_fail] at h
      · simp [T.run_fail] at h
    case clear =>
      simp only at h
      obtain ⟨args, h1, h⟩ := T.bind_some h
      unfold opK0
      simp only [hop, hc, T.of_some h1, Option.bind_some]
      split at h
      · rename_i x t ht
        rw [ht]
        simp only
        obtain ⟨h2, h⟩ := T.chk_some h
        rw [h2, cond_true]
        split at h
        · rename_i I hI
          rw [hI]
          simp only
          split at h
          · rename_i e hty
            rw [hty]
            simp only
            split at h
            · rename_i J hJ
              obtain ⟨zd, h3, h⟩ := T.bind_some h
              rw [hJ]
              simp only [T.of_some h3, Option.bind_some]
              exact bind2_run (oClearT_run h)
            · simp [T.run_fail] at h
          · simp [T.run_fail] at h
        · simp [T.run_fail] at h
      · simp [T.run_fail] at h
  | value f =>
    rw [hc] at h
    cases f with
    | const v => exact opD_run h
    | global g => exact opD_run h
    | func g =>
      simp only at h
      obtain ⟨args, h1, h⟩ := T.bind_some h
      obtain ⟨F, h2, h⟩ := T.bind_some h
      unfold opK0
      simp only [hop, hc, T.of_some h1, T.of_some h2, Option.bind_some]
      cases hp : pureF E g with
      | true => rw [hp] at h; simp only [cond_true] at h ⊢; exact oneT_run (fun v hv => hv) h
      | false => rw [hp] at h; simp only [cond_false] at h ⊢; exact call1T_run (fun a s r => callT_run) h
    | tmp f =>
      simp only at h
      obtain ⟨args, h1, h⟩ := T.bind_some h
      obtain ⟨fv, h2, h⟩ := T.bind_some h
      unfold opK0
      have h2 := T.of_some h2
      simp only [hop, hc, T.of_some h1, h2, Option.bind_some]
      exact call1T_run (fun a s r => dynYT_run) h
theorem slice_tree {E : Env} {fr : Frame'} {o : Oper} {σ : Store} {p : AV × Store} {t : TypeId} {x : Operand} {lo hi mx : Option Operand} (hop : o.op = .slice t x lo hi mx) (h : (opT E fr o σ).run = some p) : opK0 E fr o σ K1 = some ([p.1], p.2) := by
  unfold opT at h
  rw [hop] at h
  simp only at h
  obtain ⟨xv, h1, g1⟩ := T.bind_some h
  clear h
  obtain ⟨lv, h2, g2⟩ := T.bind_some g1
  clear g1
  obtain ⟨hv, h3, g3⟩ := T.bind_some g2
  clear g2
  obtain ⟨h4, g4⟩ := T.chk_some g3
  clear g3
  have h1 := T.of_some h1
  unfold opK0
  simp only [hop]
  rw [h1, Option.bind_some]
  rcases lo with _ | lo' <;> rcases hi with _ | hi'
  · have h2 := evOT_none h2
    have h3 := evOT_none h3
    subst h2 h3
    simp only [Option.bind_some]
    rw [h4, cond_true]
    cases hI : E.tab[t]? with
    | none => rw [hI] at g4; simp [T.run_fail] at g4
    | some I =>
      rw [hI] at g4
      simp only at g4 ⊢
      cases hty : I.ty with
      | arr n e =>
        rw [hty] at g4
        cases mx with
        | none =>
          simp only at g4 ⊢
          obtain ⟨s, h5, g5⟩ := T.bind_some g4
          rw [T.of_some h5, Option.bind_some]
          exact oneT_run (fun _ => oSliceAT_run) g5
        | some m => simp [T.run_fail] at g4
      | str =>
        rw [hty] at g4
        cases mx with
        | none =>
          simp only at g4 ⊢
          obtain ⟨h5, g5⟩ := T.chk_some g4
          rw [h5, cond_true]
          exact oneT_run (fun _ => oSliceT_run) g5
        | some m => simp [T.run_fail] at g4
      | slc e =>
        rw [hty] at g4
        cases mx with
        | none =>
          simp only at g4 ⊢
          obtain ⟨h5, g5⟩ := T.chk_some g4
          rw [h5, cond_true]
          exact oneT_run (fun _ => oSliceT_run) g5
        | some m =>
          simp only at g4 ⊢
          obtain ⟨mv, h5, g5⟩ := T.bind_some g4
          have h5 : ev E.tab fr 0 m = some mv := T.of_some h5
          rw [h5, Option.bind_some]
          simp [T.run_fail] at g5
      | _ =>
        rw [hty] at g4
        cases mx <;> simp [T.run_fail] at g4
  · have h2 := evOT_none h2
    obtain ⟨u, e3, rfl⟩ := evOT_some h3
    subst h2
    simp only [e3, Option.map_some, Option.bind_some]
    rw [h4, cond_true]
    cases hI : E.tab[t]? with
    | none => rw [hI] at g4; simp [T.run_fail] at g4
    | some I =>
      rw [hI] at g4
      simp only at g4 ⊢
      cases hty : I.ty with
      | arr n e =>
        rw [hty] at g4
        cases mx with
        | none =>
          simp only at g4 ⊢
          obtain ⟨s, h5, g5⟩ := T.bind_some g4
          rw [T.of_some h5, Option.bind_some]
          exact oneT_run (fun _ => oSliceAT_run) g5
        | some m => simp [T.run_fail] at g4
      | str =>
        rw [hty] at g4
        cases mx with
        | none =>
          simp only at g4 ⊢
          obtain ⟨h5, g5⟩ := T.chk_some g4
          rw [h5, cond_true]
          exact oneT_run (fun _ => oSliceT_run) g5
        | some m => simp [T.run_fail] at g4
      | slc e =>
        rw [hty] at g4
        cases mx with
        | none =>
          simp only at g4 ⊢
          obtain ⟨h5, g5⟩ := T.chk_some g4
          rw [h5, cond_true]
          exact oneT_run (fun _ => oSliceT_run) g5
        | some m =>
          simp only at g4 ⊢
          obtain ⟨mv, h5, g5⟩ := T.bind_some g4
          have h5 : ev E.tab fr 0 m = some mv := T.of_some h5
          rw [h5, Option.bind_some]
          obtain ⟨a, h6, g6⟩ := T.bind_some g5
          obtain ⟨b, h7, g7⟩ := T.bind_some g6
          obtain ⟨h8, g8⟩ := T.chk_some g7
          rw [T.of_some h6, Option.bind_some, T.of_some h7, Option.bind_some, h8, cond_true]
          exact oneT_run (fun _ => oSliceT_run) g8
      | _ =>
        rw [hty] at g4
        cases mx <;> simp [T.run_fail] at g4
  · have h3 := evOT_none h3
    obtain ⟨u, e2, rfl⟩ := evOT_some h2
    subst h3
    simp only [e2, Option.map_some, Option.bind_some]
    rw [h4, cond_true]
    cases hI : E.tab[t]? with
    | none => rw [hI] at g4; simp [T.run_fail] at g4
    | some I =>
      rw [hI] at g4
      simp only at g4 ⊢
      cases hty : I.ty with
      | arr n e =>
        rw [hty] at g4
        cases mx with
        | none =>
          simp only at g4 ⊢
          obtain ⟨s, h5, g5⟩ := T.bind_some g4
          rw [T.of_some h5, Option.bind_some]
          exact oneT_run (fun _ => oSliceAT_run) g5
        | some m => simp [T.run_fail] at g4
      | str =>
        rw [hty] at g4
        cases mx with
        | none =>
          simp only at g4 ⊢
          obtain ⟨h5, g5⟩ := T.chk_some g4
          rw [h5, cond_true]
          exact oneT_run (fun _ => oSliceT_run) g5
        | some m => simp [T.run_fail] at g4
      | slc e =>
        rw [hty] at g4
        cases mx with
        | none =>
          simp only at g4 ⊢
          obtain ⟨h5, g5⟩ := T.chk_some g4
          rw [h5, cond_true]
          exact oneT_run (fun _ => oSliceT_run) g5
        | some m =>
          simp only at g4 ⊢
          obtain ⟨mv, h5, g5⟩ := T.bind_some g4
          have h5 : ev E.tab fr 0 m = some mv := T.of_some h5
          rw [h5, Option.bind_some]
          simp [T.run_fail] at g5
      | _ =>
        rw [hty] at g4
        cases mx <;> simp [T.run_fail] at g4
  · obtain ⟨u, e2, rfl⟩ := evOT_some h2
    obtain ⟨u', e3, rfl⟩ := evOT_some h3
    simp only [e2, e3, Option.map_some, Option.bind_some]
    rw [h4, cond_true]
    cases hI : E.tab[t]? with
    | none => rw [hI] at g4; simp [T.run_fail] at g4
    | some I =>
      rw [hI] at g4
      simp only at g4 ⊢
      cases hty : I.ty with
      | arr n e =>
        rw [hty] at g4
        cases mx with
        | none =>
          simp only at g4 ⊢
          obtain ⟨s, h5, g5⟩ := T.bind_some g4
          rw [T.of_some h5, Option.bind_some]
          exact oneT_run (fun _ => oSliceAT_run) g5
        | some m => simp [T.run_fail] at g4
      | str =>
        rw [hty] at g4
        cases mx with
        | none =>
          simp only at g4 ⊢
          obtain ⟨h5, g5⟩ := T.chk_some g4
          rw [h5, cond_true]
          exact oneT_run (fun _ => oSliceT_run) g5
        | some m => simp [T.run_fail] at g4
      | slc e =>
        rw [hty] at g4
        cases mx with
        | none =>
          simp only at g4 ⊢
          obtain ⟨h5, g5⟩ := T.chk_some g4
          rw [h5, cond_true]
          exact oneT_run (fun _ => oSliceT_run) g5
        | some m =>
          simp only at g4 ⊢
          obtain ⟨mv, h5, g5⟩ := T.bind_some g4
          have h5 : ev E.tab fr 0 m = some mv := T.of_some h5
          rw [h5, Option.bind_some]
          obtain ⟨a, h6, g6⟩ := T.bind_some g5
          obtain ⟨b, h7, g7⟩ := T.bind_some g6
          obtain ⟨h8, g8⟩ := T.chk_some g7
          rw [T.of_some h6, Option.bind_some, T.of_some h7, Option.bind_some, h8, cond_true]
          exact oneT_run (fun _ => oSliceT_run) g8
      | _ =>
        rw [hty] at g4
        cases mx <;> simp [T.run_fail] at g4
theorem opT_run {E : Env} {fr : Frame'} {o : Oper} {σ : Store} {p : AV × Store} (h : (opT E fr o σ).run = some p) : opK0 E fr o σ K1 = some ([p.1], p.2) := by
  cases hop : o.op with
  | call c => exact call_tree hop h
  | slice t x lo hi mx => exact slice_tree hop h
  | pick c x y =>
    unfold opT at h
    rw [hop] at h
    simp only at h
    obtain ⟨cv, h1, h⟩ := T.bind_some h
    obtain ⟨b, h2, h⟩ := T.bind_some h
    obtain ⟨xv, h3, h⟩ := T.bind_some h
    obtain ⟨yv, h4, h⟩ := T.bind_some h
    have h1 := T.of_some h1
    have h3 := T.of_some h3
    have h4 := T.of_some h4
    unfold opK0
    simp only [hop, h1, T.of_some h2, h3, h4, Option.bind_some]
    cases b with
    | true => rw [← T.leaf_some (b := p) h]; rfl
    | false => rw [← T.leaf_some (b := p) h]; rfl
  | sliceToArrayPointer t x =>
    unfold opT at h
    rw [hop] at h
    simp only at h
    obtain ⟨xv, h1, h⟩ := T.bind_some h
    have h1 := T.of_some h1
    obtain ⟨hk, h⟩ := T.chk_some h
    unfold opK0
    simp only [hop, h1, hk, cond_true, Option.bind_some]
    split at h
    · rename_i I hI
      simp only [hI]
      split at h
      · rename_i n e hty
        simp only [hty]
        obtain ⟨s, h2, h⟩ := T.bind_some h
        simp only [T.of_some h2, Option.bind_some]
        exact oneT_run (fun _ => oS2AT_run) h
      · simp [T.run_fail] at h
    · simp [T.run_fail] at h
  | box t x =>
    unfold opT at h
    rw [hop] at h
    simp only at h
    obtain ⟨xv, h1, h⟩ := T.bind_some h
    have h1 := T.of_some h1
    unfold opK0
    simp only [hop, h1, Option.bind_some]
    split at h
    · rename_i I hI
      obtain ⟨h2, h⟩ := T.chk_some h
      rw [hI]
      simp only [h2, cond_true]
      exact bind2_run (T.of_some h)
    · simp [T.run_fail] at h
  | build t ps =>
    unfold opT at h
    rw [hop] at h
    simp only at h
    unfold opK0
    simp only [hop]
    split at h
    · rename_i I hI
      rw [hI]
      simp only
      split at h
      · rename_i fs hty
        rw [hty]
        simp only
        obtain ⟨h2, h⟩ := T.chk_some h
        obtain ⟨zs, h3, h⟩ := T.bind_some h
        obtain ⟨qs, h4, h⟩ := T.bind_some h
        obtain ⟨vs, h5, h⟩ := T.bind_some h
        rw [h2, cond_true, T.of_some h3, Option.bind_some, T.of_some h4, Option.bind_some, partsAllT_run h5, Option.bind_some, ← T.leaf_some h]
      · rename_i n e hty
        rw [hty]
        simp only
        obtain ⟨h2, h⟩ := T.chk_some h
        obtain ⟨qs, h4, h⟩ := T.bind_some h
        obtain ⟨rs, h5, h⟩ := T.bind_some h
        rw [h2, cond_true, T.of_some h4, Option.bind_some, bind2, freezePT_run h5, Option.bind_some]
        split at h
        · rename_i s zs hz
          rw [hz]
          simp only
          obtain ⟨h6, h⟩ := T.chk_some h
          obtain ⟨ds, h7, h⟩ := T.bind_some h
          rw [h6, cond_true, T.of_some h7, Option.bind_some, ← T.leaf_some h]
        · simp [T.run_fail] at h
      · simp [T.run_fail] at h
    · simp [T.run_fail] at h
  | buildSlice t n ps =>
    unfold opT at h
    rw [hop] at h
    simp only at h
    unfold opK0
    simp only [hop]
    split at h
    · rename_i I hI
      rw [hI]
      simp only
      split at h
      · rename_i e hty
        rw [hty]
        simp only
        obtain ⟨h2, h⟩ := T.chk_some h
        rw [h2, cond_true]
        split at h
        · rename_i J hJ
          rw [hJ]
          simp only
          obtain ⟨qs, h4, h⟩ := T.bind_some h
          obtain ⟨rs, h5, h⟩ := T.bind_some h
          obtain ⟨z, h6, h⟩ := T.bind_some h
          obtain ⟨h7, h⟩ := T.chk_some h
          obtain ⟨ds, h8, h⟩ := T.bind_some h
          rw [T.of_some h4, Option.bind_some, bind2, freezePT_run h5, Option.bind_some, T.of_some h6, Option.bind_some, h7, cond_true, T.of_some h8, Option.bind_some]
          exact bind2_run (oNewSliceT_run h)
        · simp [T.run_fail] at h
      · simp [T.run_fail] at h
    · simp [T.run_fail] at h
  | load t x =>
    unfold opT at h
    rw [hop] at h
    simp only at h
    obtain ⟨xv, h1, h⟩ := T.bind_some h
    obtain ⟨h2, h⟩ := T.chk_some h
    obtain ⟨s, h3, h⟩ := T.bind_some h
    have h1 := T.of_some h1
    unfold opK0
    simp only [hop, h1, Option.bind_some, h2, cond_true, T.of_some h3]
    refine oneT_run (fun v hv => ?_) h
    obtain ⟨u, h4, h5⟩ := T.bind_some hv
    rw [oLoadT_run h4, spreadA_run h5]
  | store t x y =>
    unfold opT at h
    rw [hop] at h
    simp only at h
    obtain ⟨xv, h1, h⟩ := T.bind_some h
    obtain ⟨yv, h2, h⟩ := T.bind_some h
    obtain ⟨h3, h⟩ := T.chk_some h
    obtain ⟨s, h4, h⟩ := T.bind_some h
    obtain ⟨σ', h5, h⟩ := T.bind_some h
    have h1 := T.of_some h1
    have h2 := T.of_some h2
    unfold opK0
    simp only [hop, h1, h2, Option.bind_some, h3, cond_true, T.of_some h4, oStoreT_run h5]
    rw [← T.leaf_some h]
  | binOp op t x y yt =>
    unfold opT at h
    rw [hop] at h
    simp only at h
    split at h
    · exact opD_run h
    · exact opD_run h
    · rename_i h0 h0'
      obtain ⟨xv, h1, h⟩ := T.bind_some h
      obtain ⟨yv, h2, h⟩ := T.bind_some h
      have h1 := T.of_some h1
      have h2 := T.of_some h2
      unfold opK0
      simp only [hop, h1, h2, Option.bind_some]
      exact oneT_run (fun _ => oBinT_run) h
  | convert s d x =>
    unfold opT at h
    rw [hop] at h
    simp only at h
    obtain ⟨xv, h1, h⟩ := T.bind_some h
    obtain ⟨h3, h⟩ := T.chk_some h
    have h1 := T.of_some h1
    unfold opK0
    simp only [hop, h1, Option.bind_some, h3, cond_true]
    split at h
    · rename_i I J hI hJ
      rw [hI, hJ]
      simp only
      split at h
      · rename_i a b
        rw [a, b]
        exact oneT_run (fun _ h => T.of_some h) h
      · rename_i e a b
        rw [a, b]
        simp only
        split at h
        · rename_i L hL
          rw [hL]
          simp only
          split at h
          · rename_i hty
            rw [hty]
            exact bind2_run (oToBytesT_run h)
          · simp [T.run_fail] at h
        · simp [T.run_fail] at h
      · rename_i e a b
        rw [a, b]
        simp only
        split at h
        · rename_i L hL
          rw [hL]
          simp only
          split at h
          · rename_i hty
            rw [hty]
            exact oneT_run (fun _ => oToStrT_run) h
          · simp [T.run_fail] at h
        · simp [T.run_fail] at h
      · rename_i e0 e a b
        rw [a, b]
        simp only
        obtain ⟨h9, h⟩ := T.chk_some h
        rw [h9, cond_true]
        split at h
        · rename_i L hL
          rw [hL]
          simp only
          split at h
          · rename_i hty
            rw [hty]
            exact bind2_run (oMarkT_run h)
          · simp [T.run_fail] at h
        · simp [T.run_fail] at h
      · rename_i a b
        rw [a, b]
        simp only
        obtain ⟨h5, h⟩ := T.chk_some h
        rw [h5, cond_true, ← T.leaf_some h]
      · simp [T.run_fail] at h
    · simp [T.run_fail] at h
  | mapUpdate t x k v =>
    unfold opT at h
    rw [hop] at h
    simp only at h
    obtain ⟨xv, h1, h⟩ := T.bind_some h
    obtain ⟨kv, h2, h⟩ := T.bind_some h
    obtain ⟨vv, h3, h⟩ := T.bind_some h
    obtain ⟨T', h4, h⟩ := T.bind_some h
    obtain ⟨σ', h5, h⟩ := T.bind_some h
    have h1 := T.of_some h1
    have h2 := T.of_some h2
    have h3 := T.of_some h3
    unfold opK0
    simp only [hop, h1, h2, h3, Option.bind_some, T.of_some h4, oMapUpdT_run h5]
    rw [← T.leaf_some h]
  | lookup t x k ok =>
    unfold opT at h
    rw [hop] at h
    cases ok with
    | true => exact opD_run h
    | false =>
      simp only at h
      obtain ⟨xv, h1, h⟩ := T.bind_some h
      obtain ⟨kv, h2, h⟩ := T.bind_some h
      obtain ⟨T', h4, h⟩ := T.bind_some h
      have h1 := T.of_some h1
      have h2 := T.of_some h2
      unfold opK0
      simp only [hop, h1, h2, Option.bind_some, T.of_some h4]
      exact oneT_run (fun v hv => oLookT_run hv) h
  | makeSlice t x y =>
    unfold opT at h
    rw [hop] at h
    simp only at h
    obtain ⟨xv, h1, h⟩ := T.bind_some h
    obtain ⟨yv, h2, h⟩ := T.bind_some h
    obtain ⟨h3, h⟩ := T.chk_some h
    have h1 := T.of_some h1
    have h2 := T.of_some h2
    unfold opK0
    simp only [hop, h1, h2, Option.bind_some, h3, cond_true]
    split at h
    · rename_i I hI
      rw [hI]
      simp only
      split at h
      · rename_i e hty
        rw [hty]
        simp only
        split at h
        · rename_i J hJ
          rw [hJ]
          exact bind2_run (oMakeT_run h)
        · simp [T.run_fail] at h
      · simp [T.run_fail] at h
    · simp [T.run_fail] at h
  | indexAddr t x i =>
    unfold opT at h
    rw [hop] at h
    simp only at h
    obtain ⟨xv, h1, h⟩ := T.bind_some h
    obtain ⟨yv, h2, h⟩ := T.bind_some h
    obtain ⟨h3, h⟩ := T.chk_some h
    have h1 := T.of_some h1
    have h2 := T.of_some h2
    unfold opK0
    simp only [hop, h1, h2, Option.bind_some, h3, cond_true]
    split at h
    · rename_i I hI
      rw [hI]
      simp only
      split at h
      · rename_i e hty
        rw [hty]
        simp only
        obtain ⟨s, h5, h⟩ := T.bind_some h
        rw [T.of_some h5, Option.bind_some]
        exact oneT_run (fun _ => oIndexAddrT_run) h
      · rename_i e hty
        rw [hty]
        simp only
        obtain ⟨s, h5, h⟩ := T.bind_some h
        rw [T.of_some h5, Option.bind_some]
        exact oneT_run (fun _ => oIndexAddrAT_run) h
      · simp [T.run_fail] at h
    · simp [T.run_fail] at h
  | index t x i =>
    unfold opT at h
    rw [hop] at h
    simp only at h
    obtain ⟨xv, h1, h⟩ := T.bind_some h
    obtain ⟨yv, h2, h⟩ := T.bind_some h
    obtain ⟨h3, h⟩ := T.chk_some h
    have h1 := T.of_some h1
    have h2 := T.of_some h2
    unfold opK0
    simp only [hop, h1, h2, Option.bind_some, h3, cond_true]
    split at h
    · rename_i I hI
      rw [hI]
      simp only
      split at h
      · rename_i hty
        rw [hty]
        exact oneT_run (fun _ => oIndexST_run) h
      · rename_i e hty
        rw [hty]
        simp only
        obtain ⟨h5, h⟩ := T.chk_some h
        rw [h5, cond_true]
        exact oneT_run (fun _ => oIndexAT_run) h
      · simp [T.run_fail] at h
    · simp [T.run_fail] at h
  | _ =>
    unfold opT at h
    rw [hop] at h
    exact opD_run h
end Go.AX
