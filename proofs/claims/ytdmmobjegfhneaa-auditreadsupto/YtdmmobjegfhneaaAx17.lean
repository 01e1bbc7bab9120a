import Derived.Test.YtdmmobjegfhneaaAx16
/- AX, part 20: one operation is sound, continued: literals, calls; and all together. -/
namespace Go.AX
variable {bg : Bg}
section
variable {P : Program} {E : Env} {w : World} {S : Nat → Prop} {m : List (Option Nat)} {σ : Store} {fr : Frame'} {a : Act}
theorem norm1_rv {T : Nat → Option Ent} {v : AV} {cs : List Value} (h : Rv w S T v cs) : Rv w S T (norm1 v) cs := by
  cases v with
  | fslc s ds =>
    show Rv w S T (.dat (.slc s ds)) cs
    rw [Rv] at h
    rw [Rv]
    exact h.1
  | _ => exact h
theorem norm1_shape (v : AV) : (norm1 v).shape = v.shape ∧ (norm1 v).aggB = v.aggB := by
  unfold norm1
  split <;> exact ⟨rfl, rfl⟩
theorem norm1_rs {T : Nat → Option Ent} {v : AV} {u : Value} (h : Rs w S T v u) : Rs w S T (norm1 v) u := by
  unfold norm1
  split
  · exact h.fslc.1
  · exact h
theorem norm1_rvL {T : Nat → Option Ent} : ∀ {vs : List AV} {cs : List Value}, RvL w S T vs cs → RvL w S T (vs.map norm1) cs
  | [], cs, h => by simpa [RvL] using h
  | v :: vs, cs, h => by
    rw [RvL] at h
    obtain ⟨c1, c2, rfl, h1, h2⟩ := h
    rw [List.map_cons, RvL]
    exact ⟨c1, c2, rfl, norm1_rv h1, norm1_rvL h2⟩
theorem norm1_shapeL (vs : List AV) : AV.shapeL (vs.map norm1) = AV.shapeL vs := by
  induction vs with
  | nil => rfl
  | cons v vs ih => simp only [List.map_cons, AV.shapeL, (norm1_shape v).1, ih]
theorem nrm_rs {T : Nat → Option Ent} {c : Bool} {v : AV} {u : Value} (h : Rs w S T v u) : Rs w S T (nrm c v) u := by
  cases c with
  | true => exact h
  | false => exact norm1_rs h
theorem nrm_rvL {T : Nat → Option Ent} {c : Bool} {vs : List AV} {cs : List Value} (h : RvL w S T vs cs) : RvL w S T (vs.map (nrm c)) cs := by
  cases c with
  | true => show RvL w S T (vs.map fun v => v) cs; rw [List.map_id']; exact h
  | false => exact norm1_rvL h
theorem nrm_shapeL (c : Bool) (vs : List AV) : AV.shapeL (vs.map (nrm c)) = AV.shapeL vs := by
  cases c with
  | true => show AV.shapeL (vs.map fun v => v) = _; rw [List.map_id']
  | false => exact norm1_shapeL vs
theorem pck_rs {T : Nat → Option Ent} {c : Bool} {vs : List AV} {cs : Array Value} (h : RvL w S T vs cs.toList) : Rs w S T (pck c vs) (.agg cs) := by
  cases c with
  | true =>
    refine ⟨rfl, ?_⟩
    show Rv w S T (.agg vs) cs.toList
    rw [Rv]; exact h
  | false => exact pack_rs h
theorem parts_spec {T : Nat → Option Ent} {v : AV} {vs : List AV} (h : v.parts = some vs) : v.shape = .agg (AV.shapeL vs) ∧ ∀ cs, Rv w S T v cs → RvL w S T vs cs := by
  unfold AV.parts at h
  split at h
  · simp only [Option.some.injEq] at h; subst h
    exact ⟨by rw [AV.shape], fun cs hc => by rwa [Rv] at hc⟩
  · simp only [Option.some.injEq] at h; subst h
    exact ⟨by rw [AV.shape, D.shape, AV.shapeL_dat], fun cs hc => by rw [Rv, Rd] at hc; exact RvL.of_dat hc⟩
  · simp at h
theorem mapList_run {α β : Type} {f : α → Sem β} {g : α → β} : ∀ {l : List α}, (∀ x ∈ l, ∀ w, (f x).run P w = .ok (g x) w) → ∀ w, (l.mapM f).run P w = .ok (l.map g) w
  | [], _, w => by simp
  | x :: l, h, w => by
    rw [List.mapM_cons]
    simp only [Sem.run_bind, h x (by simp), Result.andThen, mapList_run (fun y hy => h y (List.mem_cons_of_mem _ hy)), Sem.run_pure, List.map_cons]
theorem mapArr_run {α β : Type} {f : α → Sem β} {g : α → β} {l : Array α} (h : ∀ x ∈ l.toList, ∀ w, (f x).run P w = .ok (g x) w) (w : World) : (l.mapM f).run P w = .ok (l.map g) w := by
  rw [Array.mapM_eq_mapM_toList]
  simp only [Sem.run_map, mapList_run h, Result.andThen]
  congr 1
  rw [← Array.toList_inj]
  simp
theorem fieldsOk_all {tab : Tab} (hP : tabOk P tab 0 tab = true) : ∀ {fs : List (TypeId × Nat)} {gs : List Field} {l : List Sh} {at_ : Nat}, fieldsOk tab fs gs l at_ = true → ∀ f ∈ gs, ∃ i, P.info? f.type = some i
  | [], [], [], _, _, f, hf => by simp at hf
  | (ft, o) :: fs, g :: gs, s' :: l, at_, h, f, hf => by
    simp only [fieldsOk, Bool.and_eq_true, decide_eq_true_eq] at h
    obtain ⟨⟨⟨⟨⟨h1, h2⟩, h3⟩, h4⟩, h5⟩, h6⟩ := h
    rcases List.mem_cons.1 hf with hf | hf
    · subst hf
      split at h5
      · rename_i J hJ
        simp only [Bool.and_eq_true] at h5
        have hkn : known tab ft = true := by unfold known; rw [hJ]; exact h5.2
        obtain ⟨i, hi, _⟩ := TyOk.of_tab hP hJ hkn
        exact ⟨i, by rw [h1]; exact hi⟩
      · simp at h5
    · exact fieldsOk_all hP h6 f hf
  | [], [], _ :: _, _, h, _, _ => by simp [fieldsOk] at h
  | [], _ :: _, _, _, h, _, _ => by simp [fieldsOk] at h
  | _ :: _, [], _, _, h, _, _ => by simp [fieldsOk] at h
  | _ :: _, _ :: _, [], _, h, _, _ => by simp [fieldsOk] at h
theorem freezeP_sound {w : World} : ∀ {ps : List (Nat × AV)} {σ : Store} {S : Nat → Prop} {m : List (Option Nat)} {qs : List (Nat × D)} {σ' : Store} {us : List (Nat × Value)}, Inv w S m σ → freezeP ps σ = some (qs, σ') →
    F2 (fun (p : Nat × AV) (u : Nat × Value) => p.1 = u.1 ∧ Rs w S (tbl m σ) p.2 u.2) ps us →
    ∃ S', Stp w S m σ w S' m σ' ∧ F2 (fun (p : Nat × D) (u : Nat × Value) => p.1 = u.1 ∧ Rs w S' (tbl m σ') (.dat p.2) u.2) qs us
  | [], σ, S, m, qs, σ', _, hi, h, .nil => by
    simp only [freezeP, Option.some.injEq, Prod.mk.injEq] at h
    obtain ⟨rfl, rfl⟩ := h
    exact ⟨S, Stp.refl hi, .nil⟩
  | (i, v) :: ps, σ, S, m, qs, σ', _, hi, h, .cons (b := u) (k := us) hv ht => by
    simp only [freezeP, Option.bind_eq_some_iff, Option.map_eq_some_iff] at h
    obtain ⟨⟨r1, σ1⟩, h1, d, h2, ⟨q2, σ2⟩, h3, hq⟩ := h
    simp only [Prod.mk.injEq] at hq
    obtain ⟨rfl, rfl⟩ := hq
    obtain ⟨S1, s1, g1⟩ := freeze_sound hi h1 hv.2
    obtain ⟨S2, s2, g2⟩ := freezeP_sound s1.inv h3 (ht.mono fun _ _ hh => ⟨hh.1, s1.rs hh.2⟩)
    exact ⟨S2, s1.trans s2, .cons ⟨hv.1, s2.rs (toD_rs h2 g1)⟩ g2⟩
theorem op_build (hE : EnvOk bg P E) (hs : Sit bg w S m σ fr a) {o : Oper} {t : TypeId} {ps : Array (Nat × Operand)} (hop : o.op = .build t ps) {K : AV → Store → Option Res} {r : Res} {next : Act → World → Prop} {Q : Exit → Act → World → Prop} (hn : Nexts P w S m σ o a K r next)
    (h : opK0 E fr o σ K = some r) : OWp P o a w next Q := by
  unfold opK0 at h
  rw [hop] at h
  simp only at h
  cases hI : E.tab[t]? with
  | none => rw [hI] at h; simp at h
  | some I =>
    rw [hI] at h
    simp only at h
    cases hty : I.ty with
    | struct fs =>
      rw [hty] at h
      have hcs := cond_some h; clear h; obtain ⟨hk, h⟩ := hcs
      simp only [Option.bind_eq_some_iff] at h
      obtain ⟨zs, hzs, pvs, hpv, vs, hvs, h⟩ := h
      have hIok := tyOk hE.tab hI hk
      obtain ⟨l, hl⟩ := hIok.structSh hty
      obtain ⟨gs, hu, hok, _⟩ := hIok.struct hty hl
      obtain ⟨i, z, b1, b3, b4, b5, b6, b7, b8⟩ := zero_cells hE.tab hI hk
      obtain ⟨p1, p2⟩ := parts_spec (w := w) (S := S) (T := tbl m σ) hzs
      rw [b8, hl] at p1
      simp only [Sh.agg.injEq] at p1
      have hzr : z = .agg z.cells := by
        have h1 := (b7 w S (tbl m σ)).real (by cases hz : I.zero <;> simp [AV.parts, hz] at hzs <;> rfl)
        have : I.zero.aggB = true := by rw [AV.aggB_shape, b8, hl]; rfl
        rw [this] at h1
        cases z <;> simp [valAgg] at h1
        rfl
      have hzv := p2 z.cells.toList (by
        have := b7 w S (tbl m σ)
        exact (this.real (by cases hz : I.zero <;> simp [AV.parts, hz] at hzs <;> rfl)).2)
      have hplace : ∀ i s, l[i]? = some s → (gs.map fun f => (f.offset, ((P.info? f.type).map (·.size)).getD 0))[i]? = some (Sh.sizeL (l.take i), s.size) := by
        intro i s hs
        obtain ⟨ft, f, J, a1, a2, a3, a4, a5, a6, a7, a8⟩ := fieldsOk_get hok hs
        obtain ⟨i', c1, c2, _⟩ := TyOk.of_tab hE.tab a6 a8
        rw [Array.getElem?_map]
        have : gs[i]? = some f := by rw [← Array.getElem?_toList]; exact a2
        rw [this]
        simp only [Option.map_some, a3, c1, Option.getD_some, c2, a7, a4, Nat.zero_add]
      have hparts := evParts_sound hs hpv
      have hparts' : F2 (fun (p : Nat × AV) (u : Nat × Value) => p.1 = u.1 ∧ Rs w S (tbl m σ) p.2 u.2) (pvs.map fun p => (p.1, nrm (rawB E t) p.2)) (ps.toList.map fun p => (p.1, a.eval p.2)) := by
        clear hvs hpv
        revert hparts
        generalize (ps.toList.map fun p => (p.1, a.eval p.2)) = us
        intro hparts
        induction hparts with
        | nil => exact .nil
        | cons hh _ ih => exact .cons ⟨hh.1, nrm_rs hh.2⟩ ih
      obtain ⟨cells', f1, f2, f3⟩ := fill_parts hplace hvs (nrm_rvL hzv) (by rw [nrm_shapeL, p1]) hparts'
      refine pure_op hs.inv hn (val := .agg cells') ?_ (pck_rs f2) h
      unfold execOp
      rw [hop]
      refine vrun ?_
      unfold Instr.build
      simp only [Sem.run_bind, zeroValue_run b1 b5, Result.andThen, underlying_run hu]
      rw [mapArr_run (g := fun f => (f.offset, ((P.info? f.type).map (·.size)).getD 0)) (by
        intro f hf w
        obtain ⟨i', hi'⟩ := fieldsOk_all hE.tab hok f hf
        simp only [Sem.run_bind, sizeOf_run hi', Result.andThen, Sem.run_pure, hi', Option.map_some, Option.getD_some])]
      simp only [Array.toList_map, f1, Sem.run_pure]
    | arr n e =>
      rw [hty] at h
      have hcs := cond_some h; clear h; obtain ⟨hk, h⟩ := hcs
      simp only [Option.bind_eq_some_iff] at h
      obtain ⟨pvs, hpv, h⟩ := h
      have hbs := bind2_some h; clear h; obtain ⟨qs, σ1, hfz, h⟩ := hbs
      have hIok := tyOk hE.tab hI hk
      obtain ⟨hu, J, hJ, hsh, hsz, hkn⟩ := hIok.array hty
      obtain ⟨i, z, b1, b3, b4, b5, b6, b7, b8⟩ := zero_cells hE.tab hI hk
      obtain ⟨iJ, c1, c2, _⟩ := TyOk.of_tab hE.tab hJ hkn
      obtain ⟨S1, s1, g1⟩ := freezeP_sound hs.inv hfz (evParts_sound hs hpv)
      cases hz : I.zero with
      | dat d =>
        rw [hz] at h
        cases d with
        | arr s zs =>
          have hcs := cond_some h; clear h; obtain ⟨hft, h⟩ := hcs
          simp only [Option.bind_eq_some_iff] at h
          obtain ⟨ds, hds, h⟩ := h
          have hzr := b7 w S1 (tbl m σ1)
          rw [hz] at hzr b8
          rw [AV.shape, D.shape, hsh] at b8
          simp only [Sh.arr.injEq] at b8
          obtain ⟨rfl, hzl⟩ := b8
          obtain ⟨hz1, hz2⟩ := hzr
          cases z with
          | agg zc =>
            rw [Rv, Rd] at hz2
            have hft := fits_sound hft
            obtain ⟨cells', f1, f2, f3, f4⟩ := fill_elems (cells := zc) (vs := ps.toList.map fun p => (p.1, a.eval p.2)) hds hz2.1 hz2.2 (by
              intro p hp
              exact hft p.2 (List.mem_map_of_mem hp)) g1
            refine wp_value (v := .agg cells') (w' := w) ?_ (hn (.dat (.arr J.sh ds)) _ _ _ _ _ s1 ⟨rfl, by rw [Rv, Rd]; exact ⟨f2, f3⟩⟩ h)
            unfold execOp
            rw [hop]
            refine vrun ?_
            unfold Instr.build
            simp only [Sem.run_bind, zeroValue_run b1 b5, Result.andThen, underlying_run hu, sizeOf_run c1, c2, Value.cells, Array.toList_map, f1, Sem.run_pure]
          | _ => simp [valAgg, AV.aggB, D.aggB] at hz1
        | _ => simp at h
      | _ => rw [hz] at h; simp at h
    | _ => rw [hty] at h; simp at h
theorem op_buildSlice (hE : EnvOk bg P E) (hs : Sit bg w S m σ fr a) {o : Oper} {t : TypeId} {len : Nat} {ps : Array (Nat × Operand)} (hop : o.op = .buildSlice t len ps) {K : AV → Store → Option Res} {r : Res} {next : Act → World → Prop} {Q : Exit → Act → World → Prop} (hn : Nexts P w S m σ o a K r next)
    (h : opK0 E fr o σ K = some r) : OWp P o a w next Q := by
  unfold opK0 at h
  rw [hop] at h
  simp only at h
  cases hI : E.tab[t]? with
  | none => rw [hI] at h; simp at h
  | some I =>
    rw [hI] at h
    simp only at h
    cases hty : I.ty with
    | slc e =>
      rw [hty] at h
      have hcs := cond_some h; clear h; obtain ⟨hk, h⟩ := hcs
      have hIok := tyOk hE.tab hI hk
      obtain ⟨hu, J, hJ, hsz, hkn⟩ := hIok.slice hty
      rw [hJ] at h
      simp only [Option.bind_eq_some_iff] at h
      obtain ⟨pvs, hpv, h⟩ := h
      have hbs := bind2_some h; clear h; obtain ⟨qs, σ1, hfz, h⟩ := hbs
      simp only [Option.bind_eq_some_iff] at h
      obtain ⟨zd, hzd, h⟩ := h
      have hcs := cond_some h; clear h; obtain ⟨hlen, h⟩ := hcs
      simp only [Bool.and_eq_true, decide_eq_true_eq] at hlen
      simp only [Option.bind_eq_some_iff] at h
      obtain ⟨ds, hds, h⟩ := h
      have hbs := bind2_some h; clear h; obtain ⟨v, σ2, hnew, h⟩ := hbs
      obtain ⟨i, z, b1, b3, b4, b5, b6, b7, b8⟩ := zero_cells hE.tab hJ hkn
      obtain ⟨S1, s1, g1⟩ := freezeP_sound hs.inv hfz (evParts_sound hs hpv)
      unfold oNewSlice at hnew
      have hcs := cond_some hnew; clear hnew; obtain ⟨hft, hnew⟩ := hcs
      simp only [Option.some.injEq, Prod.mk.injEq] at hnew
      obtain ⟨rfl, rfl⟩ := hnew
      have hft := fits_sound hft
      have hzr : Rd w S1 zd z.cells.toList := by
        have := toD_rs hzd (b7 w S1 (tbl m σ1))
        have h2 := this.2
        rwa [Rv] at h2
      have hzs : zd.shape = J.sh := by rw [(toD_shape hzd).1, b8]
      have hzl : z.cells.toList.length = J.sh.size := by simpa using b6
      have hzL : RdL w S1 (List.replicate len zd) ((List.replicate len z.cells.toList).flatten) := RdL.replicate hzr len
      obtain ⟨cells', f1, f2, f3, f4⟩ := fill_elems (sh := J.sh) (cells := ((List.replicate len z.cells.toList).flatten).toArray) (vs := ps.toList.map fun p => (p.1, a.eval p.2)) hds (by simpa using hzL) (by intro d hd; rw [List.eq_of_mem_replicate hd]; exact hzs) (by
        intro p hp
        exact fits_sound hlen.2 p.2 (List.mem_map_of_mem hp)) g1
      have hdl : ds.length * J.sh.size = cells'.size := by
        have h1 := RdL.length f2
        rw [sizeL_all J.sh f3] at h1
        simpa using h1.symm
      have hlenD : ds.length = len := by
        rw [f4] at hdl
        simp only [List.size_toArray, flatten_replicate_length, hzl] at hdl
        exact Nat.eq_of_mul_eq_mul_right (Nat.pos_of_ne_zero hsz) hdl
      obtain ⟨q1, q2⟩ := newDyn_stp (e := e) (f := (0, 0)) (c := cells') (cap := len) s1.inv f3 (by rw [hdl]; exact Nat.le_refl _) (by rw [hdl]; rw [List.take_of_length_le (by simp)]; exact f2) (by intro o _ h; omega) (by rw [← hlenD]; omega) (by omega)
      have hrun : (Instr.buildSlice t len (ps.map fun p => (p.1, a.eval p.2))).run P w = .ok (.slice (some ⟨w.heap.size, 0, none⟩) len len) { w with heap := w.heap.push (.cells cells' e) } := by
        unfold Instr.buildSlice
        simp only [Sem.run_bind, underlying_run hu, Result.andThen, sizeOf_run b1, b3]
        rw [if_neg (by omega)]
        by_cases hz0 : len * J.sh.size = 0
        · have hl0 : len = 0 := by
            rcases Nat.mul_eq_zero.1 hz0 with h | h
            · exact h
            · exact absurd h hsz
          subst hl0
          have e0 : Array.range 0 = #[] := rfl
          simp only [Nat.zero_mul, if_true, Sem.run_bind, Sem.run_pure, Result.andThen, e0, Array.map_empty, Array.toList_map]
          simp only [List.replicate_zero, List.flatten_nil] at f1
          rw [f1]
          simp only [Sem.run_bind, newRow_run, Result.andThen, Sem.run_pure]
        · have hcells : ((Array.range (len * J.sh.size)).map fun i => z.cells[i % z.cells.size]!) = ((List.replicate len z.cells.toList).flatten).toArray := by
            rw [← Array.toList_inj]
            simp only [Array.toList_map, Array.toList_range]
            rw [← range_rows, b6]
          simp only [hz0, if_false, Sem.run_bind, zeroValue_run b1 b5, Result.andThen, Sem.run_pure, hcells, Array.toList_map, f1, newRow_run]
      refine wp_value (v := .slice (some ⟨w.heap.size, 0, none⟩) len len) ?_ (hn _ _ _ _ _ _ (s1.trans q1) (by rw [hlenD] at q2 ⊢; exact q2) h)
      unfold execOp
      rw [hop]
      exact vrun hrun
    | _ => rw [hty] at h; simp at h
end
end Go.AX
