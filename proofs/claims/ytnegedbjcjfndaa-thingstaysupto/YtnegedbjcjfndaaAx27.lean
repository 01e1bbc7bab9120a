import Derived.Test.YtnegedbjcjfndaaAx26
import Derived.Test.YtnegedbjcjfndaaAx7
import Derived.Scope
import Derived.Control
/- AX, part 25: code is sound; a function's run is sound. -/
namespace Go.AX

section
variable {P : Program}

theorem foldr_dst {l : List Oper} {k : List Nat} {d : Nat} : d ∈ l.foldr (fun o l => match o.dst with | some d => ins d l | none => l) k ↔ d ∈ opsDst l ∨ d ∈ k := by
  induction l with
  | nil => simp [opsDst]
  | cons o l ih =>
    rw [opsDst_cons, List.foldr_cons]
    cases h : o.dst with
    | none => simp only [ih]; simp
    | some x =>
      simp only [ins_mem, ih, Option.some.injEq]
      constructor
      · rintro (rfl | h | h)
        · exact .inl (.inl rfl)
        · exact .inl (.inr h)
        · exact .inr h
      · rintro ((rfl | h) | h)
        · exact .inl rfl
        · exact .inr (.inl h)
        · exact .inr (.inr h)

theorem codeDst_mem : ∀ {c : Code} {l : List Nat} {d : Nat}, d ∈ codeDst c l ↔ d ∈ codeDst c [] ∨ d ∈ l := by
  intro c
  induction c with
  | region id ops dr =>
    intro l d
    unfold codeDst
    exact (foldr_dst (l := ops.toList) (k := l)).trans ((or_congr (Iff.trans (by simp) (foldr_dst (l := ops.toList) (k := [])).symm) Iff.rfl))
  | seq a b iha ihb =>
    intro l d
    simp only [codeDst]
    rw [iha (l := codeDst b l), iha (l := codeDst b []), ihb (l := l)]
    constructor
    · rintro (h | h | h)
      · exact .inl (.inl h)
      · exact .inl (.inr h)
      · exact .inr h
    · rintro ((h | h) | h)
      · exact .inl h
      · exact .inr (.inl h)
      · exact .inr (.inr h)
  | cond c a b iha ihb =>
    intro l d
    simp only [codeDst]
    rw [iha (l := codeDst b l), iha (l := codeDst b []), ihb (l := l)]
    constructor
    · rintro (h | h | h)
      · exact .inl (.inl h)
      · exact .inl (.inr h)
      · exact .inr h
    · rintro ((h | h) | h)
      · exact .inl h
      · exact .inr (.inl h)
      · exact .inr (.inr h)
  | block id b ih => intro l d; simpa only [codeDst] using ih
  | loop b ih => intro l d; simpa only [codeDst] using ih
  | scope b ih => intro l d; simpa only [codeDst] using ih
  | _ => intro l d; simp [codeDst]

theorem Sit0.trim {w0 w : World} {S0 S : Nat → Prop} {m0 m : List (Option Nat)} {σ0 σ : Store} {fr : Frame'} {a : Act} (h : Sit0 w0 S0 m0 σ0 w S m σ fr a) : ∃ m', Sit0 w0 S0 m0 σ0 w S m' (trim σ0.length fr σ) fr a := by
  unfold AX.trim
  simp only
  generalize trimN σ 4 (max σ0.length (maxIds fr)) = k
  cases hc : decide (σ0.length ≤ k) && idsBelow k fr && (σ.take k).all (fun B => idsBelow k [B.v]) with
  | false => exact ⟨m, h⟩
  | true =>
    simp only [Bool.and_eq_true, decide_eq_true_eq] at hc
    exact ⟨m.take k, h.cut hc.1.1 hc.1.2 hc.2⟩

theorem ex_sound {rt : List Nat} : ∀ (c : Code) (E : Env), EnvOk P E → ∀ (exs : List (Nat × List Nat)) (out : List Nat) (Q : Exit → Act → World → Prop) (w0 : World) (S0 : Nat → Prop) (m0 : List (Option Nat)) (σ0 : Store) (w : World) (S : Nat → Prop) (m : List (Option Nat)) (σ : Store) (fr : Frame') (a : Act) (K : Kt) (r : Res),
    E.base = σ0.length → (∀ x ∈ loopsOf rt c exs out, LoopOk E rt x) → ex E rt c exs out fr σ K = some r → Sit0 w0 S0 m0 σ0 w S m σ fr a →
    (∀ e w' S' m' σ' fr' a', Sit0 w0 S0 m0 σ0 w' S' m' σ' fr' a' → Same (codeDst c []) a a' → K e fr' σ' = some r → Q e a' w') → c.wp P Q a w := by
  intro c
  induction c with
  | skip =>
    intro E hE exs out Q w0 S0 m0 σ0 w S m σ fr a K r hb hlp h hs hK
    exact wp_skip (hK _ _ _ _ _ _ _ hs (Same.refl _ _) h)
  | region id ops dr =>
    intro E hE exs out Q w0 S0 m0 σ0 w S m σ fr a K r hb hlp h hs hK
    cases dr with
    | false =>
      refine region_sound hE hb h hs ?_
      intro w' S' m' σ' fr' a' h1 h2 h3
      exact hK _ _ _ _ _ _ _ h1 h2 h3
    | true =>
      simp only [ex] at h
      obtain ⟨h1, h2⟩ := cond_some h
      refine drawn_sound hE hE.mixed h1 h2 hs ?_
      intro w' S' m' σ' fr' a' h1 h2 h3
      exact hK _ _ _ _ _ _ _ h1 h2 h3
  | seq x y ihx ihy =>
    intro E hE exs out Q w0 S0 m0 σ0 w S m σ fr a K r hb hlp h hs hK
    have subx : ∀ d ∈ codeDst x [], d ∈ codeDst (.seq x y) [] := fun d hd => by simp only [codeDst]; exact codeDst_mem.2 (.inl hd)
    have suby : ∀ d ∈ codeDst y [], d ∈ codeDst (.seq x y) [] := fun d hd => by simp only [codeDst]; exact codeDst_mem.2 (.inr hd)
    unfold ex at h
    simp only at h
    refine wp_seq ?_
    cases hst : Code.straight x with
    | true =>
      rw [hst] at h
      refine ihx E hE exs _ _ w0 S0 m0 σ0 w S m σ fr a _ r hb (fun z hz => hlp z (by simp only [loopsOf]; exact List.mem_append_left _ hz)) h hs ?_
      intro e w' S' m' σ' fr' a' hs' hsame hk
      cases e with
      | normal =>
        refine ihy E hE exs out Q w0 S0 m0 σ0 w' S' m' σ' fr' a' K r hb (fun z hz => hlp z (by simp only [loopsOf]; exact List.mem_append_right _ hz)) hk hs' ?_
        intro e w'' S'' m'' σ'' fr'' a'' hs'' hsame' hk'
        exact hK _ _ _ _ _ _ _ hs'' ((hsame.mono subx).trans (hsame'.mono suby)) hk'
      | _ => exact hK _ _ _ _ _ _ _ hs' (hsame.mono subx) hk
    | false =>
      rw [hst] at h
      simp only [cond_false, joinK] at h
      refine ihx (E.rebase σ.length) (hE.rebase _) exs _ _ w S m σ w S m σ fr a _ r rfl (fun z hz => hlp z (by simp only [loopsOf]; exact List.mem_append_left _ hz)) h hs.start ?_
      intro e w' S' m' σ' fr' a' hs' hsame hk
      have hs0 : Sit0 w0 S0 m0 σ0 w' S' m' σ' fr' a' := ⟨hs'.sit, hs.st.trans hs'.st⟩
      cases e with
      | normal =>
        simp only at hk
        refine ihy E hE exs out Q w0 S0 m0 σ0 w' S' m' σ' _ a' K r hb (fun z hz => hlp z (by simp only [loopsOf]; exact List.mem_append_right _ hz)) hk (hs.merge hs0 (fun v u hv => hs'.st.rs hv) hsame) ?_
        intro e w'' S'' m'' σ'' fr'' a'' hs'' hsame' hk'
        exact hK _ _ _ _ _ _ _ hs'' ((hsame.mono subx).trans (hsame'.mono suby)) hk'
      | _ => exact hK _ _ _ _ _ _ _ hs0 (hsame.mono subx) hk
  | cond c x y ihx ihy =>
    intro E hE exs out Q w0 S0 m0 σ0 w S m σ fr a K r hb hlp h hs hK
    have subx : ∀ d ∈ codeDst x [], d ∈ codeDst (.cond c x y) [] := fun d hd => by simp only [codeDst]; exact codeDst_mem.2 (.inl hd)
    have suby : ∀ d ∈ codeDst y [], d ∈ codeDst (.cond c x y) [] := fun d hd => by simp only [codeDst]; exact codeDst_mem.2 (.inr hd)
    simp only [ex, Option.bind_eq_some_iff] at h
    obtain ⟨v, h1, t, h2, h⟩ := h
    have hc := asB_sound h2 (ev_sound hs.sit h1)
    refine wp_cond_split hc ?_ ?_
    · rintro rfl
      refine ihx E hE exs out Q w0 S0 m0 σ0 w S m σ fr a K r hb (fun z hz => hlp z (by simp only [loopsOf]; exact List.mem_append_left _ hz)) h hs ?_
      intro e w' S' m' σ' fr' a' hs' hsame hk
      exact hK _ _ _ _ _ _ _ hs' (hsame.mono subx) hk
    · rintro rfl
      refine ihy E hE exs out Q w0 S0 m0 σ0 w S m σ fr a K r hb (fun z hz => hlp z (by simp only [loopsOf]; exact List.mem_append_right _ hz)) h hs ?_
      intro e w' S' m' σ' fr' a' hs' hsame hk
      exact hK _ _ _ _ _ _ _ hs' (hsame.mono suby) hk
  | block id x ih =>
    intro E hE exs out Q w0 S0 m0 σ0 w S m σ fr a K r hb hlp h hs hK
    simp only [ex] at h
    refine wp_block (ih E hE _ out _ w0 S0 m0 σ0 w S m σ fr a _ r hb (fun z hz => hlp z (by simpa only [loopsOf] using hz)) h hs ?_)
    intro e w' S' m' σ' fr' a' hs' hsame hk
    have hsame : Same (codeDst (.block id x) []) a a' := by simpa only [codeDst] using hsame
    cases e with
    | exit i =>
      simp only [Exit.inBlock]
      simp only at hk
      cases hi : Nat.beq i id with
      | true =>
        rw [hi] at hk
        rw [if_pos (Nat.eq_of_beq_eq_true hi)]
        exact hK _ _ _ _ _ _ _ hs' hsame hk
      | false =>
        rw [hi] at hk
        rw [if_neg (fun hq => by rw [hq] at hi; simp at hi)]
        exact hK _ _ _ _ _ _ _ hs' hsame hk
    | _ => exact hK _ _ _ _ _ _ _ hs' hsame hk
  | loop x ih =>
    intro E hE exs out Q w0 S0 m0 σ0 w S m σ fr a K r hb hlp h hs hK
    unfold ex at h
    split at h
    · rename_i L hL
      obtain ⟨p, h1, h2⟩ := T.k_some h
      obtain ⟨n0, hn⟩ := hlp (x, exs) (by simp only [loopsOf]; exact List.mem_cons_self) L hL _ _ p h1 K r h2
      have hn : loopN (loopStep (E.rebase σ.length) rt x exs) σ.length (codeLive rt x exs []) n0 (cleanF (codeLive rt x exs []) 0 fr) σ K = some r := hn
      refine wp_loop_ghost (fun n a' w' => ∃ S' m' σ' fr', Sit0 w S m σ w' S' m' σ' fr' a' ∧ Same (codeDst (.loop x) []) a a' ∧ loopN (loopStep (E.rebase σ.length) rt x exs) σ.length (codeLive rt x exs []) n fr' σ' K = some r) n0 ⟨S, m, σ, _, hs.start.clean, Same.refl _ _, hn⟩ ?_
      rintro n a' w' ⟨S', m', σ', fr', hs', hsame, hl⟩
      cases n with
      | zero => simp [loopN] at hl
      | succ n =>
        simp only [loopN] at hl
        obtain ⟨m2, hs2⟩ := hs'.clean (l := codeLive rt x exs []) |>.trim
        refine ih (E.rebase σ.length) (hE.rebase _) exs (codeLive rt x exs []) _ w S m σ w' S' m2 _ _ a' _ r rfl (fun z hz => hlp z (by simp only [loopsOf]; exact List.mem_cons_of_mem _ hz)) hl hs2 ?_
        intro e w'' S'' m'' σ'' fr'' a'' hs'' hsame' hk
        have hsame2 : Same (codeDst (.loop x) []) a a'' := hsame.trans (by simpa only [codeDst] using hsame')
        cases e with
        | normal => exact ⟨n, Nat.lt_succ_self n, S'', m'', σ'', fr'', hs'', hsame2, hk⟩
        | _ => exact hK _ _ _ _ _ _ _ ⟨hs''.sit, hs.st.trans hs''.st⟩ hsame2 hk
    · simp at h
  | scope x ih =>
    intro E hE exs out Q w0 S0 m0 σ0 w S m σ fr a K r hb hlp h hs hK
    simp only [ex] at h
    refine wp_scope_straight (ih E hE _ out _ w0 S0 m0 σ0 w S m σ fr a _ r hb (fun z hz => hlp z (by simpa only [loopsOf] using hz)) h hs ?_)
    intro e w' S' m' σ' fr' a' hs' hsame hk
    have hsame : Same (codeDst (.scope x) []) a a' := by simpa only [codeDst] using hsame
    cases e with
    | goto l => simp at hk
    | _ => exact hK _ _ _ _ _ _ _ hs' hsame hk
  | label l =>
    intro E hE exs out Q w0 S0 m0 σ0 w S m σ fr a K r hb hlp h hs hK
    exact wp_label (hK _ _ _ _ _ _ _ hs (Same.refl _ _) h)
  | exit id =>
    intro E hE exs out Q w0 S0 m0 σ0 w S m σ fr a K r hb hlp h hs hK
    exact wp_exit (hK _ _ _ _ _ _ _ hs.clean (Same.refl _ _) h)
  | ret =>
    intro E hE exs out Q w0 S0 m0 σ0 w S m σ fr a K r hb hlp h hs hK
    exact wp_ret (hK _ _ _ _ _ _ _ hs.clean (Same.refl _ _) h)
  | _ =>
    intro E hE exs out Q w0 S0 m0 σ0 w S m σ fr a K r hb hlp h hs hK
    simp [ex] at h

/-- One result, as the machine reads it. -/
def resOne (tmps : Array Value) : ResultVar → Sem Value
  | .tmp t => pure (tmps.getD t Go.undef)
  | .cell a t => do loadVar t (← asAddr (tmps.getD a Go.undef))

theorem oLoad_addr {w : World} {S : Nat → Prop} {m : List (Option Nat)} {σ : Store} {s : Sh} {x v : AV} {vx : Value} (h : oLoad s x σ = some v) (hx : Rs w S (tbl m σ) x vx) : ∃ ad, vx = .pointer (some ad) := by
  unfold oLoad at h
  split at h
  · obtain ⟨h1, h2⟩ := hx
    rw [cells_one h1, Rv] at h2
    obtain ⟨a, e, h3, _⟩ := h2
    simp only [List.cons.injEq, and_true] at h3
    exact ⟨a, h3⟩
  · obtain ⟨h1, h2⟩ := hx
    rw [cells_one h1, Rv, Rd] at h2
    obtain ⟨b, o, r, h3, _⟩ := h2
    simp only [List.cons.injEq, and_true] at h3
    exact ⟨_, h3⟩
  · simp at h

theorem resVals_run {tab : Tab} {w : World} {S : Nat → Prop} {m : List (Option Nat)} {σ : Store} {fr : Frame'} {a : Act} (hP : tabOk P tab 0 tab = true) (hs : Sit w S m σ fr a) :
    ∀ {l : List ResultVar} {vs : List AV}, resVals tab fr σ l = some vs → realL vs = true → ∃ us : List Value, (l.mapM (resOne a.tmps)).run P w = .ok us w ∧ RvVs w S (tbl m σ) vs us
  | [], vs, h, _ => by
    simp only [resVals, Option.some.injEq] at h
    subst h
    exact ⟨[], by simp, by simp [RvVs]⟩
  | .tmp t :: l, vs, h, hr => by
    simp only [resVals, Option.map_eq_some_iff] at h
    obtain ⟨vs', h1, rfl⟩ := h
    simp only [realL, List.all_cons, Bool.and_eq_true] at hr
    obtain ⟨us, g1, g2⟩ := resVals_run hP hs h1 (by simpa [realL] using hr.2)
    obtain ⟨k1, k2⟩ := (hs.slot t).real hr.1
    refine ⟨a.tmps.getD t Go.undef :: us, ?_, ?_⟩
    · rw [List.mapM_cons]
      simp only [Sem.run_bind, resOne, Sem.run_pure, Result.andThen, g1]
    · rw [RvVs]
      exact ⟨_, _, rfl, k1, k2, g2⟩
  | .cell ad t :: l, vs, h, hr => by
    simp only [resVals] at h
    obtain ⟨hk, h⟩ := cond_some h
    simp only [Option.bind_eq_some_iff, Option.map_eq_some_iff] at h
    obtain ⟨s, hsh, v, h1, vs', h2, rfl⟩ := h
    simp only [realL, List.all_cons, Bool.and_eq_true] at hr
    obtain ⟨us, g1, g2⟩ := resVals_run hP hs h2 (by simpa [realL] using hr.2)
    unfold Tab.sh at hsh
    simp only [Option.map_eq_some_iff] at hsh
    obtain ⟨I, hI, rfl⟩ := hsh
    obtain ⟨vz, q1, q2⟩ := oLoad_sound (tyOk hP hI hk) hs.inv h1 (hs.slot ad)
    obtain ⟨p, hp⟩ := oLoad_addr h1 (hs.slot ad)
    rw [hp] at q1
    unfold Instr.loadAt at q1
    simp only [Sem.run_bind, sureAddr_run, Result.andThen] at q1
    obtain ⟨k1, k2⟩ := q2.real hr.1
    refine ⟨vz :: us, ?_, ?_⟩
    · rw [List.mapM_cons]
      simp only [Sem.run_bind, resOne, hp, asAddr, Sem.run_pure, Result.andThen, q1, g1]
    · rw [RvVs]
      exact ⟨_, _, rfl, k1, k2, g2⟩

theorem results_run {fn : Func} {tmps : Array Value} {us : List Value} {w : World} (h : (fn.results.toList.mapM (resOne tmps)).run P w = .ok us w) :
    ∃ v, (results fn tmps).run P w = .ok v w ∧ (∀ x, us = [x] → v = x) ∧ ((∀ x, us ≠ [x]) → v = .tuple us.toArray) := by
  have hm : (fn.results.mapM (resOne tmps)).run P w = .ok us.toArray w := by
    rw [Array.mapM_eq_mapM_toList]
    simp only [Sem.run_map, h, Result.andThen]
  refine ⟨_, by unfold results; rw [Sem.run_bind]; exact (congrArg (fun r => Result.andThen r _) hm).trans rfl, ?_, ?_⟩
  · intro x hx
    subst hx
    rw [dif_pos (by simp)]
    rfl
  · intro hx
    rw [dif_neg]
    intro hs
    match us, hx, hs with
    | [], _, hs => simp at hs
    | [x], hx, _ => exact hx x rfl
    | x :: y :: l, _, hs => simp at hs

theorem res1_rs {w : World} {S : Nat → Prop} {T : Nat → Option Ent} {vs : List AV} {us : List Value} {v : Value} (h : RvVs w S T vs us) (h1 : ∀ x, us = [x] → v = x) (h2 : (∀ x, us ≠ [x]) → v = .tuple us.toArray) : Rs w S T (res1 vs) v := by
  cases vs with
  | nil =>
    rw [RvVs] at h
    subst h
    rw [h2 (by simp)]
    simp [res1, Rs, RvVs]
  | cons x l =>
    cases l with
    | nil =>
      rw [RvVs] at h
      obtain ⟨u, us', rfl, g0, g1, g2⟩ := h
      rw [RvVs] at g2
      subst g2
      rw [h1 u rfl]
      exact Rs.of g0 g1
    | cons y l =>
      have hh := h
      rw [RvVs] at h
      obtain ⟨u, us', rfl, g0, g1, g2⟩ := h
      rw [RvVs] at g2
      obtain ⟨u', us'', rfl, _⟩ := g2
      rw [h2 (by simp)]
      simpa [res1, Rs] using hh

theorem rvVs_slot {w : World} {S : Nat → Prop} {T : Nat → Option Ent} : ∀ {vs : List AV} {us : List Value}, RvVs w S T vs us → vs.length = us.length ∧ ∀ i : Nat, Rs w S T (vs.getD i .undef) (us.getD i Go.undef)
  | [], us, h => by
    rw [RvVs] at h; subst h
    exact ⟨rfl, fun i => by simp [Rs]⟩
  | v :: vs, us, h => by
    rw [RvVs] at h
    obtain ⟨u, us', rfl, g0, g1, g2⟩ := h
    obtain ⟨h1, h2⟩ := rvVs_slot g2
    refine ⟨by simp [h1], fun i => ?_⟩
    cases i with
    | zero => exact Rs.of g0 g1
    | succ i => simpa using h2 i

/-- A function's run is what the function does. -/
theorem runK_ok {E : Env} (hE : EnvOk P E) {fz : Bool} {g : FuncId} {fn : Func} (hf : P.funcs[g]? = some fn) (hn : (fn.name == "runtime.NumGoroutine") = false) (hlp : ∀ x ∈ fnLoops fn, LoopOk E x.1 x.2) : FunOkK P g (runK E fz fn) := by
  intro w S m σ args vals fin0 r0 hi hargs hrun
  unfold runK at hrun
  cases hb : fn.body with
  | none => rw [hb] at hrun; simp at hrun
  | some c =>
    cases hr : resSlots fn.results.toList with
    | _ =>
      clear hr
      obtain ⟨rs, hr⟩ : ∃ rs, resSlots fn.results.toList = rs := ⟨_, rfl⟩
      rw [hb, hr] at hrun
      simp only at hrun
      obtain ⟨hc, hrun⟩ := cond_some hrun
      simp only [Bool.and_eq_true, decide_eq_true_eq] at hc
      refine ⟨fun w' => ?_, ?_⟩
      · unfold callFunc
        simp only [Sem.run_bind, program, Sem.run, Result.andThen, hf, hn, hb]
        rfl
      · refine calls_of_wp hf hb ?_
        obtain ⟨hlen, hslots⟩ := rvVs_slot hargs
        have hs : Sit0 w S m σ w S m σ (args ++ List.replicate (fn.ntmps - args.length) .undef) { tmps := vals.toArray ++ Array.replicate (fn.ntmps - vals.toArray.size) Go.undef, defers := [] } := by
          refine ⟨⟨hi, by simp [hlen], fun i => ?_, rfl⟩, Stp.refl hi⟩
          have e1 : (vals.toArray ++ Array.replicate (fn.ntmps - vals.toArray.size) Go.undef).getD i Go.undef = vals.getD i Go.undef := by
            rw [Array.getD_eq_getD_getElem?, List.getD_eq_getElem?_getD, Array.getElem?_append]
            split
            · simp
            · rename_i hge
              simp only [List.size_toArray] at hge
              rw [List.getElem?_eq_none (by omega)]
              rw [Array.getElem?_replicate]
              split <;> rfl
          rcases Nat.lt_or_ge i args.length with hl | hl
          · rw [e1]
            have : (args ++ List.replicate (fn.ntmps - args.length) AV.undef).getD i .undef = args.getD i .undef := by
              rw [List.getD_eq_getElem?_getD, List.getD_eq_getElem?_getD, List.getElem?_append_left hl]
            rw [this]
            exact hslots i
          · have : (args ++ List.replicate (fn.ntmps - args.length) AV.undef).getD i .undef = .undef := by
              rw [List.getD_eq_getElem?_getD, List.getElem?_append_right hl, List.getElem?_replicate]
              split <;> rfl
            rw [this]
            trivial
        refine ex_sound c (E.rebase σ.length) (hE.rebase _) [] rs _ w S m σ w S m σ _ _ _ r0 rfl (fun z hz => hlp (rs, z) (by unfold fnLoops; rw [hb, hr]; exact List.mem_map_of_mem hz)) hrun hs ?_
        intro e w' S' m' σ'' fr' a' hs' hsame hk
        have fin : ((resVals E.tab fr' σ'' fn.results.toList).bind fun vs => bif realL vs then (bif fz then (freezeLT vs σ'').k fun p => fin0 p.1 p.2 else fin0 vs σ'') else none) = some r0 → a'.defers = [] ∧ ∃ v, (results fn a'.tmps).run P w' = .ok v w' ∧
            ∃ v' S' m' res σ', fin0 res σ' = some r0 ∧ Ending.returned v = .returned v' ∧ Stp w S m σ w' S' m' σ' ∧ Rs w' S' (tbl m' σ') (res1 res) v' := by
          intro hk
          simp only [Option.bind_eq_some_iff] at hk
          obtain ⟨vs, hvs0, hk⟩ := hk
          obtain ⟨hrl, hk⟩ := cond_some hk
          obtain ⟨us, hus, hrv⟩ := resVals_run hE.tab hs'.sit hvs0 hrl
          obtain ⟨v, g1, g2, g3⟩ := results_run (P := P) (tmps := a'.tmps) hus
          cases fz with
          | false =>
            simp only [cond_false] at hk
            exact ⟨hs'.sit.defers, v, g1, v, S', m', _, _, hk, rfl, hs'.st, res1_rs hrv g2 g3⟩
          | true =>
            simp only [cond_true] at hk
            obtain ⟨p, hp, hk⟩ := T.k_some hk
            obtain ⟨S'', hst, hvs⟩ := freezeL_vs hs'.sit.inv (freezeLT_run (r := (p.1, p.2)) hp) hrv
            exact ⟨hs'.sit.defers, v, g1, v, S'', m', _, _, hk, rfl, hs'.st.trans hst, res1_rs hvs g2 g3⟩
        cases e with
        | normal => exact fin hk
        | ret => exact fin hk
        | _ => simp at hk

end
end Go.AX
