import Derived.Test.YtniombjfbdojjaaDoorAx20
import Derived.Test.YtniombjfbdojjaaDoorAx7
import Derived.Scope
import Derived.Control
/- AX, part 25: code is sound; a function's run is sound. -/
namespace Go.AX
variable {bg : Bg}
section
variable {P : Program}
theorem foldr_dst {l : List Oper} {k : List Nat} {d : Nat} : d ∈ l.foldr (fun o l => match o.dst with | some d => ins d l | none => l) k ↔ d ∈ opsDst l ∨ d ∈ k := by
  induction l with
  | nil => simp [opsDst]
  | cons o l ih =>
    rw [opsDst_cons, List.foldr_cons]
    cases h : o.dst with
    | none => simp only [ih]; simp
    | some x =>
      simp only [ins_mem, ih, Option.some.injEq]
      constructor
      · rintro (rfl | h | h)
        · exact .inl (.inl rfl)
        · exact .inl (.inr h)
        · exact .inr h
      · rintro ((rfl | h) | h)
        · exact .inl rfl
        · exact .inr (.inl h)
        · exact .inr (.inr h)
theorem codeDst_mem : ∀ {c : Code} {l : List Nat} {d : Nat}, d ∈ codeDst c l ↔ d ∈ codeDst c [] ∨ d ∈ l := by
  intro c
  induction c with
  | region id ops dr =>
    intro l d
    unfold codeDst
    exact (foldr_dst (l := ops.toList) (k := l)).trans ((or_congr (Iff.trans (by simp) (foldr_dst (l := ops.toList) (k := [])).symm) Iff.rfl))
  | seq a b iha ihb =>
    intro l d
    simp only [codeDst]
    rw [iha (l := codeDst b l), iha (l := codeDst b []), ihb (l := l)]
    constructor
    · rintro (h | h | h)
      · exact .inl (.inl h)
      · exact .inl (.inr h)
      · exact .inr h
    · rintro ((h | h) | h)
      · exact .inl h
      · exact .inr (.inl h)
      · exact .inr (.inr h)
  | cond c a b iha ihb =>
    intro l d
    simp only [codeDst]
    rw [iha (l := codeDst b l), iha (l := codeDst b []), ihb (l := l)]
    constructor
    · rintro (h | h | h)
      · exact .inl (.inl h)
      · exact .inl (.inr h)
      · exact .inr h
    · rintro ((h | h) | h)
      · exact .inl h
      · exact .inr (.inl h)
      · exact .inr (.inr h)
  | block id b ih => intro l d; simpa only [codeDst] using ih
  | loop b ih => intro l d; simpa only [codeDst] using ih
  | scope b ih => intro l d; simpa only [codeDst] using ih
  | _ => intro l d; simp [codeDst]
theorem Sit0.trim {w0 w : World} {S0 S : Nat → Prop} {m0 m : List (Option Nat)} {σ0 σ : Store} {fr : Frame'} {a : Act} (h : Sit0 bg w0 S0 m0 σ0 w S m σ fr a) : ∃ m', Sit0 bg w0 S0 m0 σ0 w S m' (trim σ0.length fr σ) fr a := by
  unfold AX.trim
  simp only
  generalize trimN σ 4 (max σ0.length (maxIds fr)) = k
  cases hc : decide (σ0.length ≤ k) && idsBelow k fr && (σ.take k).all (fun B => idsBelow k [B.v]) with
  | false => exact ⟨m, h⟩
  | true =>
    simp only [Bool.and_eq_true, decide_eq_true_eq] at hc
    exact ⟨m.take k, h.cut hc.1.1 hc.1.2 hc.2⟩
theorem rvVs_slot {w : World} {S : Nat → Prop} {T : Nat → Option Ent} : ∀ {vs : List AV} {us : List Value}, RvVs w S T vs us → vs.length = us.length ∧ ∀ i : Nat, Rs w S T (vs.getD i .undef) (us.getD i Go.undef)
  | [], us, h => by
    rw [RvVs] at h; subst h
    exact ⟨rfl, fun i => by simp [Rs]⟩
  | v :: vs, us, h => by
    rw [RvVs] at h
    obtain ⟨u, us', rfl, g0, g1, g2⟩ := h
    obtain ⟨h1, h2⟩ := rvVs_slot g2
    refine ⟨by simp [h1], fun i => ?_⟩
    cases i with
    | zero => exact Rs.of g0 g1
    | succ i => simpa using h2 i
def resOne (tmps : Array Value) : ResultVar → Sem Value
  | .tmp t => pure (tmps.getD t Go.undef)
  | .cell a t => do loadVar t (← asAddr (tmps.getD a Go.undef))
theorem oLoad_addr {w : World} {S : Nat → Prop} {m : List (Option Nat)} {σ : Store} {s : Sh} {x v : AV} {vx : Value} (h : oLoad s x σ = some v) (hx : Rs w S (tbl m σ) x vx) : ∃ ad, vx = .pointer (some ad) := by
  unfold oLoad at h
  split at h
  · obtain ⟨h1, h2⟩ := hx
    rw [cells_one h1, Rv] at h2
    obtain ⟨a, e, h3, _⟩ := h2
    simp only [List.cons.injEq, and_true] at h3
    exact ⟨a, h3⟩
  · obtain ⟨h1, h2⟩ := hx
    rw [cells_one h1, Rv, Rd] at h2
    obtain ⟨b, o, r, h3, _⟩ := h2
    simp only [List.cons.injEq, and_true] at h3
    exact ⟨_, h3⟩
  · simp at h
theorem resVals_run {tab : Tab} {w : World} {S : Nat → Prop} {m : List (Option Nat)} {σ : Store} {fr : Frame'} {a : Act} (hP : tabOk P tab 0 tab = true) (hs : Sit bg w S m σ fr a) :
    ∀ {l : List ResultVar} {vs : List AV}, resVals tab fr σ l = some vs → realL vs = true → ∃ us : List Value, (l.mapM (resOne a.tmps)).run P w = .ok us w ∧ RvVs w S (tbl m σ) vs us
  | [], vs, h, _ => by
    simp only [resVals, Option.some.injEq] at h
    subst h
    exact ⟨[], by simp, by simp [RvVs]⟩
  | .tmp t :: l, vs, h, hr => by
    simp only [resVals, Option.map_eq_some_iff] at h
    obtain ⟨vs', h1, rfl⟩ := h
    simp only [realL, List.all_cons, Bool.and_eq_true] at hr
    obtain ⟨us, g1, g2⟩ := resVals_run hP hs h1 (by simpa [realL] using hr.2)
    obtain ⟨k1, k2⟩ := (hs.slot t).real hr.1
    refine ⟨a.tmps.getD t Go.undef :: us, ?_, ?_⟩
    · rw [List.mapM_cons]
      simp only [Sem.run_bind, resOne, Sem.run_pure, Result.andThen, g1]
    · rw [RvVs]
      exact ⟨_, _, rfl, k1, k2, g2⟩
  | .cell ad t :: l, vs, h, hr => by
    simp only [resVals] at h
    obtain ⟨hk, h⟩ := cond_some h
    simp only [Option.bind_eq_some_iff, Option.map_eq_some_iff] at h
    obtain ⟨s, hsh, v, h1, vs', h2, rfl⟩ := h
    simp only [realL, List.all_cons, Bool.and_eq_true] at hr
    obtain ⟨us, g1, g2⟩ := resVals_run hP hs h2 (by simpa [realL] using hr.2)
    unfold Tab.sh at hsh
    simp only [Option.map_eq_some_iff] at hsh
    obtain ⟨I, hI, rfl⟩ := hsh
    obtain ⟨vz, q1, q2⟩ := oLoad_sound (tyOk hP hI hk) hs.inv h1 (hs.slot ad)
    obtain ⟨p, hp⟩ := oLoad_addr h1 (hs.slot ad)
    rw [hp] at q1
    unfold Instr.loadAt at q1
    simp only [Sem.run_bind, sureAddr_run, Result.andThen] at q1
    obtain ⟨k1, k2⟩ := q2.real hr.1
    refine ⟨vz :: us, ?_, ?_⟩
    · rw [List.mapM_cons]
      simp only [Sem.run_bind, resOne, hp, asAddr, Sem.run_pure, Result.andThen, q1, g1]
    · rw [RvVs]
      exact ⟨_, _, rfl, k1, k2, g2⟩
theorem results_run {fn : Func} {tmps : Array Value} {us : List Value} {w : World} (h : (fn.results.toList.mapM (resOne tmps)).run P w = .ok us w) :
    ∃ v, (results fn tmps).run P w = .ok v w ∧ (∀ x, us = [x] → v = x) ∧ ((∀ x, us ≠ [x]) → v = .tuple us.toArray) := by
  have hm : (fn.results.mapM (resOne tmps)).run P w = .ok us.toArray w := by
    rw [Array.mapM_eq_mapM_toList]
    simp only [Sem.run_map, h, Result.andThen]
  refine ⟨_, by unfold results; rw [Sem.run_bind]; exact (congrArg (fun r => Result.andThen r _) hm).trans rfl, ?_, ?_⟩
  · intro x hx
    subst hx
    rw [dif_pos (by simp)]
    rfl
  · intro hx
    rw [dif_neg]
    intro hs
    match us, hx, hs with
    | [], _, hs => simp at hs
    | [x], hx, _ => exact hx x rfl
    | x :: y :: l, _, hs => simp at hs
theorem args_slot {w : World} {S : Nat → Prop} {T : Nat → Option Ent} {args : List AV} {vals : List Value} {n : Nat} (hlen : args.length = vals.length) (hslots : ∀ i : Nat, Rs w S T (args.getD i .undef) (vals.getD i Go.undef)) (i : Nat) :
    Rs w S T ((args ++ List.replicate (n - args.length) AV.undef).getD i AV.undef) ((vals.toArray ++ Array.replicate (n - vals.toArray.size) Go.undef).getD i Go.undef) := by
  have e1 : (vals.toArray ++ Array.replicate (n - vals.toArray.size) Go.undef).getD i Go.undef = vals.getD i Go.undef := by
    rw [Array.getD_eq_getD_getElem?, List.getD_eq_getElem?_getD, Array.getElem?_append]
    split
    · simp
    · rename_i hge
      simp only [List.size_toArray] at hge
      rw [List.getElem?_eq_none (by omega)]
      rw [Array.getElem?_replicate]
      split <;> rfl
  rcases Nat.lt_or_ge i args.length with hl | hl
  · rw [e1]
    have : (args ++ List.replicate (n - args.length) AV.undef).getD i .undef = args.getD i .undef := by
      rw [List.getD_eq_getElem?_getD, List.getD_eq_getElem?_getD, List.getElem?_append_left hl]
    rw [this]
    exact hslots i
  · have : (args ++ List.replicate (n - args.length) AV.undef).getD i .undef = .undef := by
      rw [List.getD_eq_getElem?_getD, List.getElem?_append_right hl, List.getElem?_replicate]
      split <;> rfl
    rw [this]
    trivial
def SndC (P : Program) (n : Nat) (c : Code) : Prop :=
  ∀ (rt : List Nat) (bg : Bg) (E : Env), EnvOk bg P E → ∀ (exs : List (Nat × List Nat)) (out : List Nat) (Q : Exit → Act → World → Prop) (w0 : World) (S0 : Nat → Prop) (m0 : List (Option Nat)) (σ0 : Store) (w : World) (S : Nat → Prop) (m : List (Option Nat)) (σ : Store) (fr : Frame') (a : Act) (K : Kt) (r : Res),
    E.base = σ0.length → (∀ x ∈ loopsOf rt c exs out, LoopOkN P n E x.1 x.2) → ex E rt c exs out fr σ K = some r → Sit0 bg w0 S0 m0 σ0 w S m σ fr a →
    (∀ e w' S' m' σ' fr' a', Sit0 bg w0 S0 m0 σ0 w' S' m' σ' fr' a' → Same (codeDst c []) a a' → K e fr' σ' = some r → Q e a' w') → c.wpIn (Fz bg.ro) 0 P Q a w
theorem fnOf_sound {w : World} {S : Nat → Prop} {T : Nat → Option Ent} {v : AV} {u : Value} {g : FuncId} {fi ca : List AV} (h : fnOf v = some (g, fi, ca)) (hv : Rs w S T v u) :
    ∃ fi' ca' : Array Value, u = .func (.func g) fi' ca' ∧ RvVs w S T fi fi'.toList ∧ RvVs w S T ca ca'.toList := by
  unfold fnOf at h
  split at h
  · simp only [Option.some.injEq, Prod.mk.injEq] at h
    obtain ⟨rfl, rfl, rfl⟩ := h
    obtain ⟨h1, h2⟩ := hv
    rw [cells_one h1, Rv, Rd] at h2
    obtain ⟨x, y, h3, h4, h5⟩ := h2
    simp only [List.cons.injEq, and_true] at h3
    exact ⟨x, y, h3, h4.toRv, h5.toRv⟩
  · simp only [Option.some.injEq, Prod.mk.injEq] at h
    obtain ⟨rfl, rfl, rfl⟩ := h
    obtain ⟨h1, h2⟩ := hv
    rw [cells_one h1, Rv] at h2
    obtain ⟨x, y, h3, h4, h5⟩ := h2
    simp only [List.cons.injEq, and_true] at h3
    exact ⟨x, y, h3, h4, h5⟩
  · simp at h
theorem jcode_zero {s : LoopState} {p : Option Code} (h : jcode s p = some 0) : s = .ready ∧ p = none := by
  unfold jcode at h
  split at h <;> simp_all
  omega
theorem jcode_one {s : LoopState} {p : Option Code} (h : jcode s p = some 1) : s = .done ∧ p = some .ret := by
  unfold jcode at h
  split at h <;> simp_all
  omega
theorem jcode_two {s : LoopState} {p : Option Code} {i : Nat} (h : jcode s p = some ((i + 2 : Nat) : Int)) : s = .done ∧ p = some (.exit i) := by
  unfold jcode at h
  split at h
  all_goals simp only [Option.some.injEq, reduceCtorEq] at h
  all_goals first
    | omega
    | (rename_i j; obtain rfl : j = i := by omega
       exact ⟨rfl, rfl⟩)
theorem ghost_at {lo : Nat → Option (Nat × Loop × Frame')} {w : World} {S : Nat → Prop} {m : List (Option Nat)} {σ : Store} (hi : Inv w S m σ) (hl : lprop lo w S (tbl m σ)) {j l : Nat} {R : Loop} {fr : Frame'} (hlo : lo j = some (l, R, fr)) {c : Int} (hg : gCode σ j = some c) :
    ∃ B r, σ[j]? = some B ∧ m[j]? = some (some l) ∧ w.heap[l]? = some (.loop r) ∧ loopFix r = loopFix R ∧ jcode r.state r.pending = some c ∧ B.frz = false := by
  obtain ⟨⟨e, e1, e2, e3, e4⟩, ⟨r, r1, r2⟩, _⟩ := hl j l R fr hlo
  obtain ⟨ob, B, g1, g2, rfl⟩ := tbl_inv e1
  have hn : B.n = 0 := by simp only at e3; rw [Blk.n, e3]; rfl
  have hob : ob = some l := e4 hn
  subst hob
  obtain ⟨_, _, _, c', q1, q2⟩ := hi.atLoop g2 g1 r1
  unfold gCode at hg
  rw [g2] at hg
  simp only at hg
  obtain ⟨hc, hg⟩ := cond_some hg
  simp only [Bool.and_eq_true, Bool.not_eq_true'] at hc
  rw [q2] at hg
  simp only [asI, Option.some.injEq] at hg
  subst hg
  exact ⟨B, r, g2, g1, r1, r2, q1, hc.2⟩
theorem setG_eq {σ : Store} {j : Nat} {B : Blk} {c : Int} (h : σ[j]? = some B) : setG σ j c = σ.set j { B with v := .dat (.int .i64 c) } := by
  unfold setG; rw [h]
theorem rngSet_ok {w : World} {S : Nat → Prop} {T : Nat → Option Ent} : ∀ (ps : List Nat) (row : List AV) (us : List Value) (fr : Frame') (t : Array Value), RvVs w S T row us → fr.length = t.size → (∀ k, Rs w S T (fr.getD k .undef) (t.getD k Go.undef)) →
    (rngSet fr ps row).length = ((ps.zip us).foldl (fun t (p : Nat × Value) => t.setIfInBounds p.1 p.2) t).size ∧ ∀ k, Rs w S T ((rngSet fr ps row).getD k .undef) (((ps.zip us).foldl (fun t (p : Nat × Value) => t.setIfInBounds p.1 p.2) t).getD k Go.undef)
  | [], row, us, fr, t, _, hl, hk => by
    cases row <;> simpa [rngSet] using ⟨hl, fun k => by simpa using hk k⟩
  | p :: ps, [], us, fr, t, h, hl, hk => by
    rw [RvVs] at h; subst h
    simpa [rngSet] using ⟨hl, fun k => by simpa using hk k⟩
  | p :: ps, v :: row, us, fr, t, h, hl, hk => by
    rw [RvVs] at h
    obtain ⟨u, us', rfl, h0, h1, h2⟩ := h
    simp only [rngSet, List.zip_cons_cons, List.foldl_cons]
    refine rngSet_ok ps row us' _ _ h2 (by simp [hl]) fun k => ?_
    have hi := hk k
    simp only [List.getD_eq_getElem?_getD, Array.getD_eq_getD_getElem?] at hi ⊢
    by_cases e : p = k
    · subst e
      rcases Nat.lt_or_ge p fr.length with hl' | hl'
      · rw [List.getElem?_set_self hl', Array.getElem?_setIfInBounds_self_of_lt (by omega)]
        exact Rs.of h0 h1
      · rw [List.getElem?_eq_none (by simpa using hl')]; trivial
    · rw [List.getElem?_set_ne e, Array.getElem?_setIfInBounds_ne e]
      exact hi
theorem Stp.trim {w w' : World} {S S' : Nat → Prop} {m m' : List (Option Nat)} {σ σ' : Store} (h : Stp w S m σ w' S' m' σ') : ∃ m'', Stp w S m σ w' S' m'' (AX.trim σ.length [] σ') := by
  have hs : Sit0 ⟨0, 0, none, fun _ => none⟩ w S m σ w' S' m' σ' [] { tmps := #[], defers := [] } :=
    ⟨⟨h.inv, rfl, fun i => trivial, fun d hd => by simp at hd, List.nodup_nil, ⟨fun l hl => by simp at hl, fun i l R fr hi => by simp at hi, fun i l R fr hi => by simp at hi⟩, Nat.zero_le _, Nat.zero_le _⟩, h, Nat.zero_le _⟩
  obtain ⟨m'', h'⟩ := hs.trim
  exact ⟨m'', h'.st⟩
theorem yield_ok {n : Nat} {ps : Array Nat} {ca cb : Code} (iha : SndC P n ca) (ihb : SndC P n cb) {bg : Bg} {E : Env} (hE : EnvOk bg P E)
    (hla : ∀ x ∈ loopsOf [] ca [] (codeLive [] cb [] []), LoopOkN P n E x.1 x.2) (hlb : ∀ x ∈ loopsOf [] cb [] [], LoopOkN P n E x.1 x.2)
    {lo : Nat → Option (Nat × Loop × Frame')} {j l : Nat} {R : Loop} {fr : Frame'} (hlo : lo j = some (l, R, fr)) (hR : R.params = ps ∧ R.assign = ca ∧ R.body = cb)
    (hsub : ∀ i x, bg.loops i = some x → lo i = some x) (hid : ∀ i l R fr, bg.loops i = some (l, R, fr) → i < bg.nl ∧ idsBelow bg.nl fr = true) (hnl : bg.nl ≤ j) {Y : FunT} (hY : ∀ row σ' q, (Y row σ').run = some q → rndRun E ps.toList ca cb j fr row σ' = some q) : YldOk lo P j Y := by
  intro row σ' res σ'' hrow
  refine ⟨l, R, fr, hlo, fun wv Sv mv vals hi hv hlp => ?_⟩
  have hq := hY _ _ _ hrow
  unfold rndRun at hq
  obtain ⟨hc, hq⟩ := cond_some hq
  simp only [Bool.and_eq_true, decide_eq_true_eq] at hc
  obtain ⟨⟨hreal, hlen⟩, hjl⟩ := hc
  have hlen := Nat.eq_of_beq_eq_true hlen
  split at hq
  · rename_i hg0
    obtain ⟨B, r, hB, hm, hr, hfix, hj0, hfz⟩ := ghost_at hi hlp hlo hg0
    obtain ⟨_, _, hfl, hsl⟩ := hlp j l R fr hlo
    have hfp : r.params = R.params := congrArg Loop.params (a₁ := loopFix r) (a₂ := loopFix R) hfix
    have hft : r.tmps = R.tmps := congrArg Loop.tmps (a₁ := loopFix r) (a₂ := loopFix R) hfix
    have hfa : r.assign = R.assign := congrArg Loop.assign (a₁ := loopFix r) (a₂ := loopFix R) hfix
    have hfb : r.body = R.body := congrArg Loop.body (a₁ := loopFix r) (a₂ := loopFix R) hfix
    have hvl := (rvVs_slot hv).1
    have hy := yield_run (P := P) (args := vals.toArray) hr (by rw [hfp, hR.1]; simp only [List.size_toArray]; rw [← hvl, hlen, Array.length_toList])
    refine ⟨_, _, _, _, hy, round_in ?_⟩
    rw [hfp, hft, hfa, hfb, hR.1, hR.2.1, hR.2.2]
    have hlpb : lprop bg.loops wv Sv (tbl mv σ') := fun i l' R' fr' h => hlp i l' R' fr' (hsub i _ h)
    have hzip : (ps.zip vals.toArray).foldl (fun tmps (x : Nat × Value) => match x with | (t, a) => tmps.setIfInBounds t a) R.tmps = (ps.toList.zip vals).foldl (fun t (p : Nat × Value) => t.setIfInBounds p.1 p.2) R.tmps := by
      rw [← Array.foldl_toList, Array.toList_zip]
    rw [hzip]
    obtain ⟨f1, f2⟩ := rngSet_ok ps.toList row vals fr R.tmps hv hfl hsl
    have hbgp : (⟨wv.heap.size, bg.nl, some l, bg.loops⟩ : Bg).prop wv Sv (tbl mv σ') := ⟨fun l' hl' => by simp only [Option.some.injEq] at hl'; subst hl'; exact ⟨r, hr⟩, hid, hlpb⟩
    have hs0 : Sit0 ⟨wv.heap.size, bg.nl, some l, bg.loops⟩ wv Sv mv σ' wv Sv mv σ' (rngSet fr ps.toList row) { tmps := (ps.toList.zip vals).foldl (fun t (p : Nat × Value) => t.setIfInBounds p.1 p.2) R.tmps, defers := [] } :=
      ⟨⟨hi, f1, f2, fun d hd => by simp at hd, List.nodup_nil, hbgp, Nat.le_refl _, by show bg.nl ≤ _; omega⟩, Stp.refl hi, by show bg.nl ≤ _; omega⟩
    have hE2 : EnvOk ⟨wv.heap.size, bg.nl, some l, bg.loops⟩ P (E.rebase σ'.length) := ⟨hE.tab, hE.callee, hE.disp, hE.mixed, hE.yld⟩
    refine iha [] _ (E.rebase σ'.length) hE2 [] _ _ wv Sv mv σ' wv Sv mv σ' _ _ _ (res, σ'') rfl (fun x hx => (hla x hx).rebase _) hq hs0 ?_
    intro e w1 S1 m1 σ1 fr1 a1 hs1 _ hk
    cases e with
    | normal =>
      simp only at hk
      split at hk
      · rename_i hg1
        have hlp1 : lprop lo w1 S1 (tbl m1 σ1) := hlp.mono hs1.st.ext.kp hs1.st.tx
        obtain ⟨B1, r1, hB1, hm1, hr1, hfix1, hj1, hfz1⟩ := ghost_at hs1.sit.inv hlp1 hlo hg1
        obtain ⟨hst1, hpe1⟩ := jcode_zero hj1
        have hob := hs1.sit.inv.obj (r' := { r1 with state := .busy }) (c' := -1) hB1 hm1 hr1 rfl (by rw [hpe1]; rfl) hfz1
        rw [← setG_eq hB1] at hob
        refine ⟨_, begin_run hr1 hst1, ?_⟩
        refine ihb [] _ (E.rebase σ'.length) hE2 [] _ _ wv Sv mv σ' _ S1 m1 _ _ _ _ (res, σ'') rfl (fun x hx => (hlb x hx).rebase _) hk (hs1.step hob) ?_
        intro e w2 S2 m2 σ2 fr2 a2 hs2 _ hk2
        have last : ∀ (jump : Option Code) (c : Int), jcode (if jump.isNone then .ready else .done) jump = some c → rndFin j σ'.length jump.isNone c σ2 = some (res, σ'') →
            ∃ v w', (Instr.endRound l jump).run P w2 = .ok v w' ∧ ∃ v' S' m', Ending.returned v = .returned v' ∧ Stp wv Sv mv σ' w' S' m' σ'' ∧ Rs w' S' (tbl m' σ'') (res1 res) v' := by
          intro jump c hjc hf
          unfold rndFin at hf
          obtain ⟨hsome, hf⟩ := cond_some hf
          obtain ⟨c2, hg2⟩ := Option.isSome_iff_exists.1 hsome
          simp only [Option.some.injEq, Prod.mk.injEq] at hf
          obtain ⟨rfl, rfl⟩ := hf
          have hlp2 : lprop lo w2 S2 (tbl m2 σ2) := hlp.mono hs2.st.ext.kp hs2.st.tx
          obtain ⟨B2, r2, hB2, hm2, hr2, hfix2, hj2, hfz2⟩ := ghost_at hs2.sit.inv hlp2 hlo hg2
          have hob2 := hs2.sit.inv.obj (r' := { r2 with state := if jump.isNone then .ready else .done, pending := jump }) (c' := c) hB2 hm2 hr2 rfl hjc hfz2
          rw [← setG_eq hB2] at hob2
          obtain ⟨m3, hst3⟩ := (hs2.st.trans hob2).trim
          exact ⟨_, _, end_run jump hr2, _, S2, m3, rfl, hst3, Rs.of_bool _⟩
        cases e with
        | normal =>
          obtain ⟨v, w', h1, h2⟩ := last none 0 rfl hk2
          exact ⟨none, v, w', rfl, h1, h2⟩
        | ret =>
          obtain ⟨v, w', h1, h2⟩ := last (some .ret) 1 rfl hk2
          exact ⟨_, v, w', rfl, h1, h2⟩
        | exit i =>
          obtain ⟨v, w', h1, h2⟩ := last (some (.exit i)) (2 + (i : Int)) rfl hk2
          exact ⟨_, v, w', rfl, h1, h2⟩
        | _ => simp at hk2
      · simp at hk
    | _ => simp at hk
  · simp at hq
theorem LoopOkN.step {P : Program} {n : Nat} {E : Env} {rt : List Nat} {g : Operand} {ps : Array Nat} {a b : Code} {exs : List (Nat × List Nat)} (h : LoopOkN P (n + 1) E rt (.rangeFunc g ps a b, exs)) :
    ∀ L, E.loop (loopKey b) = some L → ∀ fr σ p, (L fr σ).run = some p → ∀ (K : Kt) r, K p.1 p.2.1 p.2.2 = some r →
      ∃ v gf fi ca f Y lp hs, ev E.tab (cleanF (rngLive rt g a b exs) 0 fr) 0 g = some v ∧ fnOf v = some (gf, fi, ca) ∧ P.funcs[gf]? = some f ∧ (f.name == "runtime.NumGoroutine") = false ∧
        (∀ row σ' q, (Y row σ').run = some q → rndRun E ps.toList a b σ.length (cleanF (rngLive rt g a b exs) 0 fr) row σ' = some q) ∧
        (∀ x ∈ genLoops f, LoopOkN P n (E.gen σ.length Y lp hs) x.1 x.2) ∧
        genRun (E.gen σ.length Y lp hs) rt exs f fi ca (cleanF (rngLive rt g a b exs) 0 fr) σ K = some r := h
theorem genFin_cases {rt : List Nat} {exs : List (Nat × List Nat)} {j : Nat} {fr : Frame'} {σ : Store} {K : Kt} {r : Res} (h : genFin rt exs j fr σ K = some r) :
    (gCode σ j = some 0 ∧ K .normal fr (trim j fr (setG σ j (-2))) = some r) ∨ (gCode σ j = some 1 ∧ K .ret (cleanF rt 0 fr) (trim j (cleanF rt 0 fr) (setG σ j (-2))) = some r) ∨
      ∃ i : Nat, gCode σ j = some ((i + 2 : Nat) : Int) ∧ K (.exit i) (cleanF (findL exs i) 0 fr) (trim j (cleanF (findL exs i) 0 fr) (setG σ j (-2))) = some r := by
  unfold genFin at h
  split at h
  · rename_i h0; exact .inl ⟨h0, h⟩
  · rename_i h0; exact .inr (.inl ⟨h0, h⟩)
  · rename_i i h0; exact .inr (.inr ⟨i, h0, h⟩)
  · simp at h
theorem idsBelow_mono {k k' : Nat} {vs : List AV} (h : idsBelow k vs = true) (hk : k ≤ k') : idsBelow k' vs = true := by
  unfold idsBelow at h ⊢
  rw [List.all_eq_true] at h ⊢
  intro i hi
  have := h i hi
  simp only [decide_eq_true_eq] at this ⊢
  omega
theorem range_sound {n : Nat} (ihn : ∀ c, SndC P n c) {g : Operand} {ps : Array Nat} {ca cb : Code} (iha : SndC P (n + 1) ca) (ihb : SndC P (n + 1) cb) : SndC P (n + 1) (.rangeFunc g ps ca cb) := by
  intro rt bg E hE exs out Q w0 S0 m0 σ0 w S m σ fr act K r hb hlp h hs hK
  simp only [ex] at h
  split at h
  rotate_left
  · simp at h
  rename_i L hL
  obtain ⟨p, h1, h2⟩ := T.k_some h
  have hsc := hs.clean (l := codeLive rt (.rangeFunc g ps ca cb) exs out)
  have hlv : codeLive rt (.rangeFunc g ps ca cb) exs out = rngLive rt g ca cb ((1000000, out) :: exs) := rfl
  rw [hlv] at h1 hsc
  have hcc := clean_clean (rngLive rt g ca cb ((1000000, out) :: exs)) fr
  generalize hfrc : cleanF (rngLive rt g ca cb ((1000000, out) :: exs)) 0 fr = frc at h1 hsc hcc
  obtain ⟨v, gf, fi, cap, f, Y, lp, hh, hev, hfn, hf, hnm, hY, hgl, hrun⟩ := (hlp (rt, .rangeFunc g ps ca cb, (1000000, out) :: exs) (by simp only [loopsOf]; exact List.mem_cons_self)).step L hL _ _ p h1 K r h2
  rw [hcc] at hev hY hrun
  have hla : ∀ x ∈ loopsOf [] ca [] (codeLive [] cb [] []), LoopOkN P (n + 1) E x.1 x.2 := fun x hx => hlp x (by simp only [loopsOf]; exact List.mem_cons_of_mem _ (List.mem_append_left _ hx))
  have hlb : ∀ x ∈ loopsOf [] cb [] [], LoopOkN P (n + 1) E x.1 x.2 := fun x hx => hlp x (by simp only [loopsOf]; exact List.mem_cons_of_mem _ (List.mem_append_right _ hx))
  obtain ⟨fi', ca', hgv, hfi, hca⟩ := fnOf_sound hfn (ev_sound hsc.sit hev)
  unfold genRun at hrun
  cases hbd : f.body with
  | none => rw [hbd] at hrun; simp at hrun
  | some c =>
  rw [hbd] at hrun
  simp only at hrun
  obtain ⟨hc, hrun⟩ := cond_some hrun
  simp only [Bool.and_eq_true, decide_eq_true_eq] at hc
  obtain ⟨⟨⟨hres, hreal⟩, hlen⟩, hids⟩ := hc
  have hi := hsc.sit.inv
  have hcall : ∀ vs w', (callFunc gf vs).run P w' = .ok (.enter gf vs) w' := fun vs w' => by
    unfold callFunc
    simp only [Sem.run_bind, program, Sem.run, Result.andThen, hf, hnm, hbd]
    rfl
  have enter : ∀ fn : FuncId, ∃ (l : Nat) (mark : List Deferred) (w1 : World) (R : Loop), (Instr.enterLoop fn act.tmps ps ca cb bg.ro).run P w = .ok (l, mark) w1 ∧ Stp w S m σ w1 S (m ++ [some l]) (σ ++ [ghost 0]) ∧ w1.heap[l]? = some (.loop R) ∧
      (R.params = ps ∧ R.assign = ca ∧ R.body = cb) ∧ R.tmps = act.tmps ∧ (∀ d ∈ mark, MarkOk bg.nb w1 d) ∧ (mark ++ act.defers).Nodup := by
    intro fn
    cases hro : bg.ro with
    | none =>
      have s1 := hi.push (.deferred (some []))
      have s2 := s1.inv.newLoop (r := { state := .ready, pending := none, fn := fn, tmps := act.tmps, params := ps, assign := ca, body := cb, defers := w.heap.size }) rfl rfl
      have hsz : ({ w with heap := w.heap.push (.deferred (some [])) } : World).heap.size = w.heap.size + 1 := by simp
      refine ⟨w.heap.size + 1, [{ target := .collected w.heap.size, args := #[] }], _, { state := .ready, pending := none, fn := fn, tmps := act.tmps, params := ps, assign := ca, body := cb, defers := w.heap.size }, ?_, by rw [hsz] at s2; exact s1.trans s2, ?_, ⟨rfl, rfl, rfl⟩, rfl, ?_, ?_⟩
      · unfold Instr.enterLoop
        simp only [Sem.run_bind, run_newObj, Result.andThen, Sem.run_pure, hsz]
      · show (Array.push _ _)[w.heap.size + 1]? = _
        rw [Array.getElem?_push, if_pos (by simp)]
      · intro d hd
        simp only [List.mem_singleton] at hd
        subst hd
        refine ⟨w.heap.size, rfl, hs.sit.nbl, ?_⟩
        show (Array.push (Array.push _ _) _)[w.heap.size]? = _
        rw [push_old (w := { w with heap := w.heap.push (.deferred (some [])) }) (by simp)]
        simp
      · refine List.nodup_cons.2 ⟨fun hm => ?_, hs.sit.dnd⟩
        obtain ⟨D, hD, _, hD2⟩ := hs.sit.defers _ hm
        simp only [Deferred.mk.injEq, Target.collected.injEq, and_true] at hD
        rw [← hD] at hD2
        exact absurd (Array.getElem?_eq_some_iff.1 hD2).1 (Nat.lt_irrefl _)
    | some l0 =>
      obtain ⟨r0, hr0⟩ := hs.sit.bgp.1 l0 hro
      have s2 := hi.newLoop (r := { state := .ready, pending := none, fn := fn, tmps := act.tmps, params := ps, assign := ca, body := cb, defers := r0.defers }) rfl rfl
      refine ⟨w.heap.size, [], _, { state := .ready, pending := none, fn := fn, tmps := act.tmps, params := ps, assign := ca, body := cb, defers := r0.defers }, ?_, s2, ?_, ⟨rfl, rfl, rfl⟩, rfl, by simp, hs.sit.dnd⟩
      · unfold Instr.enterLoop
        simp only [Sem.run_bind, run_getLoop hr0, run_newObj, Result.andThen, Sem.run_pure]
      · show (Array.push _ _)[w.heap.size]? = _
        rw [Array.getElem?_push, if_pos rfl]
  refine range_in hgv hcall fun fn => ?_
  obtain ⟨l, mark, w1, R, henter, st1, hR, hRp, hRt, hmk, hmnd⟩ := enter fn
  refine ⟨l, mark, w1, henter, ?_⟩
  have hml : m.length = σ.length := hi.len
  have hlo0 : ∀ i x, bg.loops i = some x → i < σ.length := fun i x hx => by
    obtain ⟨l', R', fr'⟩ := x
    have := (hs.sit.bgp.2.1 i l' R' fr' hx).1
    have := hs.sit.nll
    omega
  obtain ⟨lo, hlo⟩ : ∃ lo : Nat → Option (Nat × Loop × Frame'), lo = fun i => if i = σ.length then some (l, R, frc) else bg.loops i := ⟨_, rfl⟩
  have hloj : lo σ.length = some (l, R, frc) := by rw [hlo]; simp
  have hsub : ∀ i x, bg.loops i = some x → lo i = some x := fun i x hx => by
    have := hlo0 i x hx
    rw [hlo]; simp only; rw [if_neg (by omega)]; exact hx
  have hinv : ∀ i x, lo i = some x → (i = σ.length ∧ x = (l, R, frc)) ∨ bg.loops i = some x := fun i x hx => by
    rw [hlo] at hx
    simp only at hx
    split at hx
    · rename_i e; simp only [Option.some.injEq] at hx; exact .inl ⟨e, hx.symm⟩
    · exact .inr hx
  have htb : tbl (m ++ [some l]) (σ ++ [ghost 0]) σ.length = some ⟨some l, loopSh, false, 0⟩ := by
    refine tbl_some (B := ghost 0) ?_ ?_
    · rw [← hml, List.getElem?_append_right (Nat.le_refl _)]; simp
    · rw [List.getElem?_append_right (Nat.le_refl _)]; simp
  have hlp1 : lprop lo w1 S (tbl (m ++ [some l]) (σ ++ [ghost 0])) := by
    intro i l' R' fr' hx
    rcases hinv i _ hx with ⟨rfl, he⟩ | hx
    · simp only [Prod.mk.injEq] at he
      obtain ⟨rfl, rfl, rfl⟩ := he
      exact ⟨⟨_, htb, rfl, rfl, fun _ => rfl⟩, ⟨R', hR, rfl⟩, by rw [hRt]; exact hsc.sit.len, fun k => by rw [hRt]; exact (hsc.sit.slot k).mono st1.ext.kp st1.tx⟩
    · exact (hs.sit.bgp.2.2.mono st1.ext.kp st1.tx) i l' R' fr' hx
  have hnll := hs.sit.nll
  have hE1 : EnvOk ⟨w1.heap.size, σ.length + 1, none, lo⟩ P (E.gen σ.length Y lp hh) := by
    refine ⟨hE.tab, hE.callee, hE.disp, hE.mixed, fun i => ?_⟩
    show YldOk lo P i (bif Nat.beq i σ.length then Y else E.yld i)
    cases hij : Nat.beq i σ.length with
    | true =>
      have := Nat.eq_of_beq_eq_true hij
      subst this
      exact yield_ok iha ihb hE hla hlb hloj hRp hsub hs.sit.bgp.2.1 hnll hY
    | false =>
      intro row σ' res σ'' hrow
      obtain ⟨l', R', fr', g1, g2⟩ := hE.yld i row σ' res σ'' hrow
      exact ⟨l', R', fr', hsub _ _ g1, fun wv Sv mv vals hi' hv hl => g2 wv Sv mv vals hi' hv (fun i x R fr hx => hl i x R fr (hsub _ _ hx))⟩
  have hargs : RvVs w1 S (tbl (m ++ [some l]) (σ ++ [ghost 0])) (fi ++ [AV.hnd loopSh σ.length] ++ cap) (fi'.toList ++ [.func (.yield l) #[] #[]] ++ ca'.toList) := by
    refine RvVs.append (RvVs.append (hfi.mono st1.ext.kp st1.tx) ?_) (hca.mono st1.ext.kp st1.tx)
    rw [RvVs]
    refine ⟨_, [], rfl, rfl, ?_, by rw [RvVs]⟩
    show Rv _ _ _ _ [_]
    rw [Rv]
    exact ⟨l, _, rfl, htb, fun _ => ⟨rfl, rfl⟩⟩
  have hlist : (fi' ++ #[Value.func (.yield l) #[] #[]] ++ ca' : Array Value) = (fi'.toList ++ [Value.func (.yield l) #[] #[]] ++ ca'.toList).toArray := by rw [← Array.toList_inj]; simp
  rw [hlist]
  generalize hvs : fi'.toList ++ [Value.func (.yield l) #[] #[]] ++ ca'.toList = vs at hargs
  generalize has : fi ++ [AV.hnd loopSh σ.length] ++ cap = args at hargs hrun hlen
  obtain ⟨hlen2, hslots⟩ := rvVs_slot hargs
  have hs1 : Sit0 ⟨w1.heap.size, σ.length + 1, none, lo⟩ w1 S (m ++ [some l]) (σ ++ [ghost 0]) w1 S (m ++ [some l]) (σ ++ [ghost 0]) (args ++ List.replicate (f.ntmps - args.length) .undef) { tmps := vs.toArray ++ Array.replicate (f.ntmps - vs.toArray.size) Go.undef, defers := [] } := by
    refine ⟨⟨st1.inv, by simp [hlen2], fun i => ?_, fun d hd => by simp at hd, List.nodup_nil, ⟨fun l' hl' => by simp at hl', fun i l' R' fr' hx => ?_, hlp1⟩, Nat.le_refl _, by simp⟩, Stp.refl st1.inv, by simp⟩
    · exact args_slot hlen2 hslots i
    · rcases hinv i _ hx with ⟨rfl, he⟩ | hx
      · simp only [Prod.mk.injEq] at he
        obtain ⟨rfl, rfl, rfl⟩ := he
        exact ⟨Nat.lt_succ_self _, idsBelow_mono hids (Nat.le_succ _)⟩
      · obtain ⟨q1, q2⟩ := hs.sit.bgp.2.1 i l' R' fr' hx
        exact ⟨by show i < σ.length + 1; omega, idsBelow_mono q2 (by show bg.nl ≤ σ.length + 1; omega)⟩
  refine calls_of hf hbd ?_
  refine ihn c [] ⟨w1.heap.size, σ.length + 1, none, lo⟩ ((E.gen σ.length Y lp hh).rebase (σ.length + 1)) (hE1.rebase _) [] [] _ w1 S _ (σ ++ [ghost 0]) w1 S _ (σ ++ [ghost 0]) _ _ _ r (by simp [Env.rebase])
    (fun x hx => (hgl x (by unfold genLoops; rw [hbd]; exact hx)).rebase _) hrun hs1 ?_
  intro e w2 S2 m2 σ2 fr2 a2 hs2 _ hk
  have hgf : (e = .normal ∨ e = .ret) ∧ genFin rt ((1000000, out) :: exs) σ.length frc σ2 K = some r := by
    cases e with
    | normal => exact ⟨.inl rfl, hk⟩
    | ret => exact ⟨.inr rfl, hk⟩
    | _ => simp at hk
  refine ⟨hgf.1, ?_⟩
  obtain ⟨w3, htook, st3, kp3⟩ := took_all hs2.st hs2.sit.dnd hs2.sit.defers (Nat.le_refl _)
  have hrs : (f.results.toList.mapM (resOne a2.tmps)).run P w3 = .ok [] w3 := by
    have : f.results.toList = [] := by simpa using hres
    rw [this]; simp
  obtain ⟨vr, hvr, _, _⟩ := results_run (P := P) (fn := f) (tmps := a2.tmps) hrs
  refine ⟨w3, vr, htook, hvr, vr, ?_⟩
  have hlp3 : lprop lo w3 S2 (tbl m2 σ2) := hs2.sit.bgp.2.2.mono kp3 (TExt.refl _)
  have goOn : ∀ (c0 : Int) (jump : Option Code), gCode σ2 σ.length = some c0 → (∀ s q, jcode s q = some c0 → s ≠ .busy ∧ q = jump) →
      ∃ w4, (Instr.endLoop l).run P w3 = .ok jump w4 ∧ Sit0 bg w S m σ w4 S2 m2 (setG σ2 σ.length (-2)) frc { act with defers := mark ++ act.defers } := by
    intro c0 jump hg hj
    obtain ⟨B, r', hB, hm2, hr', _, hjc, hfz⟩ := ghost_at st3.inv hlp3 hloj hg
    obtain ⟨hnb, hpj⟩ := hj _ _ hjc
    have hob := st3.inv.obj (r' := { r' with state := .exhausted }) (c' := -2) hB hm2 hr' rfl rfl hfz
    rw [← setG_eq hB] at hob
    have hover := over_run (P := P) hr' hnb
    have hover : (Instr.endLoop l).run P w3 = .ok jump (putHeap w3 l (.loop { r' with state := .exhausted })) := by rw [hover, hpj]
    have st14 := st3.trans hob
    have st := st1.trans st14
    refine ⟨_, hover, ⟨⟨st.inv, hsc.sit.len, fun i => st.rs (hsc.sit.slot i), fun d hd => ?_, hmnd, hs.sit.bgp.mono st.ext.kp st.tx, Nat.le_trans hs.sit.nbl st.ext.size, Nat.le_trans hs.sit.nll (st.len hi)⟩, st, hs.sit.nll⟩⟩
    rcases List.mem_append.1 hd with hd | hd
    · exact (hmk d hd).step st1.inv st14
    · exact (hs.sit.defers d hd).step hi st
  have fin : ∀ (e' : Exit) (frq : Frame') (w4 : World), Sit0 bg w S m σ w4 S2 m2 (setG σ2 σ.length (-2)) frq { act with defers := mark ++ act.defers } → K e' frq (trim σ.length frq (setG σ2 σ.length (-2))) = some r →
      Q e' { act with defers := mark ++ act.defers } w4 := by
    intro e' frq w4 hs4 hk4
    obtain ⟨m4, hs5⟩ := hs4.trim
    exact hK e' w4 S2 m4 _ frq _ ⟨hs5.sit, hs.st.trans hs5.st, hs.low⟩ ⟨rfl, fun _ _ => rfl⟩ hk4
  rcases genFin_cases hgf.2 with ⟨hg, hk4⟩ | ⟨hg, hk4⟩ | ⟨i, hg, hk4⟩
  · obtain ⟨w4, ho, hs4⟩ := goOn 0 none hg (fun s q hq => by obtain ⟨rfl, rfl⟩ := jcode_zero hq; exact ⟨by simp, rfl⟩)
    exact ⟨none, w4, rfl, ho, fin .normal _ w4 hs4 hk4⟩
  · obtain ⟨w4, ho, hs4⟩ := goOn 1 (some .ret) hg (fun s q hq => by obtain ⟨rfl, rfl⟩ := jcode_one hq; exact ⟨by simp, rfl⟩)
    exact ⟨some .ret, w4, rfl, ho, wpIn_ret (fin .ret _ w4 hs4.clean hk4)⟩
  · obtain ⟨w4, ho, hs4⟩ := goOn _ (some (.exit i)) hg (fun s q hq => by obtain ⟨rfl, rfl⟩ := jcode_two hq; exact ⟨by simp, rfl⟩)
    exact ⟨some (.exit i), w4, rfl, ho, wpIn_exit (fin (.exit i) _ w4 hs4.clean hk4)⟩
theorem snd_step {n : Nat} (ihn : ∀ k, n = k + 1 → ∀ c, SndC P k c) : ∀ c : Code, SndC P n c := by
  intro c
  induction c with
  | skip =>
    intro rt bg E hE exs out Q w0 S0 m0 σ0 w S m σ fr a K r hb hlp h hs hK
    exact wpIn_skip (hK _ _ _ _ _ _ _ hs (Same.refl _ _) h)
  | region id ops dr =>
    intro rt bg E hE exs out Q w0 S0 m0 σ0 w S m σ fr a K r hb hlp h hs hK
    cases dr with
    | false =>
      refine region_sound hE hb h hs ?_
      intro w' S' m' σ' fr' a' h1 h2 h3
      exact hK _ _ _ _ _ _ _ h1 h2 h3
    | true =>
      simp only [ex] at h
      obtain ⟨h1, h2⟩ := cond_some h
      refine drawn_sound hE hE.mixed h1 h2 hs ?_
      intro w' S' m' σ' fr' a' h1 h2 h3
      exact hK _ _ _ _ _ _ _ h1 h2 h3
  | seq x y ihx ihy =>
    intro rt bg E hE exs out Q w0 S0 m0 σ0 w S m σ fr a K r hb hlp h hs hK
    have subx : ∀ d ∈ codeDst x [], d ∈ codeDst (.seq x y) [] := fun d hd => by simp only [codeDst]; exact codeDst_mem.2 (.inl hd)
    have suby : ∀ d ∈ codeDst y [], d ∈ codeDst (.seq x y) [] := fun d hd => by simp only [codeDst]; exact codeDst_mem.2 (.inr hd)
    unfold ex at h
    simp only at h
    refine wpIn_seq ?_
    cases hst : Code.straight x with
    | true =>
      rw [hst] at h
      refine ihx rt bg E hE exs _ _ w0 S0 m0 σ0 w S m σ fr a _ r hb (fun z hz => hlp z (by simp only [loopsOf]; exact List.mem_append_left _ hz)) h hs ?_
      intro e w' S' m' σ' fr' a' hs' hsame hk
      cases e with
      | normal =>
        refine ihy rt bg E hE exs out Q w0 S0 m0 σ0 w' S' m' σ' fr' a' K r hb (fun z hz => hlp z (by simp only [loopsOf]; exact List.mem_append_right _ hz)) hk hs' ?_
        intro e w'' S'' m'' σ'' fr'' a'' hs'' hsame' hk'
        exact hK _ _ _ _ _ _ _ hs'' ((hsame.mono subx).trans (hsame'.mono suby)) hk'
      | _ => exact hK _ _ _ _ _ _ _ hs' (hsame.mono subx) hk
    | false =>
      rw [hst] at h
      simp only [cond_false, joinK] at h
      refine ihx rt bg (E.rebase σ.length) (hE.rebase _) exs _ _ w S m σ w S m σ fr a _ r rfl (fun z hz => (hlp z (by simp only [loopsOf]; exact List.mem_append_left _ hz)).rebase _) h hs.start ?_
      intro e w' S' m' σ' fr' a' hs' hsame hk
      have hs0 : Sit0 bg w0 S0 m0 σ0 w' S' m' σ' fr' a' := ⟨hs'.sit, hs.st.trans hs'.st, hs.low⟩
      cases e with
      | normal =>
        simp only at hk
        refine ihy rt bg E hE exs out Q w0 S0 m0 σ0 w' S' m' σ' _ a' K r hb (fun z hz => hlp z (by simp only [loopsOf]; exact List.mem_append_right _ hz)) hk (hs.merge hs0 (fun v u hv => hs'.st.rs hv) hsame) ?_
        intro e w'' S'' m'' σ'' fr'' a'' hs'' hsame' hk'
        exact hK _ _ _ _ _ _ _ hs'' ((hsame.mono subx).trans (hsame'.mono suby)) hk'
      | _ => exact hK _ _ _ _ _ _ _ hs0 (hsame.mono subx) hk
  | cond c x y ihx ihy =>
    intro rt bg E hE exs out Q w0 S0 m0 σ0 w S m σ fr a K r hb hlp h hs hK
    have subx : ∀ d ∈ codeDst x [], d ∈ codeDst (.cond c x y) [] := fun d hd => by simp only [codeDst]; exact codeDst_mem.2 (.inl hd)
    have suby : ∀ d ∈ codeDst y [], d ∈ codeDst (.cond c x y) [] := fun d hd => by simp only [codeDst]; exact codeDst_mem.2 (.inr hd)
    simp only [ex, Option.bind_eq_some_iff] at h
    obtain ⟨v, h1, t, h2, h⟩ := h
    have hc := asB_sound h2 (ev_sound hs.sit h1)
    refine wpIn_cond_split hc ?_ ?_
    · rintro rfl
      refine ihx rt bg E hE exs out Q w0 S0 m0 σ0 w S m σ fr a K r hb (fun z hz => hlp z (by simp only [loopsOf]; exact List.mem_append_left _ hz)) h hs ?_
      intro e w' S' m' σ' fr' a' hs' hsame hk
      exact hK _ _ _ _ _ _ _ hs' (hsame.mono subx) hk
    · rintro rfl
      refine ihy rt bg E hE exs out Q w0 S0 m0 σ0 w S m σ fr a K r hb (fun z hz => hlp z (by simp only [loopsOf]; exact List.mem_append_right _ hz)) h hs ?_
      intro e w' S' m' σ' fr' a' hs' hsame hk
      exact hK _ _ _ _ _ _ _ hs' (hsame.mono suby) hk
  | block id x ih =>
    intro rt bg E hE exs out Q w0 S0 m0 σ0 w S m σ fr a K r hb hlp h hs hK
    simp only [ex] at h
    refine wpIn_block (ih rt bg E hE _ out _ w0 S0 m0 σ0 w S m σ fr a _ r hb (fun z hz => hlp z (by simpa only [loopsOf] using hz)) h hs ?_)
    intro e w' S' m' σ' fr' a' hs' hsame hk
    have hsame : Same (codeDst (.block id x) []) a a' := by simpa only [codeDst] using hsame
    cases e with
    | exit i =>
      simp only [Exit.inBlock]
      simp only at hk
      cases hi : Nat.beq i id with
      | true =>
        rw [hi] at hk
        rw [if_pos (Nat.eq_of_beq_eq_true hi)]
        exact hK _ _ _ _ _ _ _ hs' hsame hk
      | false =>
        rw [hi] at hk
        rw [if_neg (fun hq => by rw [hq] at hi; simp at hi)]
        exact hK _ _ _ _ _ _ _ hs' hsame hk
    | _ => exact hK _ _ _ _ _ _ _ hs' hsame hk
  | loop x ih =>
    intro rt bg E hE exs out Q w0 S0 m0 σ0 w S m σ fr a K r hb hlp h hs hK
    unfold ex at h
    cases hnr : Code.isRange x with
    | true => rw [hnr] at h; simp at h
    | false =>
    rw [hnr, cond_false] at h
    have hloop : ∃ n0, loopN (loopStep (E.rebase σ.length) rt x exs) σ.length (codeLive rt x exs []) n0 (cleanF (codeLive rt x exs []) 0 fr) σ K = some r := by
      split at h
      · rename_i L hL
        obtain ⟨p, h1, h2⟩ := T.k_some h
        have hlp0 := hlp (rt, x, exs) (by simp only [loopsOf]; exact List.mem_cons_self)
        rw [LoopOkN.plain hnr] at hlp0
        exact hlp0 L hL _ _ p h1 K r h2
      · split at h
        · rename_i n0 _
          exact ⟨n0, h⟩
        · simp at h
    obtain ⟨n0, hn⟩ := hloop
    refine loop_in (fun n a' w' => ∃ S' m' σ' fr', Sit0 bg w S m σ w' S' m' σ' fr' a' ∧ Same (codeDst (.loop x) []) a a' ∧ loopN (loopStep (E.rebase σ.length) rt x exs) σ.length (codeLive rt x exs []) n fr' σ' K = some r) n0 ⟨S, m, σ, _, hs.start.clean, Same.refl _ _, hn⟩ ?_
    rintro n a' w' ⟨S', m', σ', fr', hs', hsame, hl⟩
    cases n with
    | zero => simp [loopN] at hl
    | succ n =>
      simp only [loopN] at hl
      obtain ⟨m2, hs2⟩ := hs'.clean (l := codeLive rt x exs []) |>.trim
      refine ih rt bg (E.rebase σ.length) (hE.rebase _) exs (codeLive rt x exs []) _ w S m σ w' S' m2 _ _ a' _ r rfl (fun z hz => (hlp z (by simp only [loopsOf]; exact List.mem_cons_of_mem _ hz)).rebase _) hl hs2 ?_
      intro e w'' S'' m'' σ'' fr'' a'' hs'' hsame' hk
      have hsame2 : Same (codeDst (.loop x) []) a a'' := hsame.trans (by simpa only [codeDst] using hsame')
      cases e with
      | normal => exact ⟨n, Nat.lt_succ_self n, S'', m'', σ'', fr'', hs'', hsame2, hk⟩
      | _ => exact hK _ _ _ _ _ _ _ ⟨hs''.sit, hs.st.trans hs''.st, hs.low⟩ hsame2 hk
  | scope x ih =>
    intro rt bg E hE exs out Q w0 S0 m0 σ0 w S m σ fr a K r hb hlp h hs hK
    simp only [ex] at h
    refine scope_in (ih rt bg E hE _ out _ w0 S0 m0 σ0 w S m σ fr a _ r hb (fun z hz => hlp z (by simpa only [loopsOf] using hz)) h hs ?_)
    intro e w' S' m' σ' fr' a' hs' hsame hk
    have hsame : Same (codeDst (.scope x) []) a a' := by simpa only [codeDst] using hsame
    cases e with
    | goto l => simp at hk
    | _ => exact hK _ _ _ _ _ _ _ hs' hsame hk
  | label l =>
    intro rt bg E hE exs out Q w0 S0 m0 σ0 w S m σ fr a K r hb hlp h hs hK
    exact wpIn_label (hK _ _ _ _ _ _ _ hs (Same.refl _ _) h)
  | exit id =>
    intro rt bg E hE exs out Q w0 S0 m0 σ0 w S m σ fr a K r hb hlp h hs hK
    exact wpIn_exit (hK _ _ _ _ _ _ _ hs.clean (Same.refl _ _) h)
  | ret =>
    intro rt bg E hE exs out Q w0 S0 m0 σ0 w S m σ fr a K r hb hlp h hs hK
    exact wpIn_ret (hK _ _ _ _ _ _ _ hs.clean (Same.refl _ _) h)
  | rangeFunc g ps x y ihx ihy =>
    cases n with
    | zero =>
      intro rt bg E hE exs out Q w0 S0 m0 σ0 w S m σ fr a K r hb hlp h hs hK
      exact (hlp (rt, .rangeFunc g ps x y, (1000000, out) :: exs) (by simp only [loopsOf]; exact List.mem_cons_self)).elim
    | succ n => exact range_sound (ihn n rfl) ihx ihy
  | _ =>
    intro rt bg E hE exs out Q w0 S0 m0 σ0 w S m σ fr a K r hb hlp h hs hK
    simp [ex] at h
theorem ex_sound : ∀ (n : Nat) (c : Code), SndC P n c
  | 0 => snd_step (fun k hk => by omega)
  | n + 1 => snd_step (fun k hk c => by obtain rfl : k = n := by omega
                                        exact ex_sound k c)
theorem res1_rs {w : World} {S : Nat → Prop} {T : Nat → Option Ent} {vs : List AV} {us : List Value} {v : Value} (h : RvVs w S T vs us) (h1 : ∀ x, us = [x] → v = x) (h2 : (∀ x, us ≠ [x]) → v = .tuple us.toArray) : Rs w S T (res1 vs) v := by
  cases vs with
  | nil =>
    rw [RvVs] at h
    subst h
    rw [h2 (by simp)]
    simp [res1, Rs, RvVs]
  | cons x l =>
    cases l with
    | nil =>
      rw [RvVs] at h
      obtain ⟨u, us', rfl, g0, g1, g2⟩ := h
      rw [RvVs] at g2
      subst g2
      rw [h1 u rfl]
      exact Rs.of g0 g1
    | cons y l =>
      have hh := h
      rw [RvVs] at h
      obtain ⟨u, us', rfl, g0, g1, g2⟩ := h
      rw [RvVs] at g2
      obtain ⟨u', us'', rfl, _⟩ := g2
      rw [h2 (by simp)]
      simpa [res1, Rs] using hh
theorem runK_ok {E : Env} (hE : ∀ bg, EnvOk bg P E) {fz : Bool} {g : FuncId} {fn : Func} (hf : P.funcs[g]? = some fn) (hn : (fn.name == "runtime.NumGoroutine") = false) (hlp : ∀ x ∈ fnLoops fn, LoopOk P E x.1 x.2) : FunOkK P g (runK E fz fn) := by
  intro w S m σ args vals fin0 r0 hi hargs hrun
  unfold runK at hrun
  cases hb : fn.body with
  | none => rw [hb] at hrun; simp at hrun
  | some c =>
    obtain ⟨rs, hr⟩ : ∃ rs, resSlots fn.results.toList = rs := ⟨_, rfl⟩
    rw [hb, hr] at hrun
    simp only at hrun
    obtain ⟨hc, hrun⟩ := cond_some hrun
    simp only [Bool.and_eq_true, decide_eq_true_eq] at hc
    refine ⟨fun w' => ?_, ?_⟩
    · unfold callFunc
      simp only [Sem.run_bind, program, Sem.run, Result.andThen, hf, hn, hb]
      rfl
    · refine calls_of hf hb ?_
      obtain ⟨hlen, hslots⟩ := rvVs_slot hargs
      have hs : Sit0 ⟨w.heap.size, 0, none, fun _ => none⟩ w S m σ w S m σ (args ++ List.replicate (fn.ntmps - args.length) .undef) { tmps := vals.toArray ++ Array.replicate (fn.ntmps - vals.toArray.size) Go.undef, defers := [] } :=
        ⟨⟨hi, by simp [hlen], args_slot hlen hslots, fun d hd => by simp at hd, List.nodup_nil, ⟨fun l hl => by simp at hl, fun i l R fr hx => by simp at hx, fun i l R fr hx => by simp at hx⟩, Nat.le_refl _, Nat.zero_le _⟩, Stp.refl hi, Nat.zero_le _⟩
      refine ex_sound 3 c rs _ (E.rebase σ.length) ((hE _).rebase _) [] rs _ w S m σ w S m σ _ _ _ r0 rfl (fun z hz => (hlp z (by unfold fnLoops; rw [hb, hr]; exact hz)).rebase _) hrun hs ?_
      intro e w' S' m' σ'' fr' a' hs' hsame hk
      have fin : ((resVals E.tab fr' σ'' fn.results.toList).bind fun vs => bif realL vs then (bif fz then (freezeLT vs σ'').k fun p => fin0 p.1 p.2 else fin0 vs σ'') else none) = some r0 → ∃ w'' v, Took P a'.defers w' w'' ∧ (results fn a'.tmps).run P w'' = .ok v w'' ∧
          ∃ v' S' m' res σ', fin0 res σ' = some r0 ∧ Ending.returned v = .returned v' ∧ Stp w S m σ w'' S' m' σ' ∧ Rs w'' S' (tbl m' σ') (res1 res) v' := by
        intro hk
        obtain ⟨w3, htook, st3, kp3⟩ := took_all hs'.st hs'.sit.dnd hs'.sit.defers (Nat.le_refl _)
        have hs3 : Sit ⟨w.heap.size, 0, none, fun _ => none⟩ w3 S' m' σ'' fr' { tmps := a'.tmps, defers := [] } :=
          ⟨st3.inv, hs'.sit.len, fun i => (hs'.sit.slot i).mono kp3 (TExt.refl _), fun d hd => by simp at hd, List.nodup_nil, ⟨fun l hl => by simp at hl, fun i l R fr hx => by simp at hx, fun i l R fr hx => by simp at hx⟩, st3.ext.size, Nat.zero_le _⟩
        simp only [Option.bind_eq_some_iff] at hk
        obtain ⟨vs, hvs0, hk⟩ := hk
        obtain ⟨hrl, hk⟩ := cond_some hk
        obtain ⟨us, hus, hrv⟩ := resVals_run (hE ⟨0, 0, none, fun _ => none⟩).tab hs3 hvs0 hrl
        obtain ⟨v, g1, g2, g3⟩ := results_run (P := P) (tmps := a'.tmps) hus
        cases fz with
        | false =>
          simp only [cond_false] at hk
          exact ⟨w3, v, htook, g1, v, S', m', _, _, hk, rfl, st3, res1_rs hrv g2 g3⟩
        | true =>
          simp only [cond_true] at hk
          obtain ⟨p, hp, hk⟩ := T.k_some hk
          obtain ⟨S'', hst, hvs⟩ := freezeL_vs st3.inv (freezeLT_run (r := (p.1, p.2)) hp) hrv
          exact ⟨w3, v, htook, g1, v, S'', m', _, _, hk, rfl, st3.trans hst, res1_rs hvs g2 g3⟩
      cases e with
      | normal => exact ⟨.inl rfl, fin hk⟩
      | ret => exact ⟨.inr rfl, fin hk⟩
      | _ => simp at hk
end
end Go.AX
