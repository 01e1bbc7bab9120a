import Derived.Test.YtdmmobjegfhneaaAx13
/- AX, part 17: one operation is sound. -/
namespace Go.AX
variable {bg : Bg}
section
variable {P : Program} {E : Env} {w : World} {S : Nat → Prop} {m : List (Option Nat)} {σ : Store} {fr : Frame'} {a : Act}
abbrev Nexts (_ : Program) (w : World) (S : Nat → Prop) (m : List (Option Nat)) (σ : Store) (o : Oper) (a : Act) (K : AV → Store → Option Res) (r : Res) (next : Act → World → Prop) : Prop :=
  ∀ v σ' val w' S' m', Stp w S m σ w' S' m' σ' → Rs w' S' (tbl m' σ') v val → K v σ' = some r → next (a.put o.dst val) w'
theorem one_some {x : Option AV} {K : AV → Store → Option Res} {r : Res} (h : one x σ K = some r) : ∃ v, x = some v ∧ K v σ = some r := by
  simpa only [one, Option.bind_eq_some_iff] using h
theorem bind2_some {α β γ : Type} {x : Option (α × β)} {K : α → β → Option γ} {r : γ} (h : bind2 x K = some r) : ∃ v s, x = some (v, s) ∧ K v s = some r := by
  simp only [bind2, Option.bind_eq_some_iff] at h
  obtain ⟨⟨v, s⟩, h1, h2⟩ := h
  exact ⟨v, s, h1, h2⟩
theorem cond_some {α : Type} {c : Bool} {x : Option α} {r : α} (h : (bif c then x else none) = some r) : c = true ∧ x = some r := by
  cases c with
  | true => exact ⟨rfl, h⟩
  | false => simp at h
theorem pure_op {o : Oper} {K : AV → Store → Option Res} {r : Res} {next : Act → World → Prop} {Q : Exit → Act → World → Prop} (hi : Inv w S m σ) (hn : Nexts P w S m σ o a K r next) {v : AV} {val : Value}
    (hrun : (execOp a.eval o).run P w = .ok (.value val) w) (hv : Rs w S (tbl m σ) v val) (hk : K v σ = some r) : OWp P o a w next Q :=
  wp_value hrun (hn v σ val w S m (Stp.refl hi) hv hk)
theorem vrun {s : Sem Value} {v : Value} {w w' : World} (h : s.run P w = .ok v w') : (do pure (Next.value (← s)) : Sem Next).run P w = .ok (.value v) w' := by
  simp [h, Result.andThen]
theorem op_move (hs : Sit bg w S m σ fr a) {o : Oper} {x : Operand} (hop : o.op = .move x ∨ o.op = .assign x) {K : AV → Store → Option Res} {r : Res} {next : Act → World → Prop} {Q : Exit → Act → World → Prop} (hn : Nexts P w S m σ o a K r next)
    (h : opK0 E fr o σ K = some r) : OWp P o a w next Q := by
  unfold opK0 at h
  have h' : one (ev E.tab fr o.type x) σ K = some r := by rcases hop with hop | hop <;> (rw [hop] at h; exact h)
  obtain ⟨v, h1, h2⟩ := one_some h'
  refine pure_op hs.inv hn ?_ (ev_sound hs h1) h2
  unfold execOp
  rcases hop with hop | hop <;> (rw [hop]; rfl)
theorem op_pick (hs : Sit bg w S m σ fr a) {o : Oper} {c x y : Operand} (hop : o.op = .pick c x y) {K : AV → Store → Option Res} {r : Res} {next : Act → World → Prop} {Q : Exit → Act → World → Prop} (hn : Nexts P w S m σ o a K r next)
    (h : opK0 E fr o σ K = some r) : OWp P o a w next Q := by
  unfold opK0 at h
  rw [hop] at h
  simp only [Option.bind_eq_some_iff] at h
  obtain ⟨vc, h1, b, h2, vx, h3, vy, h4, h5⟩ := h
  have hb := asB_sound h2 (ev_sound hs h1)
  refine pure_op hs.inv hn (v := cond b vx vy) (val := if b then a.eval x else a.eval y) ?_ ?_ h5
  · unfold execOp
    rw [hop]
    simp only [hb, asBool, Sem.run_bind, Sem.run_pure, Result.andThen]
  · cases b
    · exact ev_sound hs h4
    · exact ev_sound hs h3
theorem op_alloc (hE : EnvOk bg P E) (hs : Sit bg w S m σ fr a) {o : Oper} {t : TypeId} (hop : o.op = .alloc t) {K : AV → Store → Option Res} {r : Res} {next : Act → World → Prop} {Q : Exit → Act → World → Prop} (hn : Nexts P w S m σ o a K r next)
    (h : opK0 E fr o σ K = some r) : OWp P o a w next Q := by
  unfold opK0 at h
  rw [hop] at h
  simp only at h
  split at h
  · rename_i I hI
    obtain ⟨hk, h⟩ := cond_some h
    obtain ⟨v, σ', h1, h2⟩ := bind2_some h
    obtain ⟨i, z, b1, b3, b4, b5, b6, b7, b8⟩ := zero_cells hE.tab hI hk
    obtain ⟨w', m', g1, g2, g3⟩ := oNew_sound (P := P) (e := t) hs.inv h1 (b7 w S _)
    refine wp_value ?_ (hn _ _ _ _ _ _ g2 g3 h2)
    unfold execOp
    rw [hop]
    refine vrun ?_
    unfold Instr.alloc
    simp only [Sem.run_bind, zeroValue_run b1 b5, Result.andThen, g1, Sem.run_pure]
  · simp at h
theorem op_box (_ : EnvOk bg P E) (hs : Sit bg w S m σ fr a) {o : Oper} {t : TypeId} {x : Operand} (hop : o.op = .box t x) {K : AV → Store → Option Res} {r : Res} {next : Act → World → Prop} {Q : Exit → Act → World → Prop} (hn : Nexts P w S m σ o a K r next)
    (h : opK0 E fr o σ K = some r) : OWp P o a w next Q := by
  unfold opK0 at h
  rw [hop] at h
  simp only [Option.bind_eq_some_iff] at h
  obtain ⟨vx, hx, h⟩ := h
  split at h
  · rename_i I hI
    obtain ⟨hk, h⟩ := cond_some h
    obtain ⟨v, σ', h1, h2⟩ := bind2_some h
    obtain ⟨w', m', g1, g2, g3⟩ := oNew_sound (P := P) (e := t) hs.inv h1 (ev_sound hs hx)
    refine wp_value ?_ (hn _ _ _ _ _ _ g2 g3 h2)
    unfold execOp
    rw [hop]
    refine vrun ?_
    unfold Instr.box
    simp only [Sem.run_bind, g1, Result.andThen, Sem.run_pure]
  · simp at h
theorem op_load (hE : EnvOk bg P E) (hs : Sit bg w S m σ fr a) {o : Oper} {t : TypeId} {x : Operand} (hop : o.op = .load t x) {K : AV → Store → Option Res} {r : Res} {next : Act → World → Prop} {Q : Exit → Act → World → Prop} (hn : Nexts P w S m σ o a K r next)
    (h : opK0 E fr o σ K = some r) : OWp P o a w next Q := by
  unfold opK0 at h
  rw [hop] at h
  simp only [Option.bind_eq_some_iff] at h
  obtain ⟨vx, hx, h⟩ := h
  obtain ⟨hk, h⟩ := cond_some h
  simp only [Option.bind_eq_some_iff] at h
  obtain ⟨s, hsh, h⟩ := h
  obtain ⟨v, h1, h2⟩ := one_some h
  unfold Tab.sh at hsh
  simp only [Option.map_eq_some_iff] at hsh
  obtain ⟨I, hI, rfl⟩ := hsh
  obtain ⟨vz, g1, g2⟩ := oLoad_sound (tyOk hE.tab hI hk) hs.inv h1 (ev_sound hs hx)
  refine pure_op hs.inv hn ?_ g2 h2
  unfold execOp
  rw [hop]
  exact vrun g1
theorem op_store (hE : EnvOk bg P E) (hs : Sit bg w S m σ fr a) {o : Oper} {t : TypeId} {x y : Operand} (hop : o.op = .store t x y) {K : AV → Store → Option Res} {r : Res} {next : Act → World → Prop} {Q : Exit → Act → World → Prop} (hn : Nexts P w S m σ o a K r next)
    (h : opK0 E fr o σ K = some r) : OWp P o a w next Q := by
  unfold opK0 at h
  rw [hop] at h
  simp only [Option.bind_eq_some_iff] at h
  obtain ⟨vx, hx, vy, hy, h⟩ := h
  obtain ⟨hk, h⟩ := cond_some h
  simp only [Option.bind_eq_some_iff] at h
  obtain ⟨s, hsh, σ', h1, h2⟩ := h
  unfold Tab.sh at hsh
  simp only [Option.map_eq_some_iff] at hsh
  obtain ⟨I, hI, rfl⟩ := hsh
  obtain ⟨w', g1, g2⟩ := oStore_sound (tyOk hE.tab hI hk) hs.inv h1 (ev_sound hs hx) (ev_sound hs hy)
  refine wp_skip' (w' := w') ?_ (hn .undef σ' _ w' S m g2 trivial h2)
  unfold execOp
  rw [hop]
  simp only [Sem.run_bind, g1, Result.andThen, Sem.run_pure]
theorem op_nilCheck (hs : Sit bg w S m σ fr a) {o : Oper} {x : Operand} (hop : o.op = .nilCheck x) {K : AV → Store → Option Res} {r : Res} {next : Act → World → Prop} {Q : Exit → Act → World → Prop} (hn : Nexts P w S m σ o a K r next)
    (h : opK0 E fr o σ K = some r) : OWp P o a w next Q := by
  unfold opK0 at h
  rw [hop] at h
  simp only [Option.bind_eq_some_iff] at h
  obtain ⟨vx, hx, h⟩ := h
  obtain ⟨v, h1, h2⟩ := one_some h
  have hr := ev_sound hs hx
  obtain ⟨rfl, h3⟩ := oNilCheck_sound h1 hr
  refine pure_op hs.inv hn (val := a.eval x) ?_ hr h2
  unfold execOp
  rw [hop]
  rcases h3 with ⟨ad, h3⟩ | ⟨f, u, u', h3⟩ <;> (simp only [h3]; rfl)
theorem isNilP_sound {T : Nat → Option Ent} {x : AV} {b : Bool} {u : Value} (h : isNilP x = some b) (hx : Rs w S T x u) : ∃ q, u = .pointer q ∧ b = q.isNone := by
  unfold isNilP at h
  split at h <;> simp only [Option.some.injEq, reduceCtorEq] at h <;> subst h
  · exact ⟨none, hx.nilp, rfl⟩
  · obtain ⟨a, e, rfl, _⟩ := hx.ptr
    exact ⟨_, rfl, rfl⟩
  · obtain ⟨b, o, r, rfl, _⟩ := hx.vptr
    exact ⟨_, rfl, rfl⟩
theorem isNilF_sound {T : Nat → Option Ent} {x : AV} {b : Bool} {u : Value} (h : isNilF x = some b) (hx : Rs w S T x u) : (b = true ∧ u = .nilFunc) ∨ (b = false ∧ ∃ f p q, u = .func f p q) := by
  unfold isNilF at h
  split at h <;> simp only [Option.some.injEq, reduceCtorEq] at h <;> subst h
  · exact .inl ⟨rfl, hx.nilf⟩
  · obtain ⟨h1, h2⟩ := hx
    rw [cells_one h1, Rv] at h2
    obtain ⟨p, q, h3, _⟩ := h2
    simp only [List.cons.injEq, and_true] at h3
    exact .inr ⟨rfl, _, _, _, h3⟩
  · obtain ⟨h1, h2⟩ := hx
    rw [cells_one h1, Rv, Rd] at h2
    obtain ⟨p, q, h3, _⟩ := h2
    simp only [List.cons.injEq, and_true] at h3
    exact .inr ⟨rfl, _, _, _, h3⟩
theorem eqNil_ptr {T : Nat → Option Ent} {t e : TypeId} (hu : P.underlying t = some (.pointer e)) {x y : AV} {b : Bool} {ux uy : Value} (h : eqNil (isNilP x) (isNilP y) = some b) (hx : Rs w S T x ux) (hy : Rs w S T y uy) :
    (Op.equal t ux uy).run P w = .ok b w := by
  unfold eqNil at h
  have he : Op.maxDepth = 9999 + 1 := rfl
  split at h <;> simp only [Option.some.injEq, reduceCtorEq] at h
  · rename_i c h1 h2
    subst h
    obtain ⟨q, rfl, hq⟩ := isNilP_sound h1 hx
    obtain ⟨q', rfl, hq'⟩ := isNilP_sound h2 hy
    cases q with
    | some _ => simp at hq
    | none =>
      unfold Op.equal
      rw [he]
      unfold Op.equalIn
      simp only [Sem.run_bind, underlying_run hu, Result.andThen, Sem.run_pure, hq']
  · rename_i h1 h2
    subst h
    obtain ⟨q, rfl, hq⟩ := isNilP_sound h1 hx
    obtain ⟨q', rfl, hq'⟩ := isNilP_sound h2 hy
    cases q with
    | none => simp at hq
    | some _ =>
      cases q' with
      | some _ => simp at hq'
      | none =>
        unfold Op.equal
        rw [he]
        unfold Op.equalIn
        simp only [Sem.run_bind, underlying_run hu, Result.andThen, Sem.run_pure]
theorem eqNil_fn {T : Nat → Option Ent} {t : TypeId} {p q : Array TypeId} {va : Bool} (hu : P.underlying t = some (.func p q va)) {x y : AV} {b : Bool} {ux uy : Value} (h : eqNil (isNilF x) (isNilF y) = some b) (hx : Rs w S T x ux) (hy : Rs w S T y uy) :
    (Op.equal t ux uy).run P w = .ok b w := by
  have he : Op.maxDepth = 9999 + 1 := rfl
  unfold eqNil at h
  split at h <;> simp only [Option.some.injEq, reduceCtorEq] at h
  · rename_i c h1 h2
    subst h
    rcases isNilF_sound h1 hx with ⟨_, rfl⟩ | ⟨h3, _⟩
    · rcases isNilF_sound h2 hy with ⟨rfl, rfl⟩ | ⟨rfl, _, _, _, rfl⟩ <;>
      · unfold Op.equal
        rw [he]
        unfold Op.equalIn
        simp only [Sem.run_bind, underlying_run hu, Result.andThen, Sem.run_pure]
    · simp at h3
  · rename_i h1 h2
    subst h
    rcases isNilF_sound h1 hx with ⟨h3, _⟩ | ⟨_, _, _, _, rfl⟩
    · simp at h3
    · rcases isNilF_sound h2 hy with ⟨_, rfl⟩ | ⟨h3, _⟩
      · unfold Op.equal
        rw [he]
        unfold Op.equalIn
        simp only [Sem.run_bind, underlying_run hu, Result.andThen, Sem.run_pure]
      · simp at h3
theorem TyOk.ptrT {tab : Tab} {t e : TypeId} {I : TyI} (hI : TyOk P tab t I) (h : I.ty = .ptr e) : P.underlying t = some (.pointer e) := by
  obtain ⟨i, d, h1, h2, _, _, _, _, h3⟩ := hI.info
  rw [h] at h3
  cases d <;> cases hsh : I.sh <;> rw [hsh] at h3 <;> simp at h3
  subst h3
  exact h2
theorem TyOk.fnT {tab : Tab} {t : TypeId} {I : TyI} (hI : TyOk P tab t I) (h : I.ty = .fn) : ∃ p q v, P.underlying t = some (.func p q v) := by
  obtain ⟨i, d, h1, h2, _, _, _, _, h3⟩ := hI.info
  rw [h] at h3
  cases d <;> cases hsh : I.sh <;> rw [hsh] at h3 <;> simp at h3
  exact ⟨_, _, _, h2⟩
end
end Go.AX
