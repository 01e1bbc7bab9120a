import Derived.Test.YtniombjfbdojjaaDoorAx12
/- AX, part 17: one operation is sound. -/
namespace Go.AX
variable {bg : Bg}
section
variable {P : Program} {E : Env} {w : World} {S : Nat → Prop} {m : List (Option Nat)} {σ : Store} {fr : Frame'} {a : Act}
abbrev Nexts (_ : Program) (w : World) (S : Nat → Prop) (m : List (Option Nat)) (σ : Store) (o : Oper) (a : Act) (K : AV → Store → Option Res) (r : Res) (next : Act → World → Prop) : Prop :=
  ∀ v σ' val w' S' m', Stp w S m σ w' S' m' σ' → Rs w' S' (tbl m' σ') v val → K v σ' = some r → next (a.put o.dst val) w'
theorem one_some {x : Option AV} {K : AV → Store → Option Res} {r : Res} (h : one x σ K = some r) : ∃ v, x = some v ∧ K v σ = some r := by
  simpa only [one, Option.bind_eq_some_iff] using h
theorem bind2_some {α β γ : Type} {x : Option (α × β)} {K : α → β → Option γ} {r : γ} (h : bind2 x K = some r) : ∃ v s, x = some (v, s) ∧ K v s = some r := by
  simp only [bind2, Option.bind_eq_some_iff] at h
  obtain ⟨⟨v, s⟩, h1, h2⟩ := h
  exact ⟨v, s, h1, h2⟩
theorem cond_some {α : Type} {c : Bool} {x : Option α} {r : α} (h : (bif c then x else none) = some r) : c = true ∧ x = some r := by
  cases c with
  | true => exact ⟨rfl, h⟩
  | false => simp at h
theorem pure_op {o : Oper} {K : AV → Store → Option Res} {r : Res} {next : Act → World → Prop} {Q : Exit → Act → World → Prop} (hi : Inv w S m σ) (hn : Nexts P w S m σ o a K r next) {v : AV} {val : Value}
    (hrun : (execOp a.eval o).run P w = .ok (.value val) w) (hv : Rs w S (tbl m σ) v val) (hk : K v σ = some r) : OWp P o a w next Q :=
  wp_value hrun (hn v σ val w S m (Stp.refl hi) hv hk)
theorem vrun {s : Sem Value} {v : Value} {w w' : World} (h : s.run P w = .ok v w') : (do pure (Next.value (← s)) : Sem Next).run P w = .ok (.value v) w' := by
  simp [h, Result.andThen]
theorem op_move (hs : Sit bg w S m σ fr a) {o : Oper} {x : Operand} (hop : o.op = .move x ∨ o.op = .assign x) {K : AV → Store → Option Res} {r : Res} {next : Act → World → Prop} {Q : Exit → Act → World → Prop} (hn : Nexts P w S m σ o a K r next)
    (h : opK0 E fr o σ K = some r) : OWp P o a w next Q := by
  unfold opK0 at h
  have h' : one (ev E.tab fr o.type x) σ K = some r := by rcases hop with hop | hop <;> (rw [hop] at h; exact h)
  obtain ⟨v, h1, h2⟩ := one_some h'
  refine pure_op hs.inv hn ?_ (ev_sound hs h1) h2
  unfold execOp
  rcases hop with hop | hop <;> (rw [hop]; rfl)
theorem op_pick (hs : Sit bg w S m σ fr a) {o : Oper} {c x y : Operand} (hop : o.op = .pick c x y) {K : AV → Store → Option Res} {r : Res} {next : Act → World → Prop} {Q : Exit → Act → World → Prop} (hn : Nexts P w S m σ o a K r next)
    (h : opK0 E fr o σ K = some r) : OWp P o a w next Q := by
  unfold opK0 at h
  rw [hop] at h
  simp only [Option.bind_eq_some_iff] at h
  obtain ⟨vc, h1, b, h2, vx, h3, vy, h4, h5⟩ := h
  have hb := asB_sound h2 (ev_sound hs h1)
  refine pure_op hs.inv hn (v := cond b vx vy) (val := if b then a.eval x else a.eval y) ?_ ?_ h5
  · unfold execOp
    rw [hop]
    simp only [hb, asBool, Sem.run_bind, Sem.run_pure, Result.andThen]
  · cases b
    · exact ev_sound hs h4
    · exact ev_sound hs h3
theorem op_alloc (hE : EnvOk bg P E) (hs : Sit bg w S m σ fr a) {o : Oper} {t : TypeId} (hop : o.op = .alloc t) {K : AV → Store → Option Res} {r : Res} {next : Act → World → Prop} {Q : Exit → Act → World → Prop} (hn : Nexts P w S m σ o a K r next)
    (h : opK0 E fr o σ K = some r) : OWp P o a w next Q := by
  unfold opK0 at h
  rw [hop] at h
  simp only at h
  split at h
  · rename_i I hI
    obtain ⟨hk, h⟩ := cond_some h
    obtain ⟨v, σ', h1, h2⟩ := bind2_some h
    obtain ⟨i, z, b1, b3, b4, b5, b6, b7, b8⟩ := zero_cells hE.tab hI hk
    obtain ⟨w', m', g1, g2, g3⟩ := oNew_sound (P := P) (e := t) hs.inv h1 (b7 w S _)
    refine wp_value ?_ (hn _ _ _ _ _ _ g2 g3 h2)
    unfold execOp
    rw [hop]
    refine vrun ?_
    unfold Instr.alloc
    simp only [Sem.run_bind, zeroValue_run b1 b5, Result.andThen, g1, Sem.run_pure]
  · simp at h
theorem op_box (_ : EnvOk bg P E) (hs : Sit bg w S m σ fr a) {o : Oper} {t : TypeId} {x : Operand} (hop : o.op = .box t x) {K : AV → Store → Option Res} {r : Res} {next : Act → World → Prop} {Q : Exit → Act → World → Prop} (hn : Nexts P w S m σ o a K r next)
    (h : opK0 E fr o σ K = some r) : OWp P o a w next Q := by
  unfold opK0 at h
  rw [hop] at h
  simp only [Option.bind_eq_some_iff] at h
  obtain ⟨vx, hx, h⟩ := h
  split at h
  · rename_i I hI
    obtain ⟨hk, h⟩ := cond_some h
    obtain ⟨v, σ', h1, h2⟩ := bind2_some h
    obtain ⟨w', m', g1, g2, g3⟩ := oNew_sound (P := P) (e := t) hs.inv h1 (ev_sound hs hx)
    refine wp_value ?_ (hn _ _ _ _ _ _ g2 g3 h2)
    unfold execOp
    rw [hop]
    refine vrun ?_
    unfold Instr.box
    simp only [Sem.run_bind, g1, Result.andThen, Sem.run_pure]
  · simp at h
theorem op_load (hE : EnvOk bg P E) (hs : Sit bg w S m σ fr a) {o : Oper} {t : TypeId} {x : Operand} (hop : o.op = .load t x) {K : AV → Store → Option Res} {r : Res} {next : Act → World → Prop} {Q : Exit → Act → World → Prop} (hn : Nexts P w S m σ o a K r next)
    (h : opK0 E fr o σ K = some r) : OWp P o a w next Q := by
  unfold opK0 at h
  rw [hop] at h
  simp only [Option.bind_eq_some_iff] at h
  obtain ⟨vx, hx, h⟩ := h
  obtain ⟨hk, h⟩ := cond_some h
  simp only [Option.bind_eq_some_iff] at h
  obtain ⟨s, hsh, h⟩ := h
  obtain ⟨v, h1, h2⟩ := one_some h
  unfold Tab.sh at hsh
  simp only [Option.map_eq_some_iff] at hsh
  obtain ⟨I, hI, rfl⟩ := hsh
  obtain ⟨vz, g1, g2⟩ := oLoad_sound (tyOk hE.tab hI hk) hs.inv h1 (ev_sound hs hx)
  refine pure_op hs.inv hn ?_ g2 h2
  unfold execOp
  rw [hop]
  exact vrun g1
theorem op_store (hE : EnvOk bg P E) (hs : Sit bg w S m σ fr a) {o : Oper} {t : TypeId} {x y : Operand} (hop : o.op = .store t x y) {K : AV → Store → Option Res} {r : Res} {next : Act → World → Prop} {Q : Exit → Act → World → Prop} (hn : Nexts P w S m σ o a K r next)
    (h : opK0 E fr o σ K = some r) : OWp P o a w next Q := by
  unfold opK0 at h
  rw [hop] at h
  simp only [Option.bind_eq_some_iff] at h
  obtain ⟨vx, hx, vy, hy, h⟩ := h
  obtain ⟨hk, h⟩ := cond_some h
  simp only [Option.bind_eq_some_iff] at h
  obtain ⟨s, hsh, σ', h1, h2⟩ := h
  unfold Tab.sh at hsh
  simp only [Option.map_eq_some_iff] at hsh
  obtain ⟨I, hI, rfl⟩ := hsh
  obtain ⟨w', g1, g2⟩ := oStore_sound (tyOk hE.tab hI hk) hs.inv h1 (ev_sound hs hx) (ev_sound hs hy)
  refine wp_skip' (w' := w') ?_ (hn .undef σ' _ w' S m g2 trivial h2)
  unfold execOp
  rw [hop]
  simp only [Sem.run_bind, g1, Result.andThen, Sem.run_pure]
theorem op_nilCheck (hs : Sit bg w S m σ fr a) {o : Oper} {x : Operand} (hop : o.op = .nilCheck x) {K : AV → Store → Option Res} {r : Res} {next : Act → World → Prop} {Q : Exit → Act → World → Prop} (hn : Nexts P w S m σ o a K r next)
    (h : opK0 E fr o σ K = some r) : OWp P o a w next Q := by
  unfold opK0 at h
  rw [hop] at h
  simp only [Option.bind_eq_some_iff] at h
  obtain ⟨vx, hx, h⟩ := h
  obtain ⟨v, h1, h2⟩ := one_some h
  have hr := ev_sound hs hx
  obtain ⟨rfl, h3⟩ := oNilCheck_sound h1 hr
  refine pure_op hs.inv hn (val := a.eval x) ?_ hr h2
  unfold execOp
  rw [hop]
  rcases h3 with ⟨ad, h3⟩ | ⟨f, u, u', h3⟩ <;> (simp only [h3]; rfl)
theorem isNilP_sound {T : Nat → Option Ent} {x : AV} {b : Bool} {u : Value} (h : isNilP x = some b) (hx : Rs w S T x u) : ∃ q, u = .pointer q ∧ b = q.isNone := by
  unfold isNilP at h
  split at h <;> simp only [Option.some.injEq, reduceCtorEq] at h <;> subst h
  · exact ⟨none, hx.nilp, rfl⟩
  · obtain ⟨a, e, rfl, _⟩ := hx.ptr
    exact ⟨_, rfl, rfl⟩
  · obtain ⟨b, o, r, rfl, _⟩ := hx.vptr
    exact ⟨_, rfl, rfl⟩
theorem isNilF_sound {T : Nat → Option Ent} {x : AV} {b : Bool} {u : Value} (h : isNilF x = some b) (hx : Rs w S T x u) : (b = true ∧ u = .nilFunc) ∨ (b = false ∧ ∃ f p q, u = .func f p q) := by
  unfold isNilF at h
  split at h <;> simp only [Option.some.injEq, reduceCtorEq] at h <;> subst h
  · exact .inl ⟨rfl, hx.nilf⟩
  · obtain ⟨h1, h2⟩ := hx
    rw [cells_one h1, Rv] at h2
    obtain ⟨p, q, h3, _⟩ := h2
    simp only [List.cons.injEq, and_true] at h3
    exact .inr ⟨rfl, _, _, _, h3⟩
  · obtain ⟨h1, h2⟩ := hx
    rw [cells_one h1, Rv, Rd] at h2
    obtain ⟨p, q, h3, _⟩ := h2
    simp only [List.cons.injEq, and_true] at h3
    exact .inr ⟨rfl, _, _, _, h3⟩
theorem eqNil_ptr {T : Nat → Option Ent} {t e : TypeId} (hu : P.underlying t = some (.pointer e)) {x y : AV} {b : Bool} {ux uy : Value} (h : eqNil (isNilP x) (isNilP y) = some b) (hx : Rs w S T x ux) (hy : Rs w S T y uy) :
    (Op.equal t ux uy).run P w = .ok b w := by
  unfold eqNil at h
  have he : Op.maxDepth = 9999 + 1 := rfl
  split at h <;> simp only [Option.some.injEq, reduceCtorEq] at h
  · rename_i c h1 h2
    subst h
    obtain ⟨q, rfl, hq⟩ := isNilP_sound h1 hx
    obtain ⟨q', rfl, hq'⟩ := isNilP_sound h2 hy
    cases q with
    | some _ => simp at hq
    | none =>
      unfold Op.equal
      rw [he]
      unfold Op.equalIn
      simp only [Sem.run_bind, underlying_run hu, Result.andThen, Sem.run_pure, hq']
  · rename_i h1 h2
    subst h
    obtain ⟨q, rfl, hq⟩ := isNilP_sound h1 hx
    obtain ⟨q', rfl, hq'⟩ := isNilP_sound h2 hy
    cases q with
    | none => simp at hq
    | some _ =>
      cases q' with
      | some _ => simp at hq'
      | none =>
        unfold Op.equal
        rw [he]
        unfold Op.equalIn
        simp only [Sem.run_bind, underlying_run hu, Result.andThen, Sem.run_pure]
theorem eqNil_fn {T : Nat → Option Ent} {t : TypeId} {p q : Array TypeId} {va : Bool} (hu : P.underlying t = some (.func p q va)) {x y : AV} {b : Bool} {ux uy : Value} (h : eqNil (isNilF x) (isNilF y) = some b) (hx : Rs w S T x ux) (hy : Rs w S T y uy) :
    (Op.equal t ux uy).run P w = .ok b w := by
  have he : Op.maxDepth = 9999 + 1 := rfl
  unfold eqNil at h
  split at h <;> simp only [Option.some.injEq, reduceCtorEq] at h
  · rename_i c h1 h2
    subst h
    rcases isNilF_sound h1 hx with ⟨_, rfl⟩ | ⟨h3, _⟩
    · rcases isNilF_sound h2 hy with ⟨rfl, rfl⟩ | ⟨rfl, _, _, _, rfl⟩ <;>
      · unfold Op.equal
        rw [he]
        unfold Op.equalIn
        simp only [Sem.run_bind, underlying_run hu, Result.andThen, Sem.run_pure]
    · simp at h3
  · rename_i h1 h2
    subst h
    rcases isNilF_sound h1 hx with ⟨h3, _⟩ | ⟨_, _, _, _, rfl⟩
    · simp at h3
    · rcases isNilF_sound h2 hy with ⟨_, rfl⟩ | ⟨h3, _⟩
      · unfold Op.equal
        rw [he]
        unfold Op.equalIn
        simp only [Sem.run_bind, underlying_run hu, Result.andThen, Sem.run_pure]
      · simp at h3
theorem TyOk.ptrT {tab : Tab} {t e : TypeId} {I : TyI} (hI : TyOk P tab t I) (h : I.ty = .ptr e) : P.underlying t = some (.pointer e) := by
  obtain ⟨i, d, h1, h2, _, _, _, _, h3⟩ := hI.info
  rw [h] at h3
  cases d <;> cases hsh : I.sh <;> rw [hsh] at h3 <;> simp at h3
  subst h3
  exact h2
theorem TyOk.fnT {tab : Tab} {t : TypeId} {I : TyI} (hI : TyOk P tab t I) (h : I.ty = .fn) : ∃ p q v, P.underlying t = some (.func p q v) := by
  obtain ⟨i, d, h1, h2, _, _, _, _, h3⟩ := hI.info
  rw [h] at h3
  cases d <;> cases hsh : I.sh <;> rw [hsh] at h3 <;> simp at h3
  exact ⟨_, _, _, h2⟩
end
end Go.AX

namespace Go.AX
variable {bg : Bg}
section
variable {P : Program} {E : Env} {w : World} {S : Nat → Prop} {m : List (Option Nat)} {σ : Store} {fr : Frame'} {a : Act}
theorem eqGuardType_kd {tab : Tab} (hP : tabOk P tab 0 tab = true) : ∀ (d : Nat) (t : TypeId) (k : Kd) (I : TyI), kdOf tab d t = some k → tab[t]? = some I → known tab t = true → ∀ n, d ≤ n → P.eqGuardType n t = false
  | 0, t, k, I, h, _, _ => by simp [kdOf] at h
  | d + 1, t, k, I, h, hI, hkn => by
    intro n hn
    obtain ⟨n, rfl⟩ : ∃ m, n = m + 1 := ⟨n - 1, by omega⟩
    have hIok := tyOk hP hI hkn
    simp only [kdOf, hI] at h
    unfold Program.eqGuardType
    cases hty : I.ty with
    | int k' => rw [hIok.intT hty]
    | bool => rw [hIok.boolT hty]
    | str => rw [hIok.str hty]
    | struct fs =>
      rw [hty] at h
      simp only at h
      cases hq : I.eqv with
      | false => rw [hq] at h; simp at h
      | true =>
        rw [hq] at h
        simp only [cond_true, Option.map_eq_some_iff] at h
        obtain ⟨ks, hks, rfl⟩ := h
        obtain ⟨l, hl⟩ := hIok.structSh hty
        obtain ⟨gs, hu, hok, _⟩ := hIok.struct hty hl
        rw [hu]
        simp only
        have key : ∀ (fs : List (TypeId × Nat)) (gs : List Field) (l : List Sh) (at_ : Nat) (ks : List Kd), fieldsOk tab fs gs l at_ = true → kdL (kdOf tab d) fs = some ks → ∀ f ∈ gs, P.eqGuardType n f.type = false := by
          intro fs
          induction fs with
          | nil => intro gs l at_ ks h _ f hf; cases gs <;> cases l <;> simp [fieldsOk] at h hf
          | cons x fs ih =>
            intro gs l at_ ks h hk f hf
            obtain ⟨ft, o⟩ := x
            cases gs with
            | nil => simp at hf
            | cons g gs =>
              cases l with
              | nil => simp [fieldsOk] at h
              | cons s l =>
                simp only [fieldsOk, Bool.and_eq_true, decide_eq_true_eq] at h
                obtain ⟨⟨⟨⟨⟨h1, h2⟩, h3⟩, h4⟩, h5⟩, h6⟩ := h
                simp only [kdL] at hk
                split at hk
                · rename_i k' ks' hk1 hk2
                  rcases List.mem_cons.1 hf with hf | hf
                  · subst hf
                    split at h5
                    · rename_i J hJ
                      simp only [Bool.and_eq_true] at h5
                      rw [h1]
                      refine eqGuardType_kd hP d ft k' J hk1 hJ ?_ n (by omega)
                      unfold known; rw [hJ]; exact h5.2
                    · simp at h5
                  · exact ih gs l _ ks' h6 hk2 f hf
                · simp at hk
        rw [← Array.any_toList, List.any_eq_false]
        intro f hf
        simp [key fs gs.toList l 0 ks hok hks f hf]
    | arr N e =>
      rw [hty] at h
      simp only [Option.map_eq_some_iff] at h
      obtain ⟨k', hk', rfl⟩ := h
      obtain ⟨hu, J, hJ, hsh, hsz, hkne⟩ := hIok.array hty
      rw [hu]
      exact eqGuardType_kd hP d e k' J hk' hJ hkne n (by omega)
    | _ => rw [hty] at h; simp at h
theorem eqGuard_kd {tab : Tab} (hP : tabOk P tab 0 tab = true) {d : Nat} {t : TypeId} {k : Kd} {I : TyI} (hk : kdOf tab d t = some k) (hI : tab[t]? = some I) (hkn : known tab t = true) (hd : d ≤ 20) {op : BinOp} {X Y : Operand} {u v : Value} (hu : u ≠ .nilIface) (w : World) :
    (eqGuard op t X Y u v).run P w = .ok () w := by
  have h1 := eqGuardType_kd hP d t k I hk hI hkn P.depth (by unfold Program.depth Made.depth; omega)
  cases hv : valAgg u with
  | false => exact eqGuard_other hu hv w
  | true =>
    cases u <;> simp [valAgg] at hv
    unfold eqGuard
    simp only [Sem.run_ite]
    split <;> simp
    all_goals (cases v <;> first | rfl | (simp [Sem.run_bind, program, Sem.run, Result.andThen, h1]))
theorem isNilF_form {T : Nat → Option Ent} {x : AV} {b : Bool} {u : Value} (h : isNilF x = some b) (hx : Rs w S T x u) : u = .nilFunc ∨ ∃ f p q, u = .func f p q := by
  rcases isNilF_sound h hx with ⟨_, h⟩ | ⟨_, h⟩
  · exact .inl h
  · exact .inr h
theorem oEq_sound (hE : EnvOk bg P E) {t : TypeId} (hkn : known E.tab t = true) {neg : Bool} {T : Nat → Option Ent} {x y v : AV} {ux uy : Value} (h : oEq E.tab neg t x y = some v) (hx : Rs w S T x ux) (hy : Rs w S T y uy) (X Y : Operand) :
    ∃ vz, (do eqGuard (bif neg then .neq else .eql) t X Y ux uy; Go.binOp (bif neg then .neq else .eql) t ux uy : Sem Value).run P w = .ok vz w ∧ Rs w S T v vz := by
  unfold oEq at h
  split at h
  · rename_i I hI
    have hIok := tyOk hE.tab hI hkn
    have fin : ∀ b : Bool, ux ≠ .nilIface → (eqGuard (bif neg then .neq else .eql) t X Y ux uy).run P w = .ok () w → (Op.equal t ux uy).run P w = .ok b w → Go.binOp .eql t ux uy = (do pure (.bool (← Op.equal t ux uy)) : Sem Value) → Go.binOp .neq t ux uy = (do pure (.bool (!(← Op.equal t ux uy))) : Sem Value) →
        ∃ vz, (do eqGuard (bif neg then .neq else .eql) t X Y ux uy; Go.binOp (bif neg then .neq else .eql) t ux uy : Sem Value).run P w = .ok vz w ∧ Rs w S T (oNot neg b) vz := by
      intro b hnn hg he h1 h2
      cases neg with
      | false =>
        refine ⟨.bool b, ?_, by simpa [oNot] using Rs.of_bool b⟩
        simp only [cond_false] at hg ⊢
        rw [Sem.run_bind, hg]
        simp only [Result.andThen, h1, Sem.run_bind, he, Sem.run_pure]
      | true =>
        refine ⟨.bool (!b), ?_, by simpa [oNot] using Rs.of_bool (!b)⟩
        simp only [cond_true] at hg ⊢
        rw [Sem.run_bind, hg]
        simp only [Result.andThen, h2, Sem.run_bind, he, Sem.run_pure]
    have hgd : ∀ k, kdOf E.tab 20 t = some k → ux ≠ .nilIface → (eqGuard (bif neg then .neq else .eql) t X Y ux uy).run P w = .ok () w := fun k hk hn => eqGuard_kd hE.tab hk hI hkn (Nat.le_refl _) hn w
    cases hty : I.ty with
    | int k =>
      rw [hty] at h
      exact oBin_sound h hx hy X Y w
    | str =>
      rw [hty] at h
      exact oBin_sound h hx hy X Y w
    | ptr e =>
      rw [hty] at h
      simp only [Option.map_eq_some_iff] at h
      obtain ⟨b, hb, rfl⟩ := h
      have he := eqNil_ptr (hIok.ptrT hty) hb hx hy
      have hux : ∃ q, ux = .pointer q := by
        unfold eqNil at hb
        split at hb
        · rename_i h1 _; obtain ⟨q, h1, _⟩ := isNilP_sound h1 hx; exact ⟨q, h1⟩
        · rename_i h1 _; obtain ⟨q, h1, _⟩ := isNilP_sound h1 hx; exact ⟨q, h1⟩
        · simp at hb
      have huy : ∃ q, uy = .pointer q := by
        unfold eqNil at hb
        split at hb
        · rename_i h1 h2; obtain ⟨q, h1, _⟩ := isNilP_sound h2 hy; exact ⟨q, h1⟩
        · rename_i h1 h2; obtain ⟨q, h1, _⟩ := isNilP_sound h2 hy; exact ⟨q, h1⟩
        · simp at hb
      obtain ⟨q, rfl⟩ := hux
      obtain ⟨q', rfl⟩ := huy
      exact fin b (by simp) (eqGuard_other (by simp) rfl w) he rfl rfl
    | fn =>
      rw [hty] at h
      simp only [Option.map_eq_some_iff] at h
      obtain ⟨b, hb, rfl⟩ := h
      obtain ⟨p, q, va, hu⟩ := hIok.fnT hty
      have he := eqNil_fn hu hb hx hy
      have hux : ux = .nilFunc ∨ ∃ f p q, ux = .func f p q := by
        unfold eqNil at hb
        split at hb
        · rename_i h1 _; exact isNilF_form h1 hx
        · rename_i h1 _; exact isNilF_form h1 hx
        · simp at hb
      have huy : uy = .nilFunc ∨ ∃ f p q, uy = .func f p q := by
        unfold eqNil at hb
        split at hb
        · rename_i _ h1; exact isNilF_form h1 hy
        · rename_i _ h1; exact isNilF_form h1 hy
        · simp at hb
      rcases hux with rfl | ⟨_, _, _, rfl⟩ <;> rcases huy with rfl | ⟨_, _, _, rfl⟩ <;>
        exact fin b (by simp) (eqGuard_other (by simp) rfl w) he rfl rfl
    | bool =>
      rw [hty] at h
      obtain ⟨hc, h⟩ := cond_some h
      simp only [Bool.and_eq_true] at hc
      simp only [Option.bind_eq_some_iff, Option.map_eq_some_iff] at h
      obtain ⟨k, hk, b, hb, rfl⟩ := h
      have hkb : k = .bool := by unfold kdOf at hk; simp only [hI, hty, Option.some.injEq] at hk; exact hk.symm
      subst hkb
      unfold oEqv at hb
      split at hb
      · rename_i dx dy
        have he := eqv_sound (P := P) (w := w) (S := S) (T := T) hE.tab 20 t _ I hk hI hkn dx dy b ux uy Op.maxDepth (by decide) hb (Sh.eq_of_eqb hc.1) (Sh.eq_of_eqb hc.2) hx hy
        obtain ⟨p, q, rfl, rfl, _⟩ := eqv_bool hb
        have e1 := hx.bool
        have e2 := hy.bool
        subst e1; subst e2
        exact fin b (by simp) (hgd _ hk (by simp)) he rfl rfl
      · simp at hb
    | struct fs =>
      rw [hty] at h
      obtain ⟨hc, h⟩ := cond_some h
      simp only [Bool.and_eq_true] at hc
      simp only [Option.bind_eq_some_iff, Option.map_eq_some_iff] at h
      obtain ⟨k, hk, b, hb, rfl⟩ := h
      have hkb : ∃ ks, k = .agg ks := by
        unfold kdOf at hk
        simp only [hI, hty] at hk
        cases hq : I.eqv with
        | false => rw [hq] at hk; simp at hk
        | true =>
          rw [hq] at hk
          simp only [cond_true, Option.map_eq_some_iff] at hk
          obtain ⟨ks, _, rfl⟩ := hk
          exact ⟨ks, rfl⟩
      obtain ⟨ks, rfl⟩ := hkb
      unfold oEqv at hb
      split at hb
      · rename_i dx dy
        have he := eqv_sound (P := P) (w := w) (S := S) (T := T) hE.tab 20 t _ I hk hI hkn dx dy b ux uy Op.maxDepth (by decide) hb (Sh.eq_of_eqb hc.1) (Sh.eq_of_eqb hc.2) hx hy
        obtain ⟨p, q, rfl, rfl, _⟩ := eqv_agg hb
        have h1 := hx.1
        have h2 := hy.1
        cases ux <;> simp [valAgg, AV.aggB, D.aggB] at h1
        cases uy <;> simp [valAgg, AV.aggB, D.aggB] at h2
        exact fin b (by simp) (hgd _ hk (by simp)) he rfl rfl
      · simp at hb
    | arr n e =>
      rw [hty] at h
      obtain ⟨hc, h⟩ := cond_some h
      simp only [Bool.and_eq_true] at hc
      simp only [Option.bind_eq_some_iff, Option.map_eq_some_iff] at h
      obtain ⟨k, hk, b, hb, rfl⟩ := h
      have hkb : ∃ k' n', k = .arr k' n' := by
        unfold kdOf at hk
        simp only [hI, hty, Option.map_eq_some_iff] at hk
        obtain ⟨k', _, rfl⟩ := hk
        exact ⟨k', n, rfl⟩
      obtain ⟨k', n', rfl⟩ := hkb
      unfold oEqv at hb
      split at hb
      · rename_i dx dy
        have he := eqv_sound (P := P) (w := w) (S := S) (T := T) hE.tab 20 t _ I hk hI hkn dx dy b ux uy Op.maxDepth (by decide) hb (Sh.eq_of_eqb hc.1) (Sh.eq_of_eqb hc.2) hx hy
        obtain ⟨_, p, _, q, rfl, rfl, _⟩ := eqv_arr hb
        have h1 := hx.1
        have h2 := hy.1
        cases ux <;> simp [valAgg, AV.aggB, D.aggB] at h1
        cases uy <;> simp [valAgg, AV.aggB, D.aggB] at h2
        exact fin b (by simp) (hgd _ hk (by simp)) he rfl rfl
      · simp at hb
    | _ => rw [hty] at h; simp at h
  · simp at h
theorem op_binOp (hE : EnvOk bg P E) (hs : Sit bg w S m σ fr a) {o : Oper} {op : BinOp} {t yt : TypeId} {x y : Operand} (hop : o.op = .binOp op t x y yt) {K : AV → Store → Option Res} {r : Res} {next : Act → World → Prop} {Q : Exit → Act → World → Prop} (hn : Nexts P w S m σ o a K r next)
    (h : opK0 E fr o σ K = some r) : OWp P o a w next Q := by
  unfold opK0 at h
  rw [hop] at h
  simp only [Option.bind_eq_some_iff] at h
  obtain ⟨vx, hx, vy, hy, h⟩ := h
  have key : ∀ v, (∃ vz, (do eqGuard op t x y (a.eval x) (a.eval y); Go.binOp op t (a.eval x) (a.eval y) : Sem Value).run P w = .ok vz w ∧ Rs w S (tbl m σ) v vz) → K v σ = some r → OWp P o a w next Q := by
    rintro v ⟨vz, g1, g2⟩ hk
    refine pure_op hs.inv hn ?_ g2 hk
    unfold execOp
    rw [hop]
    exact vrun g1
  have arith : ∀ op', op = op' → one (oBin op' vx vy) σ K = some r → OWp P o a w next Q := by
    rintro op' rfl h
    obtain ⟨v, h1, h2⟩ := one_some h
    exact key v (oBin_sound h1 (ev_sound hs hx) (ev_sound hs hy) x y w) h2
  cases op with
  | eql =>
    obtain ⟨hk, h⟩ := cond_some h
    obtain ⟨v, h1, h2⟩ := one_some h
    exact key v (oEq_sound hE hk (neg := false) h1 (ev_sound hs hx) (ev_sound hs hy) x y) h2
  | neq =>
    obtain ⟨hk, h⟩ := cond_some h
    obtain ⟨v, h1, h2⟩ := one_some h
    exact key v (oEq_sound hE hk (neg := true) h1 (ev_sound hs hx) (ev_sound hs hy) x y) h2
  | _ => exact arith _ rfl h
theorem op_unOp (hs : Sit bg w S m σ fr a) {o : Oper} {op : UnOp} {t : TypeId} {x : Operand} (hop : o.op = .unOp op t x) {K : AV → Store → Option Res} {r : Res} {next : Act → World → Prop} {Q : Exit → Act → World → Prop} (hn : Nexts P w S m σ o a K r next)
    (h : opK0 E fr o σ K = some r) : OWp P o a w next Q := by
  unfold opK0 at h
  rw [hop] at h
  simp only [Option.bind_eq_some_iff] at h
  obtain ⟨vx, hx, h⟩ := h
  obtain ⟨v, h1, h2⟩ := one_some h
  obtain ⟨vz, g1, g2⟩ := oUn_sound (P := P) h1 (ev_sound hs hx) w
  refine pure_op hs.inv hn ?_ g2 h2
  unfold execOp
  rw [hop]
  exact vrun g1
theorem op_convert (hE : EnvOk bg P E) (hs : Sit bg w S m σ fr a) {o : Oper} {src dst : TypeId} {x : Operand} (hop : o.op = .convert src dst x) {K : AV → Store → Option Res} {r : Res} {next : Act → World → Prop} {Q : Exit → Act → World → Prop} (hn : Nexts P w S m σ o a K r next)
    (h : opK0 E fr o σ K = some r) : OWp P o a w next Q := by
  unfold opK0 at h
  rw [hop] at h
  simp only [Option.bind_eq_some_iff] at h
  obtain ⟨vx, hx, h⟩ := h
  obtain ⟨hc, h⟩ := cond_some h
  simp only [Bool.and_eq_true] at hc
  have hr := ev_sound hs hx
  split at h
  · rename_i I J hI hJ
    have hIok := tyOk hE.tab hI hc.1
    have hJok := tyOk hE.tab hJ hc.2
    split at h
    · rename_i k0 k h1 h2
      obtain ⟨v, h3, h4⟩ := one_some h
      unfold oConvI at h3
      split at h3
      · rename_i k' n _
        simp only [Option.some.injEq] at h3; subst h3
        refine pure_op hs.inv hn (val := .int k (k.wrap n)) ?_ (Rs.of_int _ _) h4
        unfold execOp
        rw [hop]
        refine vrun ?_
        unfold Go.convert
        rw [hr.int]
        simp only [Sem.run_bind, underlying_run (hIok.intT h1), underlying_run (hJok.intT h2), Result.andThen]
        rfl
      · simp at h3
    · rename_i e h1 h2
      split at h
      · rename_i L hL
        split at h
        · rename_i h3
          obtain ⟨v, σ', h4, h5⟩ := bind2_some h
          obtain ⟨hu, J', hJ', hsz, hkn⟩ := hJok.slice h2
          rw [hL] at hJ'; simp only [Option.some.injEq] at hJ'; subst hJ'
          have hLok := tyOk hE.tab hL hkn
          obtain ⟨s, vz, w', m', g0, g1, g2, g3⟩ := oToBytes_sound (P := P) (e := e) hs.inv h4 hr
          refine wp_value ?_ (hn _ _ _ _ _ _ g2 g3 h5)
          unfold execOp
          rw [hop]
          refine vrun ?_
          unfold Go.convert
          rw [g0]
          simp only [Sem.run_bind, underlying_run (hIok.str h1), underlying_run hu, Result.andThen, underlying_run (hLok.intT h3)]
          exact g1
        · simp at h
      · simp at h
    · rename_i e h1 h2
      split at h
      · rename_i L hL
        split at h
        · rename_i h3
          obtain ⟨v, h4, h5⟩ := one_some h
          obtain ⟨hu, J', hJ', hsz, hkn⟩ := hIok.slice h1
          rw [hL] at hJ'; simp only [Option.some.injEq] at hJ'; subst hJ'
          have hLok := tyOk hE.tab hL hkn
          obtain ⟨vz, g1, g2⟩ := oToStr_sound (P := P) hs.inv h4 hr
          refine pure_op hs.inv hn (val := vz) ?_ g2 h5
          unfold execOp
          rw [hop]
          refine vrun ?_
          have hnstr : ∀ s, a.eval x ≠ .string s := by
            intro s hq
            rw [hq] at g1
            simp [Conv.bytesToString, Go.stuck] at g1
          have hnint : ∀ k n, a.eval x ≠ .int k n := by
            intro k n hq
            rw [hq] at g1
            simp [Conv.bytesToString, Go.stuck] at g1
          unfold Go.convert
          simp only [Sem.run_bind, underlying_run hu, underlying_run (hJok.str h2), Result.andThen]
          cases hev : a.eval x with
          | string s => exact absurd hev (hnstr s)
          | int k n => exact absurd hev (hnint k n)
          | _ =>
            rw [hev] at g1
            simp only [underlying_run (hLok.intT h3)]
            exact g1
        · simp at h
      · simp at h
    · rename_i e0 e h1 h2
      obtain ⟨hsd, h⟩ := cond_some h
      have hsd := Nat.eq_of_beq_eq_true hsd
      split at h
      · rename_i L hL
        split at h
        · rename_i h3
          obtain ⟨v, σ', h4, h5⟩ := bind2_some h
          unfold oMark at h4
          split at h4
          · rename_i s0 id n p off len
            split at h4
            · rename_i B hB
              obtain ⟨h6, h4⟩ := cond_some h4
              simp only [Bool.and_eq_true, Bool.not_eq_true', decide_eq_true_eq] at h6
              split at h4
              · rename_i ds hv
                simp only [Option.some.injEq, Prod.mk.injEq] at h4
                obtain ⟨rfl, rfl⟩ := h4
                obtain ⟨ad, cap, w', S', hev, hmk, hst, hrs⟩ := mark_sref (P := P) hs.inv hB (Nat.eq_of_beq_eq_true h6.1.1) h6.1.2 h6.2 hv hr
                obtain ⟨hu2, L', hL', hsz, hkn⟩ := hJok.slice h2
                rw [hL] at hL'
                simp only [Option.some.injEq] at hL'
                subst hL'
                have hLok := tyOk hE.tab hL hkn
                refine wp_value ?_ (hn _ _ _ _ _ _ hst hrs h5)
                unfold execOp
                rw [hop]
                refine vrun ?_
                unfold Go.convert
                rw [hev]
                obtain ⟨hu1, _⟩ := hIok.slice h1
                simp only [Sem.run_bind, underlying_run hu2, Result.andThen, underlying_run (hLok.intT h3), hsd, beq_self_eq_true, hmk, Sem.run_pure]
              · simp at h4
            · simp at h4
          · simp at h4
        · simp at h
      · simp at h
    · rename_i h1 h2
      obtain ⟨h3, h4⟩ := cond_some h
      unfold isStr at h3
      split at h3
      · rename_i s
        refine pure_op hs.inv hn (val := a.eval x) ?_ hr h4
        unfold execOp
        rw [hop]
        refine vrun ?_
        unfold Go.convert
        rw [hr.str]
        simp only [Sem.run_bind, underlying_run (hIok.str h1), underlying_run (hJok.str h2), Result.andThen, Sem.run_pure]
      · simp at h3
    · simp at h
  · simp at h
end
end Go.AX
