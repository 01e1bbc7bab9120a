import Derived.Test.YtniombjfbdojjaaDoorAx10
import Derived.Test.YtniombjfbdojjaaDoorAx11
import Derived.Test.YtniombjfbdojjaaDoorAx15
import Derived.Deep.LoopGhost
/- AX, part 23: a run of code is sound. -/
namespace Go.AX
variable {bg : Bg}
section
variable {P : Program} {E : Env} {w0 w : World} {S0 S : Nat → Prop} {m0 m : List (Option Nat)} {σ0 σ : Store} {fr : Frame'} {a : Act}
mutual
theorem ren_id : ∀ v : AV, v.ren id = v
  | .ptr .. => rfl
  | .sref .. => rfl
  | .agg vs => by rw [AV.ren, renL_id vs]
  | .fn f a b => by rw [AV.ren, renL_id a, renL_id b]
  | .tup vs => by rw [AV.ren, renL_id vs]
  | .hnd .. => rfl
  | .undef => rfl
  | .dat _ => rfl
  | .fslc .. => rfl
theorem renL_id : ∀ vs : List AV, AV.renL id vs = vs
  | [] => rfl
  | v :: vs => by rw [AV.renL, ren_id v, renL_id vs]
end
theorem blkRen_id (B : Blk) : blkRen id B = B := by unfold blkRen; rw [ren_id]
theorem Rs.ren_id {w : World} {S : Nat → Prop} {T T' : Nat → Option Ent} {v : AV} {u : Value} (hr : ∀ id ∈ v.ids, ∀ e, T id = some e → T' id = some e) (h : Rs w S T v u) : Rs w S T' v u := by
  have := Rs.ren (r := id) hr h
  rwa [AX.ren_id] at this
theorem idsL_mem : ∀ {vs : List AV} {v : AV} {i : Nat}, v ∈ vs → i ∈ v.ids → i ∈ AV.idsL vs
  | x :: vs, v, i, hv, hi => by
    rw [AV.idsL]
    rcases List.mem_cons.1 hv with rfl | hv
    · exact List.mem_append_left _ hi
    · exact List.mem_append_right _ (idsL_mem hv hi)
structure Sit0 (bg : Bg) (w0 : World) (S0 : Nat → Prop) (m0 : List (Option Nat)) (σ0 : Store) (w : World) (S : Nat → Prop) (m : List (Option Nat)) (σ : Store) (fr : Frame') (a : Act) : Prop where
  sit : Sit bg w S m σ fr a
  st : Stp w0 S0 m0 σ0 w S m σ
  low : bg.nl ≤ σ0.length
structure Same (ds : List Nat) (a a' : Act) : Prop where
  size : a'.tmps.size = a.tmps.size
  get : ∀ i, i ∉ ds → a'.tmps.getD i Go.undef = a.tmps.getD i Go.undef
theorem Same.refl (ds : List Nat) (a : Act) : Same ds a a := ⟨rfl, fun _ _ => rfl⟩
theorem Same.trans {ds : List Nat} {a a' a'' : Act} (h : Same ds a a') (k : Same ds a' a'') : Same ds a a'' := ⟨k.size.trans h.size, fun i hi => (k.get i hi).trans (h.get i hi)⟩
theorem Same.mono {ds es : List Nat} {a a' : Act} (h : Same ds a a') (hs : ∀ i ∈ ds, i ∈ es) : Same es a a' := ⟨h.size, fun i hi => h.get i fun hd => hi (hs i hd)⟩
theorem Same.put {ds : List Nat} {a : Act} {o : Option Tmp} {v : Value} (h : ∀ d, o = some d → d ∈ ds) : Same ds a (a.put o v) := by
  cases o with
  | none => exact Same.refl _ _
  | some d =>
    refine ⟨by simp [Act.put], fun i hi => ?_⟩
    have hd := h d rfl
    have hne : d ≠ i := fun e => hi (e ▸ hd)
    simp [Act.put, Array.getElem?_setIfInBounds_ne hne]
theorem Sit0.step {w' : World} {S' : Nat → Prop} {m' : List (Option Nat)} {σ' : Store} (h : Sit0 bg w0 S0 m0 σ0 w S m σ fr a) (k : Stp w S m σ w' S' m' σ') : Sit0 bg w0 S0 m0 σ0 w' S' m' σ' fr a :=
  ⟨h.sit.step k, h.st.trans k, h.low⟩
theorem Sit0.put {v : AV} {u : Value} (h : Sit0 bg w0 S0 m0 σ0 w S m σ fr a) (dst : Option Tmp) (hv : Rs w S (tbl m σ) v u) : Sit0 bg w0 S0 m0 σ0 w S m σ (setDst fr dst v) (a.put dst u) :=
  ⟨h.sit.put dst hv, h.st, h.low⟩
theorem Sit0.know {d : Nat} {v : AV} (h : Sit0 bg w0 S0 m0 σ0 w S m σ fr a) (hv : Rs w S (tbl m σ) v (a.tmps.getD d Go.undef)) : Sit0 bg w0 S0 m0 σ0 w S m σ (fr.set d v) a :=
  ⟨h.sit.know hv, h.st, h.low⟩
theorem Sit0.forget {d : Nat} (h : Sit0 bg w0 S0 m0 σ0 w S m σ fr a) : Sit0 bg w0 S0 m0 σ0 w S m σ (fr.set d .undef) a := h.know trivial
theorem Sit0.cut {k : Nat} (h : Sit0 bg w0 S0 m0 σ0 w S m σ fr a) (hk : σ0.length ≤ k) (hf : idsBelow k fr = true) (hs : (σ.take k).all (fun B => idsBelow k [B.v]) = true) :
    Sit0 bg w0 S0 m0 σ0 w S (m.take k) (σ.take k) fr a := by
  have hT : ∀ id, id < k → ∀ e, tbl m σ id = some e → tbl (m.take k) (σ.take k) id = some e := by
    intro id hid e he
    unfold tbl at he ⊢
    rw [List.getElem?_take_of_lt hid, List.getElem?_take_of_lt hid]
    exact he
  have hinv := h.sit.inv
  have hinv' : Inv w S (m.take k) (σ.take k) := by
    refine ⟨by simp [hinv.len], hinv.sdom, hinv.scel, ?_, ?_⟩
    · intro i j b h1 h2
      rw [List.getElem?_take] at h1 h2
      split at h1 <;> split at h2 <;> simp_all
      exact hinv.inj i j b h1 h2
    · intro i B hB
      have hik : i < k := by
        rw [List.getElem?_take] at hB
        split at hB
        · assumption
        · simp at hB
      rw [List.getElem?_take_of_lt hik] at hB
      have h1 := hinv.blk i B hB
      have h2 : (m.take k).getD i none = m.getD i none := by
        rw [List.getD_eq_getElem?_getD, List.getD_eq_getElem?_getD, List.getElem?_take_of_lt hik]
      rw [h2]
      have h3 := List.all_eq_true.1 hs B (List.mem_of_getElem? (by rw [List.getElem?_take_of_lt hik]; exact hB))
      unfold idsBelow at h3
      simp only [AV.idsL, List.append_nil, List.all_eq_true, decide_eq_true_eq] at h3
      have := BlkOk.ren (r := id) (T' := tbl (m.take k) (σ.take k)) (fun i hi e he => hT i (h3 i hi) e he) h1
      rwa [blkRen_id] at this
  have htx : TExt (tbl m0 σ0) (tbl (m.take k) (σ.take k)) := by
    intro i e he
    obtain ⟨e', h1, h2⟩ := h.st.tx i e he
    refine ⟨e', hT i ?_ e' h1, h2⟩
    obtain ⟨ob, B, g1, g2, g3⟩ := tbl_inv he
    have := (List.getElem?_eq_some_iff.1 g2).1
    omega
  have hbg : bg.prop w S (tbl (m.take k) (σ.take k)) := ⟨h.sit.bgp.1, h.sit.bgp.2.1, fun i l R fl hi => by
    obtain ⟨⟨e, e1, e2⟩, e3, e4, e5⟩ := h.sit.bgp.2.2 i l R fl hi
    obtain ⟨q1, q2⟩ := h.sit.bgp.2.1 i l R fl hi
    have hlow := h.low
    refine ⟨⟨e, hT i (by omega) e e1, e2⟩, e3, e4, fun j => ?_⟩
    rcases Nat.lt_or_ge j fl.length with hl | hl
    · refine Rs.ren_id (fun id hid e he => hT id ?_ e he) (e5 j)
      have hm : fl.getD j .undef ∈ fl := by
        rw [List.getD_eq_getElem?_getD, List.getElem?_eq_getElem hl]; exact List.getElem_mem hl
      unfold idsBelow at q2
      have := List.all_eq_true.1 q2 id (idsL_mem hm hid)
      simp only [decide_eq_true_eq] at this
      omega
    · rw [List.getD_eq_getElem?_getD, List.getElem?_eq_none hl]; trivial⟩
  refine ⟨⟨hinv', h.sit.len, fun i => ?_, h.sit.defers, h.sit.dnd, hbg, h.sit.nbl, by have := h.low; have := h.sit.nll; rw [List.length_take]; omega⟩, ⟨hinv', ?_, htx⟩, h.low⟩
  · have hi := h.sit.slot i
    rcases Nat.lt_or_ge i fr.length with hl | hl
    · refine Rs.ren_id (fun id hid e he => hT id ?_ e he) hi
      have hmem : fr.getD i .undef ∈ fr := by
        rw [List.getD_eq_getElem?_getD, List.getElem?_eq_getElem hl]; exact List.getElem_mem hl
      unfold idsBelow at hf
      simp only [List.all_eq_true, decide_eq_true_eq] at hf
      exact hf id (idsL_mem hmem hid)
    · rw [List.getD_eq_getElem?_getD, List.getElem?_eq_none hl]
      trivial
  · have e := h.st.ext
    refine ⟨e.kp, e.os, e.tape, e.output, e.size, e.same, e.snew, fun i b hib => ?_⟩
    rw [List.getElem?_take] at hib
    split at hib
    · exact e.mnew i b hib
    · simp at hib
theorem hint1_sound {base : Nat} (hb : base = σ0.length) {h : Hint} {fr' : Frame'} {σ' : Store} (hs : Sit0 bg w0 S0 m0 σ0 w S m σ fr a) (hh : hint1 base h fr σ = some (fr', σ')) :
    ∃ S' m', Sit0 bg w0 S0 m0 σ0 w S' m' σ' fr' a := by
  cases h with
  | freeze i =>
    simp only [hint1, Option.bind_eq_some_iff, Option.some.injEq, Prod.mk.injEq] at hh
    obtain ⟨⟨r, s⟩, h1, rfl, rfl⟩ := hh
    obtain ⟨S1, s1, r1⟩ := freeze_sound hs.sit.inv h1 (hs.sit.slot i)
    exact ⟨S1, m, (hs.step s1).know r1⟩
  | ownAt i p =>
    simp only [hint1, Option.map_eq_some_iff, Prod.mk.injEq] at hh
    obtain ⟨s, h1, rfl, rfl⟩ := hh
    obtain ⟨m1, s1⟩ := ownAt_sound hs.sit.inv h1 (hs.sit.slot i)
    exact ⟨S, m1, hs.step s1⟩
  | vp i =>
    simp only [hint1, Option.map_eq_some_iff, Prod.mk.injEq] at hh
    obtain ⟨⟨r, s⟩, h1, rfl, rfl⟩ := hh
    obtain ⟨S1, s1, r1⟩ := vpOf_sound hs.sit.inv h1 (hs.sit.slot i)
    exact ⟨S1, m, (hs.step s1).know r1⟩
  | frzAt i p =>
    simp only [hint1, Option.map_eq_some_iff, Prod.mk.injEq] at hh
    obtain ⟨s, h1, rfl, rfl⟩ := hh
    obtain ⟨S1, s1⟩ := frzAt_sound hs.sit.inv h1 (hs.sit.slot i)
    exact ⟨S1, m, hs.step s1⟩
  | own i =>
    simp only [hint1, Option.bind_eq_some_iff, Option.some.injEq, Prod.mk.injEq] at hh
    obtain ⟨⟨r, s⟩, h1, rfl, rfl⟩ := hh
    obtain ⟨m1, s1, r1⟩ := oOwn_sound hs.sit.inv h1 (hs.sit.slot i)
    exact ⟨S, m1, (hs.step s1).know r1⟩
  | kill i =>
    simp only [hint1, Option.some.injEq, Prod.mk.injEq] at hh
    obtain ⟨rfl, rfl⟩ := hh
    exact ⟨S, m, hs.forget⟩
  | is i v =>
    simp only [hint1] at hh
    obtain ⟨hc, hh⟩ := cond_some hh
    simp only [Option.some.injEq, Prod.mk.injEq] at hh
    obtain ⟨rfl, rfl⟩ := hh
    exact ⟨S, m, hs.know (AV.eq_of_eqb hc ▸ hs.sit.slot i)⟩
  | same i j =>
    simp only [hint1] at hh
    obtain ⟨hc, hh⟩ := cond_some hh
    simp only [Option.some.injEq, Prod.mk.injEq] at hh
    obtain ⟨rfl, rfl⟩ := hh
    exact ⟨S, m, hs.know (AV.eq_of_eqb hc ▸ hs.sit.slot i)⟩
  | cut k =>
    simp only [hint1] at hh
    obtain ⟨hc, hh⟩ := cond_some hh
    simp only [Option.some.injEq, Prod.mk.injEq] at hh
    obtain ⟨rfl, rfl⟩ := hh
    simp only [Bool.and_eq_true, decide_eq_true_eq] at hc
    exact ⟨S, m.take k, hs.cut (by omega) hc.1.2 hc.2⟩
theorem hints_sound {base : Nat} (hb : base = σ0.length) : ∀ {hs : List Hint} {fr fr' : Frame'} {σ σ' : Store} {S : Nat → Prop} {m : List (Option Nat)}, Sit0 bg w0 S0 m0 σ0 w S m σ fr a → hints base hs fr σ = some (fr', σ') →
    ∃ S' m', Sit0 bg w0 S0 m0 σ0 w S' m' σ' fr' a
  | [], fr, fr', σ, σ', S, m, h, hh => by
    simp only [hints, Option.some.injEq, Prod.mk.injEq] at hh
    obtain ⟨rfl, rfl⟩ := hh
    exact ⟨S, m, h⟩
  | x :: hs, fr, fr', σ, σ', S, m, h, hh => by
    simp only [hints, Option.bind_eq_some_iff] at hh
    obtain ⟨⟨f1, s1⟩, h1, h2⟩ := hh
    obtain ⟨S', m', g1⟩ := hint1_sound hb h h1
    exact hints_sound hb g1 h2
theorem getF_get (fr : Frame') (ws : List Nat) (k : Nat) : (getF fr ws).getD k .undef = match ws[k]? with | some i => fr.getD i .undef | none => .undef := by
  unfold getF
  rw [List.getD_eq_getElem?_getD, List.getElem?_map]
  cases ws[k]? <;> rfl
theorem undF_sit {ds : List Nat} : ∀ {fr : Frame'}, Sit0 bg w0 S0 m0 σ0 w S m σ fr a → Sit0 bg w0 S0 m0 σ0 w S m σ (undF fr ds) a := by
  induction ds with
  | nil => exact fun h => h
  | cons d ds ih => exact fun h => ih h.forget
theorem cleanF_get (l : List Nat) : ∀ (fr : Frame') (i k : Nat), (cleanF l k fr).getD i .undef = .undef ∨ (cleanF l k fr).getD i .undef = fr.getD i .undef
  | [], i, k => .inl rfl
  | v :: fr, 0, k => by
    simp only [cleanF, List.getD_cons_zero]
    cases inL k l <;> simp
  | v :: fr, i + 1, k => by
    simp only [cleanF, List.getD_cons_succ]
    exact cleanF_get l fr i (k + 1)
theorem cleanF_length (l : List Nat) : ∀ (fr : Frame') (k : Nat), (cleanF l k fr).length = fr.length
  | [], _ => rfl
  | v :: fr, k => by simp [cleanF, cleanF_length l fr (k + 1)]
theorem Sit0.clean {l : List Nat} (h : Sit0 bg w0 S0 m0 σ0 w S m σ fr a) : Sit0 bg w0 S0 m0 σ0 w S m σ (cleanF l 0 fr) a := by
  refine ⟨⟨h.sit.inv, by rw [cleanF_length]; exact h.sit.len, fun i => ?_, h.sit.defers, h.sit.dnd, h.sit.bgp, h.sit.nbl, h.sit.nll⟩, h.st, h.low⟩
  rcases cleanF_get l fr i 0 with e | e <;> rw [e]
  · trivial
  · exact h.sit.slot i
theorem undF_length (ds : List Nat) : ∀ fr : Frame', (undF fr ds).length = fr.length := by
  induction ds with
  | nil => exact fun _ => rfl
  | cons d ds ih => intro fr; rw [undF, ih]; simp
theorem undF_get {ds : List Nat} {i : Nat} : ∀ {fr : Frame'}, (i ∈ ds → (undF fr ds).getD i .undef = .undef) ∧ (i ∉ ds → (undF fr ds).getD i .undef = fr.getD i .undef) := by
  induction ds with
  | nil => intro fr; simp [undF]
  | cons d ds ih =>
    intro fr
    have key : ∀ fr : Frame', (fr.getD i .undef = .undef → (undF fr ds).getD i .undef = .undef) := by
      intro fr hf
      by_cases hi : i ∈ ds
      · exact (ih (fr := fr)).1 hi
      · rw [(ih (fr := fr)).2 hi, hf]
    refine ⟨fun hi => ?_, fun hi => ?_⟩
    · rw [undF]
      by_cases he : i = d
      · subst he
        apply key
        rw [List.getD_eq_getElem?_getD]
        rcases Nat.lt_or_ge i fr.length with hl | hl
        · rw [List.getElem?_set_self hl]; rfl
        · rw [List.getElem?_eq_none (by simpa using hl)]; rfl
      · exact (ih (fr := fr.set d .undef)).1 (by simpa [he] using hi)
    · simp only [List.mem_cons, not_or] at hi
      rw [undF, (ih (fr := fr.set d .undef)).2 hi.2]
      rw [List.getD_eq_getElem?_getD, List.getD_eq_getElem?_getD, List.getElem?_set_ne (fun e => hi.1 e.symm)]
theorem Sit0.merge {w' : World} {S' : Nat → Prop} {m' : List (Option Nat)} {σ' : Store} {fr' : Frame'} {a' : Act} {ds ws : List Nat} (h : Sit0 bg w0 S0 m0 σ0 w S m σ fr a) (h' : Sit0 bg w0 S0 m0 σ0 w' S' m' σ' fr' a')
    (hrs : ∀ v u, Rs w S (tbl m σ) v u → Rs w' S' (tbl m' σ') v u) (hs : Same ds a a') :
    Sit0 bg w0 S0 m0 σ0 w' S' m' σ' (putF (undF fr ds) (getF fr' ws) 0 ws) a' := by
  have base : Sit0 bg w0 S0 m0 σ0 w' S' m' σ' (undF fr ds) a' := by
    refine ⟨⟨h'.sit.inv, by rw [undF_length, h.sit.len, hs.size], fun i => ?_, h'.sit.defers, h'.sit.dnd, h'.sit.bgp, h'.sit.nbl, h'.sit.nll⟩, h'.st, h'.low⟩
    by_cases hi : i ∈ ds
    · rw [undF_get.1 hi]; trivial
    · rw [undF_get.2 hi, hs.get i hi]
      exact hrs _ _ (h.sit.slot i)
  have put : ∀ (l : List Nat) (k : Nat) (f : Frame'), (∀ j, l[j]? = ws[k + j]?) → Sit0 bg w0 S0 m0 σ0 w' S' m' σ' f a' → Sit0 bg w0 S0 m0 σ0 w' S' m' σ' (putF f (getF fr' ws) k l) a' := by
    intro l
    induction l with
    | nil => intro k f _ hf; exact hf
    | cons i l ih =>
      intro k f hl hf
      rw [putF]
      refine ih (k + 1) _ (fun j => ?_) (hf.know ?_)
      · have := hl (j + 1)
        simpa [Nat.add_assoc, Nat.add_comm 1 j] using this
      · have := hl 0
        simp only [List.getElem?_cons_zero, Nat.add_zero] at this
        rw [getF_get, ← this]
        exact h'.sit.slot i
  exact put ws 0 _ (fun j => by rw [Nat.zero_add]) base
end
end Go.AX

namespace Go.AX
variable {bg : Bg}
section
variable {P : Program} {ops : Array Oper} {Q : Exit → Act → World → Prop}
theorem ins_mem {x y : Nat} {l : List Nat} : y ∈ ins x l ↔ y = x ∨ y ∈ l := by
  unfold ins
  cases h : inL x l with
  | true =>
    have := inL_iff.1 h
    simp only [cond_true]
    constructor
    · exact .inr
    · rintro (rfl | h)
      · exact this
      · exact h
  | false => simp
theorem opsDst_cons {o : Oper} {l : List Oper} {d : Nat} : d ∈ opsDst (o :: l) ↔ o.dst = some d ∨ d ∈ opsDst l := by
  unfold opsDst
  rw [List.foldr_cons]
  cases h : o.dst with
  | none => simp
  | some x =>
    simp only [ins_mem, Option.some.injEq]
    constructor
    · rintro (rfl | h)
      · exact .inl rfl
      · exact .inr h
    · rintro (rfl | h)
      · exact .inl rfl
      · exact .inr h
theorem opsDst_mem {l : List Oper} {d : Nat} : d ∈ opsDst l ↔ ∃ o ∈ l, o.dst = some d := by
  induction l with
  | nil => simp [opsDst]
  | cons o l ih => rw [opsDst_cons, ih]; simp
theorem opsDst_sub {l k : List Oper} (h : ∀ o ∈ l, o ∈ k) : ∀ d ∈ opsDst l, d ∈ opsDst k := by
  intro d hd
  obtain ⟨o, h1, h2⟩ := opsDst_mem.1 hd
  exact opsDst_mem.2 ⟨o, h o h1, h2⟩
theorem gdst_eq (j : Nat) : gdst ops.toList j = (ops[j]?).bind (·.dst) := by
  unfold gdst; rw [Array.getElem?_toList]
theorem yielded_same {ds : List Nat} {a a' : Act} (h : Same ds a a') {j : Nat} (hj : ∀ d, gdst ops.toList j = some d → d ∉ ds) : yielded ops a'.tmps j = yielded ops a.tmps j := by
  unfold yielded
  rw [← gdst_eq]
  cases hg : gdst ops.toList j with
  | none => rfl
  | some d =>
    have h1 := h.get d (hj d hg)
    simp only [Option.bind_some]
    rw [Array.getD_eq_getD_getElem?, Array.getD_eq_getD_getElem?] at h1
    rcases Nat.lt_or_ge d a.tmps.size with hl | hl
    · have hl' : d < a'.tmps.size := by rw [h.size]; exact hl
      rw [Array.getElem?_eq_getElem hl, Array.getElem?_eq_getElem hl'] at h1 ⊢
      simp only [Option.getD_some] at h1
      rw [h1]
    · rw [Array.getElem?_eq_none hl, Array.getElem?_eq_none (by rw [h.size]; exact hl)]
theorem yielded_put_undef {a : Act} {o : Option Tmp} {j : Nat} : yielded ops (a.put o Go.undef).tmps j = none ∨ yielded ops (a.put o Go.undef).tmps j = yielded ops a.tmps j := by
  cases o with
  | none => exact .inr rfl
  | some d =>
    unfold yielded
    cases hg : (ops[j]?).bind (·.dst) with
    | none => exact .inl rfl
    | some e =>
      simp only [Option.bind_some, Act.put]
      by_cases he : d = e
      · subst he
        left
        rcases Nat.lt_or_ge d a.tmps.size with hl | hl
        · rw [Array.getElem?_setIfInBounds_self_of_lt hl]; rfl
        · rw [Array.getElem?_eq_none (by simpa using hl)]
      · right
        rw [Array.getElem?_setIfInBounds_ne he]
theorem yielded_put_self {a : Act} {i : Nat} {o : Oper} (ho : ops[i]? = some o) : yielded ops (a.put o.dst Go.undef).tmps i = none := by
  unfold yielded
  rw [ho]
  simp only [Option.bind_some]
  cases hd : o.dst with
  | none => rfl
  | some d =>
    simp only [Option.bind_some, Act.put]
    rcases Nat.lt_or_ge d a.tmps.size with hl | hl
    · rw [Array.getElem?_setIfInBounds_self_of_lt hl]; rfl
    · rw [Array.getElem?_eq_none (by simpa using hl)]
theorem grpLen_le (j : Nat) (w : Bool) : ∀ (l : List Oper) (Z : List Nat) (i : Nat), grpLen j w Z i l ≤ l.length
  | [], _, _ => Nat.le_refl _
  | o :: l, Z, i => by
    unfold grpLen
    split
    · cases hc : (Nat.beq _ j && (_ == w)) || inL _ Z with
      | true => simp only [cond_true, List.length_cons]; exact Nat.succ_le_succ (grpLen_le j w l _ _)
      | false => simp
    · simp
theorem skip_sound {j : Nat} {wt : Bool} {rest : List Nat} {w : World} : ∀ (l : List Oper) (i : Nat) (Z : List Nat) (a : Act), (∀ (k : Nat) (o : Oper), l[k]? = some o → ops[i + k]? = some o) → yielded ops a.tmps j ≠ some wt → (∀ z ∈ Z, yielded ops a.tmps z = none) →
    (∀ a', Same (opsDst (l.take (grpLen j wt Z i l))) a a' → a'.defers = a.defers → wpOpsIn (Fz bg.ro) 0 P ops Q rest a' w) → wpOpsIn (Fz bg.ro) 0 P ops Q (List.range' i (grpLen j wt Z i l) ++ rest) a w
  | [], i, Z, a, hl, hj, hz, h => by
    simp only [grpLen, List.range'_zero, List.nil_append]
    exact h a (Same.refl _ _) rfl
  | o :: l, i, Z, a, hl, hj, hz, h => by
    have h0 : ops[i]? = some o := by simpa using hl 0 o (by simp)
    have none_case : ∀ (l' : List Nat), (∀ a', Same (opsDst ((o :: l).take 0)) a a' → a'.defers = a.defers → wpOpsIn (Fz bg.ro) 0 P ops Q rest a' w) → wpOpsIn (Fz bg.ro) 0 P ops Q (List.range' i 0 ++ rest) a w := by
      intro _ hh
      simpa using hh a (Same.refl _ _) rfl
    unfold grpLen at h ⊢
    cases hg : o.guard with
    | none => rw [hg] at h; exact none_case [] h
    | some g =>
      obtain ⟨j', w'⟩ := g
      rw [hg] at h
      simp only at h ⊢
      cases hc : (Nat.beq j' j && (w' == wt)) || inL j' Z with
      | false => rw [hc] at h; exact none_case [] h
      | true =>
        rw [hc] at h
        simp only [cond_true] at h ⊢
        have hw : Region.wanted o (yielded ops a.tmps) = false := by
          simp only [Region.wanted, hg]
          simp only [Bool.or_eq_true, Bool.and_eq_true, beq_iff_eq] at hc
          rcases hc with ⟨c1, rfl⟩ | hc
          · have c1 := Nat.eq_of_beq_eq_true c1
            subst c1
            simpa using hj
          · rw [hz j' (inL_iff.1 hc)]; rfl
        rw [List.range'_succ, List.cons_append]
        simp only [wpOpsIn, h0, hw, Bool.false_eq_true, if_false]
        refine ⟨fun _ _ => trivial, ?_⟩
        refine skip_sound l (i + 1) (i :: Z) _ (fun k o' ho' => ?_) ?_ ?_ ?_
        · have := hl (k + 1) o' (by simpa using ho')
          rw [Nat.add_assoc, Nat.add_comm 1 k]; exact this
        · rcases yielded_put_undef (ops := ops) (a := a) (o := o.dst) (j := j) with e | e <;> rw [e]
          · simp
          · exact hj
        · intro z hz'
          rcases List.mem_cons.1 hz' with rfl | hz'
          · exact yielded_put_self h0
          · rcases yielded_put_undef (ops := ops) (a := a) (o := o.dst) (j := z) with e | e <;> rw [e]
            exact hz z hz'
        · intro a' hs hd
          refine h a' ?_ (hd.trans (by cases o.dst <;> rfl))
          rw [List.take_succ_cons]
          exact (Same.put (fun d hd => opsDst_cons.2 (.inl hd))).trans (hs.mono fun d hd => opsDst_cons.2 (.inr hd))
end
section
variable {P : Program} {ops : Array Oper} {Q : Exit → Act → World → Prop} {S0 S : Nat → Prop}
theorem EnvOk.rebase {E : Env} (h : EnvOk bg P E) (n : Nat) : EnvOk bg P (E.rebase n) := ⟨h.tab, h.callee, h.disp, h.mixed, h.yld⟩
theorem Sit0.start {w : World} {S : Nat → Prop} {m : List (Option Nat)} {σ : Store} {fr : Frame'} {a : Act} {w0 : World} {m0 : List (Option Nat)} {σ0 : Store} (h : Sit0 bg w0 S0 m0 σ0 w S m σ fr a) : Sit0 bg w S m σ w S m σ fr a :=
  ⟨h.sit, Stp.refl h.sit.inv, h.sit.nll⟩
theorem opsK_sound {rg : Nat} : ∀ (n : Nat) (E : Env), EnvOk bg P E → ∀ (act : List (Nat × Bool)) (out : List Nat) (l : List Oper) (i : Nat) (rest : List Nat) (w0 : World) (S0 : Nat → Prop) (m0 : List (Option Nat)) (σ0 : Store) (w : World) (S : Nat → Prop) (m : List (Option Nat)) (σ : Store) (fr : Frame') (a : Act) (K : Frame' → Store → Option Res) (r : Res),
    E.base = σ0.length → opsK E rg ops.toList n act out l i fr σ K = some r → (∀ (k : Nat) (o : Oper), l[k]? = some o → ops[i + k]? = some o) →
    (∀ g ∈ act, yielded ops a.tmps g.1 = some g.2 ∧ ∀ d, gdst ops.toList g.1 = some d → d ∉ opsDst l) → Sit0 bg w0 S0 m0 σ0 w S m σ fr a →
    (∀ w' S' m' σ' fr' a', Sit0 bg w0 S0 m0 σ0 w' S' m' σ' fr' a' → Same (opsDst l) a a' → K fr' σ' = some r → wpOpsIn (Fz bg.ro) 0 P ops Q rest a' w') →
    wpOpsIn (Fz bg.ro) 0 P ops Q (List.range' i l.length ++ rest) a w
  | 0, E, hE, act, out, l, i, rest, w0, S0, m0, σ0, w, S, m, σ, fr, a, K, r, hb, h, hl, hact, hs, hK => by simp [opsK] at h
  | n + 1, E, hE, act, out, [], i, rest, w0, S0, m0, σ0, w, S, m, σ, fr, a, K, r, hb, h, hl, hact, hs, hK => by
    simp only [List.length_nil, List.range'_zero, List.nil_append]
    exact hK _ _ _ _ _ _ hs (Same.refl _ _) (by simpa [opsK] using h)
  | n + 1, E, hE, act, out, o :: l, i, rest, w0, S0, m0, σ0, w, S, m, σ, fr, a, K, r, hb, h, hl, hact, hs, hK => by
    have h0 : ops[i]? = some o := by simpa using hl 0 o (by simp)
    have hl' : ∀ (k : Nat) (o : Oper), l[k]? = some o → ops[i + 1 + k]? = some o := fun k o' ho' => by
      have := hl (k + 1) o' (by simpa using ho')
      rw [Nat.add_assoc, Nat.add_comm 1 k]; exact this
    have run : Region.wanted o (yielded ops a.tmps) = true → ((hintsT E.base (E.hint rg i) fr σ).k fun p => opN E p.1 o p.2 fun v σ => opsK E rg ops.toList n act out l (i + 1) (setDst p.1 o.dst v) σ K) = some r →
        wpOpsIn (Fz bg.ro) 0 P ops Q (List.range' i (o :: l).length ++ rest) a w := by
      intro hw hr
      obtain ⟨⟨fr1, σ1⟩, h1, h2⟩ := T.k_some hr
      obtain ⟨S1, m1, hs1⟩ := hints_sound hb hs (hintsT_run h1)
      rw [List.length_cons, List.range'_succ, List.cons_append]
      simp only [wpOpsIn, h0, hw, if_true]
      refine opN_sound hE hs1.sit ?_ h2 bg.ro
      intro v σ' val w' S' m' hst hv hk
      refine opsK_sound n E hE act out l (i + 1) rest w0 S0 m0 σ0 w' S' m' σ' _ _ K r hb hk hl' ?_ ((hs1.step hst).put o.dst hv) ?_
      · intro g hg
        obtain ⟨g1, g2⟩ := hact g hg
        refine ⟨?_, fun d hd hm => g2 d hd (opsDst_cons.2 (.inr hm))⟩
        rw [yielded_same (ds := opsDst [o]) (Same.put fun d hd => opsDst_cons.2 (.inl hd)) (fun d hd hm => g2 d hd ?_)]
        · exact g1
        · rcases opsDst_cons.1 hm with hm | hm
          · exact opsDst_cons.2 (.inl hm)
          · simp [opsDst] at hm
      · intro w'' S'' m'' σ'' fr'' a'' hs'' hsame hk''
        exact hK _ _ _ _ _ _ hs'' ((Same.put fun d hd => opsDst_cons.2 (.inl hd)).trans (hsame.mono fun d hd => opsDst_cons.2 (.inr hd))) hk''
    unfold opsK at h
    simp only at h
    cases hg : o.guard with
    | none =>
      rw [hg] at h
      exact run (by simp [Region.wanted, hg]) h
    | some g =>
      obtain ⟨j, wt⟩ := g
      rw [hg] at h
      simp only at h
      cases hin : inG j wt act with
      | true =>
        rw [hin] at h
        refine run ?_ h
        have : (j, wt) ∈ act := by
          have key : ∀ l : List (Nat × Bool), inG j wt l = true → (j, wt) ∈ l := by
            intro l
            induction l with
            | nil => intro h; simp [inG] at h
            | cons x l ih =>
              obtain ⟨j', w'⟩ := x
              intro h
              simp only [inG, Bool.or_eq_true, Bool.and_eq_true, beq_iff_eq] at h
              rcases h with ⟨h1, rfl⟩ | h
              · have := Nat.eq_of_beq_eq_true h1
                subst this
                exact List.mem_cons_self
              · exact List.mem_cons_of_mem _ (ih h)
          exact key act hin
        simp [Region.wanted, hg, (hact _ this).1]
      | false =>
        rw [hin] at h
        simp only [cond_false] at h
        cases hd : gdst ops.toList j with
        | none => rw [hd] at h; simp at h
        | some d =>
          rw [hd] at h
          simp only [Option.bind_eq_some_iff] at h
          obtain ⟨b, hb1, h⟩ := h
          have hslot := asB_sound hb1 (hs.sit.slot d)
          have hy : yielded ops a.tmps j = some b := by
            unfold yielded
            rw [← gdst_eq, hd]
            simp only [Option.bind_some]
            rw [Array.getD_eq_getD_getElem?] at hslot
            cases ht : a.tmps[d]? with
            | none => rw [ht] at hslot; simp [Go.undef] at hslot
            | some u => rw [ht] at hslot; simp only [Option.getD_some] at hslot; subst hslot; rfl
          generalize hkk : grpLen j wt [] i (o :: l) = k at h
          have hkle : k ≤ (o :: l).length := by rw [← hkk]; exact grpLen_le _ _ _ _ _
          obtain ⟨hchk, h⟩ := cond_some h
          have hdG : d ∉ opsDst ((o :: l).take k) := by
            intro hm
            obtain ⟨o', h1, h2⟩ := opsDst_mem.1 hm
            have := List.all_eq_true.1 hchk o' h1
            simp only [h2] at this
            simp at this
          have h : joinK (fun vs σ => opsK E rg ops.toList n act out ((o :: l).drop k) (i + k) (putF (undF (fr.set d (aBool b)) (opsDst ((o :: l).take k))) vs 0 ((opsDst ((o :: l).take k)).filter fun x => inL x (opsLive ops.toList ((o :: l).drop k) out))) σ K)
              (fun k' => cond (b == wt) (opsK (E.rebase σ.length) rg ops.toList n ((j, wt) :: act) (opsLive ops.toList ((o :: l).drop k) out) ((o :: l).take k) i (fr.set d (aBool b)) σ fun fr σ => k' (getF fr ((opsDst ((o :: l).take k)).filter fun x => inL x (opsLive ops.toList ((o :: l).drop k) out))) σ)
                (k' (getF (undF (fr.set d (aBool b)) (opsDst ((o :: l).take k))) ((opsDst ((o :: l).take k)).filter fun x => inL x (opsLive ops.toList ((o :: l).drop k) out))) σ)) = some r := by cases b <;> exact h
          unfold joinK at h
          have hs1 : Sit0 bg w0 S0 m0 σ0 w S m σ (fr.set d (aBool b)) a := hs.know (by rw [hslot]; exact Rs.of_bool b)
          generalize fr.set d (aBool b) = fr1 at h hs1
          have hsplit : List.range' i (o :: l).length ++ rest = List.range' i k ++ (List.range' (i + k) ((o :: l).drop k).length ++ rest) := by
            rw [← List.append_assoc, List.length_drop]
            congr 1
            rw [List.range'_append_1]
            congr 1
            omega
          rw [hsplit]
          have hR : ∀ (x : Nat) (o' : Oper), ((o :: l).drop k)[x]? = some o' → ops[i + k + x]? = some o' := by
            intro x o' ho'
            rw [List.getElem?_drop] at ho'
            rw [Nat.add_assoc]; exact hl _ _ ho'
          have hG : ∀ (x : Nat) (o' : Oper), ((o :: l).take k)[x]? = some o' → ops[i + x]? = some o' := by
            intro x o' ho'
            rw [List.getElem?_take] at ho'
            split at ho'
            · exact hl _ _ ho'
            · simp at ho'
          have subR : ∀ o' ∈ (o :: l).drop k, o' ∈ o :: l := fun o' ho' => List.mem_of_mem_drop ho'
          have subG : ∀ o' ∈ (o :: l).take k, o' ∈ o :: l := fun o' ho' => List.mem_of_mem_take ho'
          have after : ∀ (w' : World) (S' : Nat → Prop) (m' : List (Option Nat)) (σ' : Store) (fr' : Frame') (a' : Act), Sit0 bg w S m σ w' S' m' σ' fr' a' → Same (opsDst ((o :: l).take k)) a a' →
              opsK E rg ops.toList n act out ((o :: l).drop k) (i + k) (putF (undF fr1 (opsDst ((o :: l).take k))) (getF fr' ((opsDst ((o :: l).take k)).filter fun x => inL x (opsLive ops.toList ((o :: l).drop k) out))) 0 ((opsDst ((o :: l).take k)).filter fun x => inL x (opsLive ops.toList ((o :: l).drop k) out))) σ' K = some r →
              wpOpsIn (Fz bg.ro) 0 P ops Q (List.range' (i + k) ((o :: l).drop k).length ++ rest) a' w' := by
            intro w' S' m' σ' fr' a' hs' hsame hk
            have hs0 : Sit0 bg w0 S0 m0 σ0 w' S' m' σ' fr' a' := ⟨hs'.sit, hs.st.trans hs'.st, hs.low⟩
            have hmrg := hs1.merge (ws := (opsDst ((o :: l).take k)).filter fun x => inL x (opsLive ops.toList ((o :: l).drop k) out)) hs0 (fun v u hv => hs'.st.rs hv) hsame
            refine opsK_sound n E hE act out _ (i + k) rest w0 S0 m0 σ0 w' S' m' σ' _ a' K r hb hk hR ?_ hmrg ?_
            · intro g hg'
              obtain ⟨g1, g2⟩ := hact g hg'
              refine ⟨?_, fun d hd hm => g2 d hd (opsDst_sub subR _ hm)⟩
              rw [yielded_same hsame (fun d hd hm => g2 d hd (opsDst_sub subG _ hm))]
              exact g1
            · intro w'' S'' m'' σ'' fr'' a'' hs'' hsame' hk'
              exact hK _ _ _ _ _ _ hs'' ((hsame.mono (opsDst_sub subG)).trans (hsame'.mono (opsDst_sub subR))) hk'
          cases hbw : (b == wt) with
          | true =>
            rw [hbw] at h
            simp only [cond_true] at h
            have hbw' : b = wt := by simpa using hbw
            subst hbw'
            have hk1 : ((o :: l).take k).length = k := by rw [List.length_take]; omega
            have hgo := opsK_sound n (E.rebase σ.length) (hE.rebase _) ((j, b) :: act) _ _ i (List.range' (i + k) ((o :: l).drop k).length ++ rest) w S m σ w S m σ fr1 a _ r rfl h hG ?_ (hs1.start) ?_
            · rw [hk1] at hgo; exact hgo
            · intro g hg'
              rcases List.mem_cons.1 hg' with rfl | hg'
              · refine ⟨hy, fun d' hd' => ?_⟩
                rw [hd] at hd'
                simp only [Option.some.injEq] at hd'
                subst hd'
                exact hdG
              · obtain ⟨g1, g2⟩ := hact g hg'
                exact ⟨g1, fun d hd hm => g2 d hd (opsDst_sub subG _ hm)⟩
            · intro w' S' m' σ' fr' a' hs' hsame hk
              exact after w' S' m' σ' fr' a' hs' hsame hk
          | false =>
            rw [hbw] at h
            simp only [cond_false] at h
            rw [← hkk]
            refine skip_sound (o :: l) i [] a hl (by rw [hy]; intro hq; simp only [Option.some.injEq] at hq; subst hq; simp at hbw) (by simp) ?_
            rw [hkk]
            intro a' hsame hdef
            refine after w S m σ (undF fr1 (opsDst ((o :: l).take k))) a' ?_ hsame h
            have h1 : Sit0 bg w S m σ w S m σ (undF fr1 (opsDst ((o :: l).take k))) a := undF_sit hs1.start
            refine ⟨⟨hs.sit.inv, by rw [undF_length, hs1.sit.len, hsame.size], fun x => ?_, by rw [hdef]; exact hs.sit.defers, by rw [hdef]; exact hs.sit.dnd, hs.sit.bgp, hs.sit.nbl, hs.sit.nll⟩, Stp.refl hs.sit.inv, hs.sit.nll⟩
            by_cases hx : x ∈ opsDst ((o :: l).take k)
            · rw [undF_get.1 hx]; trivial
            · rw [hsame.get x hx]; exact h1.sit.slot x
theorem region_sound {E : Env} (hE : EnvOk bg P E) {rg : Nat} {out : List Nat} {w0 : World} {m0 : List (Option Nat)} {σ0 : Store} {w : World} {m : List (Option Nat)} {σ : Store} {fr : Frame'} {a : Act} {K : Frame' → Store → Option Res} {r : Res}
    (hb : E.base = σ0.length) (h : opsK E rg ops.toList (ops.toList.length + 1) [] out ops.toList 0 fr σ K = some r) (hs : Sit0 bg w0 S0 m0 σ0 w S m σ fr a)
    (hK : ∀ w' S' m' σ' fr' a', Sit0 bg w0 S0 m0 σ0 w' S' m' σ' fr' a' → Same (opsDst ops.toList) a a' → K fr' σ' = some r → Q .normal a' w') : (Code.region rg ops false).wpIn (Fz bg.ro) 0 P Q a w := by
  refine wpIn_region ?_
  have := opsK_sound (Q := Q) (rg := rg) _ E hE [] out ops.toList 0 [] w0 S0 m0 σ0 w S m σ fr a K r hb h (fun k o ho => by simpa using ho) (by simp) hs (fun w' S' m' σ' fr' a' h1 h2 h3 => by
    simp only [wpOpsIn]; exact hK _ _ _ _ _ _ h1 h2 h3)
  simpa [List.range_eq_range'] using this
end
end Go.AX
