import Derived.Test.YtniombjfbdojjaaDoorAx11
import Derived.Test.YtniombjfbdojjaaDoorAx10
import Derived.OrdersIn
import Derived.Deep.LoopGhost
/- AX, part 15: calls: what a callee does with the blocks that its arguments reach, its caller sees on its own store. -/
namespace Go.AX
theorem inL_iff {n : Nat} : ∀ {l : List Nat}, inL n l = true ↔ n ∈ l
  | [] => by simp [inL]
  | m :: l => by
    simp only [inL, Bool.or_eq_true, List.mem_cons, inL_iff (l := l)]
    constructor
    · rintro (h | h)
      · exact .inl (Nat.eq_of_beq_eq_true h)
      · exact .inr h
    · rintro (h | h)
      · subst h; exact .inl (Nat.beq_refl n)
      · exact .inr h
theorem posOf_get {n : Nat} : ∀ {l : List Nat}, n ∈ l → l[posOf n l]? = some n
  | [], h => by simp at h
  | m :: l, h => by
    simp only [posOf]
    cases hc : Nat.beq n m with
    | true => rw [Nat.eq_of_beq_eq_true hc]; simp
    | false =>
      have hne : n ≠ m := by rintro rfl; rw [Nat.beq_refl] at hc; simp at hc
      have : n ∈ l := by simpa [hne] using h
      simp [posOf_get this]
theorem nodup_get {l : List Nat} (h : l.Nodup) {i j n : Nat} (hi : l[i]? = some n) (hj : l[j]? = some n) : i = j := by
  have h1 := List.getElem?_eq_some_iff.1 hi
  have h2 := List.getElem?_eq_some_iff.1 hj
  obtain ⟨a, b⟩ := h1
  obtain ⟨c, d⟩ := h2
  exact (List.getElem_inj h).1 (b.trans d.symm)
theorem posOf_eq {l : List Nat} (h : l.Nodup) {i n : Nat} (hi : l[i]? = some n) : posOf n l = i :=
  nodup_get h (posOf_get (List.mem_of_getElem? hi)) hi
theorem reach_nodup (σ : Store) : ∀ (k : Nat) (todo acc : List Nat), acc.Nodup → (reach σ k todo acc).Nodup
  | 0, _, _, h => h
  | _ + 1, [], _, h => h
  | k + 1, id :: todo, acc, h => by
    simp only [reach]
    cases hc : inL id acc with
    | true => exact reach_nodup σ k _ _ h
    | false =>
      refine reach_nodup σ k _ _ ?_
      have : id ∉ acc := fun hm => by rw [inL_iff.2 hm] at hc; simp at hc
      rw [List.nodup_append]
      exact ⟨h, by simp, by rintro a ha b hb; simp at hb; subst hb; rintro rfl; exact this ha⟩
theorem getAll_length {σ : Store} {r : Nat → Nat} : ∀ {l : List Nat}, (∀ i ∈ l, i < σ.length) → (getAll σ r l).length = l.length
  | [], _ => rfl
  | i :: l, h => by
    simp only [getAll]
    rw [List.getElem?_eq_getElem (h i (by simp))]
    simp [getAll_length (fun j hj => h j (List.mem_cons_of_mem _ hj))]
theorem getAll_get {σ : Store} {r : Nat → Nat} : ∀ {l : List Nat} {x i : Nat}, (∀ i ∈ l, i < σ.length) → l[x]? = some i → (getAll σ r l)[x]? = (σ[i]?).map (blkRen r)
  | [], _, _, _, h => by simp at h
  | j :: l, x, i, h, hx => by
    simp only [getAll]
    rw [List.getElem?_eq_getElem (h j (by simp))]
    cases x with
    | zero =>
      simp at hx; subst hx
      rw [List.getElem?_eq_getElem (h j (by simp))]; simp
    | succ x =>
      simp at hx
      simpa using getAll_get (fun k hk => h k (List.mem_cons_of_mem _ hk)) hx
theorem putAll_length {r : Nat → Nat} {σ' : Store} : ∀ {l : List Nat} {σ : Store} {k : Nat}, (putAll σ r σ' l k).length = σ.length
  | [], σ, k => rfl
  | i :: l, σ, k => by
    simp only [putAll]
    split
    · rw [putAll_length]; simp
    · rw [putAll_length]
theorem putAll_other {r : Nat → Nat} {σ' : Store} : ∀ {l : List Nat} {σ : Store} {k i : Nat}, i ∉ l → (putAll σ r σ' l k)[i]? = σ[i]?
  | [], σ, k, i, _ => rfl
  | j :: l, σ, k, i, h => by
    simp only [List.mem_cons, not_or] at h
    simp only [putAll]
    split
    · rw [putAll_other h.2, List.getElem?_set_ne (fun e => h.1 e.symm)]
    · rw [putAll_other h.2]
theorem putAll_at {r : Nat → Nat} {σ' : Store} : ∀ {l : List Nat} {σ : Store} {k x i : Nat}, l.Nodup → (∀ i ∈ l, i < σ.length) → k + l.length ≤ σ'.length → l[x]? = some i → (putAll σ r σ' l k)[i]? = (σ'[k + x]?).map (blkRen r)
  | [], _, _, _, _, _, _, _, h => by simp at h
  | j :: l, σ, k, x, i, hn, hl, hk, hx => by
    simp only [List.length_cons] at hk
    simp only [putAll]
    rw [List.getElem?_eq_getElem (by omega : k < σ'.length)]
    simp only
    cases x with
    | zero =>
      simp at hx; subst hx
      rw [putAll_other (List.nodup_cons.1 hn).1, List.getElem?_set_self (hl j (by simp)), Nat.add_zero, List.getElem?_eq_getElem (by omega : k < σ'.length)]
      rfl
    | succ x =>
      simp at hx
      rw [putAll_at (List.nodup_cons.1 hn).2 (by intro i hi; simp; exact hl i (List.mem_cons_of_mem _ hi)) (by omega) hx]
      congr 2
      omega
mutual
theorem ren_shape (r : Nat → Nat) : ∀ v : AV, (v.ren r).shape = v.shape ∧ (v.ren r).aggB = v.aggB
  | .ptr .. => ⟨rfl, rfl⟩
  | .sref .. => ⟨rfl, rfl⟩
  | .agg vs => ⟨by rw [AV.ren, AV.shape, AV.shape, renL_shape r vs], rfl⟩
  | .fn .. => ⟨rfl, rfl⟩
  | .tup _ => ⟨rfl, rfl⟩
  | .undef => ⟨rfl, rfl⟩
  | .dat _ => ⟨rfl, rfl⟩
  | .fslc .. => ⟨rfl, rfl⟩
  | .hnd .. => ⟨rfl, rfl⟩
theorem renL_shape (r : Nat → Nat) : ∀ vs : List AV, AV.shapeL (AV.renL r vs) = AV.shapeL vs
  | [] => rfl
  | v :: vs => by rw [AV.renL, AV.shapeL, AV.shapeL, (ren_shape r v).1, renL_shape r vs]
end
mutual
theorem Rv.ren {w : World} {S : Nat → Prop} {T T' : Nat → Option Ent} {r : Nat → Nat} : ∀ {v : AV} {cs : List Value}, (∀ id ∈ v.ids, ∀ e, T id = some e → T' (r id) = some e) → Rv w S T v cs → Rv w S T' (v.ren r) cs
  | .undef, cs, _, h => by simp [Rv] at h
  | .dat d, cs, _, h => by rw [AV.ren, Rv]; rw [Rv] at h; exact h
  | .fslc s ds, cs, _, h => by rw [AV.ren, Rv]; rw [Rv] at h; exact h
  | .ptr s id n p, cs, hr, h => by
    rw [AV.ren, Rv]; rw [Rv] at h
    obtain ⟨a, e, h1, h2, h3⟩ := h
    exact ⟨a, e, h1, hr id (by simp [AV.ids]) e h2, h3⟩
  | .sref s id n p o l, cs, hr, h => by
    rw [AV.ren, Rv]; rw [Rv] at h
    obtain ⟨a, cap, e, h1, h0, h2, h3⟩ := h
    exact ⟨a, cap, e, h1, h0, hr id (by simp [AV.ids]) e h2, h3⟩
  | .agg vs, cs, hr, h => by
    rw [AV.ren, Rv]; rw [Rv] at h
    exact RvL.ren (by simpa [AV.ids] using hr) h
  | .fn f a b, cs, hr, h => by
    rw [AV.ren, Rv]; rw [Rv] at h
    obtain ⟨x, y, h1, h2, h3⟩ := h
    exact ⟨x, y, h1, RvVs.ren (fun id hid => hr id (by simp [AV.ids, hid])) h2, RvVs.ren (fun id hid => hr id (by simp [AV.ids, hid])) h3⟩
  | .tup _, cs, _, h => by simp [Rv] at h
  | .hnd s id, cs, hr, h => by
    rw [AV.ren, Rv]; rw [Rv] at h
    obtain ⟨l, e, h1, h2, h3⟩ := h
    exact ⟨l, e, h1, hr id (by simp [AV.ids]) e h2, h3⟩
theorem RvL.ren {w : World} {S : Nat → Prop} {T T' : Nat → Option Ent} {r : Nat → Nat} : ∀ {vs : List AV} {cs : List Value}, (∀ id ∈ AV.idsL vs, ∀ e, T id = some e → T' (r id) = some e) → RvL w S T vs cs → RvL w S T' (AV.renL r vs) cs
  | [], cs, _, h => by rw [AV.renL]; simpa [RvL] using h
  | v :: vs, cs, hr, h => by
    rw [AV.renL, RvL]; rw [RvL] at h
    obtain ⟨c1, c2, h1, h2, h3⟩ := h
    exact ⟨c1, c2, h1, Rv.ren (fun id hid => hr id (by simp [AV.idsL, hid])) h2, RvL.ren (fun id hid => hr id (by simp [AV.idsL, hid])) h3⟩
theorem RvVs.ren {w : World} {S : Nat → Prop} {T T' : Nat → Option Ent} {r : Nat → Nat} : ∀ {vs : List AV} {us : List Value}, (∀ id ∈ AV.idsL vs, ∀ e, T id = some e → T' (r id) = some e) → RvVs w S T vs us → RvVs w S T' (AV.renL r vs) us
  | [], cs, _, h => by rw [AV.renL]; simpa [RvVs] using h
  | v :: vs, cs, hr, h => by
    rw [AV.renL, RvVs]; rw [RvVs] at h
    obtain ⟨u, us, h1, h0, h2, h3⟩ := h
    exact ⟨u, us, h1, by rw [h0, (ren_shape r v).2], Rv.ren (fun id hid => hr id (by simp [AV.idsL, hid])) h2, RvVs.ren (fun id hid => hr id (by simp [AV.idsL, hid])) h3⟩
end
theorem Rs.ren {w : World} {S : Nat → Prop} {T T' : Nat → Option Ent} {r : Nat → Nat} {v : AV} {u : Value} (hr : ∀ id ∈ v.ids, ∀ e, T id = some e → T' (r id) = some e) (h : Rs w S T v u) : Rs w S T' (v.ren r) u := by
  cases v with
  | undef => trivial
  | tup vs =>
    obtain ⟨l, h1, h2⟩ := h
    exact ⟨l, h1, RvVs.ren (by simpa [AV.ids] using hr) h2⟩
  | _ => exact ⟨by rw [(ren_shape r _).2]; exact h.1, Rv.ren hr h.2⟩
theorem BlkOk.ren {w : World} {S : Nat → Prop} {T T' : Nat → Option Ent} {r : Nat → Nat} {ob : Option Nat} {B : Blk} (hr : ∀ id ∈ B.v.ids, ∀ e, T id = some e → T' (r id) = some e) (h : BlkOk w S T ob B) : BlkOk w S T' ob (blkRen r B) := by
  cases ob with
  | none =>
    obtain ⟨h1, s, h2, h3⟩ := h
    exact ⟨h1, s, h2, by simp only [blkRen, h3, AV.ren]⟩
  | some b =>
    rcases h with ⟨c, t, f, h1, h2, h3, h4, h5⟩ | ⟨h1, h2, h3, h4⟩
    · refine .inl ⟨c, t, f, h1, h2, h3, fun hd => ?_, fun hd => ⟨?_, ?_⟩⟩
      · obtain ⟨s, ds, g1, g2, g3, g4⟩ := h4 hd
        exact ⟨s, ds, g1, by simp only [blkRen, g2, AV.ren], g3, g4⟩
      · simp only [blkRen]; rw [(ren_shape r B.v).1]; exact (h5 hd).1
      · simp only [blkRen]; exact Rv.ren hr (h5 hd).2
    · refine .inr ⟨h1, h2, h3, ?_⟩
      rcases h4 with ⟨q1, r', c, q2, q3, q4⟩ | ⟨q1, ds, es, q2, q3, q4⟩
      · exact .inl ⟨q1, r', c, q2, q3, by simp only [blkRen, q4, AV.ren]⟩
      · exact .inr ⟨q1, ds, es, q2, q3, by simp only [blkRen, q4, AV.ren]⟩
theorem many_ren (r : Nat → Nat) (v : AV) : (v.ren r).many = v.many := by cases v <;> rfl
theorem n_ren (r : Nat → Nat) (B : Blk) : (blkRen r B).n = B.n := by simp only [Blk.n, blkRen, many_ren]
def FunOk (P : Program) (g : FuncId) (F : Fun') : Prop :=
  ∀ w S m σ args vals res σ', Inv w S m σ → RvVs w S (tbl m σ) args vals → F args σ = some (res, σ') →
    (∀ w', (callFunc g vals.toArray).run P w' = .ok (.enter g vals.toArray) w') ∧
    Calls P g vals.toArray w (fun e w' => ∃ v S' m', e = .returned v ∧ Stp w S m σ w' S' m' σ' ∧ Rs w' S' (tbl m' σ') (res1 res) v)
abbrev FunK := List AV → Store → (List AV → Store → Option Res) → Option Res
def FunOkK (P : Program) (g : FuncId) (F : FunK) : Prop :=
  ∀ w S m σ args vals fin r, Inv w S m σ → RvVs w S (tbl m σ) args vals → F args σ fin = some r →
    (∀ w', (callFunc g vals.toArray).run P w' = .ok (.enter g vals.toArray) w') ∧
    Calls P g vals.toArray w (fun e w' => ∃ v S' m' res σ', fin res σ' = some r ∧ e = .returned v ∧ Stp w S m σ w' S' m' σ' ∧ Rs w' S' (tbl m' σ') (res1 res) v)
def GetsX (x : Bool) (P : Program) (g : FuncId) (vals : Array Value) (w : World) (Q : Ending → World → Prop) : Prop :=
  ((∀ w', (callFunc g vals).run P w' = .ok (.enter g vals) w') ∧ Calls P g vals w Q) ∨ (x = true ∧ ∃ v, (∀ w', (callFunc g vals).run P w' = .ok (.value v) w') ∧ Q (.returned v) w)
theorem GetsX.mono {x : Bool} {P : Program} {g : FuncId} {vals : Array Value} {w : World} {Q Q' : Ending → World → Prop} (h : GetsX x P g vals w Q) (k : ∀ e w', Q e w' → Q' e w') : GetsX x P g vals w Q' := by
  rcases h with ⟨a, b⟩ | ⟨a, v, b, c⟩
  · exact .inl ⟨a, b.mono k⟩
  · exact .inr ⟨a, v, b, k _ _ c⟩
def FunOkX (x : Bool) (P : Program) (g : FuncId) (F : Fun') : Prop :=
  ∀ w S m σ args vals res σ', Inv w S m σ → RvVs w S (tbl m σ) args vals → F args σ = some (res, σ') →
    GetsX x P g vals.toArray w (fun e w' => ∃ v S' m', e = .returned v ∧ Stp w S m σ w' S' m' σ' ∧ Rs w' S' (tbl m' σ') (res1 res) v)
def FunOkKX (x : Bool) (P : Program) (g : FuncId) (F : FunK) : Prop :=
  ∀ w S m σ args vals fin r, Inv w S m σ → RvVs w S (tbl m σ) args vals → F args σ fin = some r →
    GetsX x P g vals.toArray w (fun e w' => ∃ v S' m' res σ', fin res σ' = some r ∧ e = .returned v ∧ Stp w S m σ w' S' m' σ' ∧ Rs w' S' (tbl m' σ') (res1 res) v)
abbrev CalOk (P : Program) (g : FuncId) (F : Fun') : Prop := FunOkX true P g F
theorem FunOk.x {x : Bool} {P : Program} {g : FuncId} {F : Fun'} (h : FunOk P g F) : FunOkX x P g F := fun w S m σ args vals res σ' hi hv hr => .inl (h w S m σ args vals res σ' hi hv hr)
theorem FunOkX.strict {P : Program} {g : FuncId} {F : Fun'} (h : FunOkX false P g F) : FunOk P g F := fun w S m σ args vals res σ' hi hv hr => by
  rcases h w S m σ args vals res σ' hi hv hr with h | ⟨h, _⟩
  · exact h
  · simp at h
theorem FunOk.toK {P : Program} {g : FuncId} {F : Fun'} (h : FunOk P g F) : FunOkK P g (fun args σ fin => (F args σ).bind fun p => fin p.1 p.2) := by
  intro w S m σ args vals fin r hi hv hr
  simp only [Option.bind_eq_some_iff] at hr
  obtain ⟨⟨res, σ'⟩, h1, h2⟩ := hr
  obtain ⟨a, b⟩ := h w S m σ args vals res σ' hi hv h1
  refine ⟨a, b.mono ?_⟩
  rintro e w' ⟨v, S', m', he, hst, hrs⟩
  exact ⟨v, S', m', res, σ', h2, he, hst, hrs⟩
theorem FunOkX.toK {x : Bool} {P : Program} {g : FuncId} {F : Fun'} (h : FunOkX x P g F) : FunOkKX x P g (fun args σ fin => (F args σ).bind fun p => fin p.1 p.2) := by
  intro w S m σ args vals fin r hi hv hr
  simp only [Option.bind_eq_some_iff] at hr
  obtain ⟨⟨res, σ'⟩, h1, h2⟩ := hr
  refine (h w S m σ args vals res σ' hi hv h1).mono ?_
  rintro e w' ⟨v, S', m', he, hst, hrs⟩
  exact ⟨v, S', m', res, σ', h2, he, hst, hrs⟩
def callKS (F : FunK) (args : List AV) (σ : Store) : Option Res :=
  let ids := AV.idsL args
  let ρ := reach σ 4096 ids []
  bif closed σ ids ρ then
    let r := fun i => posOf i ρ
    F (AV.renL r args) (getAll σ r ρ) fun res σ' => merge ρ σ res σ'
  else none
theorem closed_spec {σ : Store} {ids ρ : List Nat} (h : closed σ ids ρ = true) : (∀ i ∈ ids, i ∈ ρ) ∧ (∀ i ∈ ρ, i < σ.length ∧ ∀ j ∈ idsAt σ i, j ∈ ρ) := by
  unfold closed at h
  simp only [Bool.and_eq_true, List.all_eq_true, decide_eq_true_eq] at h
  exact ⟨fun i hi => inL_iff.1 (h.1 i hi), fun i hi => ⟨(h.2 i hi).1, fun j hj => inL_iff.1 ((h.2 i hi).2 j hj)⟩⟩
def putM (m : List (Option Nat)) (m' : List (Option Nat)) : List Nat → Nat → List (Option Nat)
  | [], _ => m
  | i :: l, k => putM (m.set i (m'.getD k none)) m' l (k + 1)
theorem putM_length {m' : List (Option Nat)} : ∀ {l : List Nat} {m : List (Option Nat)} {k : Nat}, (putM m m' l k).length = m.length
  | [], _, _ => rfl
  | i :: l, m, k => by simp only [putM]; rw [putM_length]; simp
theorem putM_other {m' : List (Option Nat)} : ∀ {l : List Nat} {m : List (Option Nat)} {k i : Nat}, i ∉ l → (putM m m' l k)[i]? = m[i]?
  | [], _, _, _, _ => rfl
  | j :: l, m, k, i, h => by
    simp only [List.mem_cons, not_or] at h
    simp only [putM]
    rw [putM_other h.2, List.getElem?_set_ne (fun e => h.1 e.symm)]
theorem putM_at {m' : List (Option Nat)} : ∀ {l : List Nat} {m : List (Option Nat)} {k x i : Nat}, l.Nodup → (∀ i ∈ l, i < m.length) → l[x]? = some i → (putM m m' l k)[i]? = some (m'.getD (k + x) none)
  | [], _, _, _, _, _, _, h => by simp at h
  | j :: l, m, k, x, i, hn, hl, hx => by
    simp only [putM]
    cases x with
    | zero =>
      simp at hx; subst hx
      rw [putM_other (List.nodup_cons.1 hn).1, List.getElem?_set_self (hl j (by simp)), Nat.add_zero]
    | succ x =>
      simp at hx
      rw [putM_at (List.nodup_cons.1 hn).2 (by intro i hi; simp; exact hl i (List.mem_cons_of_mem _ hi)) hx]
      congr 2
      omega
theorem getD_some {m : List (Option Nat)} {i b : Nat} (h : m.getD i none = some b) : m[i]? = some (some b) := by
  rw [List.getD_eq_getElem?_getD] at h
  cases hq : m[i]? with
  | none => rw [hq] at h; simp at h
  | some q => rw [hq] at h; simp at h; rw [h]
theorem ids_res1 (r : Nat → Nat) (res : List AV) : res1 (AV.renL r res) = (res1 res).ren r ∧ ∀ id ∈ (res1 res).ids, id ∈ AV.idsL res := by
  match res with
  | [] => exact ⟨rfl, by simp [res1, AV.ids, AV.idsL]⟩
  | [v] => exact ⟨rfl, by simp [res1, AV.idsL]⟩
  | v :: u :: vs => exact ⟨rfl, by simp [res1, AV.ids]⟩
set_option maxHeartbeats 1000000 in
theorem callKS_okX {x : Bool} {P : Program} {g : FuncId} {F : FunK} (hF : FunOkKX x P g F) : FunOkX x P g (callKS F) := by
  intro w S m σ args vals res0 σ0 hi hargs hcall
  unfold callKS at hcall
  simp only at hcall
  generalize hρ : reach σ 4096 (AV.idsL args) [] = ρ at hcall
  cases hc : closed σ (AV.idsL args) ρ with
  | false => rw [hc] at hcall; simp at hcall
  | true =>
    rw [hc] at hcall
    simp only [cond_true] at hcall
    obtain ⟨hc1, hc2⟩ := closed_spec hc
    have hnd : ρ.Nodup := by rw [← hρ]; exact reach_nodup σ _ _ _ List.nodup_nil
    have hlt : ∀ i ∈ ρ, i < σ.length := fun i hi' => (hc2 i hi').1
    have hltm : ∀ i ∈ ρ, i < m.length := fun i hi' => by rw [hi.len]; exact hlt i hi'
    have hσp : ∀ {x i : Nat}, ρ[x]? = some i → (getAll σ (fun i => posOf i ρ) ρ)[x]? = (σ[i]?).map (blkRen fun i => posOf i ρ) := fun hx => getAll_get hlt hx
    have hmp : ∀ {x i : Nat}, ρ[x]? = some i → (ρ.map fun i => m.getD i none)[x]? = m[i]? := by
      intro x i hx
      rw [List.getElem?_map, hx]
      have := hltm i (List.mem_of_getElem? hx)
      simp [List.getElem?_eq_getElem this]
    have hT : ∀ i ∈ ρ, ∀ e, tbl m σ i = some e → tbl (ρ.map fun i => m.getD i none) (getAll σ (fun i => posOf i ρ) ρ) (posOf i ρ) = some e := by
      intro i hi' e he
      obtain ⟨ob, B, h1, h2, rfl⟩ := tbl_inv he
      have hx := posOf_get hi'
      have h3 := hσp hx
      rw [h2] at h3
      have h4 := hmp hx
      rw [h1] at h4
      rw [tbl_some h4 h3, n_ren]
      rfl
    have hip : Inv w S (ρ.map fun i => m.getD i none) (getAll σ (fun i => posOf i ρ) ρ) := by
      refine ⟨by rw [List.length_map, getAll_length hlt], hi.sdom, hi.scel, ?_, ?_⟩
      · intro i j b h1 h2
        have hil : i < ρ.length := by have := (List.getElem?_eq_some_iff.1 h1).1; simpa using this
        have hjl : j < ρ.length := by have := (List.getElem?_eq_some_iff.1 h2).1; simpa using this
        have e1 := hmp (List.getElem?_eq_getElem hil)
        have e2 := hmp (List.getElem?_eq_getElem hjl)
        rw [h1] at e1; rw [h2] at e2
        have := hi.inj _ _ b e1.symm e2.symm
        exact (List.getElem_inj hnd).1 this
      · intro x B hB
        have hxl : x < ρ.length := by have := (List.getElem?_eq_some_iff.1 hB).1; rwa [getAll_length hlt] at this
        have hx := List.getElem?_eq_getElem hxl
        rw [hσp hx] at hB
        have hil := hlt ρ[x] (List.getElem_mem hxl)
        rw [List.getElem?_eq_getElem hil] at hB
        simp only [Option.map_some, Option.some.injEq] at hB
        subst hB
        have hg : (ρ.map fun i => m.getD i none).getD x none = m.getD ρ[x] none := by
          rw [List.getD_eq_getElem?_getD, hmp hx, List.getD_eq_getElem?_getD]
        rw [hg]
        refine BlkOk.ren (fun id hid e he => hT id ?_ e he) (hi.blk _ _ (List.getElem?_eq_getElem hil))
        refine (hc2 ρ[x] (List.getElem_mem hxl)).2 id ?_
        unfold idsAt
        rw [List.getElem?_eq_getElem hil]
        exact hid
    have hargs' : RvVs w S (tbl (ρ.map fun i => m.getD i none) (getAll σ (fun i => posOf i ρ) ρ)) (AV.renL (fun i => posOf i ρ) args) vals :=
      RvVs.ren (fun id hid e he => hT id (hc1 id hid) e he) hargs
    refine (hF w S _ _ _ vals _ _ hip hargs' hcall).mono ?_
    rintro e w' ⟨v, S', m'', res, σ'', hmerge, rfl, hst, hrs⟩
    unfold merge at hmerge
    simp only at hmerge
    generalize hL : (reach σ'' 4096 (List.range ρ.length ++ AV.idsL res) []).filter (fun j => decide (ρ.length ≤ j)) = L at hmerge
    cases hcl : closed σ'' (AV.idsL res) (List.range ρ.length ++ L) with
    | false => rw [hcl] at hmerge; simp at hmerge
    | true =>
      rw [hcl] at hmerge
      simp only [cond_true, Option.some.injEq, Prod.mk.injEq] at hmerge
      obtain ⟨rfl, rfl⟩ := hmerge
      obtain ⟨hd1, hd2⟩ := closed_spec hcl
      have hLnd : L.Nodup := by rw [← hL]; exact (reach_nodup σ'' _ _ _ List.nodup_nil).filter _
      have hLge : ∀ j ∈ L, ρ.length ≤ j := by
        intro j hj
        rw [← hL, List.mem_filter] at hj
        simpa using hj.2
      have hLlt : ∀ j ∈ L, j < σ''.length := fun j hj => (hd2 j (List.mem_append_right _ hj)).1
      have hklt : ρ.length ≤ σ''.length := by
        rcases Nat.lt_or_ge σ''.length ρ.length with h | h
        · exact absurd (hd2 σ''.length (List.mem_append_left _ (List.mem_range.2 h))).1 (Nat.lt_irrefl _)
        · exact h
      have hm''l : m''.length = σ''.length := hst.inv.len
      have hbn1 : ∀ {x i : Nat}, ρ[x]? = some i → backName ρ σ.length L x = i := by
        intro x i hx; simp only [backName, hx]
      have hbn2 : ∀ {j : Nat}, j ∈ L → backName ρ σ.length L j = σ.length + posOf j L := by
        intro j hj
        have : ρ[j]? = none := List.getElem?_eq_none (hLge j hj)
        simp only [backName, this]
      generalize hmo : putM m m'' ρ 0 ++ L.map (fun j => m''.getD j none) = mo
      generalize hso : putAll σ (backName ρ σ.length L) σ'' ρ 0 ++ getAll σ'' (backName ρ σ.length L) L = so
      have hpl : (putM m m'' ρ 0).length = σ.length := by rw [putM_length, hi.len]
      have hql : (putAll σ (backName ρ σ.length L) σ'' ρ 0).length = σ.length := putAll_length
      have hmA : ∀ {i : Nat}, i < σ.length → i ∉ ρ → mo[i]? = m[i]? := by
        intro i hil hin
        rw [← hmo, List.getElem?_append_left (by omega), putM_other hin]
      have hsA : ∀ {i : Nat}, i < σ.length → i ∉ ρ → so[i]? = σ[i]? := by
        intro i hil hin
        rw [← hso, List.getElem?_append_left (by omega), putAll_other hin]
      have hmB : ∀ {x i : Nat}, ρ[x]? = some i → mo[i]? = m''[x]? := by
        intro x i hx
        have hil := hlt i (List.mem_of_getElem? hx)
        have hxl := (List.getElem?_eq_some_iff.1 hx).1
        rw [← hmo, List.getElem?_append_left (by omega), putM_at hnd hltm hx, Nat.zero_add]
        have : x < m''.length := by omega
        simp [List.getElem?_eq_getElem this]
      have hsB : ∀ {x i : Nat}, ρ[x]? = some i → so[i]? = (σ''[x]?).map (blkRen (backName ρ σ.length L)) := by
        intro x i hx
        have hil := hlt i (List.mem_of_getElem? hx)
        rw [← hso, List.getElem?_append_left (by omega), putAll_at hnd hlt (by omega) hx, Nat.zero_add]
      have hmC : ∀ {y j : Nat}, L[y]? = some j → mo[σ.length + y]? = m''[j]? := by
        intro y j hy
        rw [← hmo, List.getElem?_append_right (by omega), hpl, Nat.add_sub_cancel_left, List.getElem?_map, hy]
        have : j < m''.length := by rw [hm''l]; exact hLlt j (List.mem_of_getElem? hy)
        simp [List.getElem?_eq_getElem this]
      have hsC : ∀ {y j : Nat}, L[y]? = some j → so[σ.length + y]? = (σ''[j]?).map (blkRen (backName ρ σ.length L)) := by
        intro y j hy
        rw [← hso, List.getElem?_append_right (by omega), hql, Nat.add_sub_cancel_left, getAll_get hLlt hy]
      have hlen : mo.length = so.length := by
        rw [← hmo, ← hso, List.length_append, List.length_append, hpl, hql, List.length_map, getAll_length hLlt]
      have hsol : so.length = σ.length + L.length := by
        rw [← hso, List.length_append, hql, getAll_length hLlt]
      have hkind : ∀ {i : Nat}, i < so.length → (i < σ.length ∧ i ∉ ρ) ∨ (∃ x : Nat, ρ[x]? = some i) ∨ (∃ y j : Nat, i = σ.length + y ∧ L[y]? = some j) := by
        intro i hil
        rcases Nat.lt_or_ge i σ.length with h | h
        · by_cases hin : i ∈ ρ
          · exact .inr (.inl ⟨_, posOf_get hin⟩)
          · exact .inl ⟨h, hin⟩
        · have : i - σ.length < L.length := by omega
          exact .inr (.inr ⟨i - σ.length, L[i - σ.length], by omega, List.getElem?_eq_getElem this⟩)
      have hTback : ∀ j ∈ List.range ρ.length ++ L, ∀ e, tbl m'' σ'' j = some e → tbl mo so (backName ρ σ.length L j) = some e := by
        intro j hj e he
        obtain ⟨ob, B, h1, h2, rfl⟩ := tbl_inv he
        rcases List.mem_append.1 hj with hj | hj
        · have hjl := List.mem_range.1 hj
          have hx := List.getElem?_eq_getElem hjl
          rw [hbn1 hx]
          have h3 := hmB hx; rw [h1] at h3
          have h4 := hsB hx; rw [h2] at h4
          rw [tbl_some h3 h4, n_ren]; rfl
        · rw [hbn2 hj]
          have hy := posOf_get hj
          have h3 := hmC hy; rw [h1] at h3
          have h4 := hsC hy; rw [h2] at h4
          rw [tbl_some h3 h4, n_ren]; rfl
      have hmps : ∀ {x b : Nat}, (ρ.map fun i => m.getD i none)[x]? = some (some b) → ∃ i, ρ[x]? = some i ∧ m[i]? = some (some b) := by
        intro x b h
        have hxl : x < ρ.length := by have := (List.getElem?_eq_some_iff.1 h).1; simpa using this
        have hx := List.getElem?_eq_getElem hxl
        exact ⟨ρ[x], hx, by rw [← hmp hx]; exact h⟩
      have hm''b : ∀ {x b : Nat}, m''[x]? = some (some b) → b < w.heap.size → ∃ i, ρ[x]? = some i ∧ m[i]? = some (some b) := by
        intro x b h hb
        rcases hst.ext.mnew x b h with h1 | h1
        · exact hmps h1
        · omega
      have hmlt : ∀ {i b : Nat}, m[i]? = some (some b) → b < w.heap.size := by
        intro i b h
        have hl : i < σ.length := by rw [← hi.len]; exact (List.getElem?_eq_some_iff.1 h).1
        have hB := hi.blk i σ[i] (List.getElem?_eq_getElem hl)
        rw [List.getD_eq_getElem?_getD, h] at hB
        exact BlkOk.lt hB
      have htx : TExt (tbl m σ) (tbl mo so) := by
        intro i e he
        obtain ⟨ob, B, h1, h2, rfl⟩ := tbl_inv he
        have hil := (List.getElem?_eq_some_iff.1 h2).1
        by_cases hin : i ∈ ρ
        · have hx := posOf_get hin
          obtain ⟨e', k1, k2, k3, k4, k5⟩ := hst.tx _ _ (hT i hin _ he)
          refine ⟨e', ?_, k2, k3, k4, k5⟩
          have hxl := (List.getElem?_eq_some_iff.1 hx).1
          have := hTback (posOf i ρ) (List.mem_append_left _ (List.mem_range.2 hxl)) e' k1
          rwa [hbn1 hx] at this
        · refine ⟨_, ?_, rfl, rfl, Nat.le_refl _, fun _ => rfl⟩
          have h3 := hmA hil hin; rw [h1] at h3
          have h4 := hsA hil hin; rw [h2] at h4
          exact tbl_some h3 h4
      have hinv : Inv w' S' mo so := by
        refine ⟨hlen, hst.inv.sdom, hst.inv.scel, ?_, ?_⟩
        · -- one place, one name: by which name in the callee's or the caller's
          have hsrc : ∀ {i b : Nat}, mo[i]? = some (some b) → (i < σ.length ∧ i ∉ ρ ∧ m[i]? = some (some b)) ∨ ∃ x, m''[x]? = some (some b) ∧ i = backName ρ σ.length L x ∧ (x < ρ.length ∨ x ∈ L) := by
            intro i b h
            have hil : i < so.length := by rw [← hlen]; exact (List.getElem?_eq_some_iff.1 h).1
            rcases hkind hil with ⟨h1, h2⟩ | ⟨x, hx⟩ | ⟨y, j, rfl, hy⟩
            · exact .inl ⟨h1, h2, by rw [← hmA h1 h2]; exact h⟩
            · exact .inr ⟨x, by rw [← hmB hx]; exact h, (hbn1 hx).symm, .inl (List.getElem?_eq_some_iff.1 hx).1⟩
            · refine .inr ⟨j, by rw [← hmC hy]; exact h, ?_, .inr (List.mem_of_getElem? hy)⟩
              rw [hbn2 (List.mem_of_getElem? hy), posOf_eq hLnd hy]
          intro i j b h1 h2
          rcases hsrc h1 with ⟨a1, a2, a3⟩ | ⟨x, a1, rfl, _⟩ <;> rcases hsrc h2 with ⟨b1, b2, b3⟩ | ⟨y, b1, rfl, _⟩
          · exact hi.inj i j b a3 b3
          · exfalso
            obtain ⟨i', k1, k2⟩ := hm''b b1 (hmlt a3)
            have := hi.inj i i' b a3 k2
            subst this
            exact a2 (List.mem_of_getElem? k1)
          · exfalso
            obtain ⟨i', k1, k2⟩ := hm''b a1 (hmlt b3)
            have := hi.inj j i' b b3 k2
            subst this
            exact b2 (List.mem_of_getElem? k1)
          · rw [hst.inv.inj x y b a1 b1]
        · intro i B hB
          have hil := (List.getElem?_eq_some_iff.1 hB).1
          have hsub : ∀ {x : Nat} {B0 : Blk}, x ∈ List.range ρ.length ++ L → σ''[x]? = some B0 → BlkOk w' S' (tbl mo so) (m''.getD x none) (blkRen (backName ρ σ.length L) B0) := by
            intro x B0 hx hB0
            refine BlkOk.ren (fun id hid e he => hTback id ?_ e he) (hst.inv.blk x B0 hB0)
            refine (hd2 x hx).2 id ?_
            unfold idsAt
            rw [hB0]; exact hid
          rcases hkind hil with ⟨h1, h2⟩ | ⟨x, hx⟩ | ⟨y, j, rfl, hy⟩
          · rw [hsA h1 h2] at hB
            have hg : mo.getD i none = m.getD i none := by rw [List.getD_eq_getElem?_getD, hmA h1 h2, List.getD_eq_getElem?_getD]
            rw [hg]
            have hno : ∀ b, m.getD i none = some b → ∀ x : Nat, (ρ.map fun i => m.getD i none)[x]? ≠ some (some b) := by
              intro b hb x hx
              obtain ⟨i', k1, k2⟩ := hmps hx
              have := hi.inj i i' b (getD_some hb) k2
              subst this
              exact h2 (List.mem_of_getElem? k1)
            refine (hi.blk i B hB).mono hst.ext.kp htx (fun b hb => hst.ext.same b (hmlt (getD_some hb)) (hno b hb)) (fun b hb hs => ?_)
            rcases hst.ext.snew b hs with k | k | ⟨x, k⟩
            · exact k
            · have := hmlt (getD_some hb); omega
            · exact absurd k (hno b hb x)
          · rw [hsB hx] at hB
            have hxl := (List.getElem?_eq_some_iff.1 hx).1
            have hg : mo.getD i none = m''.getD x none := by rw [List.getD_eq_getElem?_getD, hmB hx, List.getD_eq_getElem?_getD]
            rw [hg]
            obtain ⟨B0, hB0, rfl⟩ := Option.map_eq_some_iff.1 hB
            exact hsub (List.mem_append_left _ (List.mem_range.2 hxl)) hB0
          · rw [hsC hy] at hB
            have hg : mo.getD (σ.length + y) none = m''.getD j none := by rw [List.getD_eq_getElem?_getD, hmC hy, List.getD_eq_getElem?_getD]
            rw [hg]
            obtain ⟨B0, hB0, rfl⟩ := Option.map_eq_some_iff.1 hB
            exact hsub (List.mem_append_right _ (List.mem_of_getElem? hy)) hB0
      refine ⟨v, S', mo, rfl, ⟨hinv, ⟨hst.ext.kp, hst.ext.os, hst.ext.tape, hst.ext.output, hst.ext.size, ?_, ?_, ?_⟩, htx⟩, ?_⟩
      · intro b hb hno
        refine hst.ext.same b hb (fun x hx => ?_)
        obtain ⟨i, _, k2⟩ := hmps hx
        exact hno i k2
      · intro b hb
        rcases hst.ext.snew b hb with k | k | ⟨x, k⟩
        · exact .inl k
        · exact .inr (.inl k)
        · obtain ⟨i, _, k2⟩ := hmps k
          exact .inr (.inr ⟨i, k2⟩)
      · intro i b hib
        have hil : i < so.length := by rw [← hlen]; exact (List.getElem?_eq_some_iff.1 hib).1
        rcases hkind hil with ⟨h1, h2⟩ | ⟨x, hx⟩ | ⟨y, j, rfl, hy⟩
        · rw [hmA h1 h2] at hib; exact .inl hib
        · rw [hmB hx] at hib
          rcases hst.ext.mnew x b hib with k | k
          · rw [hmp hx] at k; exact .inl k
          · exact .inr k
        · rw [hmC hy] at hib
          rcases hst.ext.mnew j b hib with k | k
          · obtain ⟨i', k1, _⟩ := hmps k
            have := (List.getElem?_eq_some_iff.1 k1).1
            have := hLge j (List.mem_of_getElem? hy)
            omega
          · exact .inr k
      · obtain ⟨q1, q2⟩ := ids_res1 (backName ρ σ.length L) res
        rw [q1]
        exact hrs.ren (fun id hid e he => hTback id (hd1 id (q2 id hid)) e he)
theorem callKS_ok {P : Program} {g : FuncId} {F : FunK} (hF : FunOkK P g F) : FunOk P g (callKS F) := (callKS_okX (x := false) fun w S m σ args vals fin r hi hv hr => .inl (hF w S m σ args vals fin r hi hv hr)).strict
theorem callS_ok {x : Bool} {P : Program} {g : FuncId} {F : Fun'} (hF : FunOkX x P g F) : FunOkX x P g (callS F) := callKS_okX hF.toK
end Go.AX

namespace Go.AX
def Fz (ro : Option Nat) : Fence := { Fence.wide with round := ro }
theorem fz_room (ro : Option Nat) (n : Nat) : (Fz ro).room n := fun d hd => by simp [Fz, Fence.wide] at hd
theorem fz_steps {ro : Option Nat} {P : Program} {m m' : Machine} : StepsIn (Machine.fenced P (Fz ro)) P m m' ↔ Steps P m m' := stepsIn_wide
theorem fz_calls {ro : Option Nat} {n : Nat} {P : Program} {f : FuncId} {args : Array Value} {w : World} {R : Ending → World → Prop} : CallsIn (Fz ro) n P f args w R ↔ Calls P f args w R := callsIn_wide
def jumpOf : Exit → Option (Option Code)
  | .normal => some none
  | .ret => some (some .ret)
  | .exit i => some (some (.exit i))
  | _ => none
def rndPost (P : Program) (l : Nat) (R : Ending → World → Prop) (e : Exit) (_ : Act) (w : World) : Prop :=
  ∃ j v w', jumpOf e = some j ∧ (Instr.endRound l j).run P w = .ok v w' ∧ R (.returned v) w'
theorem round_in {P : Program} {l : Nat} {f : FuncId} {tmps : Array Value} {assign body : Code} {w : World} {R : Ending → World → Prop}
    (h : assign.wpIn (Fz (some l)) 0 P (Exit.then (fun a₁ w₁ => ∃ w₂, (Instr.beginRound l).run P w₁ = .ok () w₂ ∧ body.wpIn (Fz (some l)) 0 P (rndPost P l R) a₁ w₂) fun _ _ _ => False) { tmps := tmps, defers := [] } w) :
    RoundIn Fence.wide 0 P l f tmps assign body w R := by
  refine ⟨trivial, fun c cs _ => ?_⟩
  have start : Frame.round l f tmps assign body .normal = ({ (default : Frame) with fn := f, kind := .normal, roundOf := some l } : Frame).atR { tmps := tmps, defers := [] } [.code assign, .beginRound, .code body] := by
    simp [Frame.round, Frame.atR]
  generalize hb : ({ (default : Frame) with fn := f, kind := .normal, roundOf := some l } : Frame) = b at start
  have hro : b.roundOf = some l := by rw [← hb]
  have hki : b.kind = .normal := by rw [← hb]
  have finish : ∀ v w' m, Steps P (lone (Frame.round l f tmps assign body .normal) (c :: cs) w) m → step P m = .next (lone (c.finish v) cs w') → R (.returned v) w' →
      ∃ e w', R e w' ∧ ComesIn (Machine.fenced P Fence.wide) P (lone (Frame.round l f tmps assign body .normal) (c :: cs) w)
        (match e with
         | .returned v => lone (c.finish v) cs w'
         | .panicked chain => lone (c.raise chain) cs w'
         | .outgrown => lone c cs w') e := by
    intro v w' m h1 h2 h3
    exact ⟨.returned v, w', h3, comesIn_wide.2 (show Steps P _ _ from h1.trans (.one h2))⟩
  obtain ⟨e, a₁, w₁, hq, harr⟩ := h b [.beginRound, .code body] (c :: cs) hro trivial (fz_room _ _)
  rw [← start] at harr
  cases e with
  | normal =>
    obtain ⟨w₂, hbr, hbody⟩ := hq
    have s1 := (fz_steps.1 harr).trans (.one (stepR_beginRound (a := a₁) (k := [.code body]) (cs := c :: cs) hro hbr))
    obtain ⟨e₂, a₂, w₃, ⟨j, v, w₄, hj, hend, hR⟩, harr₂⟩ := hbody b [] (c :: cs) hro trivial (fz_room _ _)
    cases e₂ with
    | normal =>
      simp only [jumpOf, Option.some.injEq] at hj
      subst hj
      exact finish v w₄ _ (s1.trans (fz_steps.1 harr₂)) (stepR_round_end hro hki hend) hR
    | ret =>
      simp only [jumpOf, Option.some.injEq] at hj
      subst hj
      obtain ⟨k₁, hs⟩ := harr₂.2 (by rw [hro]; rfl)
      exact finish v w₄ _ (s1.trans (fz_steps.1 hs)) (stepR_round_ret hro hki hend) hR
    | exit id =>
      simp only [jumpOf, Option.some.injEq] at hj
      subst hj
      obtain ⟨k₁, hk, hs⟩ := harr₂.2 (by rw [hro]; rfl) rfl
      exact finish v w₄ _ (s1.trans (fz_steps.1 hs)) (stepR_round_exit hro hki hk hend) hR
    | _ => simp [jumpOf] at hj
  | _ => exact hq.elim
theorem range_in {P : Program} {ro : Option Nat} {g : Operand} {ps : Array Tmp} {assign body : Code} {Q : Exit → Act → World → Prop} {a : Act} {w : World} {gf : FuncId} {fi ca : Array Value}
    (hg : a.eval g = .func (.func gf) fi ca) (hc : ∀ vs w', (callFunc gf vs).run P w' = .ok (.enter gf vs) w')
    (h : ∀ fn, ∃ l mark w₁, (Instr.enterLoop fn a.tmps ps assign body ro).run P w = .ok (l, mark) w₁ ∧
      Calls P gf (fi ++ #[.func (.yield l) #[] #[]] ++ ca) w₁ fun e w₃ => ∃ v jump w₄, e = .returned v ∧ (Instr.endLoop l).run P w₃ = .ok jump w₄ ∧
        match jump with
        | none => Q .normal { a with defers := mark ++ a.defers } w₄
        | some c => c.wpIn (Fz ro) 0 P Q { a with defers := mark ++ a.defers } w₄) :
    (Code.rangeFunc g ps assign body).wpIn (Fz ro) 0 P Q a w := by
  intro b k cs hro _ _
  have hro : b.roundOf = ro := hro
  obtain ⟨l, mark, w₁, he, hcall⟩ := h b.fn
  generalize ha' : ({ a with defers := mark ++ a.defers } : Act) = a' at hcall
  have enter : step P (lone (b.atR a (.code (.rangeFunc g ps assign body) :: k)) cs w) = .next (lone (Frame.enter P gf (fi ++ #[.func (.yield l) #[] #[]] ++ ca) .normal) (b.atR a' (.inRangeFunc l :: k) :: cs) w₁) := by
    refine step_lone_go ?_
    have hev := Frame.eval_atR b a' (.inRangeFunc l :: k)
    rw [← ha'] at hev
    simp only [Frame.atR] at hev
    have hga : ({ tmps := a.tmps, defers := mark ++ a.defers } : Act).eval g = .func (.func gf) fi ca := hg
    have hres : Sem.run P (do let d ← resolve ({ tmps := a.tmps, defers := mark ++ a.defers } : Act).eval { callee := .value g, args := #[.const (.func (.yield l) #[] #[])], argTypes := #[] } 0; invoke d.target d.args) w₁ =
        .ok (.enter gf (fi ++ #[.func (.yield l) #[] #[]] ++ ca)) w₁ := by
      simp only [resolve, hga, Deferred.ofValue, Sem.run_bind, Sem.run_pure, Result.andThen, invoke]
      simp [Act.eval, hc]
    rw [← ha']
    rw [← hro] at he
    simp only [stepG, stepG.exec, Frame.atR, Sem.runT_eq, he, GStep.bare_after, stepG.apply, hev, hres]
    simp [GStep.bare_after, Frame.atR]
  obtain ⟨e, w₃, fr, ⟨v, jump, w₄, rfl, hend, hj⟩, hsteps, _, hleave⟩ := hcall (b.atR a' (.inRangeFunc l :: k) :: cs)
  have s1 : Steps P (lone (b.atR a (.code (.rangeFunc g ps assign body) :: k)) cs w) (lone fr (b.atR a' (.inRangeFunc l :: k) :: cs) w₃) := .head enter hsteps
  have hfin : (b.atR a' (.inRangeFunc l :: k)).finish v = b.atR a' (.endRangeFunc l :: k) := by simp [Frame.finish, Frame.atR]
  have s2 := s1.trans (.one (step_leave_returned hleave))
  rw [hfin] at s2
  have last : step P (lone (b.atR a' (.endRangeFunc l :: k)) cs w₃) = .next (lone (b.atR a' ((jump.map Item.code).toList ++ k)) cs w₄) :=
    step_lone_go (by simp [stepG, stepG.exec, Frame.atR, Sem.runT_eq, hend, GStep.bare_after])
  have s3 := s2.trans (.one last)
  cases jump with
  | none => exact ⟨.normal, a', w₄, hj, fz_steps.2 s3⟩
  | some c =>
    obtain ⟨e', a'', w₅, hq, harr⟩ := hj b k cs hro trivial (fz_room _ _)
    exact ⟨e', a'', w₅, hq, .of_steps (fz_steps.2 s3) harr⟩
inductive Took (P : Program) : List Deferred → World → World → Prop
  | nil (w : World) : Took P [] w w
  | cons {D : Nat} {ds : List Deferred} {w w₁ w₂ : World} (h : (Instr.takeDeferred D).run P w = .ok [] w₁) (t : Took P ds w₁ w₂) : Took P ({ target := .collected D, args := #[] } :: ds) w w₂
theorem took_steps {P : Program} {ds : List Deferred} {w w' : World} (t : Took P ds w w') : ∀ {fr : Frame} {cs : List Frame}, fr.mode = .returning → fr.defers = ds → Steps P (lone fr cs w) (lone { fr with defers := [] } cs w') := by
  induction t with
  | nil w => intro fr cs _ hd; rw [← hd]; exact Steps.refl _ _
  | cons h t ih =>
    rename_i D ds w w₁ w₂
    intro fr cs hm hd
    have s : step P (lone fr cs w) = .next (lone { fr with defers := ds } cs w₁) :=
      step_lone_go (by simp [stepG, unwind, hm, hd, Sem.runT_eq, h, GStep.bare_after])
    exact .head s (ih (fr := { fr with defers := ds }) hm rfl)
theorem calls_of {P : Program} {f : FuncId} {fn : Func} {c : Code} {args : Array Value} {w : World} {R : Ending → World → Prop} (hf : P.funcs[f]? = some fn) (hb : fn.body = some c)
    (h : c.wpIn (Fz none) 0 P (fun e a w' => (e = .normal ∨ e = .ret) ∧ ∃ w'' v, Took P a.defers w' w'' ∧ (results fn a.tmps).run P w'' = .ok v w'' ∧ R (.returned v) w'')
      { tmps := args ++ Array.replicate (fn.ntmps - args.size) Go.undef, defers := [] } w) : Calls P f args w R := by
  intro cs
  have start : Frame.enter P f args .normal = ({ (default : Frame) with fn := f, kind := .normal, roundOf := none } : Frame).atR { tmps := args ++ Array.replicate (fn.ntmps - args.size) Go.undef, defers := [] } [.code c] := by
    simp [Frame.enter, Frame.atR, hf, hb]
  generalize hbd : ({ (default : Frame) with fn := f, kind := .normal, roundOf := none } : Frame) = b at start
  have hro : b.roundOf = none := by rw [← hbd]
  have hki : b.kind = .normal := by rw [← hbd]
  have hfn : b.fn = f := by rw [← hbd]
  obtain ⟨e, a', w', ⟨he, w'', v, ht, hr, hR⟩, harr⟩ := h b [] cs hro trivial (fz_room _ _)
  rw [← start] at harr
  have fin : ∀ todo, Steps P (lone (Frame.enter P f args .normal) cs w) (lone { b.atR a' todo with mode := .returning } cs w') →
      ∃ e w' fr, R e w' ∧ Comes P (lone (Frame.enter P f args .normal) cs w) (lone fr cs w') e ∧ fr.fn = f ∧ fr.leaving P w' e := by
    intro todo hs
    refine ⟨.returned v, w'', { b.atR a' todo with mode := .returning, defers := [] }, hR, ?_, hfn, rfl, rfl, hki, fn, ?_, hr⟩
    · exact (show Steps P _ _ from hs.trans (took_steps ht rfl rfl))
    · show P.funcs[b.fn]? = _
      rw [hfn]; exact hf
  rcases he with rfl | rfl
  · exact fin [] ((fz_steps.1 harr).trans (.one (stepR_end hro)))
  · obtain ⟨todo, hs⟩ := harr.1 hro
    exact fin todo (fz_steps.1 hs)
theorem scope_in {ro : Option Nat} {P : Program} {c : Code} {Q : Exit → Act → World → Prop} {a : Act} {w : World} (h : c.wpIn (Fz ro) 0 P (Exit.noGoto Q) a w) : (Code.scope c).wpIn (Fz ro) 0 P Q a w := by
  intro b k cs hro _ _
  have s0 : step P (lone (b.atR a (.code (.scope c) :: k)) cs w) = .next (lone (b.atR a (.code c :: .inScope c :: k)) cs w) := step_lone_go (by simp [stepG, stepG.exec, Frame.atR])
  obtain ⟨e, a₁, w₁, hq, harr⟩ := h b (.inScope c :: k) cs hro trivial (fz_room _ _)
  have harr := ArrivesIn.of_steps (fz_steps.2 (.one s0)) harr
  cases e with
  | normal => exact ⟨.normal, a₁, w₁, hq, fz_steps.2 ((fz_steps.1 harr).trans (.one (step_lone_go (by simp [stepG, stepG.exec, Frame.atR]))))⟩
  | exit id =>
    have hx : ∀ k, exitTo id (.inScope c :: k) = exitTo id k := fun k => by simp [exitTo]
    exact ⟨.exit id, a₁, w₁, hq, fun k' hk => harr.1 k' (by rw [hx]; exact hk), fun hr hk => harr.2 hr (by rw [hx]; exact hk)⟩
  | goto l => exact hq.elim
  | ret => exact ⟨_, a₁, w₁, hq, harr⟩
  | panic ch => exact ⟨_, a₁, w₁, hq, harr⟩
  | outgrown => exact ⟨_, a₁, w₁, hq, harr⟩
theorem loop_in {F : Fence} {n : Nat} {P : Program} {Q : Exit → Act → World → Prop} {a : Act} {w : World} {c : Code} (I : Nat → Act → World → Prop) (n₀ : Nat) (h₀ : I n₀ a w)
    (round : ∀ k a w, I k a w → c.wpIn F n P (Exit.then (fun a' w' => ∃ k', k' < k ∧ I k' a' w') Q) a w) : (Code.loop c).wpIn F n P Q a w := by
  refine wpIn_loop (fun a w => ∃ k, I k a w) (fun a w => leastOf fun k => I k a w) ⟨n₀, h₀⟩ fun a w hI => wpIn_mono (round _ a w (leastOf_spec hI).1) ?_
  rintro e a' w' hq
  cases e with
  | normal =>
    obtain ⟨k', hlt, hI'⟩ := hq
    refine ⟨⟨k', hI'⟩, Nat.lt_of_le_of_lt ?_ hlt⟩
    exact (leastOf_spec (p := fun k => I k a' w') ⟨k', hI'⟩).2 k' hI'
  | _ => exact hq
end Go.AX

namespace Go.AX
structure Bg where
  nb : Nat
  nl : Nat
  ro : Option Nat
  loops : Nat → Option (Nat × Loop × Frame')
def lprop (lo : Nat → Option (Nat × Loop × Frame')) (w : World) (S : Nat → Prop) (T : Nat → Option Ent) : Prop :=
  ∀ i l R fr, lo i = some (l, R, fr) → (∃ e, T i = some e ∧ e.sh = loopSh ∧ e.dyn = false ∧ (e.n = 0 → e.blk = some l)) ∧ (∃ r, w.heap[l]? = some (.loop r) ∧ loopFix r = loopFix R) ∧
    fr.length = R.tmps.size ∧ ∀ k, Rs w S T (fr.getD k .undef) (R.tmps.getD k Go.undef)
theorem lprop.mono {lo : Nat → Option (Nat × Loop × Frame')} {w w' : World} {S S' : Nat → Prop} {T T' : Nat → Option Ent} (h : lprop lo w S T) (k : Kp w S w' S') (x : TExt T T') : lprop lo w' S' T' := by
  intro i l R fr hi
  obtain ⟨⟨e, h1, h2, h3, h4⟩, ⟨r, h5, h6⟩, h7, h8⟩ := h i l R fr hi
  obtain ⟨e', k1, k2, k3, k4, k5⟩ := x i e h1
  obtain ⟨r', k6, k7⟩ := k.loops l r h5
  exact ⟨⟨e', k1, k2.trans h2, k3.trans h3, fun hn => (k5 (by omega)).trans (h4 (by omega))⟩, ⟨r', k6, k7.trans h6⟩, h7, fun j => (h8 j).mono k x⟩
def Bg.prop (bg : Bg) (w : World) (S : Nat → Prop) (T : Nat → Option Ent) : Prop :=
  (∀ l, bg.ro = some l → ∃ r, w.heap[l]? = some (.loop r)) ∧ (∀ i l R fr, bg.loops i = some (l, R, fr) → i < bg.nl ∧ idsBelow bg.nl fr = true) ∧ lprop bg.loops w S T
theorem Bg.prop.mono {bg : Bg} {w w' : World} {S S' : Nat → Prop} {T T' : Nat → Option Ent} (h : bg.prop w S T) (k : Kp w S w' S') (x : TExt T T') : bg.prop w' S' T' := by
  refine ⟨fun l hl => ?_, h.2.1, h.2.2.mono k x⟩
  obtain ⟨r, hr⟩ := h.1 l hl
  obtain ⟨r', hr', _⟩ := k.loops l r hr
  exact ⟨r', hr'⟩
def YldOk (lo : Nat → Option (Nat × Loop × Frame')) (P : Program) (i : Nat) (F : FunT) : Prop :=
  ∀ args σ res σ', (F args σ).run = some (res, σ') → ∃ l R fr, lo i = some (l, R, fr) ∧
    ∀ w S m vals, Inv w S m σ → RvVs w S (tbl m σ) args vals → lprop lo w S (tbl m σ) →
      ∃ f tmps assign body, (Instr.yield l vals.toArray).run P w = .ok (.round l f tmps assign body) w ∧
        RoundIn Fence.wide 0 P l f tmps assign body w (fun e w' => ∃ v S' m', e = .returned v ∧ Stp w S m σ w' S' m' σ' ∧ Rs w' S' (tbl m' σ') (res1 res) v)
structure EnvOk (bg : Bg) (P : Program) (E : Env) : Prop where
  tab : tabOk P E.tab 0 E.tab = true
  callee : ∀ g F, E.callee g = some F → CalOk P g (FunT.run F)
  disp : ∀ g, CalOk P g (FunT.run (E.disp g))
  mixed : P.follows .mixedOrders = true
  yld : ∀ i, YldOk bg.loops P i (E.yld i)
def MarkOk (nb : Nat) (w : World) (d : Deferred) : Prop := ∃ D : Nat, d = { target := .collected D, args := #[] } ∧ nb ≤ D ∧ w.heap[D]? = some (.deferred (some []))
structure Sit (bg : Bg) (w : World) (S : Nat → Prop) (m : List (Option Nat)) (σ : Store) (fr : Frame') (a : Act) : Prop where
  inv : Inv w S m σ
  len : fr.length = a.tmps.size
  slot : ∀ i, Rs w S (tbl m σ) (fr.getD i .undef) (a.tmps.getD i Go.undef)
  defers : ∀ d ∈ a.defers, MarkOk bg.nb w d
  dnd : a.defers.Nodup
  bgp : bg.prop w S (tbl m σ)
  nbl : bg.nb ≤ w.heap.size
  nll : bg.nl ≤ σ.length
theorem MarkOk.step {nb : Nat} {w w' : World} {S S' : Nat → Prop} {m m' : List (Option Nat)} {σ σ' : Store} {d : Deferred} (h : MarkOk nb w d) (hi : Inv w S m σ) (k : Stp w S m σ w' S' m' σ') : MarkOk nb w' d := by
  obtain ⟨D, h1, h2, h3⟩ := h
  refine ⟨D, h1, h2, ?_⟩
  rw [k.ext.same D (Array.getElem?_eq_some_iff.1 h3).1 ?_, h3]
  intro i him
  have hl : i < σ.length := by rw [← hi.len]; exact (List.getElem?_eq_some_iff.1 him).1
  have hB := hi.blk i σ[i] (List.getElem?_eq_getElem hl)
  rw [List.getD_eq_getElem?_getD, him] at hB
  rcases hB with ⟨c, t, f, g, _⟩ | ⟨_, _, _, ⟨_, _, _, g, _⟩ | ⟨_, _, _, g, _⟩⟩
  all_goals rw [h3] at g; simp at g
theorem Stp.len {w w' : World} {S S' : Nat → Prop} {m m' : List (Option Nat)} {σ σ' : Store} (hi : Inv w S m σ) (k : Stp w S m σ w' S' m' σ') : σ.length ≤ σ'.length := by
  rcases Nat.lt_or_ge σ'.length σ.length with h | h
  · exfalso
    have h1 := tbl_some (List.getElem?_eq_getElem (l := m) (i := σ'.length) (by rw [hi.len]; exact h)) (List.getElem?_eq_getElem h)
    obtain ⟨e', h2, _⟩ := k.tx _ _ h1
    obtain ⟨_, _, _, g, _⟩ := tbl_inv h2
    exact absurd (List.getElem?_eq_some_iff.1 g).1 (Nat.lt_irrefl _)
  · exact h
def OWp (P : Program) (o : Oper) (a : Act) (w : World) (next : Act → World → Prop) (Q : Exit → Act → World → Prop) : Prop := ∀ ro, o.wpIn (Fz ro) 0 P a w next Q
theorem semAt_run {P : Program} {ro : Option Nat} {ρ : Operand → Value} {o : Oper} {x : Next} {w w' : World} (h : (execOp ρ o).run P w = .ok x w') (hx : ∀ d, x ≠ .defer d) : (o.semAt ro ρ).run P w = .ok x w' := by
  rw [Oper.semAt_eq]
  · exact h
  · intro c hc
    unfold execOp at h
    rw [hc] at h
    simp only [Sem.run_bind] at h
    unfold Result.andThen at h
    split at h
    · simp only [Sem.run_pure, Result.ok.injEq] at h
      exact hx _ h.1.symm
    · simp at h
section
variable {bg : Bg} {P : Program} {E : Env} {w : World} {S : Nat → Prop} {m : List (Option Nat)} {σ : Store} {fr : Frame'} {a : Act}
theorem Sit.step {w' : World} {S' : Nat → Prop} {m' : List (Option Nat)} {σ' : Store} (h : Sit bg w S m σ fr a) (k : Stp w S m σ w' S' m' σ') : Sit bg w' S' m' σ' fr a :=
  ⟨k.inv, h.len, fun i => k.rs (h.slot i), fun d hd => (h.defers d hd).step h.inv k, h.dnd, h.bgp.mono k.ext.kp k.tx, Nat.le_trans h.nbl k.ext.size, Nat.le_trans h.nll (k.len h.inv)⟩
theorem Sit.set {d : Nat} {v : AV} {u : Value} (h : Sit bg w S m σ fr a) (hv : Rs w S (tbl m σ) v u) : Sit bg w S m σ (fr.set d v) { a with tmps := a.tmps.setIfInBounds d u } := by
  refine ⟨h.inv, by simp [h.len], fun i => ?_, h.defers, h.dnd, h.bgp, h.nbl, h.nll⟩
  have hi := h.slot i
  simp only [List.getD_eq_getElem?_getD, Array.getD_eq_getD_getElem?] at hi ⊢
  by_cases e : d = i
  · subst e
    rcases Nat.lt_or_ge d fr.length with hl | hl
    · rw [List.getElem?_set_self hl, Array.getElem?_setIfInBounds_self_of_lt (by rw [← h.len]; exact hl)]
      exact hv
    · rw [List.getElem?_eq_none (by simpa using hl)]
      trivial
  · rw [List.getElem?_set_ne e, Array.getElem?_setIfInBounds_ne e]
    exact hi
theorem Sit.put {v : AV} {u : Value} (h : Sit bg w S m σ fr a) (dst : Option Tmp) (hv : Rs w S (tbl m σ) v u) : Sit bg w S m σ (setDst fr dst v) (a.put dst u) := by
  cases dst with
  | none => exact h
  | some d => exact h.set hv
theorem Sit.know {d : Nat} {v : AV} (h : Sit bg w S m σ fr a) (hv : Rs w S (tbl m σ) v (a.tmps.getD d Go.undef)) : Sit bg w S m σ (fr.set d v) a := by
  refine ⟨h.inv, by simp [h.len], fun i => ?_, h.defers, h.dnd, h.bgp, h.nbl, h.nll⟩
  have hi := h.slot i
  simp only [List.getD_eq_getElem?_getD] at hi ⊢
  by_cases e : d = i
  · subst e
    rcases Nat.lt_or_ge d fr.length with hl | hl
    · rw [List.getElem?_set_self hl]; exact hv
    · rw [List.getElem?_eq_none (by simpa using hl)]; trivial
  · rw [List.getElem?_set_ne e]; exact hi
theorem constAV_sound {tab : Tab} {t : TypeId} {u : Value} {v : AV} {T : Nat → Option Ent} (h : constAV tab t u = some v) : Rs w S T v u := by
  unfold constAV at h
  split at h
  · simp only [Option.some.injEq] at h; subst h; exact Rs.of_int _ _
  · simp only [Option.some.injEq] at h; subst h; exact Rs.of_bool _
  · simp only [Option.some.injEq] at h; subst h; exact Rs.of_str _
  · simp only [Option.some.injEq] at h; subst h; exact ⟨rfl, by rw [Rv, Rd]; rfl⟩
  · simp only [Option.some.injEq] at h; subst h; exact ⟨rfl, by rw [Rv, Rd]; rfl⟩
  · simp only [Option.some.injEq] at h; subst h; exact ⟨rfl, by rw [Rv, Rd]; rfl⟩
  · simp only [Option.some.injEq] at h; subst h; exact ⟨rfl, by rw [Rv, Rd]; rfl⟩
  · split at h
    · split at h
      · simp only [Option.map_eq_some_iff] at h
        obtain ⟨s, _, rfl⟩ := h
        exact Rs.of_fslc (ds := []) (by simp) (.inl rfl)
      · simp at h
    · simp at h
  · simp at h
theorem ev_sound {tab : Tab} {t : TypeId} {x : Operand} {v : AV} (hs : Sit bg w S m σ fr a) (h : ev tab fr t x = some v) : Rs w S (tbl m σ) v (a.eval x) := by
  cases x with
  | tmp i =>
    simp only [ev, Option.some.injEq] at h
    subst h
    exact hs.slot i
  | const u => exact constAV_sound h
  | func f =>
    simp only [ev, Option.some.injEq] at h
    subst h
    refine ⟨rfl, ?_⟩
    show Rv w S _ _ [_]
    rw [Rv, Rd]
    exact ⟨#[], #[], rfl, by simp [RdVs], by simp [RdVs]⟩
  | global g => simp [ev] at h
theorem evs_sound {tab : Tab} (hs : Sit bg w S m σ fr a) : ∀ {ts : List TypeId} {xs : List Operand} {vs : List AV}, evs tab fr ts xs = some vs → F2 (fun v u => Rs w S (tbl m σ) v u) vs (xs.map a.eval)
  | ts, [], vs, h => by
    cases ts <;> (simp only [evs, Option.some.injEq] at h; subst h; exact .nil)
  | [], x :: xs, vs, h => by
    simp only [evs, Option.bind_eq_some_iff, Option.map_eq_some_iff] at h
    obtain ⟨v, h1, vs', h2, rfl⟩ := h
    exact .cons (ev_sound hs h1) (evs_sound hs h2)
  | t :: ts, x :: xs, vs, h => by
    simp only [evs, Option.bind_eq_some_iff, Option.map_eq_some_iff] at h
    obtain ⟨v, h1, vs', h2, rfl⟩ := h
    exact .cons (ev_sound hs h1) (evs_sound hs h2)
theorem evParts_sound {tab : Tab} {ty : Nat → TypeId} (hs : Sit bg w S m σ fr a) : ∀ {ps : List (Nat × Operand)} {vs : List (Nat × AV)}, evParts tab fr ty ps = some vs →
    F2 (fun (p : Nat × AV) (u : Nat × Value) => p.1 = u.1 ∧ Rs w S (tbl m σ) p.2 u.2) vs (ps.map fun p => (p.1, a.eval p.2))
  | [], vs, h => by simp only [evParts, Option.some.injEq] at h; subst h; exact .nil
  | (i, x) :: ps, vs, h => by
    simp only [evParts, Option.bind_eq_some_iff, Option.map_eq_some_iff] at h
    obtain ⟨v, h1, vs', h2, rfl⟩ := h
    exact .cons ⟨rfl, ev_sound hs h1⟩ (evParts_sound hs h2)
theorem rvVs_of {T : Nat → Option Ent} : ∀ {vs : List AV} {us : List Value}, F2 (fun v u => Rs w S T v u) vs us → realL vs = true → RvVs w S T vs us
  | [], _, .nil, _ => by rw [RvVs]
  | v :: vs, _, .cons h t, hr => by
    simp only [realL, List.all_cons, Bool.and_eq_true] at hr
    obtain ⟨h1, h2⟩ := h.real hr.1
    rw [RvVs]
    exact ⟨_, _, rfl, h1, h2, rvVs_of t (by simpa [realL] using hr.2)⟩
theorem freeze_real {v r : AV} {σ σ' : Store} (h1 : freeze v σ = some (r, σ')) (hreal : v.real = true) : r.real = true := by
  cases v with
  | sref s id n p off len =>
    rw [freeze] at h1
    split at h1
    · rename_i B hB
      cases hc : Nat.beq B.n n with
      | false => rw [hc] at h1; simp at h1
      | true =>
        rw [hc] at h1
        simp only [cond_true] at h1
        split at h1
        · simp only [Option.some.injEq, Prod.mk.injEq] at h1; rw [← h1.1]; rfl
        · simp at h1
    · simp at h1
  | fslc s ds =>
    rw [freeze] at h1
    simp only [Option.some.injEq, Prod.mk.injEq] at h1; rw [← h1.1]; rfl
  | agg vs =>
    rw [freeze] at h1
    simp only [Option.map_eq_some_iff] at h1
    obtain ⟨q, _, h1⟩ := h1
    simp only [Prod.mk.injEq] at h1
    rw [← h1.1]
    unfold pack; split <;> rfl
  | undef => simp [AV.real] at hreal
  | tup => simp [AV.real] at hreal
  | dat =>
    rw [Rs.freeze_self (by simp) (by simp) (by simp)] at h1
    simp only [Option.some.injEq, Prod.mk.injEq] at h1; rw [← h1.1]; rfl
  | ptr =>
    rw [Rs.freeze_self (by simp) (by simp) (by simp)] at h1
    simp only [Option.some.injEq, Prod.mk.injEq] at h1; rw [← h1.1]; rfl
  | fn =>
    rw [Rs.freeze_self (by simp) (by simp) (by simp)] at h1
    simp only [Option.some.injEq, Prod.mk.injEq] at h1; rw [← h1.1]; rfl
  | hnd =>
    rw [Rs.freeze_self (by simp) (by simp) (by simp)] at h1
    simp only [Option.some.injEq, Prod.mk.injEq] at h1; rw [← h1.1]; rfl
theorem freezeL_vs {w : World} : ∀ {vs : List AV} {σ : Store} {S : Nat → Prop} {m : List (Option Nat)} {rs : List AV} {σ' : Store} {us : List Value}, Inv w S m σ → freezeL vs σ = some (rs, σ') → RvVs w S (tbl m σ) vs us →
    ∃ S', Stp w S m σ w S' m σ' ∧ RvVs w S' (tbl m σ') rs us
  | [], σ, S, m, rs, σ', us, hi, h, hx => by
    rw [freezeL] at h
    simp only [Option.some.injEq, Prod.mk.injEq] at h
    obtain ⟨rfl, rfl⟩ := h
    exact ⟨S, Stp.refl hi, hx⟩
  | v :: vs, σ, S, m, rs, σ', us, hi, h, hx => by
    rw [freezeL] at h
    simp only [Option.bind_eq_some_iff, Option.map_eq_some_iff] at h
    obtain ⟨⟨r1, σ1⟩, h1, ⟨rs2, σ2⟩, h2, hq⟩ := h
    simp only [Prod.mk.injEq] at hq
    obtain ⟨rfl, rfl⟩ := hq
    rw [RvVs] at hx
    obtain ⟨u, us', rfl, x0, x1, x2⟩ := hx
    obtain ⟨S1, s1, r1'⟩ := freeze_sound hi h1 (Rs.of x0 x1)
    have hrr : r1.real = true := freeze_real h1 (by cases v <;> first | rfl | simp [Rv] at x1)
    obtain ⟨g1, g2⟩ := r1'.real hrr
    obtain ⟨S2, s2, r2⟩ := freezeL_vs s1.inv h2 (x2.mono s1.ext.kp s1.tx)
    refine ⟨S2, s1.trans s2, ?_⟩
    rw [RvVs]
    exact ⟨u, us', rfl, by rw [g1], g2.mono s2.ext.kp s2.tx, r2⟩
theorem wp_value {o : Oper} {next : Act → World → Prop} {Q : Exit → Act → World → Prop} {v : Value} {w' : World} (hrun : (execOp a.eval o).run P w = .ok (.value v) w') (h : next (a.put o.dst v) w') : OWp P o a w next Q := by
  intro ro
  refine ⟨fun _ _ => trivial, ?_⟩
  rw [semAt_run hrun (by simp)]
  exact h
theorem wp_skip' {o : Oper} {next : Act → World → Prop} {Q : Exit → Act → World → Prop} {w' : World} (hrun : (execOp a.eval o).run P w = .ok .skip w') (h : next (a.put o.dst Go.undef) w') : OWp P o a w next Q := by
  intro ro
  refine ⟨fun _ _ => trivial, ?_⟩
  rw [semAt_run hrun (by simp)]
  exact h
def Nx (P : Program) (s : Sem Next) (w : World) (Q : Ending → World → Prop) : Prop := (∃ g vs, s.run P w = .ok (.enter g vs) w ∧ Calls P g vs w Q) ∨ (∃ v, s.run P w = .ok (.value v) w ∧ Q (.returned v) w) ∨
  ∃ l f tmps assign body, s.run P w = .ok (.round l f tmps assign body) w ∧ RoundIn Fence.wide 0 P l f tmps assign body w Q
theorem GetsX.nx {x : Bool} {P : Program} {g : FuncId} {vals : Array Value} {w : World} {Q : Ending → World → Prop} {s : Sem Next} (h : GetsX x P g vals w Q) (hs : s.run P w = (callFunc g vals).run P w) : Nx P s w Q := by
  rcases h with ⟨a, b⟩ | ⟨_, v, b, c⟩
  · exact .inl ⟨g, vals, hs.trans (a w), b⟩
  · exact .inr (.inl ⟨v, hs.trans (b w), c⟩)
theorem call1_sound {o : Oper} {next : Act → World → Prop} {Q : Exit → Act → World → Prop} {ref : Bool} {f : List AV → Store → Option (List AV × Store)} {args : List AV} {vals : List Value} {K : AV → Store → Option Res} {r : Res}
    (hi : Inv w S m σ) (hargs : F2 (fun v u => Rs w S (tbl m σ) v u) args vals) (h : call1 E ref f args σ K = some r)
    (hf : ∀ S' σ1 args' res σ', Inv w S' m σ1 → RvVs w S' (tbl m σ1) args' vals → TExt (tbl m σ) (tbl m σ1) → Kp w S w S' → f args' σ1 = some (res, σ') →
      Nx P (execOp a.eval o) w (fun e w' => ∃ v S'' m', e = .returned v ∧ Stp w S' m σ1 w' S'' m' σ' ∧ Rs w' S'' (tbl m' σ') (res1 res) v))
    (hnext : ∀ v σ' val w' S' m', Stp w S m σ w' S' m' σ' → Rs w' S' (tbl m' σ') v val → K v σ' = some r → next (a.put o.dst val) w') : OWp P o a w next Q := by
  unfold call1 at h
  cases hr : realL args with
  | false => rw [hr] at h; simp at h
  | true =>
    rw [hr] at h
    simp only [cond_true] at h
    have hvs := rvVs_of hargs hr
    have main : ∀ S' σ1 args' , Stp w S m σ w S' m σ1 → RvVs w S' (tbl m σ1) args' vals → bind2 (f args' σ1) (fun r σ => K (res1 r) σ) = some r → OWp P o a w next Q := by
      intro S' σ1 args' hst hv hb
      simp only [bind2, Option.bind_eq_some_iff] at hb
      obtain ⟨⟨res, σ'⟩, h1, h2⟩ := hb
      rcases hf S' σ1 args' res σ' hst.inv hv hst.tx hst.ext.kp h1 with ⟨g, vs, hrun, hcalls⟩ | ⟨u, hrun, v, S'', m', he, hst', hrs⟩ | ⟨l, f, tmps, assign, body, hrun, hround⟩
      · intro ro
        refine ⟨fun _ _ => trivial, ?_⟩
        rw [semAt_run hrun (by simp), Oper.uponIn_enter]
        refine ⟨fun h => by simp [Fz, Fence.wide] at h, ?_⟩
        refine (show CallsIn Fence.wide (0 - 1) P g vs w _ from callsIn_wide.2 hcalls).mono ?_
        rintro e w' ⟨v, S'', m', rfl, hst', hrs⟩
        exact hnext _ _ _ _ _ _ (hst.trans hst') hrs h2
      rotate_left
      · intro ro
        refine ⟨fun _ _ => trivial, ?_⟩
        rw [semAt_run hrun (by simp), Oper.uponIn_round]
        refine ⟨fun h => by simp [Fz, Fence.wide] at h, ?_⟩
        refine (show RoundIn Fence.wide (0 - 1) P l f tmps assign body w _ from hround).mono ?_
        rintro e w' ⟨v, S'', m', rfl, hst', hrs⟩
        exact hnext _ _ _ _ _ _ (hst.trans hst') hrs h2
      · intro ro
        refine ⟨fun _ _ => trivial, ?_⟩
        rw [semAt_run hrun (by simp)]
        simp only [Ending.returned.injEq] at he
        subst he
        exact hnext _ _ _ _ _ _ (hst.trans hst') hrs h2
    cases ref with
    | true => exact main S σ args (Stp.refl hi) hvs h
    | false =>
      simp only [cond_false, bind2, Option.bind_eq_some_iff] at h
      obtain ⟨⟨args', σ1⟩, h1, h2⟩ := h
      obtain ⟨S', hst, hv⟩ := freezeL_vs hi h1 hvs
      exact main S' σ1 args' hst hv (by simpa only [bind2, Option.bind_eq_some_iff] using h2)
theorem RdVs.toRv {T : Nat → Option Ent} : ∀ {ds : List D} {us : List Value}, RdVs w S ds us → RvVs w S T (ds.map .dat) us
  | [], us, h => by simpa [RdVs, RvVs] using h
  | d :: ds, us, h => by
    rw [RdVs] at h
    obtain ⟨u, us', rfl, h0, h1, h2⟩ := h
    rw [List.map_cons, RvVs]
    exact ⟨u, us', rfl, h0, by rw [Rv]; exact h1, RdVs.toRv h2⟩
theorem RvVs.append {T : Nat → Option Ent} : ∀ {xs ys : List AV} {us vs : List Value}, RvVs w S T xs us → RvVs w S T ys vs → RvVs w S T (xs ++ ys) (us ++ vs)
  | [], ys, us, vs, h, k => by simp only [RvVs] at h; subst h; simpa using k
  | x :: xs, ys, us, vs, h, k => by
    rw [RvVs] at h
    obtain ⟨u, us', rfl, h0, h1, h2⟩ := h
    rw [List.cons_append, List.cons_append, RvVs]
    exact ⟨u, _, rfl, h0, h1, RvVs.append h2 k⟩
theorem dyn_sound {C : Disp} (hC : ∀ g, CalOk P g (FunT.run (C g))) {fv : AV} {u : Value} {args res : List AV} {vals : Array Value} {σ' : Store} (hi : Inv w S m σ) (hf : Rs w S (tbl m σ) fv u) (hargs : RvVs w S (tbl m σ) args vals.toList)
    (h : dyn C fv args σ = some (res, σ')) :
    Nx P (do let d ← Deferred.ofValue u vals; invoke d.target d.args : Sem Next) w (fun e w' => ∃ v S'' m', e = .returned v ∧ Stp w S m σ w' S'' m' σ' ∧ Rs w' S'' (tbl m' σ') (res1 res) v) := by
  have key : ∀ (g : FuncId) (fi ca : Array Value) (xs ys : List AV), u = .func (.func g) fi ca → RvVs w S (tbl m σ) xs fi.toList → RvVs w S (tbl m σ) ys ca.toList → callS (FunT.run (C g)) (xs ++ args ++ ys) σ = some (res, σ') →
      Nx P (do let d ← Deferred.ofValue u vals; invoke d.target d.args : Sem Next) w (fun e w' => ∃ v S'' m', e = .returned v ∧ Stp w S m σ w' S'' m' σ' ∧ Rs w' S'' (tbl m' σ') (res1 res) v) := by
    intro g fi ca xs ys hu hx hy hc
    have hall := RvVs.append (RvVs.append hx hargs) hy
    have h1 := callS_ok (hC g) w S m σ _ _ res σ' hi hall hc
    have harr : (fi.toList ++ vals.toList ++ ca.toList).toArray = fi ++ vals ++ ca := by
      rw [← Array.toList_inj]; simp
    rw [harr] at h1
    refine h1.nx ?_
    subst hu
    simp only [Deferred.ofValue, Sem.run_bind, Sem.run_pure, Result.andThen, invoke]
  unfold dyn at h
  split at h
  · rename_i g fi ca
    obtain ⟨h1, h2⟩ := hf
    rw [cells_one h1, Rv, Rd] at h2
    obtain ⟨x, y, h3, h4, h5⟩ := h2
    simp only [List.cons.injEq, and_true] at h3
    exact key g x y _ _ h3 h4.toRv h5.toRv h
  · rename_i g fi ca
    obtain ⟨h1, h2⟩ := hf
    rw [cells_one h1, Rv] at h2
    obtain ⟨x, y, h3, h4, h5⟩ := h2
    simp only [List.cons.injEq, and_true] at h3
    exact key g x y _ _ h3 h4 h5 h
  · simp at h
end
end Go.AX
