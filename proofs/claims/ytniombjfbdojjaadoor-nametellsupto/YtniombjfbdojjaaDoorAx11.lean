import Derived.Test.YtniombjfbdojjaaDoorAx10
/- AX, part 13: copying, texts made bytes, parts of values, equality. -/
namespace Go.AX
section
variable {P : Program} {tab : Tab} {t : TypeId} {I : TyI} {w : World} {S : Nat → Prop} {T : Nat → Option Ent} {m : List (Option Nat)} {σ : Store}
theorem oToBytes_sound (hi : Inv w S m σ) {e : TypeId} {x v : AV} {u : Value} {σ' : Store} (h : oToBytes x σ = some (v, σ')) (hx : Rs w S (tbl m σ) x u) :
    ∃ s vz w' m', u = .string s ∧ (Conv.stringToBytes e s).run P w = .ok vz w' ∧ Stp w S m σ w' S m' σ' ∧ Rs w' S (tbl m' σ') v vz := by
  unfold oToBytes at h
  split at h
  · rename_i s
    cases hc : decide (s.size ≤ LIM) with
    | false => rw [hc] at h; simp at h
    | true =>
      rw [hc] at h
      simp only [cond_true, oNewSlice] at h
      cases hf : fits .one (bytesD s) with
      | false => rw [hf] at h; simp at h
      | true =>
        rw [hf] at h
        simp only [cond_true, Option.some.injEq, Prod.mk.injEq] at h
        obtain ⟨rfl, rfl⟩ := h
        obtain ⟨cap, k, f, h1, h2, h3⟩ := stringToBytes_run (P := P) (e := e) (s := s) w
        have hdr := hi.drew k
        have hl : s.data.size = s.size := rfl
        obtain ⟨s1, s2⟩ := newDyn_stp (e := e) (f := f) (c := (s.data.map fun b => Value.int .u8 b.toNat) ++ Array.replicate (cap - s.size) (.int .u8 0)) (cap := cap) hdr.inv (sh := .one) (bytesD_shape s)
          (by simp [bytesD_length, Sh.size])
          (by
            have : ((s.data.map fun b => Value.int .u8 b.toNat) ++ Array.replicate (cap - s.size) (Value.int .u8 0)).toList.take ((bytesD s).length * Sh.size .one) = s.data.toList.map fun b => Value.int .u8 b.toNat := by
              rw [bytesD_length, Sh.size, Nat.mul_one, Array.toList_append]
              refine List.take_left' ?_ |>.trans (by simp)
              simp [hl]
            rw [this]
            exact bytesD_cells s)
          (by intro o ho; refine h2 o ?_; simp at ho; omega) (by simp [Sh.size]; omega) (by rw [bytesD_length]; exact h1)
        rw [bytesD_length] at s2 ⊢
        exact ⟨s, _, _, _, hx.str, h3, hdr.trans s1, s2⟩
  · simp at h
theorem oOwn_sound (hi : Inv w S m σ) {x v : AV} {u : Value} {σ' : Store} (h : oOwn x σ = some (v, σ')) (hx : Rs w S (tbl m σ) x u) :
    ∃ m', Stp w S m σ w S m' σ' ∧ Rs w S (tbl m' σ') v u := by
  unfold oOwn at h
  split at h
  · rename_i s
    simp only [Option.some.injEq, Prod.mk.injEq] at h
    obtain ⟨rfl, rfl⟩ := h
    have x := TExt.append hi.len none (mkDyn s [])
    have hinv : Inv w S (m ++ [none]) (σ ++ [mkDyn s []]) := by
      refine ⟨by simp [hi.len], hi.sdom, hi.scel, ?_, ?_⟩
      · intro i j b h1 h2
        have hm : ∀ (i : Nat), (m ++ [none])[i]? = some (some b) → m[i]? = some (some b) := by
          intro i h
          rcases Nat.lt_or_ge i m.length with hl | hl
          · rwa [List.getElem?_append_left hl] at h
          · rw [List.getElem?_append_right hl] at h
            cases hq : i - m.length with
            | zero => rw [hq] at h; simp at h
            | succ q => rw [hq] at h; simp at h
        exact hi.inj i j b (hm i h1) (hm j h2)
      · intro i B hB
        rcases Nat.lt_or_ge i σ.length with hl | hl
        · rw [List.getElem?_append_left hl] at hB
          have hg : (m ++ [none]).getD i none = m.getD i none := by
            rw [List.getD_eq_getElem?_getD, List.getD_eq_getElem?_getD, List.getElem?_append_left (by rw [hi.len]; exact hl)]
          rw [hg]
          exact (hi.blk i B hB).mono (Kp.refl _ _) x (fun _ _ => rfl) (fun _ _ hs => hs)
        · have hie : i = σ.length := by
            have := (List.getElem?_eq_some_iff.1 hB).1
            simp at this; omega
          subst hie
          rw [List.getElem?_append_right (Nat.le_refl _)] at hB
          simp at hB
          subst hB
          have hg : (m ++ [none]).getD σ.length none = none := by
            rw [List.getD_eq_getElem?_getD, List.getElem?_append_right (by rw [hi.len]; exact Nat.le_refl _)]
            simp [hi.len]
          rw [hg]
          exact ⟨rfl, s, rfl, rfl⟩
    refine ⟨_, ⟨hinv, ⟨Kp.refl _ _, rfl, rfl, rfl, Nat.le_refl _, fun _ _ _ => rfl, fun _ h => .inl h, ?_⟩, x⟩, ?_⟩
    · intro i b hb
      rcases Nat.lt_or_ge i m.length with hl | hl
      · rw [List.getElem?_append_left hl] at hb; exact .inl hb
      · rw [List.getElem?_append_right hl] at hb
        cases hq : i - m.length with
        | zero => rw [hq] at hb; simp at hb
        | succ q => rw [hq] at hb; simp at hb
    · obtain ⟨hx', a0, n0, hn0⟩ := hx.fslc
      obtain ⟨a, cap, hv, f1, f2, f3⟩ := hx'.slc
      rw [hv] at hn0
      simp only [Value.slice.injEq, List.length_nil] at hn0
      obtain ⟨_, h1, h2⟩ := hn0
      rw [hv]
      refine ⟨rfl, ?_⟩
      show Rv w S _ _ [_]
      rw [Rv]
      exact ⟨a, cap, _, rfl, ⟨f1, .inl rfl⟩, tbl_new hi.len _ _, Nat.le_refl _, fun _ => ⟨0, rfl, f1, Nat.le_refl _, by simp only; omega⟩⟩
  · simp only [Option.some.injEq, Prod.mk.injEq] at h
    obtain ⟨rfl, rfl⟩ := h
    exact ⟨m, Stp.refl hi, hx⟩
  · simp at h
theorem part_run {P : Program} {e : TypeId} {J : TyI} (hJ : TyOk P tab e J) {cs : Array Value} {o : Nat} {v : AV} (hv : Rv w S T v ((cs.toList.drop o).take J.sh.size)) (hs : v.shape = J.sh) (hl : o + J.sh.size ≤ cs.size) :
    ∃ vz, (part e cs o).run P w = .ok vz w ∧ Rs w S T v vz := by
  obtain ⟨i, d, h1, h2, h3, _⟩ := hJ.info
  have ha := hJ.aggSh h2
  unfold part
  simp only [Sem.run_bind, isAgg_run h2, Result.andThen, ha, Sem.run_ite]
  cases hg : aggSh J.sh with
  | true =>
    simp only [if_true, sizeOf_run h1, h3, Sem.run_pure]
    refine ⟨_, rfl, Rs.of ?_ ?_⟩
    · rw [AV.aggB_shape, hs, hg]; rfl
    · have : (cs.extract o (o + J.sh.size)).toList = (cs.toList.drop o).take J.sh.size := by
        simp [Array.toList_extract, List.extract_eq_take_drop]
      show Rv w S T v (cs.extract o (o + J.sh.size)).toList
      rw [this]; exact hv
  | false =>
    have h1' := size_one_of_not_agg hg
    rw [h1'] at hs hv hl
    simp only [Sh.size] at hv hl
    have hlt : o < cs.size := by omega
    rw [Array.getElem?_eq_getElem hlt]
    have hd : (cs.toList.drop o).take 1 = [cs[o]] := by
      rw [List.drop_eq_getElem_cons (by simpa using hlt)]
      simp
    rw [hd] at hv
    have h1c := Rv.oneCell hv cs[o] (by simp)
    have hva : valAgg cs[o] = false := by revert h1c; cases cs[o] <;> simp [oneC, valAgg]
    refine ⟨cs[o], by simp, Rs.of ?_ ?_⟩
    · rw [AV.aggB_shape, hs, hva]; rfl
    · rw [cells_one hva]; exact hv
theorem oField_sound (hP : tabOk P tab 0 tab = true) (hI : TyOk P tab t I) {fs : List (TypeId × Nat)} (hfs : I.ty = .struct fs) {f : Nat} {x v : AV} {u : Value} (hsh : x.shape = I.sh) (h : oField f x = some v) (hx : Rs w S T x u) :
    ∃ vz, (Instr.field t u f).run P w = .ok vz w ∧ Rs w S T v vz := by
  have key : ∀ (vs : List AV) (l : List Sh), I.sh = .agg l → AV.shapeL vs = l → vs[f]? = some v → ∀ cs : Array Value, u = .agg cs → RvL w S T vs cs.toList → ∃ vz, (Instr.field t u f).run P w = .ok vz w ∧ Rs w S T v vz := by
    intro vs l hl hvl hvf cs hu hr
    obtain ⟨gs, hug, hok, _⟩ := hI.struct hfs hl
    have hlf : l[f]? = some v.shape := by rw [← hvl]; exact AV.shapeL_get hvf
    obtain ⟨ft, fd, J, a1, a2, a3, a4, a5, a6, a7, a8⟩ := fieldsOk_get hok hlf
    have hJ := tyOk hP a6 a8
    have hg : gs[f]? = some fd := by rw [← Array.getElem?_toList]; exact a2
    obtain ⟨q1, q2⟩ := RvL.get hr hvf
    rw [hvl] at q1 q2
    rw [Nat.zero_add] at a4
    subst hu
    unfold Instr.field
    simp only [Sem.run_bind, underlying_run hug, Result.andThen, hg, asAgg, Sem.run_pure]
    rw [a3]
    refine part_run hJ ?_ a7.symm ?_
    · rw [a7, a4]; exact q1
    · rw [a7, a4]; simpa using q2
  unfold oField at h
  split at h
  · rename_i ds
    simp only [Option.map_eq_some_iff] at h
    obtain ⟨d, hd, rfl⟩ := h
    obtain ⟨h1, h2⟩ := hx
    cases u with
    | agg cs =>
      rw [AV.shape, D.shape] at hsh
      rw [Rv, Rd] at h2
      exact key (ds.map .dat) _ hsh.symm (AV.shapeL_dat ds) (by simp [hd]) cs rfl (RvL.of_dat h2)
    | _ => simp [valAgg, AV.aggB, D.aggB] at h1
  · rename_i vs
    obtain ⟨h1, h2⟩ := hx
    cases u with
    | agg cs =>
      rw [AV.shape] at hsh
      rw [Rv] at h2
      exact key vs _ hsh.symm rfl h cs rfl h2
    | _ => simp [valAgg, AV.aggB] at h1
  · simp at h
theorem oIndexS_sound (hu : P.underlying t = some .string) {x y v : AV} {ux uy : Value} (h : oIndexS x y = some v) (hx : Rs w S T x ux) (hy : Rs w S T y uy) :
    ∃ vz, (Instr.index t ux uy).run P w = .ok vz w ∧ Rs w S T v vz := by
  unfold oIndexS at h
  split at h
  · rename_i s k hk
    obtain ⟨kk, rfl, rfl⟩ := asI_sound hk hy
    cases h0 : decide (0 ≤ k) with
    | false => rw [h0] at h; simp at h
    | true =>
      rw [h0] at h
      simp only [decide_eq_true_eq] at h0
      simp only [cond_true, Option.map_eq_some_iff] at h
      obtain ⟨b, hb, rfl⟩ := h
      rw [hx.str]
      have hsb : s[k.toNat]? = some b := by
        obtain ⟨hl, hb⟩ := List.getElem?_eq_some_iff.1 hb
        have hl' : k.toNat < s.size := by simpa using hl
        rw [getElem?_pos s k.toNat hl']
        congr 1
      refine ⟨_, ?_, Rs.of_int _ _⟩
      unfold Instr.index
      simp only [asIntOf, Sem.run_bind, Sem.run_pure, Result.andThen, underlying_run hu, h0, if_true, hsb]
  · simp at h
theorem oIndexA_sound (hP : tabOk P tab 0 tab = true) (hI : TyOk P tab t I) {N e : Nat} (hty : I.ty = .arr N e) {x y v : AV} {ux uy : Value} (hsh : x.shape = I.sh) (h : oIndexA x y = some v) (hx : Rs w S T x ux) (hy : Rs w S T y uy) :
    ∃ vz, (Instr.index t ux uy).run P w = .ok vz w ∧ Rs w S T v vz := by
  obtain ⟨hu, J, hJ, hJsh, hsz, hkn⟩ := hI.array hty
  have hJok := tyOk hP hJ hkn
  obtain ⟨i, d0, b1, b2, b3, _⟩ := hJok.info
  unfold oIndexA at h
  split at h
  · rename_i s ds k hk
    obtain ⟨kk, rfl, rfl⟩ := asI_sound hk hy
    cases h0 : decide (0 ≤ k) with
    | false => rw [h0] at h; simp at h
    | true =>
      rw [h0] at h
      simp only [decide_eq_true_eq] at h0
      simp only [cond_true, Option.map_eq_some_iff] at h
      obtain ⟨d, hd, rfl⟩ := h
      obtain ⟨h1, h2⟩ := hx
      cases ux with
      | agg cs =>
        rw [AV.shape, D.shape, hJsh] at hsh
        simp only [Sh.arr.injEq] at hsh
        obtain ⟨rfl, rfl⟩ := hsh
        rw [Rv, Rd] at h2
        obtain ⟨q1, q2⟩ := RdL.get h2.1 hd
        have hlt : k.toNat < ds.length := (List.getElem?_eq_some_iff.1 hd).1
        have hds := h2.2 d (List.mem_of_getElem? hd)
        rw [sizeL_same _ _ k.toNat (shapeL_all h2.2) (by rw [D.shapeL_eq]; simp; omega), hds] at q1 q2
        unfold Instr.index
        simp only [asIntOf, Sem.run_bind, Sem.run_pure, Result.andThen, underlying_run hu]
        rw [if_pos ⟨h0, by omega⟩]
        simp only [Sem.run_bind, sizeOf_run b1, Result.andThen, b3]
        have q2' : k.toNat * J.sh.size + J.sh.size ≤ cs.size := q2
        exact part_run hJok (by rw [Rv]; exact q1) hds q2'
      | _ => simp [valAgg, AV.aggB, D.aggB] at h1
  · simp at h
end
end Go.AX

namespace Go.AX
section
variable {P : Program} {w : World} {S : Nat → Prop} {m : List (Option Nat)} {σ : Store}
theorem ownAt_sound (hi : Inv w S m σ) {x : AV} {p : List Nat} {σ' : Store} {u : Value} (h : ownAt x p σ = some σ') (hx : Rs w S (tbl m σ) x u) : ∃ m', Stp w S m σ w S m' σ' := by
  unfold ownAt at h
  split at h
  · rename_i s id n q
    split at h
    · rename_i B hB
      cases hc : Nat.beq B.n n && !B.frz && !B.dyn && posSh B.sh with
      | false => rw [hc] at h; simp at h
      | true =>
      rw [hc, cond_true] at h
      simp only [Bool.and_eq_true, Bool.not_eq_true'] at hc
      obtain ⟨⟨⟨hn, hf⟩, hd⟩, hps⟩ := hc
      have hn := Nat.eq_of_beq_eq_true hn
      subst hn
      split at h
      · rename_i s2 hnav
        simp only [Option.map_eq_some_iff] at h
        obtain ⟨v', hput, rfl⟩ := h
        obtain ⟨b, o, c, t, f, rfl, hm, hb, k2, k3, _, k6, l4, l5⟩ := ptr_place hi hps hB hx
        obtain ⟨h1, h2⟩ := l5 hd
        obtain ⟨o', a1, a2, a3, a4⟩ := AV.nav_spec _ h2 hnav
        simp only [AV.shape, Sh.size] at a3 a4
        obtain ⟨y, hy⟩ : ∃ y, (c.toList.drop o').take 1 = [y] := by
          rw [Rv] at a3
          obtain ⟨_, ad, nn, e⟩ := a3
          exact ⟨_, e⟩
        rw [hy] at a3
        have hyv : valAgg y = false := by
          have := Rv.oneCell a3 y (by simp)
          cases y <;> first | rfl | simp [oneC] at this
        have hys : Rs w S (tbl m σ) (.fslc s2 []) y := ⟨by rw [hyv]; rfl, by rw [cells_one hyv]; exact a3⟩
        obtain ⟨m1, s1, r1⟩ := oOwn_sound hi (show oOwn (.fslc s2 []) σ = some (.sref s2 σ.length 0 [] 0 0, σ ++ [mkDyn s2 []]) from rfl) hys
        obtain ⟨q1, q2⟩ := r1.real rfl
        rw [cells_one hyv] at q2
        have hx1 := s1.rs hx
        have hB1 : (σ ++ [mkDyn s2 []])[id]? = some B := by
          rw [List.getElem?_append_left (List.getElem?_eq_some_iff.1 hB).1]; exact hB
        obtain ⟨b', o1, c1, t1, f1, hbb, hm1, hb1, k21, k31, _, _, l41, l51⟩ := ptr_place s1.inv hps hB1 hx1
        simp only [Value.pointer.injEq, Option.some.injEq, Addr.mk.injEq] at hbb
        obtain ⟨rfl, rfl, -⟩ := hbb
        rw [hb] at hb1
        simp only [Option.some.injEq, Obj.cells.injEq] at hb1
        obtain ⟨rfl, rfl, rfl⟩ := hb1
        have hpp : (B.dyn && (q ++ p).isEmpty) = false := by rw [hd]; rfl
        rw [h1] at a1 a2
        obtain ⟨_, st⟩ := put_place s1.inv hB1 hm1 hb hf hpp a2 a1 l41 l51 hput q2
        rw [splice_same hy] at st
        have : c.toList.toArray = c := by simp
        rw [this, putHeap_same hb] at st
        exact ⟨m1, s1.trans st⟩
      · simp only [Option.some.injEq] at h
        subst h
        exact ⟨m, Stp.refl hi⟩
      · simp at h
    · simp at h
  · simp at h
theorem vpOf_sound (hi : Inv w S m σ) {x r : AV} {σ' : Store} {u : Value} (h : vpOf x σ = some (r, σ')) (hx : Rs w S (tbl m σ) x u) : ∃ S', Stp w S m σ w S' m σ' ∧ Rs w S' (tbl m σ') r u := by
  unfold vpOf at h
  split at h
  · rename_i s id n p
    split at h
    · rename_i B hB
      cases hc : Nat.beq B.n n && !B.dyn && posSh B.sh with
      | false => rw [hc] at h; simp at h
      | true =>
      rw [hc, cond_true] at h
      simp only [Bool.and_eq_true, Bool.not_eq_true'] at hc
      obtain ⟨⟨hn, hd⟩, hps⟩ := hc
      have hn := Nat.eq_of_beq_eq_true hn
      subst hn
      split at h
      · rename_i d hnav
        cases hs : Sh.eqb d.shape s with
        | false => rw [hs] at h; simp at h
        | true =>
        rw [hs, cond_true] at h
        simp only [Option.some.injEq, Prod.mk.injEq] at h
        obtain ⟨rfl, rfl⟩ := h
        have hs := Sh.eq_of_eqb hs
        obtain ⟨b, o, c, t, f, rfl, hm, hb, k2, k3, k5, k6, l4, l5⟩ := ptr_place hi hps hB hx
        obtain ⟨h1, h2⟩ := l5 hd
        obtain ⟨o', a1, a2, a3, a4⟩ := AV.nav_spec _ h2 hnav
        rw [h1, k3] at a1
        simp only [Option.some.injEq] at a1
        subst a1
        have hsz : (AV.dat d).shape.size = s.size := by rw [AV.shape, hs]
        rw [hsz] at a3 a4
        rw [Rv] at a3
        have hrow : row w b o s.size = some ((c.toList.drop o).take s.size) := by
          unfold row
          rw [hb]
          simp only
          rw [if_pos (by rw [Array.length_toList] at a4; exact a4)]
        have fin : ∀ (S' : Nat → Prop) σ', Stp w S m σ w S' m σ' → S' b → Rs w S' (tbl m σ') (.dat (.vptr s d)) (.pointer (some ⟨b, o, none⟩)) := by
          intro S' σ' hst hS
          refine ⟨rfl, ?_⟩
          show Rv w S' (tbl m σ') (.dat (.vptr s d)) [.pointer (some ⟨b, o, none⟩)]
          rw [Rv, Rd]
          exact ⟨b, o, _, rfl, hS, hs, hrow, a3.mono hst.ext.kp⟩
        cases hfz : B.frz with
        | true => exact ⟨S, Stp.refl hi, fin S σ (Stp.refl hi) (k5 hfz)⟩
        | false => exact ⟨_, hi.freeze hB, fin _ _ (hi.freeze hB) (.inr hm)⟩
      · simp at h
    · simp at h
  · simp at h
end
end Go.AX

namespace Go.AX
section
variable {P : Program} {tab : Tab} {w : World} {S : Nat → Prop} {T : Nat → Option Ent}
theorem forList_run {α : Type} (body : α → Option Bool × Unit → Sem (ForInStep (Option Bool × Unit))) : ∀ (l : List α) (bs : List Bool), F2 (fun x (b : Bool) => (body x (none, ())).run P w = .ok (bif b then .yield (none, ()) else .done (some false, ())) w) l bs →
    (forIn l (none, ()) body : Sem (Option Bool × Unit)).run P w = .ok (bif bs.all id then (none, ()) else (some false, ())) w
  | [], _, .nil => rfl
  | x :: l, _, .cons (b := b) (k := bs) h t => by
    simp only [List.forIn_cons, Sem.run_bind, h, Result.andThen]
    cases b with
    | true =>
      simp only [cond_true, List.all_cons, id, Bool.true_and]
      exact forList_run body l bs t
    | false => simp
theorem TyOk.boolT {t : TypeId} {I : TyI} (hI : TyOk P tab t I) (h : I.ty = .bool) : P.underlying t = some .bool := by
  obtain ⟨i, d, h1, h2, _, _, _, _, h3⟩ := hI.info
  rw [h] at h3
  cases d <;> cases hsh : I.sh <;> rw [hsh] at h3 <;> simp at h3
  exact h2
theorem TyOk.intT {t : TypeId} {I : TyI} {k : IntKind} (hI : TyOk P tab t I) (h : I.ty = .int k) : P.underlying t = some (.int k) := by
  obtain ⟨i, d, h1, h2, _, _, _, _, h3⟩ := hI.info
  rw [h] at h3
  cases d <;> cases hsh : I.sh <;> rw [hsh] at h3 <;> simp at h3
  subst h3
  exact h2
theorem TyOk.structSh {t : TypeId} {I : TyI} {fs : List (TypeId × Nat)} (hI : TyOk P tab t I) (h : I.ty = .struct fs) : ∃ l, I.sh = .agg l := by
  obtain ⟨i, d, h1, h2, _, _, _, _, h3⟩ := hI.info
  rw [h] at h3
  cases d <;> cases hsh : I.sh <;> rw [hsh] at h3 <;> simp at h3
  exact ⟨_, rfl⟩
theorem eqv_fields (hP : tabOk P tab 0 tab = true) {d n : Nat} (IH : ∀ t k I, kdOf tab d t = some k → tab[t]? = some I → known tab t = true → ∀ x y b vx vy, eqv k x y = some b → x.shape = I.sh → y.shape = I.sh → Rs w S T (.dat x) vx → Rs w S T (.dat y) vy → (Op.equalIn n t vx vy).run P w = .ok b w)
    (cx cy : Array Value) : ∀ (fs : List (TypeId × Nat)) (gs : List Field) (l : List Sh) (at_ : Nat) (ks : List Kd) (xs ys : List D) (b : Bool), fieldsOk tab fs gs l at_ = true → kdL (kdOf tab d) fs = some ks → eqvL ks xs ys = some b →
    D.shapeL xs = l → D.shapeL ys = l → RdL w S xs (cx.toList.drop at_) → RdL w S ys (cy.toList.drop at_) → gs.all (fun f => f.name != "_") = true →
    ∃ bs, b = bs.all id ∧ F2 (fun (f : Field) (b : Bool) => (if f.name ≠ "_" then do
            let a ← part f.type cx f.offset
            let c ← part f.type cy f.offset
            let q ← Op.equalIn n f.type a c
            if (!q) = true then pure (ForInStep.done (some false, ())) else pure (ForInStep.yield ((none : Option Bool), ()))
          else pure (ForInStep.yield (none, ())) : Sem (ForInStep (Option Bool × Unit))).run P w = .ok (bif b then .yield (none, ()) else .done (some false, ())) w) gs bs
  | [], [], [], at_, ks, xs, ys, b, hok, hk, he, hx, hy, rx, ry, hn => by
    cases xs with
    | nil =>
      simp only [kdL, Option.some.injEq] at hk; subst hk
      cases ys with
      | nil => simp only [eqvL, Option.some.injEq] at he; subst he; exact ⟨[], rfl, .nil⟩
      | cons => simp [eqvL] at he
    | cons => simp [D.shapeL] at hx
  | (ft, o) :: fs, f :: gs, s :: l, at_, ks, xs, ys, b, hok, hk, he, hx, hy, rx, ry, hn => by
    cases xs with
    | nil => simp [D.shapeL] at hx
    | cons x xs =>
    cases ys with
    | nil => simp [D.shapeL] at hy
    | cons y ys =>
      simp only [D.shapeL, List.cons.injEq] at hx hy
      simp only [fieldsOk, Bool.and_eq_true, decide_eq_true_eq] at hok
      obtain ⟨⟨⟨⟨⟨h1, h2⟩, h3⟩, h4⟩, h5⟩, h6⟩ := hok
      simp only [kdL] at hk
      split at hk
      · rename_i k ks' hk1 hk2
        simp only [Option.some.injEq] at hk; subst hk
        simp only [eqvL, Option.bind_eq_some_iff, Option.some.injEq] at he
        obtain ⟨b1, e1, b2, e2, rfl⟩ := he
        split at h5
        · rename_i J hJ
          simp only [Bool.and_eq_true] at h5
          have hJs := Sh.eq_of_eqb h5.1
          have hkn : known tab ft = true := by unfold known; rw [hJ]; exact h5.2
          have hJok := tyOk hP hJ hkn
          rw [RdL] at rx ry
          obtain ⟨p1, p2, ep, px, pxs⟩ := rx
          obtain ⟨q1, q2, eq, qy, qys⟩ := ry
          have lx := Rd.length px
          have ly := Rd.length qy
          rw [hx.1] at lx; rw [hy.1] at ly
          simp only [List.all_cons, Bool.and_eq_true, bne_iff_ne, ne_eq] at hn
          have hoff : f.offset = at_ := by omega
          obtain ⟨vx, r1, r2⟩ := part_run (P := P) (w := w) (S := S) (T := T) (v := .dat x) (o := f.offset) (cs := cx) hJok (by rw [hoff, ep, Rv, hJs, ← lx, List.take_left]; exact px) (by rw [hJs]; exact hx.1) (by
            rw [hJs, hoff]
            have := congrArg List.length ep
            simp only [List.length_drop, List.length_append, Array.length_toList, lx] at this
            have : s.size ≠ 0 := h4
            omega)
          obtain ⟨vy, r3, r4⟩ := part_run (P := P) (w := w) (S := S) (T := T) (v := .dat y) (o := f.offset) (cs := cy) hJok (by rw [hoff, eq, Rv, hJs, ← ly, List.take_left]; exact qy) (by rw [hJs]; exact hy.1) (by
            rw [hJs, hoff]
            have := congrArg List.length eq
            simp only [List.length_drop, List.length_append, Array.length_toList, ly] at this
            have : s.size ≠ 0 := h4
            omega)
          have hdx : cx.toList.drop (at_ + s.size) = p2 := by rw [← List.drop_drop, ep, ← lx, List.drop_left]
          have hdy : cy.toList.drop (at_ + s.size) = q2 := by rw [← List.drop_drop, eq, ← ly, List.drop_left]
          obtain ⟨bs, a1, a2⟩ := eqv_fields hP IH cx cy fs gs l (at_ + s.size) ks' xs ys b2 h6 hk2 e2 hx.2 hy.2 (by rw [hdx]; exact pxs) (by rw [hdy]; exact qys) hn.2
          have hrun := IH ft k J hk1 hJ hkn x y b1 vx vy e1 (by rw [hJs]; exact hx.1) (by rw [hJs]; exact hy.1) r2 r4
          refine ⟨b1 :: bs, by simp [a1], .cons ?_ a2⟩
          rw [if_pos hn.1]
          simp only [h1, Sem.run_bind, r1, r3, hrun, Result.andThen]
          cases b1 <;> simp
        · simp at h5
      · simp at hk
  | [], [], _ :: _, _, _, _, _, _, h, _, _, _, _, _, _, _ => by simp [fieldsOk] at h
  | [], _ :: _, _, _, _, _, _, _, h, _, _, _, _, _, _, _ => by simp [fieldsOk] at h
  | _ :: _, [], _, _, _, _, _, _, h, _, _, _, _, _, _, _ => by simp [fieldsOk] at h
  | _ :: _, _ :: _, [], _, _, _, _, _, h, _, _, _, _, _, _, _ => by simp [fieldsOk] at h
theorem eqv_elems (hP : tabOk P tab 0 tab = true) {d n e : Nat} {k : Kd} {J : TyI} (hk : kdOf tab d e = some k) (hJ : tab[e]? = some J) (hkn : known tab e = true)
    (IH : ∀ x y b vx vy, eqv k x y = some b → x.shape = J.sh → y.shape = J.sh → Rs w S T (.dat x) vx → Rs w S T (.dat y) vy → (Op.equalIn n e vx vy).run P w = .ok b w)
    (cx cy : Array Value) : ∀ (xs ys : List D) (i : Nat) (b : Bool), eqvA k xs ys = some b → (∀ x ∈ xs, x.shape = J.sh) → (∀ y ∈ ys, y.shape = J.sh) → RdL w S xs (cx.toList.drop (i * J.sh.size)) → RdL w S ys (cy.toList.drop (i * J.sh.size)) → J.sh.size ≠ 0 →
    ∃ bs, b = bs.all id ∧ F2 (fun (i : Nat) (b : Bool) => (do
            let a ← part e cx (i * J.sh.size)
            let c ← part e cy (i * J.sh.size)
            let q ← Op.equalIn n e a c
            if (!q) = true then pure (ForInStep.done (some false, ())) else pure (ForInStep.yield ((none : Option Bool), ())) : Sem (ForInStep (Option Bool × Unit))).run P w = .ok (bif b then .yield (none, ()) else .done (some false, ())) w) (List.range' i xs.length) bs
  | [], ys, i, b, he, _, _, _, _, _ => by
    cases ys with
    | nil => simp only [eqvA, Option.some.injEq] at he; subst he; exact ⟨[], rfl, .nil⟩
    | cons => simp [eqvA] at he
  | x :: xs, ys, i, b, he, hx, hy, rx, ry, hz => by
    cases ys with
    | nil => simp [eqvA] at he
    | cons y ys =>
      have hJok := tyOk hP hJ hkn
      simp only [eqvA, Option.bind_eq_some_iff, Option.some.injEq] at he
      obtain ⟨b1, e1, b2, e2, rfl⟩ := he
      rw [RdL] at rx ry
      obtain ⟨p1, p2, ep, px, pxs⟩ := rx
      obtain ⟨q1, q2, eq, qy, qys⟩ := ry
      have sx := hx x (List.mem_cons_self ..)
      have sy := hy y (List.mem_cons_self ..)
      have lx := Rd.length px
      have ly := Rd.length qy
      rw [sx] at lx; rw [sy] at ly
      obtain ⟨vx, r1, r2⟩ := part_run (P := P) (w := w) (S := S) (T := T) (v := .dat x) (o := i * J.sh.size) (cs := cx) hJok (by rw [ep, Rv, ← lx, List.take_left]; exact px) sx (by
        have := congrArg List.length ep
        simp only [List.length_drop, List.length_append, Array.length_toList, lx] at this
        omega)
      obtain ⟨vy, r3, r4⟩ := part_run (P := P) (w := w) (S := S) (T := T) (v := .dat y) (o := i * J.sh.size) (cs := cy) hJok (by rw [eq, Rv, ← ly, List.take_left]; exact qy) sy (by
        have := congrArg List.length eq
        simp only [List.length_drop, List.length_append, Array.length_toList, ly] at this
        omega)
      have hdx : cx.toList.drop ((i + 1) * J.sh.size) = p2 := by rw [Nat.succ_mul, ← List.drop_drop, ep, ← lx, List.drop_left]
      have hdy : cy.toList.drop ((i + 1) * J.sh.size) = q2 := by rw [Nat.succ_mul, ← List.drop_drop, eq, ← ly, List.drop_left]
      obtain ⟨bs, a1, a2⟩ := eqv_elems hP hk hJ hkn IH cx cy xs ys (i + 1) b2 e2 (fun x hx' => hx x (List.mem_cons_of_mem _ hx')) (fun y hy' => hy y (List.mem_cons_of_mem _ hy')) (by rw [hdx]; exact pxs) (by rw [hdy]; exact qys) hz
      have hrun := IH x y b1 vx vy e1 sx sy r2 r4
      refine ⟨b1 :: bs, by simp [a1], ?_⟩
      rw [List.length_cons, List.range'_succ]
      refine .cons ?_ a2
      simp only [Sem.run_bind, r1, r3, hrun, Result.andThen]
      cases b1 <;> simp
theorem eqv_int {k : IntKind} {x y : D} {b : Bool} (h : eqv (.int k) x y = some b) : ∃ a c, x = .int k a ∧ y = .int k c ∧ b = (a == c) := by
  cases x <;> cases y <;> simp [eqv] at h
  rename_i j a j' c
  cases hc : (decide (k = j) && decide (k = j')) with
  | false => rw [hc] at h; simp at h
  | true =>
    rw [hc] at h
    simp only [Bool.and_eq_true, decide_eq_true_eq] at hc
    obtain ⟨rfl, rfl⟩ := hc
    simp only [cond_true, Option.some.injEq] at h
    exact ⟨a, c, rfl, rfl, h.symm⟩
theorem eqv_bool {x y : D} {b : Bool} (h : eqv .bool x y = some b) : ∃ a c, x = .bool a ∧ y = .bool c ∧ b = (a == c) := by
  cases x <;> cases y <;> simp [eqv] at h
  exact ⟨_, _, rfl, rfl, h.symm⟩
theorem eqv_str {x y : D} {b : Bool} (h : eqv .str x y = some b) : ∃ a c, x = .str a ∧ y = .str c ∧ b = decide (a.data.toList = c.data.toList) := by
  cases x <;> cases y <;> simp only [eqv, reduceCtorEq, Option.some.injEq] at h
  exact ⟨_, _, rfl, rfl, h.symm⟩
theorem eqv_agg {l : List Kd} {x y : D} {b : Bool} (h : eqv (.agg l) x y = some b) : ∃ xs ys, x = .agg xs ∧ y = .agg ys ∧ eqvL l xs ys = some b := by
  cases x <;> cases y <;> simp only [eqv, reduceCtorEq] at h
  exact ⟨_, _, rfl, rfl, h⟩
theorem eqv_arr {k : Kd} {n : Nat} {x y : D} {b : Bool} (h : eqv (.arr k n) x y = some b) : ∃ s xs s' ys, x = .arr s xs ∧ y = .arr s' ys ∧ xs.length = n ∧ ys.length = n ∧ eqvA k xs ys = some b := by
  cases x <;> cases y <;> simp only [eqv, reduceCtorEq] at h
  rename_i s xs s' ys
  cases hc : (Nat.beq xs.length n && Nat.beq ys.length n) with
  | false => rw [hc] at h; simp at h
  | true =>
    rw [hc] at h
    simp only [Bool.and_eq_true] at hc
    exact ⟨s, xs, s', ys, rfl, rfl, Nat.eq_of_beq_eq_true hc.1, Nat.eq_of_beq_eq_true hc.2, h⟩
theorem eqv_sound (hP : tabOk P tab 0 tab = true) : ∀ (d : Nat) (t : TypeId) (k : Kd) (I : TyI), kdOf tab d t = some k → tab[t]? = some I → known tab t = true → ∀ x y b vx vy n, d ≤ n → eqv k x y = some b → x.shape = I.sh → y.shape = I.sh →
    Rs w S T (.dat x) vx → Rs w S T (.dat y) vy → (Op.equalIn n t vx vy).run P w = .ok b w
  | 0, t, k, I, h, _, _ => by simp [kdOf] at h
  | d + 1, t, k, I, h, hI, hkn => by
    intro x y b vx vy n hn he sx sy hx hy
    obtain ⟨n, rfl⟩ : ∃ m, n = m + 1 := ⟨n - 1, by omega⟩
    have hIok := tyOk hP hI hkn
    simp only [kdOf, hI] at h
    cases hty : I.ty with
    | int k' =>
      rw [hty] at h
      simp only [Option.some.injEq] at h; subst h
      have hu := hIok.intT hty
      obtain ⟨a, c, rfl, rfl, rfl⟩ := eqv_int he
      · rw [hx.int, hy.int]
        unfold Op.equalIn
        simp only [Sem.run_bind, underlying_run hu, Result.andThen, if_true, Sem.run_pure]
    | bool =>
      rw [hty] at h
      simp only [Option.some.injEq] at h; subst h
      have hu := hIok.boolT hty
      obtain ⟨a, c, rfl, rfl, rfl⟩ := eqv_bool he
      rw [hx.bool, hy.bool]
      unfold Op.equalIn
      simp only [Sem.run_bind, underlying_run hu, Result.andThen, Sem.run_pure]
    | str =>
      rw [hty] at h
      simp only [Option.some.injEq] at h; subst h
      have hu := hIok.str hty
      obtain ⟨a, c, rfl, rfl, rfl⟩ := eqv_str he
      rw [hx.str, hy.str]
      unfold Op.equalIn
      simp only [Sem.run_bind, underlying_run hu, Result.andThen, Sem.run_pure, Result.ok.injEq, and_true]
      have e1 : (a == c) = (a.data == c.data) := by cases a; cases c; rfl
      rw [e1, Bool.eq_iff_iff]
      simp only [beq_iff_eq, decide_eq_true_eq]
      exact Array.toList_inj.symm
    | struct fs =>
      rw [hty] at h
      simp only at h
      cases hq : I.eqv with
      | false => rw [hq] at h; simp at h
      | true =>
        rw [hq] at h
        simp only [cond_true, Option.map_eq_some_iff] at h
        obtain ⟨ks, hks, rfl⟩ := h
        obtain ⟨l, hl⟩ := hIok.structSh hty
        obtain ⟨gs, hu, hok, hall⟩ := hIok.struct hty hl
        obtain ⟨hall1, hall2⟩ := hall hq
        obtain ⟨xs, ys, rfl, rfl, he⟩ := eqv_agg he
        rw [D.shape, hl] at sx sy
        simp only [Sh.agg.injEq] at sx sy
        obtain ⟨hx1, hx2⟩ := hx
        obtain ⟨hy1, hy2⟩ := hy
        cases vx with
        | agg cx =>
          cases vy with
          | agg cy =>
            rw [Rv, Rd] at hx2 hy2
            obtain ⟨bs, rfl, hbs⟩ := eqv_fields (n := n) hP (fun t k I h1 h2 h3 x y b vx vy h4 h5 h6 h7 h8 => eqv_sound hP d t k I h1 h2 h3 x y b vx vy n (by omega) h4 h5 h6 h7 h8) cx cy fs gs.toList l 0 ks xs ys b hok hks he sx sy hx2 hy2 hall1
            have hrun := forList_run (P := P) (w := w) (fun (f : Field) _ => (if f.name ≠ "_" then do
            let a ← part f.type cx f.offset
            let c ← part f.type cy f.offset
            let q ← Op.equalIn n f.type a c
            if (!q) = true then pure (ForInStep.done (some false, ())) else pure (ForInStep.yield ((none : Option Bool), ()))
          else pure (ForInStep.yield (none, ())) : Sem (ForInStep (Option Bool × Unit)))) gs.toList bs hbs
            unfold Op.equalIn
            simp only [Sem.run_bind, underlying_run hu, Result.andThen, program, Sem.run, hall2, Bool.false_eq_true, if_false]
            rw [← Array.forIn_toList]
            rw [hrun]
            cases hb : bs.all id <;> simp
          | _ => simp [valAgg, AV.aggB, D.aggB] at hy1
        | _ => simp [valAgg, AV.aggB, D.aggB] at hx1
    | arr N e =>
      rw [hty] at h
      simp only [Option.map_eq_some_iff] at h
      obtain ⟨k', hk', rfl⟩ := h
      obtain ⟨hu, J, hJ, hsh, hsz, hkne⟩ := hIok.array hty
      obtain ⟨i, b1, b3, _⟩ := TyOk.of_tab hP hJ hkne
      obtain ⟨s1, xs, s2, ys, rfl, rfl, hl1, hl2, he⟩ := eqv_arr he
      · rw [D.shape, hsh] at sx sy
        simp only [Sh.arr.injEq] at sx sy
        obtain ⟨hx1, hx2⟩ := hx
        obtain ⟨hy1, hy2⟩ := hy
        cases vx with
        | agg cx =>
          cases vy with
          | agg cy =>
            rw [Rv, Rd] at hx2 hy2
            obtain ⟨bs, rfl, hbs⟩ := eqv_elems (n := n) (P := P) (w := w) (S := S) (T := T) hP hk' hJ hkne (fun x y b vx vy h4 h5 h6 h7 h8 => eqv_sound hP d e k' J hk' hJ hkne x y b vx vy n (by omega) h4 h5 h6 h7 h8) cx cy xs ys 0 b he
              (by rw [← sx.1]; exact hx2.2) (by rw [← sy.1]; exact hy2.2) (by simpa [Value.cells] using hx2.1) (by simpa [Value.cells] using hy2.1) hsz
            have hrun := forList_run (P := P) (w := w) (fun (i : Nat) _ => (do
            let a ← part e cx (i * J.sh.size)
            let c ← part e cy (i * J.sh.size)
            let q ← Op.equalIn n e a c
            if (!q) = true then pure (ForInStep.done (some false, ())) else pure (ForInStep.yield ((none : Option Bool), ())) : Sem (ForInStep (Option Bool × Unit)))) _ bs hbs
            unfold Op.equalIn
            simp only [Sem.run_bind, underlying_run hu, Result.andThen, sizeOf_run b1, b3]
            rw [Std.Legacy.Range.forIn_eq_forIn_range']
            simp only [Std.Legacy.Range.size, Nat.sub_zero, Nat.add_sub_cancel, Nat.div_one]
            rw [← hl1, hrun]
            cases hb : bs.all id <;> simp
          | _ => simp [valAgg, AV.aggB, D.aggB] at hy1
        | _ => simp [valAgg, AV.aggB, D.aggB] at hx1
    | _ => rw [hty] at h; simp at h
end
end Go.AX
