import Derived.Test.YtdmmobjegfhneaaAx17
/- AX, part 21: one operation is sound, continued: copying, calls; and all together. -/
namespace Go.AX
section
variable {P : Program} {E : Env} {w : World} {S : Nat → Prop} {m : List (Option Nat)} {σ : Store} {fr : Frame'} {a : Act}
theorem Src.take {sh : Sh} {ys : List D} {u : Value} (h : Src w S sh ys u) {k : Nat} (hk : k ≤ ys.length) : ∃ r, (Builtin.firstCells sh.size k u).run P w = .ok r w ∧ RdL w S (ys.take k) r.toList := by
  rcases h with ⟨a, cap, rfl, h1, h2, h3⟩ | ⟨s, rfl, rfl⟩
  · rcases h3 with h3 | ⟨b, o, r, rfl, h4, h5⟩
    · subst h3
      have hk0 : k = 0 := by simpa using hk
      subst hk0
      refine ⟨#[], ?_, by simp [RdL]⟩
      cases a with
      | none => rfl
      | some a => simp only [Builtin.firstCells, Nat.zero_mul]; rfl
    · have h6 := row_sub (k := 0) (l := k * sh.size) h4 (by rw [Nat.zero_add]; exact Nat.mul_le_mul_right _ hk)
      rw [Nat.add_zero, List.drop_zero] at h6
      refine ⟨_, by simp only [Builtin.firstCells]; exact run_loadCells' h6, ?_⟩
      have := RdL.seg (off := 0) (len := k) h5 h2 (by omega)
      simpa using this
  · refine ⟨_, rfl, ?_⟩
    have he : (s.extract 0 k).data.toList = s.data.toList.take k := by
      rw [Lib.extract_data]; simp
    rw [Array.toList_map, he]
    have hb : bytesD s = bytesD s := rfl
    have key : ∀ (l : List UInt8) (k : Nat), RdL w S ((l.map fun b => D.int .u8 b.toNat).take k) ((l.take k).map fun b => Value.int .u8 b.toNat) := by
      intro l
      induction l with
      | nil => intro k; simp [RdL]
      | cons x l ih =>
        intro k
        cases k with
        | zero => simp [RdL]
        | succ k =>
          simp only [List.map_cons, List.take_succ_cons]
          rw [RdL]
          exact ⟨[_], _, rfl, by rw [Rd], ih k⟩
    exact key s.data.toList k
theorem oCopy_core {tab : Tab} {t : TypeId} {I J : TyI} (hP : tabOk P tab 0 tab = true) (hI : TyOk P tab t I) {e : TypeId} (hty : I.ty = .slc e) (hJ : tab[e]? = some J) (hi : Inv w S m σ) {x v : AV} {vx : Value} {ys : List D} {σ' : Store} {C : Sem Value} {res : Nat → Value}
    (h : oCopy J.sh x ys σ = some (v, σ')) (hx : Rs w S (tbl m σ) x vx)
    (hcore : ∀ ad len cap, vx = .slice ad len cap → (∀ d ∈ ys, d.shape = J.sh) → ∃ r : Array Value, RdL w S (ys.take (min ys.length len)) r.toList ∧ C.run P w = match ad with
      | some a => ((storeCells a r.toList).run P w).andThen fun _ w' => .ok (res (min ys.length len)) w'
      | none => .ok (res (min ys.length len)) w) :
    ∃ (k : Nat) (w' : World), v = aInt k ∧ C.run P w = .ok (res k) w' ∧ Stp w S m σ w' S m σ' := by
  obtain ⟨hu, J', hJ', hsz, hkn⟩ := hI.slice hty
  rw [hJ] at hJ'; simp only [Option.some.injEq] at hJ'; subst hJ'
  obtain ⟨i, b1, b3, _⟩ := TyOk.of_tab hP hJ hkn
  cases x with
  | sref s id n p off len =>
    simp only [oCopy] at h
    cases hB : σ[id]? with
    | none => rw [hB] at h; simp at h
    | some B =>
      rw [hB] at h
      have hcs := cond_some h; clear h; obtain ⟨hc, h⟩ := hcs
      simp only [Bool.and_eq_true, Bool.not_eq_true'] at hc
      obtain ⟨⟨⟨c1, c2⟩, c3⟩, c4⟩ := hc
      have c1 := Nat.eq_of_beq_eq_true c1
      have c3 := Sh.eq_of_eqb c3
      have c4 := fits_sound c4
      subst c1; subst c3
      cases hv : B.v.nav p with
      | none => rw [hv] at h; simp at h
      | some nv =>
        rw [hv] at h
        cases nv with
        | dat d =>
          cases d with
          | arr s' ds =>
            simp only at h
            obtain ⟨ad, cap, e', rfl, ⟨g0, g1⟩, g2, g3, g4⟩ := hx.sref
            obtain ⟨t1, t2, t3, hen⟩ := tbl_get g2 hB
            obtain ⟨rfl, k2, k3, k4⟩ := arr_place hi hB g2 hen (g4 hen) hv
            generalize hk : min ys.length len = k at h
            obtain ⟨r, q2, hrun⟩ := hcore ad len cap rfl c4
            rw [hk] at q2 hrun
            have hrl := RdL.length q2
            rw [sizeL_all J.sh (fun d hd => c4 d (List.mem_of_mem_take hd))] at hrl
            have htk : (ys.take k).length = k := by simp; omega
            rw [htk] at hrl
            cases hk0 : Nat.beq k 0 with
            | true =>
              rw [hk0] at h
              simp only [cond_true, Option.some.injEq, Prod.mk.injEq] at h
              obtain ⟨rfl, rfl⟩ := h
              have hk1 := Nat.eq_of_beq_eq_true hk0
              have hr0 : r.toList = [] := by
                apply List.eq_nil_of_length_eq_zero; rw [hrl, hk1]; simp
              refine ⟨0, w, rfl, ?_, Stp.refl hi⟩
              rw [hrun, hr0, hk1]
              cases ad <;> simp [storeCells, Result.andThen]
            | false =>
              rw [hk0] at h
              simp only [cond_false] at h
              have hkp : k ≠ 0 := fun hq => by rw [hq] at hk0; simp at hk0
              rcases k4 with k4 | ⟨b, o, rr, l1, l2, l3, l4, _⟩
              · omega
              · subst l2
                have hBk := hi.blk id B hB
                rw [List.getD_eq_getElem?_getD, l1] at hBk
                obtain ⟨c, t', f, j1, j2, j3, j4, j5⟩ := BlkOk.cel hBk (.inr (.inr ⟨p, _, _, hv⟩))
                have hol : o + ds.length * J.sh.size ≤ c.size ∧ rr = (c.toList.drop o).take (ds.length * J.sh.size) := by
                  unfold row at l3
                  rw [j1] at l3
                  simp only at l3
                  split at l3
                  · rename_i hle
                    simp only [Option.some.injEq] at l3
                    exact ⟨hle, l3.symm⟩
                  · simp at l3
                obtain ⟨hol, hrr⟩ := hol
                have hko : off + k ≤ ds.length := by omega
                have hkm : (off + k) * J.sh.size ≤ ds.length * J.sh.size := Nat.mul_le_mul_right _ hko
                rw [Nat.add_mul] at hkm
                have hst := run_storeCells' (P := P) (b := b) (o := o + off * J.sh.size) (t := t') (f := f) r.toList 0 w c j1 (by rw [hrl]; omega) (j3 c2).2 (RdL.oneCell q2)
                rw [Nat.add_zero] at hst
                have hds' : RdL w S (ds.take off ++ ys.take k ++ ds.drop (off + k)) (splice rr (off * J.sh.size) r.toList) := by
                  have hrrl : rr.length = ds.length * J.sh.size := row_length l3
                  have e1 := RdL.seg (off := 0) (len := off) l4 k3 (by omega)
                  have e2 := RdL.seg (off := off + k) (len := ds.length - (off + k)) l4 k3 (by omega)
                  simp only [Nat.zero_mul, List.drop_zero] at e1
                  rw [List.take_of_length_le (by simp)] at e2
                  have e3 : (rr.drop ((off + k) * J.sh.size)).take ((ds.length - (off + k)) * J.sh.size) = rr.drop ((off + k) * J.sh.size) := by
                    rw [List.take_of_length_le]
                    rw [List.length_drop, hrrl, Nat.sub_mul]
                    exact Nat.le_refl _
                  rw [e3] at e2
                  unfold splice
                  have e4 : off * J.sh.size + r.toList.length = (off + k) * J.sh.size := by rw [hrl, Nat.add_mul]
                  rw [e4]
                  exact RdL.append (RdL.append e1 q2) e2
                have hsh' : ∀ d ∈ ds.take off ++ ys.take k ++ ds.drop (off + k), d.shape = J.sh := by
                  intro d hd
                  rcases List.mem_append.1 hd with hd | hd
                  · rcases List.mem_append.1 hd with hd | hd
                    · exact k3 d (List.mem_of_mem_take hd)
                    · exact c4 d (List.mem_of_mem_take hd)
                  · exact k3 d (List.mem_of_mem_drop hd)
                have hlen' : (ds.take off ++ ys.take k ++ ds.drop (off + k)).length = ds.length := by
                  simp only [List.length_append, List.length_take, List.length_drop]; omega
                have hsp : splice c.toList (o + off * J.sh.size) r.toList = splice c.toList o (splice rr (off * J.sh.size) r.toList) := by
                  rw [hrr]
                  rw [splice_splice (by simpa using hol) (by rw [hrl]; omega)]
                have hcopy : C.run P w = .ok (res k) (putHeap w b (.cells (splice c.toList o (splice rr (off * J.sh.size) r.toList)).toArray t' f)) := by
                  rw [hrun]
                  simp only
                  rw [hst, hsp]
                  simp only [Result.andThen]
                cases hdp : (p.isEmpty && B.dyn) with
                | true =>
                  rw [hdp] at h
                  simp only [cond_true, Option.some.injEq, Prod.mk.injEq] at h
                  obtain ⟨rfl, rfl⟩ := h
                  simp only [Bool.and_eq_true, List.isEmpty_iff] at hdp
                  obtain ⟨rfl, hdy⟩ := hdp
                  obtain ⟨s1, ds1, m1, m2, m3, m4⟩ := j4 hdy
                  rw [m2] at hv
                  simp only [AV.nav, Option.some.injEq, AV.dat.injEq, D.arr.injEq] at hv
                  obtain ⟨rfl, rfl⟩ := hv
                  obtain ⟨N, n1, n2, n3, n4⟩ := g4 hen
                  cases hblk : e'.blk with
                  | none => rw [hblk] at n4; simp only at n4; omega
                  | some b' =>
                    rw [hblk] at n4
                    obtain ⟨o', c', t'', f', y1, y2, y3, y4⟩ := n4
                    rw [t2, m1] at y1
                    simp only [Sh.off, Option.some.injEq] at y1
                    subst y1
                    have ho : o = 0 := by
                      rcases y2 with y2 | y2
                      · omega
                      · simp only [Option.some.injEq, Addr.mk.injEq, and_true] at y2
                        omega
                    subst ho
                    have hsl : (splice c.toList 0 (splice rr (off * J.sh.size) r.toList)).length = c.size := by
                      rw [splice_length]
                      · simp
                      · rw [splice_length (by rw [hrl, row_length l3]; omega), row_length l3]; simpa using hol
                    have hstp := hi.write (B' := { B with v := .dat (.arr J.sh (ds1.take off ++ ys.take k ++ ds1.drop (off + k))) }) (c' := (splice c.toList 0 (splice rr (off * J.sh.size) r.toList)).toArray) hB l1 j1 (by simpa using hsl) c2 c2 rfl rfl
                      (by simp only [Blk.n, hdy, m2, AV.many, cond_true, hlen']; exact Nat.le_refl _)
                      (fun _ => ⟨J.sh, _, m1, rfl, by rw [hlen']; simp only [List.size_toArray, hsl]; exact m3, by
                        rw [Rd, hlen']
                        refine ⟨?_, hsh'⟩
                        have : (splice c.toList 0 (splice rr (off * J.sh.size) r.toList)).take (ds1.length * J.sh.size) = splice rr (off * J.sh.size) r.toList := by
                          have hl2 : (splice rr (off * J.sh.size) r.toList).length = ds1.length * J.sh.size := by
                            rw [splice_length (by rw [hrl, row_length l3]; omega), row_length l3]
                          generalize splice rr (off * J.sh.size) r.toList = zz at hl2 ⊢
                          unfold splice
                          simp only [List.take_zero, List.nil_append]
                          rw [← hl2, List.take_left]
                        rw [List.toList_toArray, this]
                        exact hds'⟩) (fun hq => by simp [hdy] at hq)
                    exact ⟨k, _, rfl, hcopy, hstp⟩
                | false =>
                  rw [hdp] at h
                  simp only [cond_false, Option.map_eq_some_iff, Prod.mk.injEq] at h
                  obtain ⟨v', hput, rfl, rfl⟩ := h
                  have hdp' : (B.dyn && p.isEmpty) = false := by rw [Bool.and_comm]; exact hdp
                  obtain ⟨N, n1, n2, n3, n4⟩ := g4 hen
                  cases hblk : e'.blk with
                  | none => rw [hblk] at n4; simp only at n4; omega
                  | some b' =>
                    rw [hblk] at n4 t1
                    rw [l1] at t1
                    simp only [Option.some.injEq] at t1
                    subst t1
                    obtain ⟨o', c', t'', f', y1, y2, y3, y4⟩ := n4
                    have ho : o' = o := by
                      rcases y2 with y2 | y2
                      · omega
                      · simp only [Option.some.injEq, Addr.mk.injEq, and_true] at y2
                        omega
                    subst ho
                    rw [t2] at n1 y1
                    obtain ⟨z1, z2⟩ := put_place hi hB l1 j1 c2 hdp' n1 y1 j4 j5 hput (x := .dat (.arr J.sh (ds.take off ++ ys.take k ++ ds.drop (off + k)))) (by rw [Rv, Rd]; exact ⟨hds', hsh'⟩)
                    exact ⟨k, _, rfl, hcopy, z2⟩
          | _ => simp at h
        | _ => simp at h
  | _ => simp [oCopy] at h
theorem f2_one {α β : Type} {R : α → β → Prop} {x : α} {l : List β} (h : F2 R [x] l) : ∃ u, l = [u] ∧ R x u := by
  cases h with
  | cons h t => cases t; exact ⟨_, rfl, h⟩
theorem f2_two {α β : Type} {R : α → β → Prop} {x y : α} {l : List β} (h : F2 R [x, y] l) : ∃ u v, l = [u, v] ∧ R x u ∧ R y v := by
  cases h with
  | cons h t =>
    obtain ⟨v, rfl, h2⟩ := f2_one t
    exact ⟨_, v, rfl, h, h2⟩
theorem f2_three {α β : Type} {R : α → β → Prop} {x y z : α} {l : List β} (h : F2 R [x, y, z] l) : ∃ u v q, l = [u, v, q] ∧ R x u ∧ R y v ∧ R z q := by
  cases h with
  | cons h t =>
    obtain ⟨v, q, rfl, h2, h3⟩ := f2_two t
    exact ⟨_, v, q, rfl, h, h2, h3⟩
theorem arr_of {α β : Type} {xs : Array α} {f : α → β} {l : List β} (h : xs.toList.map f = l) : xs.map f = l.toArray := by
  rw [← Array.toList_inj]; simp [h]
theorem append_types {ts : Array TypeId} {t u ty : TypeId} {args : Array Value} (h0 : ts[0]? = some t) (h1 : ts[1]? = some u) : Builtin.append_ ts ty args = Builtin.append_ #[t, u] ty args := by
  unfold Builtin.append_
  simp only [h0, h1]
  rfl
theorem copy_types {ts : Array TypeId} {t u ty : TypeId} {args : Array Value} (h0 : ts[0]? = some t) : Builtin.copy_ ts ty args = Builtin.copy_ #[t, u] ty args := by
  unfold Builtin.copy_
  simp only [h0]
  rfl
theorem clear_types {ts : Array TypeId} {t ty : TypeId} {args : Array Value} (h0 : ts[0]? = some t) : Builtin.clear_ ts ty args = Builtin.clear_ #[t] ty args := by
  unfold Builtin.clear_
  simp only [h0]
  rfl
theorem oCopy_sound {tab : Tab} {t u ty : TypeId} {I J : TyI} (hP : tabOk P tab 0 tab = true) (hI : TyOk P tab t I) {e : TypeId} (hty : I.ty = .slc e) (hJ : tab[e]? = some J) (hi : Inv w S m σ) {x v : AV} {vx vy : Value} {ys : List D} {σ' : Store} {shy : Sh}
    (h : oCopy J.sh x ys σ = some (v, σ')) (hx : Rs w S (tbl m σ) x vx) (hy : Src w S shy ys vy) :
    ∃ vz w', (Builtin.copy_ #[t, u] ty #[vx, vy]).run P w = .ok vz w' ∧ Stp w S m σ w' S m σ' ∧ Rs w' S (tbl m σ') v vz := by
  obtain ⟨hu, J', hJ', hsz, hkn⟩ := hI.slice hty
  rw [hJ] at hJ'; simp only [Option.some.injEq] at hJ'; subst hJ'
  obtain ⟨i, b1, b3, _⟩ := TyOk.of_tab hP hJ hkn
  obtain ⟨k, w', rfl, g1, g2⟩ := oCopy_core (C := Builtin.copy_ #[t, u] ty #[vx, vy]) (res := fun k => goInt k) hP hI hty hJ hi h hx (by
    rintro ad len cap rfl c4
    have hy := hy.refit c4
    generalize hk : min ys.length len = k
    obtain ⟨r, q1, q2⟩ := Src.take (P := P) hy (k := k) (by omega)
    refine ⟨r, q2, ?_⟩
    unfold Builtin.copy_
    simp only [List.size_toArray, List.length_cons, List.length_nil, Nat.zero_add, Nat.reduceAdd, Nat.zero_lt_succ, getElem?_pos, List.getElem_toArray, List.getElem_cons_zero, List.getElem_cons_succ, Nat.lt_add_one, Sem.run_bind, underlying_run hu, Result.andThen, lenOf_run hy, sizeOf_run b1, b3]
    have hk' : Nat.min ys.length len = k := hk
    rw [hk', q1]
    cases ad <;> simp [Result.andThen])
  exact ⟨_, w', g1, g2, Rs.of_int _ _⟩
theorem oS2A_sound {sh : Sh} {n : Nat} {x v : AV} {u : Value} {T : Nat → Option Ent} (h : oS2A sh n x = some v) (hx : Rs w S T x u) : ∃ b o len cap, u = .slice (some ⟨b, o, none⟩) len cap ∧ n ≤ len ∧ Rs w S T v (.pointer (some ⟨b, o, none⟩)) := by
  have key : ∀ ds, Rs w S T (.dat (.slc sh ds)) u → 0 < n → n ≤ ds.length → v = .dat (.vptr (.arr sh n) (.arr sh (seg ds 0 n))) → ∃ b o len cap, u = .slice (some ⟨b, o, none⟩) len cap ∧ n ≤ len ∧ Rs w S T v (.pointer (some ⟨b, o, none⟩)) := by
    intro ds hd h0 hl hv
    obtain ⟨a, cap, rfl, _, hs, ho⟩ := hd.slc
    rcases ho with rfl | ⟨b, o, r, rfl, hS, hr, hR⟩
    · simp at hl; omega
    · obtain ⟨r', g1, g2⟩ := seg_row (l := 0) (n := n) hr hR hs (by omega)
      rw [Nat.zero_mul, Nat.add_zero, seg_length (by omega)] at g1
      refine ⟨b, o, _, cap, rfl, hl, ?_⟩
      subst hv
      refine ⟨rfl, ?_⟩
      show Rv w S _ _ [_]
      rw [Rv, Rd]
      refine ⟨b, o, r', rfl, hS, ?_, by rw [Sh.size]; exact g1, ?_⟩
      · rw [D.shape, seg_length (by omega)]
      · rw [Rd]; exact ⟨g2, seg_all hs⟩
  unfold oS2A at h
  split at h
  · obtain ⟨hc, h⟩ := cond_some h
    simp only [Bool.and_eq_true, decide_eq_true_eq] at hc
    have he := Sh.eq_of_eqb hc.1.1
    subst he
    simp only [Option.some.injEq] at h
    exact key _ hx hc.1.2 hc.2 h.symm
  · obtain ⟨hc, h⟩ := cond_some h
    simp only [Bool.and_eq_true, decide_eq_true_eq] at hc
    have he := Sh.eq_of_eqb hc.1.1
    subst he
    simp only [Option.some.injEq] at h
    exact key _ hx.fslc.1 hc.1.2 hc.2 h.symm
  · simp at h
end
end Go.AX
