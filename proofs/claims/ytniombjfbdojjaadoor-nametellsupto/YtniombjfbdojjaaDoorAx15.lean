import Derived.Test.YtniombjfbdojjaaDoorAx14
import Derived.Test.YtniombjfbdojjaaDoorAx10
import Derived.Test.YtniombjfbdojjaaDoorAx9
import Derived.Test.YtniombjfbdojjaaDoorAx6
/- AX, part 21: one operation is sound, continued: copying, calls; and all together. -/
namespace Go.AX
section
variable {P : Program} {E : Env} {w : World} {S : Nat → Prop} {m : List (Option Nat)} {σ : Store} {fr : Frame'} {a : Act}
theorem Src.take {sh : Sh} {ys : List D} {u : Value} (h : Src w S sh ys u) {k : Nat} (hk : k ≤ ys.length) : ∃ r, (Builtin.firstCells sh.size k u).run P w = .ok r w ∧ RdL w S (ys.take k) r.toList := by
  rcases h with ⟨a, cap, rfl, h1, h2, h3⟩ | ⟨s, rfl, rfl⟩
  · rcases h3 with h3 | ⟨b, o, r, rfl, h4, h5⟩
    · subst h3
      have hk0 : k = 0 := by simpa using hk
      subst hk0
      refine ⟨#[], ?_, by simp [RdL]⟩
      cases a with
      | none => rfl
      | some a => simp only [Builtin.firstCells, Nat.zero_mul]; rfl
    · have h6 := row_sub (k := 0) (l := k * sh.size) h4 (by rw [Nat.zero_add]; exact Nat.mul_le_mul_right _ hk)
      rw [Nat.add_zero, List.drop_zero] at h6
      refine ⟨_, by simp only [Builtin.firstCells]; exact run_loadCells' h6, ?_⟩
      have := RdL.seg (off := 0) (len := k) h5 h2 (by omega)
      simpa using this
  · refine ⟨_, rfl, ?_⟩
    have he : (s.extract 0 k).data.toList = s.data.toList.take k := by
      rw [Lib.extract_data]; simp
    rw [Array.toList_map, he]
    have hb : bytesD s = bytesD s := rfl
    have key : ∀ (l : List UInt8) (k : Nat), RdL w S ((l.map fun b => D.int .u8 b.toNat).take k) ((l.take k).map fun b => Value.int .u8 b.toNat) := by
      intro l
      induction l with
      | nil => intro k; simp [RdL]
      | cons x l ih =>
        intro k
        cases k with
        | zero => simp [RdL]
        | succ k =>
          simp only [List.map_cons, List.take_succ_cons]
          rw [RdL]
          exact ⟨[_], _, rfl, by rw [Rd], ih k⟩
    exact key s.data.toList k
theorem oCopy_core {tab : Tab} {t : TypeId} {I J : TyI} (hP : tabOk P tab 0 tab = true) (hI : TyOk P tab t I) {e : TypeId} (hty : I.ty = .slc e) (hJ : tab[e]? = some J) (hi : Inv w S m σ) {x v : AV} {vx : Value} {ys : List D} {σ' : Store} {C : Sem Value} {res : Nat → Value}
    (h : oCopy J.sh x ys σ = some (v, σ')) (hx : Rs w S (tbl m σ) x vx)
    (hcore : ∀ ad len cap, vx = .slice ad len cap → (∀ d ∈ ys, d.shape = J.sh) → ∃ r : Array Value, RdL w S (ys.take (min ys.length len)) r.toList ∧ C.run P w = match ad with
      | some a => ((storeCells a r.toList).run P w).andThen fun _ w' => .ok (res (min ys.length len)) w'
      | none => .ok (res (min ys.length len)) w) :
    ∃ (k : Nat) (w' : World), v = aInt k ∧ C.run P w = .ok (res k) w' ∧ Stp w S m σ w' S m σ' := by
  obtain ⟨hu, J', hJ', hsz, hkn⟩ := hI.slice hty
  rw [hJ] at hJ'; simp only [Option.some.injEq] at hJ'; subst hJ'
  obtain ⟨i, b1, b3, _⟩ := TyOk.of_tab hP hJ hkn
  cases x with
  | sref s id n p off len =>
    simp only [oCopy] at h
    cases hB : σ[id]? with
    | none => rw [hB] at h; simp at h
    | some B =>
      rw [hB] at h
      have hcs := cond_some h; clear h; obtain ⟨hc, h⟩ := hcs
      simp only [Bool.and_eq_true, Bool.not_eq_true'] at hc
      obtain ⟨⟨⟨c1, c2⟩, c3⟩, c4⟩ := hc
      have c1 := Nat.eq_of_beq_eq_true c1
      have c3 := Sh.eq_of_eqb c3
      have c4 := fits_sound c4
      subst c1; subst c3
      cases hv : B.v.nav p with
      | none => rw [hv] at h; simp at h
      | some nv =>
        rw [hv] at h
        cases nv with
        | dat d =>
          cases d with
          | arr s' ds =>
            simp only at h
            obtain ⟨ad, cap, e', rfl, ⟨g0, g1⟩, g2, g3, g4⟩ := hx.sref
            obtain ⟨t1, t2, t3, hen⟩ := tbl_get g2 hB
            obtain ⟨rfl, k2, k3, k4⟩ := arr_place hi hB g2 hen (g4 hen) hv
            generalize hk : min ys.length len = k at h
            obtain ⟨r, q2, hrun⟩ := hcore ad len cap rfl c4
            rw [hk] at q2 hrun
            have hrl := RdL.length q2
            rw [sizeL_all J.sh (fun d hd => c4 d (List.mem_of_mem_take hd))] at hrl
            have htk : (ys.take k).length = k := by simp; omega
            rw [htk] at hrl
            cases hk0 : Nat.beq k 0 with
            | true =>
              rw [hk0] at h
              simp only [cond_true, Option.some.injEq, Prod.mk.injEq] at h
              obtain ⟨rfl, rfl⟩ := h
              have hk1 := Nat.eq_of_beq_eq_true hk0
              have hr0 : r.toList = [] := by
                apply List.eq_nil_of_length_eq_zero; rw [hrl, hk1]; simp
              refine ⟨0, w, rfl, ?_, Stp.refl hi⟩
              rw [hrun, hr0, hk1]
              cases ad <;> simp [storeCells, Result.andThen]
            | false =>
              rw [hk0] at h
              simp only [cond_false] at h
              have hkp : k ≠ 0 := fun hq => by rw [hq] at hk0; simp at hk0
              rcases k4 with k4 | ⟨b, o, rr, l1, l2, l3, l4, _⟩
              · omega
              · subst l2
                have hBk := hi.blk id B hB
                rw [List.getD_eq_getElem?_getD, l1] at hBk
                obtain ⟨c, t', f, j1, j2, j3, j4, j5⟩ := BlkOk.cel hBk (.inr (.inr ⟨p, _, _, hv⟩))
                have hol : o + ds.length * J.sh.size ≤ c.size ∧ rr = (c.toList.drop o).take (ds.length * J.sh.size) := by
                  unfold row at l3
                  rw [j1] at l3
                  simp only at l3
                  split at l3
                  · rename_i hle
                    simp only [Option.some.injEq] at l3
                    exact ⟨hle, l3.symm⟩
                  · simp at l3
                obtain ⟨hol, hrr⟩ := hol
                have hko : off + k ≤ ds.length := by omega
                have hkm : (off + k) * J.sh.size ≤ ds.length * J.sh.size := Nat.mul_le_mul_right _ hko
                rw [Nat.add_mul] at hkm
                have hst := run_storeCells' (P := P) (b := b) (o := o + off * J.sh.size) (t := t') (f := f) r.toList 0 w c j1 (by rw [hrl]; omega) (j3 c2).2 (RdL.oneCell q2)
                rw [Nat.add_zero] at hst
                have hds' : RdL w S (ds.take off ++ ys.take k ++ ds.drop (off + k)) (splice rr (off * J.sh.size) r.toList) := by
                  have hrrl : rr.length = ds.length * J.sh.size := row_length l3
                  have e1 := RdL.seg (off := 0) (len := off) l4 k3 (by omega)
                  have e2 := RdL.seg (off := off + k) (len := ds.length - (off + k)) l4 k3 (by omega)
                  simp only [Nat.zero_mul, List.drop_zero] at e1
                  rw [List.take_of_length_le (by simp)] at e2
                  have e3 : (rr.drop ((off + k) * J.sh.size)).take ((ds.length - (off + k)) * J.sh.size) = rr.drop ((off + k) * J.sh.size) := by
                    rw [List.take_of_length_le]
                    rw [List.length_drop, hrrl, Nat.sub_mul]
                    exact Nat.le_refl _
                  rw [e3] at e2
                  unfold splice
                  have e4 : off * J.sh.size + r.toList.length = (off + k) * J.sh.size := by rw [hrl, Nat.add_mul]
                  rw [e4]
                  exact RdL.append (RdL.append e1 q2) e2
                have hsh' : ∀ d ∈ ds.take off ++ ys.take k ++ ds.drop (off + k), d.shape = J.sh := by
                  intro d hd
                  rcases List.mem_append.1 hd with hd | hd
                  · rcases List.mem_append.1 hd with hd | hd
                    · exact k3 d (List.mem_of_mem_take hd)
                    · exact c4 d (List.mem_of_mem_take hd)
                  · exact k3 d (List.mem_of_mem_drop hd)
                have hlen' : (ds.take off ++ ys.take k ++ ds.drop (off + k)).length = ds.length := by
                  simp only [List.length_append, List.length_take, List.length_drop]; omega
                have hsp : splice c.toList (o + off * J.sh.size) r.toList = splice c.toList o (splice rr (off * J.sh.size) r.toList) := by
                  rw [hrr]
                  rw [splice_splice (by simpa using hol) (by rw [hrl]; omega)]
                have hcopy : C.run P w = .ok (res k) (putHeap w b (.cells (splice c.toList o (splice rr (off * J.sh.size) r.toList)).toArray t' f)) := by
                  rw [hrun]
                  simp only
                  rw [hst, hsp]
                  simp only [Result.andThen]
                cases hdp : (p.isEmpty && B.dyn) with
                | true =>
                  rw [hdp] at h
                  simp only [cond_true, Option.some.injEq, Prod.mk.injEq] at h
                  obtain ⟨rfl, rfl⟩ := h
                  simp only [Bool.and_eq_true, List.isEmpty_iff] at hdp
                  obtain ⟨rfl, hdy⟩ := hdp
                  obtain ⟨s1, ds1, m1, m2, m3, m4⟩ := j4 hdy
                  rw [m2] at hv
                  simp only [AV.nav, Option.some.injEq, AV.dat.injEq, D.arr.injEq] at hv
                  obtain ⟨rfl, rfl⟩ := hv
                  obtain ⟨N, n1, n2, n3, n4⟩ := g4 hen
                  cases hblk : e'.blk with
                  | none => rw [hblk] at n4; simp only at n4; omega
                  | some b' =>
                    rw [hblk] at n4
                    obtain ⟨o', c', t'', f', y1, y2, y3, y4⟩ := n4
                    rw [t2, m1] at y1
                    simp only [Sh.off, Option.some.injEq] at y1
                    subst y1
                    have ho : o = 0 := by
                      rcases y2 with y2 | y2
                      · omega
                      · simp only [Option.some.injEq, Addr.mk.injEq, and_true] at y2
                        omega
                    subst ho
                    have hsl : (splice c.toList 0 (splice rr (off * J.sh.size) r.toList)).length = c.size := by
                      rw [splice_length]
                      · simp
                      · rw [splice_length (by rw [hrl, row_length l3]; omega), row_length l3]; simpa using hol
                    have hstp := hi.write (B' := { B with v := .dat (.arr J.sh (ds1.take off ++ ys.take k ++ ds1.drop (off + k))) }) (c' := (splice c.toList 0 (splice rr (off * J.sh.size) r.toList)).toArray) hB l1 j1 (by simpa using hsl) c2 c2 rfl rfl
                      (by simp only [Blk.n, hdy, m2, AV.many, cond_true, hlen']; exact Nat.le_refl _)
                      (fun _ => ⟨J.sh, _, m1, rfl, by rw [hlen']; simp only [List.size_toArray, hsl]; exact m3, by
                        rw [Rd, hlen']
                        refine ⟨?_, hsh'⟩
                        have : (splice c.toList 0 (splice rr (off * J.sh.size) r.toList)).take (ds1.length * J.sh.size) = splice rr (off * J.sh.size) r.toList := by
                          have hl2 : (splice rr (off * J.sh.size) r.toList).length = ds1.length * J.sh.size := by
                            rw [splice_length (by rw [hrl, row_length l3]; omega), row_length l3]
                          generalize splice rr (off * J.sh.size) r.toList = zz at hl2 ⊢
                          unfold splice
                          simp only [List.take_zero, List.nil_append]
                          rw [← hl2, List.take_left]
                        rw [List.toList_toArray, this]
                        exact hds'⟩) (fun hq => by simp [hdy] at hq)
                    exact ⟨k, _, rfl, hcopy, hstp⟩
                | false =>
                  rw [hdp] at h
                  simp only [cond_false, Option.map_eq_some_iff, Prod.mk.injEq] at h
                  obtain ⟨v', hput, rfl, rfl⟩ := h
                  have hdp' : (B.dyn && p.isEmpty) = false := by rw [Bool.and_comm]; exact hdp
                  obtain ⟨N, n1, n2, n3, n4⟩ := g4 hen
                  cases hblk : e'.blk with
                  | none => rw [hblk] at n4; simp only at n4; omega
                  | some b' =>
                    rw [hblk] at n4 t1
                    rw [l1] at t1
                    simp only [Option.some.injEq] at t1
                    subst t1
                    obtain ⟨o', c', t'', f', y1, y2, y3, y4⟩ := n4
                    have ho : o' = o := by
                      rcases y2 with y2 | y2
                      · omega
                      · simp only [Option.some.injEq, Addr.mk.injEq, and_true] at y2
                        omega
                    subst ho
                    rw [t2] at n1 y1
                    obtain ⟨z1, z2⟩ := put_place hi hB l1 j1 c2 hdp' n1 y1 j4 j5 hput (x := .dat (.arr J.sh (ds.take off ++ ys.take k ++ ds.drop (off + k)))) (by rw [Rv, Rd]; exact ⟨hds', hsh'⟩)
                    exact ⟨k, _, rfl, hcopy, z2⟩
          | _ => simp at h
        | _ => simp at h
  | _ => simp [oCopy] at h
theorem f2_one {α β : Type} {R : α → β → Prop} {x : α} {l : List β} (h : F2 R [x] l) : ∃ u, l = [u] ∧ R x u := by
  cases h with
  | cons h t => cases t; exact ⟨_, rfl, h⟩
theorem f2_two {α β : Type} {R : α → β → Prop} {x y : α} {l : List β} (h : F2 R [x, y] l) : ∃ u v, l = [u, v] ∧ R x u ∧ R y v := by
  cases h with
  | cons h t =>
    obtain ⟨v, rfl, h2⟩ := f2_one t
    exact ⟨_, v, rfl, h, h2⟩
theorem f2_three {α β : Type} {R : α → β → Prop} {x y z : α} {l : List β} (h : F2 R [x, y, z] l) : ∃ u v q, l = [u, v, q] ∧ R x u ∧ R y v ∧ R z q := by
  cases h with
  | cons h t =>
    obtain ⟨v, q, rfl, h2, h3⟩ := f2_two t
    exact ⟨_, v, q, rfl, h, h2, h3⟩
theorem arr_of {α β : Type} {xs : Array α} {f : α → β} {l : List β} (h : xs.toList.map f = l) : xs.map f = l.toArray := by
  rw [← Array.toList_inj]; simp [h]
theorem append_types {ts : Array TypeId} {t u ty : TypeId} {args : Array Value} (h0 : ts[0]? = some t) (h1 : ts[1]? = some u) : Builtin.append_ ts ty args = Builtin.append_ #[t, u] ty args := by
  unfold Builtin.append_
  simp only [h0, h1]
  rfl
theorem copy_types {ts : Array TypeId} {t u ty : TypeId} {args : Array Value} (h0 : ts[0]? = some t) : Builtin.copy_ ts ty args = Builtin.copy_ #[t, u] ty args := by
  unfold Builtin.copy_
  simp only [h0]
  rfl
theorem clear_types {ts : Array TypeId} {t ty : TypeId} {args : Array Value} (h0 : ts[0]? = some t) : Builtin.clear_ ts ty args = Builtin.clear_ #[t] ty args := by
  unfold Builtin.clear_
  simp only [h0]
  rfl
theorem oCopy_sound {tab : Tab} {t u ty : TypeId} {I J : TyI} (hP : tabOk P tab 0 tab = true) (hI : TyOk P tab t I) {e : TypeId} (hty : I.ty = .slc e) (hJ : tab[e]? = some J) (hi : Inv w S m σ) {x v : AV} {vx vy : Value} {ys : List D} {σ' : Store} {shy : Sh}
    (h : oCopy J.sh x ys σ = some (v, σ')) (hx : Rs w S (tbl m σ) x vx) (hy : Src w S shy ys vy) :
    ∃ vz w', (Builtin.copy_ #[t, u] ty #[vx, vy]).run P w = .ok vz w' ∧ Stp w S m σ w' S m σ' ∧ Rs w' S (tbl m σ') v vz := by
  obtain ⟨hu, J', hJ', hsz, hkn⟩ := hI.slice hty
  rw [hJ] at hJ'; simp only [Option.some.injEq] at hJ'; subst hJ'
  obtain ⟨i, b1, b3, _⟩ := TyOk.of_tab hP hJ hkn
  obtain ⟨k, w', rfl, g1, g2⟩ := oCopy_core (C := Builtin.copy_ #[t, u] ty #[vx, vy]) (res := fun k => goInt k) hP hI hty hJ hi h hx (by
    rintro ad len cap rfl c4
    have hy := hy.refit c4
    generalize hk : min ys.length len = k
    obtain ⟨r, q1, q2⟩ := Src.take (P := P) hy (k := k) (by omega)
    refine ⟨r, q2, ?_⟩
    unfold Builtin.copy_
    simp only [List.size_toArray, List.length_cons, List.length_nil, Nat.zero_add, Nat.reduceAdd, Nat.zero_lt_succ, getElem?_pos, List.getElem_toArray, List.getElem_cons_zero, List.getElem_cons_succ, Nat.lt_add_one, Sem.run_bind, underlying_run hu, Result.andThen, lenOf_run hy, sizeOf_run b1, b3]
    have hk' : Nat.min ys.length len = k := hk
    rw [hk', q1]
    cases ad <;> simp [Result.andThen])
  exact ⟨_, w', g1, g2, Rs.of_int _ _⟩
theorem oS2A_sound {sh : Sh} {n : Nat} {x v : AV} {u : Value} {T : Nat → Option Ent} (h : oS2A sh n x = some v) (hx : Rs w S T x u) : ∃ b o len cap, u = .slice (some ⟨b, o, none⟩) len cap ∧ n ≤ len ∧ Rs w S T v (.pointer (some ⟨b, o, none⟩)) := by
  have key : ∀ ds, Rs w S T (.dat (.slc sh ds)) u → 0 < n → n ≤ ds.length → v = .dat (.vptr (.arr sh n) (.arr sh (seg ds 0 n))) → ∃ b o len cap, u = .slice (some ⟨b, o, none⟩) len cap ∧ n ≤ len ∧ Rs w S T v (.pointer (some ⟨b, o, none⟩)) := by
    intro ds hd h0 hl hv
    obtain ⟨a, cap, rfl, _, hs, ho⟩ := hd.slc
    rcases ho with rfl | ⟨b, o, r, rfl, hS, hr, hR⟩
    · simp at hl; omega
    · obtain ⟨r', g1, g2⟩ := seg_row (l := 0) (n := n) hr hR hs (by omega)
      rw [Nat.zero_mul, Nat.add_zero, seg_length (by omega)] at g1
      refine ⟨b, o, _, cap, rfl, hl, ?_⟩
      subst hv
      refine ⟨rfl, ?_⟩
      show Rv w S _ _ [_]
      rw [Rv, Rd]
      refine ⟨b, o, r', rfl, hS, ?_, by rw [Sh.size]; exact g1, ?_⟩
      · rw [D.shape, seg_length (by omega)]
      · rw [Rd]; exact ⟨g2, seg_all hs⟩
  unfold oS2A at h
  split at h
  · obtain ⟨hc, h⟩ := cond_some h
    simp only [Bool.and_eq_true, decide_eq_true_eq] at hc
    have he := Sh.eq_of_eqb hc.1.1
    subst he
    simp only [Option.some.injEq] at h
    exact key _ hx hc.1.2 hc.2 h.symm
  · obtain ⟨hc, h⟩ := cond_some h
    simp only [Bool.and_eq_true, decide_eq_true_eq] at hc
    have he := Sh.eq_of_eqb hc.1.1
    subst he
    simp only [Option.some.injEq] at h
    exact key _ hx.fslc.1 hc.1.2 hc.2 h.symm
  · simp at h
end
end Go.AX

namespace Go.AX
variable {bg : Bg}
section
variable {P : Program} {E : Env} {w : World} {S : Nat → Prop} {m : List (Option Nat)} {σ : Store} {fr : Frame'} {a : Act} {tab : Tab}
theorem TyOk.mapT {t : TypeId} {I : TyI} {k e : TypeId} (hI : TyOk P tab t I) (h : I.ty = .map k e) : P.underlying t = some (.map k e) := by
  obtain ⟨i, d, h1, h2, _, _, _, _, h3⟩ := hI.info
  rw [h] at h3
  cases d <;> cases hsh : I.sh <;> rw [hsh] at h3 <;> simp at h3
  obtain ⟨rfl, rfl⟩ := h3
  exact h2
theorem mapOf_sound (hi : Inv w S m σ) {x : AV} {vx : Value} {id : Nat} {ds : List D} (h : mapOf x σ = some (id, ds)) (hx : Rs w S (tbl m σ) x vx) :
    ∃ l es B, vx = .map (some l) ∧ σ[id]? = some B ∧ B.sh = mapSh ∧ B.dyn = false ∧ m[id]? = some (some l) ∧ w.heap[l]? = some (.map es ds.length) ∧ mapEs 0 ds = some es.toList ∧ ¬ S l := by
  unfold mapOf at h
  split at h
  · rename_i sh id'
    obtain ⟨h1, hA⟩ := cond_some h
    clear h
    obtain rfl := Sh.eq_of_eqb h1
    split at hA
    · rename_i B hB
      obtain ⟨hq, h⟩ := cond_some hA
      clear hA
      have hq := (Bool.and_eq_true _ _).mp hq
      obtain ⟨h2, h3⟩ := hq
      have h3 := (Bool.and_eq_true _ _).mp h3
      obtain ⟨h3, h4⟩ := h3
      rw [Bool.not_eq_true'] at h3 h4
      have h2 := Sh.eq_of_eqb h2
      split at h
      · rename_i s ds' hv
        simp only [Option.some.injEq, Prod.mk.injEq] at h
        obtain ⟨rfl, rfl⟩ := h
        obtain ⟨k1, k2⟩ := hx
        rw [Rv] at k2
        obtain ⟨l, e, k3, k4, k5⟩ := k2
        have hc := cells_one (u := vx) k1
        rw [hc] at k3
        simp only [List.cons.injEq, and_true] at k3
        obtain ⟨ob, B', g1, g2, rfl⟩ := tbl_inv k4
        rw [hB] at g2
        simp only [Option.some.injEq] at g2
        subst g2
        obtain ⟨k6, _⟩ := k5 (by simp [Blk.n, h3])
        simp only at k6
        subst k6
        have hBk := hi.blk _ B hB
        rw [List.getD_eq_getElem?_getD, g1] at hBk
        have hmv : vx = .map (some l) := by rw [k3]; rfl
        rcases hBk with ⟨c, t, f, _, _, _, _, g⟩ | ⟨_, _, q3, ⟨q, _⟩ | ⟨_, ds', es, q4, q5, q6⟩⟩
        · obtain ⟨g, _⟩ := g h3
          rw [hv, h2] at g
          simp [AV.shape, D.shape] at g
        · rw [h2] at q; exact absurd q (by simp)
        · rw [hv] at q6
          simp only [AV.dat.injEq, D.slc.injEq] at q6
          obtain ⟨_, rfl⟩ := q6
          exact ⟨l, es, B, hmv, hB, h2, h3, g1, q4, q5, q3 h4⟩
      · simp at h
    · simp at hA
  · simp at h
def KeyD (t : Ty) (d : TypeDesc) : Prop := (t = .str ∧ d = .string) ∨ ∃ k, t = .int k ∧ d = .int k
theorem beqBA (a b : ByteArray) : (a == b) = decide (a.data.toList = b.data.toList) := by
  have h0 : (a == b) = (a.data == b.data) := by cases a; cases b; rfl
  rw [h0]
  by_cases h : a.data = b.data
  · rw [h, decide_eq_true rfl]; simp
  · rw [decide_eq_false (fun h' => h (Array.toList_inj.1 h'))]; simpa using h
theorem keyOk_cases {t : Ty} {k : D} (h : keyOk t k = true) : (t = .str ∧ ∃ s, k = .str s) ∨ ∃ kk n, t = .int kk ∧ k = .int kk n := by
  unfold keyOk at h
  split at h
  · exact .inl ⟨rfl, _, rfl⟩
  · have h := of_decide_eq_true h
    subst h
    exact .inr ⟨_, _, rfl, rfl⟩
  · simp at h
theorem entOkD_form {t : Ty} {e : D} (h : entOkD t e = true) : ∃ k n, e = .agg [k, .int .i64 n] ∧ keyOk t k = true := by
  unfold entOkD at h
  split at h
  · rw [Bool.and_eq_true] at h
    obtain ⟨h1, h2⟩ := h
    have h2 := of_decide_eq_true h2
    subst h2
    exact ⟨_, _, rfl, h1⟩
  · simp at h
theorem sameNow_key {t : Ty} {d : TypeDesc} (hd : KeyD t d) {k k' : D} {v v' : Value} (hk : keyOk t k = true) (hk' : keyOk t k' = true) (hv : scalV k = some v) (hv' : scalV k' = some v') :
    Instr.sameNow d v v' = some (keyEq k k') := by
  rcases hd with ⟨rfl, rfl⟩ | ⟨kk, rfl, rfl⟩
  · rcases keyOk_cases hk with ⟨_, s, rfl⟩ | ⟨_, _, h, _⟩
    · rcases keyOk_cases hk' with ⟨_, s', rfl⟩ | ⟨_, _, h, _⟩
      · simp only [scalV, Option.some.injEq] at hv hv'
        subst hv hv'
        simp only [Instr.sameNow, keyEq, beqBA]
      · simp at h
    · simp at h
  · rcases keyOk_cases hk with ⟨h, _⟩ | ⟨_, n, h, rfl⟩
    · simp at h
    · rcases keyOk_cases hk' with ⟨h', _⟩ | ⟨_, n', h', rfl⟩
      · simp at h'
      · simp only [Ty.int.injEq] at h h'
        subst h h'
        simp only [scalV, Option.some.injEq] at hv hv'
        subst hv hv'
        simp only [Instr.sameNow, keyEq, if_true]
theorem findNow_map {t : Ty} {d : TypeDesc} (hd : KeyD t d) {k : D} {v : Value} (hk : keyOk t k = true) (hv : scalV k = some v) : ∀ (ds : List D) (i j : Nat) (es : List MapEntry), ds.all (entOkD t) = true → mapEs i ds = some es →
    Instr.findNow d v es j = some (bif mapHas k ds then some (j + mapIdx k ds, .int .i64 (entV (ds.getD (mapIdx k ds) .nili))) else none)
  | [], i, j, es, _, he => by
    simp only [mapEs, Option.some.injEq] at he
    subst he; rfl
  | e :: ds, i, j, es, ha, he => by
    rw [List.all_cons, Bool.and_eq_true] at ha
    obtain ⟨k', n, rfl, hk'⟩ := entOkD_form ha.1
    simp only [mapEs] at he
    cases hv' : scalV k' with
    | none => rw [hv'] at he; simp at he
    | some v' =>
      cases hr : mapEs (i + 1) ds with
      | none => rw [hv', hr] at he; simp [scalV] at he
      | some es' =>
        rw [hv', hr] at he
        simp only [scalV, Option.some.injEq] at he
        subst he
        have hs := sameNow_key hd hk hk' hv hv'
        have hI : mapIdx k (.agg [k', .int .i64 n] :: ds) = bif keyEq k k' then 0 else mapIdx k ds + 1 := by
          unfold mapIdx; rw [List.findIdx_cons]; rfl
        have hH : mapHas k (.agg [k', .int .i64 n] :: ds) = (keyEq k k' || mapHas k ds) := by unfold mapHas; rw [List.any_cons]; rfl
        rw [Instr.findNow]
        simp only [hs]
        cases hq : keyEq k k' with
        | true => rw [hH, hI, hq]; rfl
        | false =>
          have ih := findNow_map hd hk hv ds (i + 1) (j + 1) es' ha.2 hr
          simp only [ih, hH, hI, hq, Bool.false_or, cond_false, List.getD_cons_succ]
          cases mapHas k ds with
          | false => rfl
          | true => rw [cond_true, cond_true, show j + 1 + mapIdx k ds = j + (mapIdx k ds + 1) by omega]
theorem mapEs_step {k : D} {v : Value} {i : Nat} {n : Int} {ds : List D} {es : List MapEntry} (hv : scalV k = some v) (hr : mapEs (i + 1) ds = some es) :
    mapEs i (.agg [k, .int .i64 n] :: ds) = some (⟨v, .int .i64 n, i⟩ :: es) := by
  simp only [mapEs, hv, hr]; rfl
theorem mapEs_cons {t : Ty} {e : D} (h : entOkD t e = true) {i : Nat} {ds : List D} {es : List MapEntry} (he : mapEs i (e :: ds) = some es) :
    ∃ k n v es', e = .agg [k, .int .i64 n] ∧ scalV k = some v ∧ keyOk t k = true ∧ mapEs (i + 1) ds = some es' ∧ es = ⟨v, .int .i64 n, i⟩ :: es' := by
  obtain ⟨k, n, rfl, hk⟩ := entOkD_form h
  simp only [mapEs] at he
  cases hv : scalV k with
  | none => rw [hv] at he; simp at he
  | some v =>
    cases hr : mapEs (i + 1) ds with
    | none => rw [hv, hr] at he; simp [scalV] at he
    | some es' =>
      rw [hv, hr] at he
      simp only [scalV, Option.some.injEq] at he
      exact ⟨k, n, v, es', rfl, hv, hk, rfl, he.symm⟩
theorem mapEs_set {t : Ty} {k : D} {v : Value} (hv : scalV k = some v) (n : Int) : ∀ (ds : List D) (i p : Nat) (es : List MapEntry), ds.all (entOkD t) = true → mapEs i ds = some es → p < ds.length →
    ∃ x, es[p]? = some x ∧ x.born = i + p ∧ scalV (entK (ds.getD p .nili)) = some x.key ∧ keyOk t (entK (ds.getD p .nili)) = true ∧ mapEs i (ds.set p (.agg [k, .int .i64 n])) = some (es.set p ⟨v, .int .i64 n, i + p⟩)
  | [], i, p, es, _, _, hp => absurd hp (Nat.not_lt_zero p)
  | e :: ds, i, p, es, ha, he, hp => by
    rw [List.all_cons, Bool.and_eq_true] at ha
    obtain ⟨k', n', v', es', rfl, hk, hkk, hr, rfl⟩ := mapEs_cons ha.1 he
    cases p with
    | zero =>
      refine ⟨_, rfl, rfl, hk, hkk, ?_⟩
      rw [List.set_cons_zero, mapEs_step hv hr]; rfl
    | succ p =>
      obtain ⟨x, h1, h2, h3, h4, h5⟩ := mapEs_set hv n ds (i + 1) p es' ha.2 hr (by simpa using hp)
      refine ⟨x, h1, by omega, h3, h4, ?_⟩
      rw [List.set_cons_succ, mapEs_step hk h5, List.set_cons_succ, show i + 1 + p = i + (p + 1) by omega]
theorem mapEs_snoc {t : Ty} {k : D} {v : Value} (hv : scalV k = some v) (n : Int) : ∀ (ds : List D) (i : Nat) (es : List MapEntry), ds.all (entOkD t) = true → mapEs i ds = some es →
    mapEs i (ds ++ [.agg [k, .int .i64 n]]) = some (es ++ [⟨v, .int .i64 n, i + ds.length⟩])
  | [], i, es, _, he => by
    simp only [mapEs, Option.some.injEq] at he
    subst he
    exact mapEs_step hv (by rfl)
  | e :: ds, i, es, ha, he => by
    rw [List.all_cons, Bool.and_eq_true] at ha
    obtain ⟨k', n', v', es', rfl, hk, _, hr, rfl⟩ := mapEs_cons ha.1 he
    have ih := mapEs_snoc hv n ds (i + 1) es' ha.2 hr
    rw [List.cons_append, mapEs_step hk ih, List.length_cons, show i + 1 + ds.length = i + (ds.length + 1) by omega]; rfl
theorem run_getMap {l n : Nat} {es : Array MapEntry} (h : w.heap[l]? = some (.map es n)) : (getObj l).run P w = .ok (.map es n) w := by simp [getObj, Sem.run, h]
theorem run_setMap {l n : Nat} {es : Array MapEntry} (o' : Obj) (h : w.heap[l]? = some (.map es n)) : (setObj l o').run P w = .ok () (putHeap w l o') := by simp [setObj, Sem.run, h, putHeap]
theorem mapTy_sound (hP : tabOk P tab 0 tab = true) {t : TypeId} {kt : Ty} {z : Int} (h : mapTy tab t = some (kt, z)) :
    ∃ k e, P.underlying t = some (.map k e) ∧ (∀ kd, keyOk kt kd = true → ∃ d, P.underlying k = some d ∧ KeyD kt d) ∧ ∀ w : World, (zeroValue e).run P w = .ok (.int .i64 z) w := by
  unfold mapTy at h
  split at h
  · rename_i I hI
    split at h
    · rename_i k e hty
      obtain ⟨hk, h1⟩ := cond_some h
      clear h
      rw [Bool.and_eq_true, Bool.and_eq_true] at hk
      obtain ⟨g1, g2, g3⟩ := hk
      split at h1
      · rename_i Ik Ie hIk hIe
        split at h1
        · rename_i z' hz
          simp only [Option.some.injEq, Prod.mk.injEq] at h1
          obtain ⟨rfl, rfl⟩ := h1
          refine ⟨k, e, (tyOk hP hI g1).mapT hty, fun kd hkd => ?_, fun w => ?_⟩
          · rcases keyOk_cases hkd with ⟨hs, _⟩ | ⟨kk, _, hs, _⟩
            · exact ⟨_, (tyOk hP hIk g2).str hs, .inl ⟨hs, rfl⟩⟩
            · exact ⟨_, (tyOk hP hIk g2).intT hs, .inr ⟨kk, hs, rfl⟩⟩
          · obtain ⟨i, zz, b1, _, _, b5, _, b7, _⟩ := zero_cells hP hIe g3
            have := b7 w (fun _ => False) (fun _ => none)
            rw [hz] at this
            rw [zeroValue_run b1 b5, this.int]
        · simp at h1
      · simp at h1
    · simp at h
  · simp at h
theorem checkKey_run {kt : Ty} {d : TypeDesc} (hd : KeyD kt d) {k : TypeId} (hu : P.underlying k = some d) {b : Bool} {n : Nat} {v : Value} : (Instr.checkKey b (n + 1) k v).run P w = .ok () w := by
  unfold Instr.checkKey
  rcases hd with ⟨_, rfl⟩ | ⟨kk, _, rfl⟩ <;> simp [Sem.run_bind, underlying_run hu, Result.andThen]
theorem findKey_run {kt : Ty} {d : TypeDesc} (hd : KeyD kt d) {k : TypeId} (hu : P.underlying k = some d) {kd : D} {v : Value} (hk : keyOk kt kd = true) (hv : scalV kd = some v) {ds : List D} {es : List MapEntry} (ha : ds.all (entOkD kt) = true) (he : mapEs 0 ds = some es) :
    (Instr.findKey k v es).run P w = .ok (bif mapHas kd ds then some (mapIdx kd ds, .int .i64 (entV (ds.getD (mapIdx kd ds) .nili))) else none) w := by
  unfold Instr.findKey
  simp only [Sem.run_bind, underlying_run hu, Result.andThen, findNow_map hd hk hv ds 0 0 es ha he, Nat.zero_add]
  rfl
theorem key_value {kt : Ty} {k : AV} {kd : D} {u : Value} (hk : datOf k = some kd) (ho : keyOk kt kd = true) (hr : Rs w S (tbl m σ) k u) : scalV kd = some u := by
  unfold datOf at hk
  split at hk
  · simp only [Option.some.injEq] at hk
    subst hk
    rcases keyOk_cases ho with ⟨_, s, rfl⟩ | ⟨_, n, _, rfl⟩
    · rw [hr.str]; rfl
    · rw [hr.int]; rfl
  · simp at hk
theorem keyEq_same {kt : Ty} {a b : D} {u v : Value} (ha : keyOk kt a = true) (hb : keyOk kt b = true) (hu : scalV a = some u) (hv : scalV b = some v) (h : keyEq a b = true) : u = v := by
  rcases keyOk_cases ha with ⟨rfl, s, rfl⟩ | ⟨kk, n, rfl, rfl⟩
  · rcases keyOk_cases hb with ⟨_, s', rfl⟩ | ⟨_, _, h', _⟩
    · simp only [scalV, Option.some.injEq] at hu hv
      subst hu hv
      simp only [keyEq, decide_eq_true_eq] at h
      have : s = s' := by cases s; cases s'; simpa [Array.toList_inj] using h
      rw [this]
    · simp at h'
  · rcases keyOk_cases hb with ⟨h', _⟩ | ⟨_, n', h', rfl⟩
    · simp at h'
    · simp only [Ty.int.injEq] at h'
      subst h'
      simp only [scalV, Option.some.injEq] at hu hv
      subst hu hv
      simp only [keyEq, beq_iff_eq] at h
      rw [h]
theorem sameBits_self {kt : Ty} {a : D} {u : Value} (ha : keyOk kt a = true) (hu : scalV a = some u) (m : Nat) : Instr.sameBits (m + 1) u u = true := by
  rcases keyOk_cases ha with ⟨_, s, rfl⟩ | ⟨kk, n, _, rfl⟩ <;> simp only [scalV, Option.some.injEq] at hu <;> subst hu <;> simp [Instr.sameBits, beqBA]
theorem op_makeMap (hs : Sit bg w S m σ fr a) {o : Oper} {t : TypeId} {x : Option Operand} (hop : o.op = .makeMap t x) {K : AV → Store → Option Res} {r : Res} {next : Act → World → Prop} {Q : Exit → Act → World → Prop} (hn : Nexts P w S m σ o a K r next)
    (h : opK0 E fr o σ K = some r) : OWp P o a w next Q := by
  unfold opK0 at h
  rw [hop] at h
  cases x with
  | some x => simp at h
  | none =>
    simp only at h
    have hst := hs.inv.newObj (o := .map #[] 0) (B := mapBlk []) rfl rfl (fun w' hw S' hS => ⟨rfl, fun hq => by simp at hq, fun _ => hS, .inr ⟨rfl, [], #[], hw, rfl, rfl⟩⟩)
    refine wp_value (v := .map (some w.heap.size)) (w' := { w with heap := w.heap.push (.map #[] 0) }) ?_ (hn _ _ _ _ _ _ hst ?_ h)
    · unfold execOp
      rw [hop]
      refine vrun ?_
      unfold Instr.makeMap
      simp [Sem.run_bind, newObj, Sem.run, Result.andThen]
    · refine ⟨rfl, ?_⟩
      rw [Rv]
      exact ⟨_, _, rfl, tbl_new hs.inv.len _ _, fun _ => ⟨rfl, rfl⟩⟩
theorem op_lookup (hE : EnvOk bg P E) (hs : Sit bg w S m σ fr a) {o : Oper} {t : TypeId} {x y : Operand} {ok : Bool} (hop : o.op = .lookup t x y ok) {K : AV → Store → Option Res} {r : Res} {next : Act → World → Prop} {Q : Exit → Act → World → Prop} (hn : Nexts P w S m σ o a K r next)
    (h : opK0 E fr o σ K = some r) : OWp P o a w next Q := by
  unfold opK0 at h
  rw [hop] at h
  cases ok with
  | true => simp at h
  | false =>
    simp only [Option.bind_eq_some_iff] at h
    obtain ⟨vx, hx, vk, hk, ⟨kt, z⟩, hT, h⟩ := h
    obtain ⟨v, h1, h2⟩ := one_some h
    unfold oLook at h1
    simp only [Option.bind_eq_some_iff] at h1
    obtain ⟨⟨id, ds⟩, hm, kd, hd, h1⟩ := h1
    obtain ⟨hq, h3⟩ := cond_some h1
    rw [Bool.and_eq_true] at hq
    obtain ⟨q1, q2⟩ := hq
    simp only [Option.some.injEq] at h3
    subst h3
    obtain ⟨l, es, B, g1, _, _, _, _, g6, g7, _⟩ := mapOf_sound hs.inv hm (ev_sound hs hx)
    obtain ⟨k, e, u1, u2, u3⟩ := mapTy_sound hE.tab hT
    obtain ⟨d, u4, u5⟩ := u2 kd q1
    have hv := key_value hd q1 (ev_sound hs hk)
    refine pure_op hs.inv hn (val := .int .i64 (mapGet z kd ds)) ?_ (Rs.of_int _ _) h2
    unfold execOp
    rw [hop]
    refine vrun ?_
    unfold Instr.lookup
    rw [g1]
    simp only [Sem.run_bind, underlying_run u1, Result.andThen, run_getMap g6, checkKey_run u5 u4, findKey_run u5 u4 q1 hv q2 g7, Sem.run_pure]
    unfold mapGet
    cases mapHas kd ds with
    | true => simp [Sem.run_bind, Result.andThen]
    | false => simp [Sem.run_bind, Result.andThen, u3]
theorem op_mapUpdate (hE : EnvOk bg P E) (hs : Sit bg w S m σ fr a) {o : Oper} {t : TypeId} {x y zz : Operand} (hop : o.op = .mapUpdate t x y zz) {K : AV → Store → Option Res} {r : Res} {next : Act → World → Prop} {Q : Exit → Act → World → Prop} (hn : Nexts P w S m σ o a K r next)
    (h : opK0 E fr o σ K = some r) : OWp P o a w next Q := by
  unfold opK0 at h
  rw [hop] at h
  simp only [Option.bind_eq_some_iff] at h
  obtain ⟨vx, hx, vk, hk, vv, hvv, ⟨kt, z⟩, hT, σ', h1, h2⟩ := h
  unfold oMapUpd at h1
  simp only [Option.bind_eq_some_iff] at h1
  obtain ⟨⟨id, ds⟩, hm, kd, hd, nd, hnd, h1⟩ := h1
  obtain ⟨hq, h3⟩ := cond_some h1
  rw [Bool.and_eq_true] at hq
  obtain ⟨q1, q2⟩ := hq
  simp only [Option.some.injEq] at h3
  subst h3
  obtain ⟨n, rfl, rfl⟩ : ∃ n, vv = .dat (.int .i64 n) ∧ nd = .int .i64 n := by
    unfold intOf at hnd
    split at hnd
    · simp only [Option.some.injEq] at hnd; exact ⟨_, rfl, hnd.symm⟩
    · simp at hnd
  have hval := (ev_sound hs hvv).int
  obtain ⟨l, es, B, g1, g2, g3, g4, g5, g6, g7, g8⟩ := mapOf_sound hs.inv hm (ev_sound hs hx)
  obtain ⟨k, e, u1, u2, u3⟩ := mapTy_sound hE.tab hT
  obtain ⟨d, u4, u5⟩ := u2 kd q1
  have hv := key_value hd q1 (ev_sound hs hk)
  have hl : ds.length = ds.length := rfl
  have fin : ∀ es' : Array MapEntry, mapEs 0 (mapPut kd (.int .i64 n) ds) = some es'.toList → (execOp a.eval o).run P w = .ok .skip (putHeap w l (.map es' (mapPut kd (.int .i64 n) ds).length)) → OWp P o a w next Q := fun es' h7 hrun => by
    have hst := hs.inv.putObj (B' := mapBlk (mapPut kd (.int .i64 n) ds)) (o' := .map es' (mapPut kd (.int .i64 n) ds).length) g2 g5 g6 (fun c t f h => by simp at h) (fun r h => by simp at h) g4 g8 (by rw [g3]) rfl
      (fun w' hw => ⟨rfl, fun hq => by simp at hq, fun _ => g8, .inr ⟨rfl, _, es', hw, h7, rfl⟩⟩)
    exact wp_skip' hrun (hn .undef _ _ _ S m hst trivial h2)
  have hrun0 : ∀ w', (Instr.mapUpdate t (.map (some l)) (a.eval y) (.int .i64 n)).run P w = .ok () w' → (execOp a.eval o).run P w = .ok .skip w' := fun w' hw => by
    unfold execOp
    rw [hop]
    simp only [g1, hval, Sem.run_bind, hw, Result.andThen, Sem.run_pure]
  cases hh : mapHas kd ds with
  | true =>
    have hp : mapIdx kd ds < ds.length := by
      unfold mapHas at hh
      exact List.findIdx_lt_length_of_exists (by simpa [List.any_eq_true] using hh)
    obtain ⟨x, p1, p2, p3, p4, p5⟩ := mapEs_set hv n ds 0 (mapIdx kd ds) es.toList q2 g7 hp
    have he : keyEq kd (entK (ds.getD (mapIdx kd ds) .nili)) = true := by
      have := List.findIdx_getElem (w := (show ds.findIdx (fun e => keyEq kd (entK e)) < ds.length from hp))
      rw [List.getD_eq_getElem?_getD, List.getElem?_eq_getElem hp]; exact this
    have hxk : x.key = a.eval y := (keyEq_same q1 p4 hv p3 he).symm
    have p1' : es[mapIdx kd ds]? = some x := by rw [← Array.getElem?_toList]; exact p1
    have hput : mapPut kd (.int .i64 n) ds = ds.set (mapIdx kd ds) (.agg [kd, .int .i64 n]) := by unfold mapPut; rw [hh]; rfl
    refine fin (es.setIfInBounds (mapIdx kd ds) ⟨a.eval y, .int .i64 n, 0 + mapIdx kd ds⟩) (by rw [hput, p5]; simp) (hrun0 _ ?_)
    unfold Instr.mapUpdate
    simp only [Sem.run_bind, underlying_run u1, Result.andThen, run_getMap g6, checkKey_run u5 u4, findKey_run u5 u4 q1 hv q2 g7, hh, cond_true]
    have hks : ∀ w : World, (Instr.keyThatStays (((es[mapIdx kd ds]?).map (·.key)).getD (a.eval y)) (a.eval y)).run P w = .ok (a.eval y) w := fun w => by
      unfold Instr.keyThatStays
      rw [p1']
      simp only [Option.map_some, Option.getD_some, hxk, sameBits_self q1 hv, if_true, Sem.run_pure]
    simp only [hks, run_setMap _ g6]
    rw [modify_eq_set es _ x _ p1', hput, List.length_set, ← p2]
  | false =>
    have hput : mapPut kd (.int .i64 n) ds = ds ++ [.agg [kd, .int .i64 n]] := by unfold mapPut; rw [hh]; rfl
    refine fin (es.push ⟨a.eval y, .int .i64 n, 0 + ds.length⟩) (by rw [hput, mapEs_snoc hv n ds 0 es.toList q2 g7]; simp) (hrun0 _ ?_)
    unfold Instr.mapUpdate
    simp only [Sem.run_bind, underlying_run u1, Result.andThen, run_getMap g6, checkKey_run u5 u4, findKey_run u5 u4 q1 hv q2 g7, hh, cond_false, run_setMap _ g6]
    rw [hput, List.length_append, List.length_singleton, Nat.zero_add]
theorem mapLen_sound (hs : Sit bg w S m σ fr a) {x : AV} {vx : Value} {id : Nat} {ds : List D} (h : mapOf x σ = some (id, ds)) (hx : Rs w S (tbl m σ) x vx) :
    ∃ l es, vx = .map (some l) ∧ w.heap[l]? = some (.map es ds.length) ∧ es.size = ds.length := by
  obtain ⟨l, es, B, g1, _, _, _, _, g6, g7, _⟩ := mapOf_sound hs.inv h hx
  refine ⟨l, es, g1, g6, ?_⟩
  have : ∀ (ds : List D) (i : Nat) (es : List MapEntry), mapEs i ds = some es → es.length = ds.length := by
    intro ds
    induction ds with
    | nil => intro i es h; simp only [mapEs, Option.some.injEq] at h; subst h; rfl
    | cons e ds ih =>
      intro i es h
      cases e with
      | agg l =>
        rcases l with _ | ⟨k, _ | ⟨v, _ | ⟨u, l⟩⟩⟩ <;> simp only [mapEs] at h <;> try (simp at h; done)
        cases hr : mapEs (i + 1) ds with
        | none => rw [hr] at h; cases scalV k <;> cases scalV v <;> simp at h
        | some es' =>
          rw [hr] at h
          cases hk : scalV k with
          | none => rw [hk] at h; simp at h
          | some k' =>
            cases hv : scalV v with
            | none => rw [hk, hv] at h; simp at h
            | some v' =>
              rw [hk, hv] at h
              simp only [Option.some.injEq] at h
              subst h
              simp [ih _ _ hr]
      | _ => simp [mapEs] at h
  have h2 := this ds 0 _ g7
  rwa [Array.length_toList] at h2
end
end Go.AX

namespace Go.AX
variable {bg : Bg}
section
variable {P : Program} {E : Env} {w : World} {S : Nat → Prop} {m : List (Option Nat)} {σ : Store} {fr : Frame'} {a : Act}
theorem builtin_run {b : Builtin} {c : Call} {o : Oper} (hop : o.op = .call c) (hc : c.callee = .builtin b) {s : Sem Value} {v : Value} {w' : World}
    (hb : ∀ consts, builtin b c.argTypes o.type consts (c.args.map a.eval) = (do pure (Next.value (← s)) : Sem Next)) (hs : s.run P w = .ok v w') :
    (execOp a.eval o).run P w = .ok (.value v) w' := by
  unfold execOp
  rw [hop]
  simp only [resolve, hc, Sem.run_bind, Sem.run_pure, Result.andThen, invoke]
  rw [hb]
  exact vrun hs
theorem call_args (hs : Sit bg w S m σ fr a) {c : Call} {tab : Tab} {args : List AV} (h : evs tab fr c.argTypes.toList c.args.toList = some args) :
    F2 (fun v u => Rs w S (tbl m σ) v u) args (c.args.toList.map a.eval) := evs_sound hs h
theorem args_arr {c : Call} {l : List Value} (h : c.args.toList.map a.eval = l) : c.args.map a.eval = l.toArray := by
  rw [← Array.toList_inj]; simp [h]
abbrev NextsR (P : Program) (w : World) (S : Nat → Prop) (m : List (Option Nat)) (σ : Store) (o : Oper) (a : Act) (K : AV → Store → Option Res) (r : Res) (next : Act → World → Prop) : Prop := Nexts P w S m σ o a K r next
theorem op_s2a (hE : EnvOk bg P E) (hs : Sit bg w S m σ fr a) {o : Oper} {t : TypeId} {x : Operand} (hop : o.op = .sliceToArrayPointer t x) {K : AV → Store → Option Res} {r : Res} {next : Act → World → Prop} {Q : Exit → Act → World → Prop} (hn : Nexts P w S m σ o a K r next)
    (h : opK0 E fr o σ K = some r) : OWp P o a w next Q := by
  unfold opK0 at h
  rw [hop] at h
  simp only [Option.bind_eq_some_iff] at h
  obtain ⟨vx, hx, h⟩ := h
  obtain ⟨hk, h⟩ := cond_some h
  split at h
  · rename_i I hI
    split at h
    · rename_i n e hty
      simp only [Option.bind_eq_some_iff] at h
      obtain ⟨s, hsh, h⟩ := h
      obtain ⟨v, h1, h2⟩ := one_some h
      obtain ⟨b, o', len, cap, g1, g2, g3⟩ := oS2A_sound h1 (ev_sound hs hx)
      have hd := (tyOk hE.tab hI hk).array hty
      refine pure_op hs.inv hn ?_ g3 h2
      unfold execOp
      rw [hop]
      refine vrun ?_
      unfold Instr.arrayAt
      simp only [Sem.run_bind, underlying_run hd.1, Result.andThen, g1]
      rw [if_neg (by omega)]
      rfl
    · simp at h
  · simp at h
theorem op_len (hE : EnvOk bg P E) (hs : Sit bg w S m σ fr a) {o : Oper} {c : Call} (hop : o.op = .call c) (hc : c.callee = .builtin .len) {K : AV → Store → Option Res} {r : Res} {next : Act → World → Prop} {Q : Exit → Act → World → Prop} (hn : Nexts P w S m σ o a K r next)
    (h : opK0 E fr o σ K = some r) : OWp P o a w next Q := by
  unfold opK0 at h
  rw [hop] at h
  simp only [Option.bind_eq_some_iff, hc] at h
  obtain ⟨args, ha, h⟩ := h
  have hF := call_args hs ha
  split at h
  · rename_i x t ht
    obtain ⟨u, hu, hx⟩ := f2_one hF
    obtain ⟨hk, h⟩ := cond_some h
    split at h
    · rename_i I hI
      have hT := tyOk hE.tab hI hk
      have hrun : ∀ {v : Value}, (Builtin.len_ c.argTypes o.type (c.args.map a.eval)).run P w = .ok v w → (execOp a.eval o).run P w = .ok (.value v) w := fun hv => builtin_run hop hc (fun _ => rfl) hv
      split at h
      · rename_i e hty
        obtain ⟨hsl, h⟩ := cond_some h
        obtain ⟨v, h1, h2⟩ := one_some h
        obtain ⟨hun, _⟩ := hT.slice hty
        obtain ⟨n, rfl, hv⟩ := oLen_sound h1 hx
        refine pure_op hs.inv hn (hrun (v := goInt n) ?_) (Rs.of_int _ _) h2
        rcases hv with ⟨ad, cap, rfl⟩ | ⟨s, rfl, _⟩
        · unfold Builtin.len_
          simp only [ht, args_arr hu, List.getElem?_toArray, List.getElem?_cons_zero, Sem.run_bind, underlying_run hun, Result.andThen, Sem.run_pure]
        · exfalso
          cases x with
          | dat d =>
            cases d with
            | slc s' ds => obtain ⟨_, _, hq, _⟩ := hx.slc; simp at hq
            | _ => simp [slcSh] at hsl
          | fslc s' ds => obtain ⟨_, _, _, hq⟩ := hx.fslc; simp at hq
          | sref => obtain ⟨_, _, _, hq, _⟩ := hx.sref; simp at hq
          | _ => simp [slcSh] at hsl
      · rename_i hty
        obtain ⟨hsl, h⟩ := cond_some h
        obtain ⟨v, h1, h2⟩ := one_some h
        have hun := hT.str hty
        obtain ⟨n, rfl, hv⟩ := oLen_sound h1 hx
        refine pure_op hs.inv hn (hrun (v := goInt n) ?_) (Rs.of_int _ _) h2
        rcases hv with ⟨ad, cap, rfl⟩ | ⟨s, rfl, rfl⟩
        · exfalso
          cases x with
          | dat d =>
            cases d with
            | str s => have := hx.str; simp at this
            | _ => simp [isStr] at hsl
          | _ => simp [isStr] at hsl
        · unfold Builtin.len_
          simp only [ht, args_arr hu, List.getElem?_toArray, List.getElem?_cons_zero, Sem.run_bind, underlying_run hun, Result.andThen, Sem.run_pure]
      · rename_i n e hty
        obtain ⟨hun, _⟩ := hT.array hty
        refine pure_op hs.inv hn (hrun (v := goInt n) ?_) (Rs.of_int _ _) h
        unfold Builtin.len_
        simp only [ht, args_arr hu, List.getElem?_toArray, List.getElem?_cons_zero, Sem.run_bind, underlying_run hun, Result.andThen, Sem.run_pure]
      · rename_i k e hty
        simp only [Option.bind_eq_some_iff] at h
        obtain ⟨⟨id, ds⟩, hm, h⟩ := h
        obtain ⟨l, es, rfl, g2, g3⟩ := mapLen_sound hs hm hx
        refine pure_op hs.inv hn (hrun (v := goInt (ds.length : Nat)) ?_) (Rs.of_int _ _) h
        unfold Builtin.len_
        simp only [ht, args_arr hu, List.getElem?_toArray, List.getElem?_cons_zero, Sem.run_bind, underlying_run (hT.mapT hty), Result.andThen, run_getMap g2, Sem.run_pure, g3]
      · simp at h
    · simp at h
  · simp at h
theorem op_max (hs : Sit bg w S m σ fr a) {o : Oper} {c : Call} (hop : o.op = .call c) (hc : c.callee = .builtin .max) {K : AV → Store → Option Res} {r : Res} {next : Act → World → Prop} {Q : Exit → Act → World → Prop} (hn : Nexts P w S m σ o a K r next)
    (h : opK0 E fr o σ K = some r) : OWp P o a w next Q := by
  unfold opK0 at h
  rw [hop] at h
  simp only [Option.bind_eq_some_iff, hc] at h
  obtain ⟨args, ha, h⟩ := h
  have hF := call_args hs ha
  have hrun : ∀ {v : Value}, (Builtin.max_ c.argTypes o.type (c.args.map a.eval)).run P w = .ok v w → (execOp a.eval o).run P w = .ok (.value v) w := fun hv => builtin_run hop hc (fun _ => rfl) hv
  split at h
  · obtain ⟨u, v, hu, hx, hy⟩ := f2_two hF
    obtain ⟨z, h1, h2⟩ := one_some h
    obtain ⟨vz, g1, g2⟩ := oMax_sound (P := P) h1 hx hy w
    refine pure_op hs.inv hn (hrun ?_) g2 h2
    unfold Builtin.max_
    simp only [args_arr hu, List.foldlM_cons, List.foldlM_nil, Sem.run_bind, g1, Result.andThen, Sem.run_pure]
  · obtain ⟨u, v, q, hu, hx, hy, hz⟩ := f2_three hF
    simp only [Option.bind_eq_some_iff] at h
    obtain ⟨z, h1, h⟩ := h
    obtain ⟨z', h1', h2⟩ := one_some h
    obtain ⟨vz, g1, g2⟩ := oMax_sound (P := P) h1 hx hy w
    obtain ⟨vz', g1', g2'⟩ := oMax_sound (P := P) h1' g2 hz w
    refine pure_op hs.inv hn (hrun ?_) g2' h2
    unfold Builtin.max_
    simp only [args_arr hu, List.foldlM_cons, List.foldlM_nil, Sem.run_bind, g1, g1', Result.andThen, Sem.run_pure]
  · simp at h
theorem op_min (hs : Sit bg w S m σ fr a) {o : Oper} {c : Call} (hop : o.op = .call c) (hc : c.callee = .builtin .min) {K : AV → Store → Option Res} {r : Res} {next : Act → World → Prop} {Q : Exit → Act → World → Prop} (hn : Nexts P w S m σ o a K r next)
    (h : opK0 E fr o σ K = some r) : OWp P o a w next Q := by
  unfold opK0 at h
  rw [hop] at h
  simp only [Option.bind_eq_some_iff, hc] at h
  obtain ⟨args, ha, h⟩ := h
  have hF := call_args hs ha
  have hrun : ∀ {v : Value}, (Builtin.min_ c.argTypes o.type (c.args.map a.eval)).run P w = .ok v w → (execOp a.eval o).run P w = .ok (.value v) w := fun hv => builtin_run hop hc (fun _ => rfl) hv
  split at h
  · obtain ⟨u, v, hu, hx, hy⟩ := f2_two hF
    obtain ⟨z, h1, h2⟩ := one_some h
    obtain ⟨vz, g1, g2⟩ := oMin_sound (P := P) h1 hx hy w
    refine pure_op hs.inv hn (hrun ?_) g2 h2
    unfold Builtin.min_
    simp only [args_arr hu, List.foldlM_cons, List.foldlM_nil, Sem.run_bind, g1, Result.andThen, Sem.run_pure]
  · obtain ⟨u, v, q, hu, hx, hy, hz⟩ := f2_three hF
    simp only [Option.bind_eq_some_iff] at h
    obtain ⟨z, h1, h⟩ := h
    obtain ⟨z', h1', h2⟩ := one_some h
    obtain ⟨vz, g1, g2⟩ := oMin_sound (P := P) h1 hx hy w
    obtain ⟨vz', g1', g2'⟩ := oMin_sound (P := P) h1' g2 hz w
    refine pure_op hs.inv hn (hrun ?_) g2' h2
    unfold Builtin.min_
    simp only [args_arr hu, List.foldlM_cons, List.foldlM_nil, Sem.run_bind, g1, g1', Result.andThen, Sem.run_pure]
  · simp at h
theorem elems_src (hi : Inv w S m σ) {x : AV} {vx : Value} {ds : List D} (h : elems x σ = some ds) (hx : Rs w S (tbl m σ) x vx) : ∃ sh, Src w S sh ds vx := by
  rcases elems_sound hi h hx with ⟨s, rfl, rfl⟩ | ⟨sh, h1, _⟩
  · exact ⟨.one, .inr ⟨s, hx.str, rfl⟩⟩
  · exact ⟨sh, .inl h1⟩
theorem op_append (hE : EnvOk bg P E) (hs : Sit bg w S m σ fr a) {o : Oper} {c : Call} (hop : o.op = .call c) (hc : c.callee = .builtin .append) {K : AV → Store → Option Res} {r : Res} {next : Act → World → Prop} {Q : Exit → Act → World → Prop} (hn : Nexts P w S m σ o a K r next)
    (h : opK0 E fr o σ K = some r) : OWp P o a w next Q := by
  unfold opK0 at h
  rw [hop] at h
  simp only [Option.bind_eq_some_iff, hc] at h
  obtain ⟨args, ha, h⟩ := h
  have hF := call_args hs ha
  split at h
  · rename_i x y t u ht hu
    obtain ⟨vx, vy, hv, hx, hy⟩ := f2_two hF
    have hks := cond_some h; clear h; obtain ⟨hk, h⟩ := hks
    simp only [Bool.and_eq_true] at hk
    split at h
    · rename_i I L hI hL
      have hT := tyOk hE.tab hI hk.1
      have hU := tyOk hE.tab hL hk.2
      have fin : ∀ {e : TypeId} {d : TypeDesc}, I.ty = .slc e → P.underlying u = some d → (∀ k, d ≠ .int k) → (match E.tab[e]? with | some J => (elems y σ).bind fun ys => bind2 (apnd (apF E o) J.sh J.bytes x ys σ) K | none => none) = some r → OWp P o a w next Q := by
        intro e d hty hd hz h
        split at h
        · rename_i J hJ
          simp only [Option.bind_eq_some_iff] at h
          obtain ⟨ys, h1, h⟩ := h
          obtain ⟨v, σ', h2, h3⟩ := bind2_some h
          obtain ⟨shy, hsrc⟩ := elems_src hs.inv h1 hy
          obtain ⟨vz, w', S', m', g1, g2, g3⟩ := apnd_sound (ty := o.type) hE.tab hT hty hJ hd hz hs.inv h2 hx hsrc
          refine wp_value (builtin_run hop hc (s := Builtin.append_ c.argTypes o.type (c.args.map a.eval)) (fun _ => rfl) ?_) (hn _ _ _ _ _ _ g2 g3 h3)
          rw [append_types (u := u) ht hu, args_arr hv]
          exact g1
        · simp at h
      split at h
      · rename_i e e' hty hty'
        exact fin hty (hU.slice hty').1 (by simp) h
      · rename_i e hty hty'
        exact fin hty (hU.str hty') (by simp) h
      · rename_i e k hty hty'
        split at h
        · rename_i J hJ
          simp only [Option.bind_eq_some_iff] at h
          obtain ⟨ys, h1, h⟩ := h
          obtain ⟨v, σ', h2, h3⟩ := bind2_some h
          unfold zerosOf at h1
          split at h1
          · rename_i n zd hnn hzd
            obtain ⟨hc2, h1⟩ := cond_some h1
            simp only [Option.some.injEq] at h1
            subst h1
            simp only [Bool.and_eq_true, decide_eq_true_eq] at hc2
            obtain ⟨k', _, rfl⟩ := asI_sound hnn hy
            obtain ⟨N, rfl⟩ := Int.eq_ofNat_of_zero_le hc2.1
            have hN : N < 2 ^ 62 := by have := hc2.2; unfold LIM at this; omega
            obtain ⟨r2, hap⟩ := Ap.of_zeros (w := w) (S := S) (ty := o.type) (k' := k') hE.tab hT hty hJ (hU.intT hty') hzd hN
            rw [Int.toNat_natCast] at h2
            obtain ⟨vz, w', S', m', g1, g2, g3⟩ := apnd_ap (ty := o.type) hE.tab hT hty hJ hs.inv h2 hx hap
            refine wp_value (builtin_run hop hc (s := Builtin.append_ c.argTypes o.type (c.args.map a.eval)) (fun _ => rfl) ?_) (hn _ _ _ _ _ _ g2 g3 h3)
            rw [append_types (u := u) ht hu, args_arr hv]
            exact g1
          · simp at h1
        · simp at h
      · simp at h
    · simp at h
  · simp at h
theorem op_copy (hE : EnvOk bg P E) (hs : Sit bg w S m σ fr a) {o : Oper} {c : Call} (hop : o.op = .call c) (hc : c.callee = .builtin .copy) {K : AV → Store → Option Res} {r : Res} {next : Act → World → Prop} {Q : Exit → Act → World → Prop} (hn : Nexts P w S m σ o a K r next)
    (h : opK0 E fr o σ K = some r) : OWp P o a w next Q := by
  unfold opK0 at h
  rw [hop] at h
  simp only [Option.bind_eq_some_iff, hc] at h
  obtain ⟨args, ha, h⟩ := h
  have hF := call_args hs ha
  split at h
  · rename_i x y t ht
    obtain ⟨vx, vy, hv, hx, hy⟩ := f2_two hF
    have hks := cond_some h; clear h; obtain ⟨hk, h⟩ := hks
    split at h
    · rename_i I hI
      have hT := tyOk hE.tab hI hk
      split at h
      · rename_i e hty
        split at h
        · rename_i J hJ
          simp only [Option.bind_eq_some_iff] at h
          obtain ⟨ys, h1, h⟩ := h
          obtain ⟨v, σ', h2, h3⟩ := bind2_some h
          obtain ⟨shy, hsrc⟩ := elems_src hs.inv h1 hy
          obtain ⟨vz, w', g1, g2, g3⟩ := oCopy_sound (u := 0) (ty := o.type) hE.tab hT hty hJ hs.inv h2 hx hsrc
          refine wp_value (builtin_run hop hc (s := Builtin.copy_ c.argTypes o.type (c.args.map a.eval)) (fun _ => rfl) ?_) (hn _ _ _ _ _ _ g2 g3 h3)
          rw [copy_types (t := t) (u := 0) ht, args_arr hv]
          exact g1
        · simp at h
      · simp at h
    · simp at h
  · simp at h
theorem oClear_sound {tab : Tab} {t ty : TypeId} {I J : TyI} (hP : tabOk P tab 0 tab = true) (hI : TyOk P tab t I) {e : TypeId} (hty : I.ty = .slc e) (hJ : tab[e]? = some J) (hi : Inv w S m σ) {x v : AV} {vx : Value} {zd : D} {σ' : Store}
    (hz : J.zero.toD = some zd) (h : oClear J.sh zd x σ = some (v, σ')) (hx : Rs w S (tbl m σ) x vx) :
    ∃ vz w', (Builtin.clear_ #[t] ty #[vx]).run P w = .ok vz w' ∧ Stp w S m σ w' S m σ' ∧ Rs w' S (tbl m σ') v vz := by
  obtain ⟨hu, J', hJ', hsz, hkn⟩ := hI.slice hty
  rw [hJ] at hJ'; simp only [Option.some.injEq] at hJ'; subst hJ'
  obtain ⟨i, z, b1, b3, b4, b5, b6, b7, b8⟩ := zero_cells hP hJ hkn
  have htup : ∀ w' S' T', Rs w' S' T' (.tup []) (.tuple #[]) := fun _ _ _ => ⟨#[], rfl, by simp [RvVs]⟩
  unfold oClear at h
  split at h
  · rename_i s id n p off len
    simp only [Option.map_eq_some_iff, Prod.mk.injEq] at h
    obtain ⟨⟨v', σ''⟩, h1, rfl, rfl⟩ := h
    have hrs := toD_rs hz (b7 w S (fun _ => none))
    have hrd : Rd w S zd z.cells.toList := by
      have h' : valAgg z = zd.aggB ∧ Rv w S (fun _ => none) (.dat zd) z.cells.toList := hrs
      have := h'.2
      rwa [Rv] at this
    have hcells : ∀ n, (Builtin.zeroCells z.cells n).toList = (List.replicate n z.cells.toList).flatten := by
      intro n
      unfold Builtin.zeroCells
      simp only [Array.toList_map, Array.toList_range]
      rw [← range_rows]
    obtain ⟨ad0, cap0, e0, rfl, _⟩ := hx.sref
    obtain ⟨k, w', _, g1, g2⟩ := oCopy_core (C := Builtin.clear_ #[t] ty #[.slice ad0 len cap0]) (res := fun _ => .tuple #[]) hP hI hty hJ hi h1 hx (by
      intro ad len' cap hv _
      simp only [Value.slice.injEq] at hv
      obtain ⟨rfl, rfl, rfl⟩ := hv
      rw [List.length_replicate, Nat.min_self, List.take_of_length_le (by simp)]
      refine ⟨Builtin.zeroCells z.cells len, by rw [hcells]; exact RdL.replicate hrd len, ?_⟩
      unfold Builtin.clear_
      simp only [List.size_toArray, List.length_cons, List.length_nil, Nat.zero_add, Nat.zero_lt_succ, getElem?_pos, List.getElem_toArray, List.getElem_cons_zero, Sem.run_bind, underlying_run hu, Result.andThen]
      cases ad0 with
      | none => simp
      | some a =>
        cases len with
        | zero => simp [Builtin.zeroCells, storeCells]
        | succ len => simp only [Sem.run_bind, zeroValue_run b1 b5, Result.andThen, Sem.run_pure])
    exact ⟨_, w', g1, g2, htup _ _ _⟩
  · rename_i s
    simp only [Option.some.injEq, Prod.mk.injEq] at h
    obtain ⟨rfl, rfl⟩ := h
    refine ⟨.tuple #[], w, ?_, Stp.refl hi, htup _ _ _⟩
    obtain ⟨h1, h2⟩ := hx
    rw [Rv, Rd] at h2
    obtain ⟨⟨a, cap, h3, _⟩, _⟩ := h2
    rw [cells_one h1] at h3
    simp only [List.cons.injEq, and_true, List.length_nil] at h3
    subst h3
    unfold Builtin.clear_
    simp only [List.size_toArray, List.length_cons, List.length_nil, Nat.zero_add, Nat.zero_lt_succ, getElem?_pos, List.getElem_toArray, List.getElem_cons_zero, Sem.run_bind, underlying_run hu, Result.andThen]
    cases a <;> simp
  · simp at h
theorem op_clear (hE : EnvOk bg P E) (hs : Sit bg w S m σ fr a) {o : Oper} {c : Call} (hop : o.op = .call c) (hc : c.callee = .builtin .clear) {K : AV → Store → Option Res} {r : Res} {next : Act → World → Prop} {Q : Exit → Act → World → Prop} (hn : Nexts P w S m σ o a K r next)
    (h : opK0 E fr o σ K = some r) : OWp P o a w next Q := by
  unfold opK0 at h
  rw [hop] at h
  simp only [Option.bind_eq_some_iff, hc] at h
  obtain ⟨args, ha, h⟩ := h
  have hF := call_args hs ha
  split at h
  · rename_i x t ht
    obtain ⟨vx, hv, hx⟩ := f2_one hF
    have hks := cond_some h; clear h; obtain ⟨hk, h⟩ := hks
    split at h
    · rename_i I hI
      have hT := tyOk hE.tab hI hk
      split at h
      · rename_i e hty
        split at h
        · rename_i J hJ
          simp only [Option.bind_eq_some_iff] at h
          obtain ⟨zd, h1, h⟩ := h
          obtain ⟨v, σ', h2, h3⟩ := bind2_some h
          obtain ⟨vz, w', g1, g2, g3⟩ := oClear_sound (ty := o.type) hE.tab hT hty hJ hs.inv h1 h2 hx
          refine wp_value (builtin_run hop hc (s := Builtin.clear_ c.argTypes o.type (c.args.map a.eval)) (fun _ => rfl) ?_) (hn _ _ _ _ _ _ g2 g3 h3)
          rw [clear_types (t := t) ht, args_arr hv]
          exact g1
        · simp at h
      · simp at h
    · simp at h
  · simp at h
mutual
theorem ren_none {r : Nat → Nat} : ∀ v : AV, v.ids = [] → v.ren r = v
  | .ptr .., h => by simp [AV.ids] at h
  | .sref .., h => by simp [AV.ids] at h
  | .agg vs, h => by rw [AV.ids] at h; rw [AV.ren, renL_none vs h]
  | .fn f a b, h => by rw [AV.ids, List.append_eq_nil_iff] at h; rw [AV.ren, renL_none a h.1, renL_none b h.2]
  | .tup vs, h => by rw [AV.ids] at h; rw [AV.ren, renL_none vs h]
  | .hnd .., h => by simp [AV.ids] at h
  | .undef, _ => rfl
  | .dat _, _ => rfl
  | .fslc .., _ => rfl
theorem renL_none {r : Nat → Nat} : ∀ vs : List AV, AV.idsL vs = [] → AV.renL r vs = vs
  | [], _ => rfl
  | v :: vs, h => by rw [AV.idsL, List.append_eq_nil_iff] at h; rw [AV.renL, ren_none v h.1, renL_none vs h.2]
end
theorem dats : ∀ {args : List AV} (σ : Store), args.all isDat = true → realL args = true ∧ AV.idsL args = [] ∧ freezeL args σ = some (args, σ)
  | [], _, _ => ⟨rfl, rfl, by rw [freezeL]⟩
  | .dat d :: l, σ, h => by
    obtain ⟨h1, h2, h3⟩ := dats σ (show l.all isDat = true by simpa [isDat] using h)
    refine ⟨?_, ?_, ?_⟩
    · simpa [realL, AV.real] using h1
    · rw [AV.idsL, AV.ids, h2]; rfl
    · have hd : freeze (.dat d) σ = some (.dat d, σ) := by simp only [freeze]
      rw [freezeL, hd, Option.bind_some, h3]; rfl
  | .ptr .. :: _, _, h | .sref .. :: _, _, h | .agg .. :: _, _, h | .fn .. :: _, _, h | .tup .. :: _, _, h | .hnd .. :: _, _, h | .undef :: _, _, h | .fslc .. :: _, _, h => by simp [isDat] at h
theorem pure_call1 {E : Env} {ref : Bool} {F : FunT} {args : List AV} {σ : Store} {K : AV → Store → Option Res} {r : Res} (h : one (pureC F args).run σ K = some r) : call1 E ref (callS (FunT.run F)) args σ K = some r := by
  unfold one at h
  rw [Option.bind_eq_some_iff] at h
  obtain ⟨v, h1, h⟩ := h
  unfold pureC at h1
  obtain ⟨h2, h1⟩ := T.chk_some h1
  obtain ⟨p, h3, h1⟩ := T.bind_some h1
  obtain ⟨h4, h1⟩ := T.chk_some h1
  obtain ⟨d1, d2, d3⟩ := dats σ h2
  simp only [Bool.and_eq_true, List.isEmpty_iff] at h4
  have hc : callS (FunT.run F) args σ = some (p.1, σ) := by
    unfold callS
    simp only [d2]
    rw [show reach σ 4096 [] [] = [] from rfl, show closed σ [] [] = true from rfl, cond_true, renL_none args d2]
    have h3' : FunT.run F args [] = some p := h3
    simp only [getAll, bind2, h3', Option.bind_some]
    unfold merge
    simp only [h4.1, h4.2, List.length_nil, List.range_zero, List.nil_append]
    rw [show reach [] 4096 [] [] = [] from rfl]
    simp only [List.filter_nil, getAll, List.append_nil]
    rw [show closed [] [] [] = true from rfl, cond_true, renL_none p.1 h4.2]
    rfl
  have h5 := T.leaf_some h1
  unfold call1
  rw [d1, cond_true]
  cases ref with
  | true => simp only [cond_true, bind2, hc, Option.bind_some]; rw [h5]; exact h
  | false => simp only [cond_false, bind2, d3, Option.bind_some, hc]; rw [h5]; exact h
theorem op_func (hE : EnvOk bg P E) (hs : Sit bg w S m σ fr a) {o : Oper} {c : Call} {g : FuncId} (hop : o.op = .call c) (hc : c.callee = .value (.func g)) {K : AV → Store → Option Res} {r : Res} {next : Act → World → Prop} {Q : Exit → Act → World → Prop} (hn : Nexts P w S m σ o a K r next)
    (h : opK0 E fr o σ K = some r) : OWp P o a w next Q := by
  unfold opK0 at h
  rw [hop] at h
  simp only [Option.bind_eq_some_iff, hc] at h
  obtain ⟨args, ha, F, hF, h⟩ := h
  have hF2 := call_args hs ha
  replace h : call1 E (E.byref g) (callS (FunT.run F)) args σ K = some r := by
    cases hp : pureF E g with
    | true => rw [hp] at h; exact pure_call1 h
    | false => rw [hp] at h; exact h
  refine call1_sound hs.inv hF2 h ?_ hn
  intro S' σ1 args' res σ' hi hv _ _ hc'
  refine (callS_ok (hE.callee g F hF) w S' m σ1 _ _ res σ' hi hv hc').nx ?_
  unfold execOp
  rw [hop]
  simp only [resolve, hc, Act.eval, Deferred.ofValue, Sem.run_bind, Sem.run_pure, Result.andThen, invoke]
  have : (#[] ++ Array.map a.eval c.args ++ #[] : Array Value) = (c.args.toList.map a.eval).toArray := by
    rw [← Array.toList_inj]; simp
  rw [this]
theorem op_dyn (hE : EnvOk bg P E) (hs : Sit bg w S m σ fr a) {o : Oper} {c : Call} {f : Operand} (hf : ∀ g, f ≠ .func g) (hop : o.op = .call c) (hc : c.callee = .value f) {K : AV → Store → Option Res} {r : Res} {next : Act → World → Prop} {Q : Exit → Act → World → Prop} (hn : Nexts P w S m σ o a K r next)
    (h : opK0 E fr o σ K = some r) : OWp P o a w next Q := by
  unfold opK0 at h
  rw [hop] at h
  simp only [Option.bind_eq_some_iff, hc] at h
  obtain ⟨args, ha, h⟩ := h
  have hF2 := call_args hs ha
  have h' : ∃ fv, ev E.tab fr 0 f = some fv ∧ call1 E false (dynY E fv) args σ K = some r := by
    cases f with
    | func g => exact absurd rfl (hf g)
    | _ => simpa only [Option.bind_eq_some_iff] using h
  obtain ⟨fv, hfv, h⟩ := h'
  refine call1_sound hs.inv hF2 h ?_ hn
  intro S' σ1 args' res σ' hi hv htx hkp hc'
  by_cases hy : ∃ s i, fv = .hnd s i
  · obtain ⟨s, i, rfl⟩ := hy
    simp only [dynY] at hc'
    obtain ⟨hsh, hc'⟩ := cond_some hc'
    have hsh := Sh.eq_of_eqb hsh
    subst hsh
    obtain ⟨l, R, frl, hl, hY⟩ := hE.yld i args' σ1 res σ' hc'
    obtain ⟨⟨e, e1, e2, e3, e4⟩, _⟩ := hs.bgp.2.2 i l R frl hl
    obtain ⟨q1, q2⟩ := ev_sound hs hfv
    rw [cells_one q1, Rv] at q2
    obtain ⟨l0, e', q3, q4, q5⟩ := q2
    rw [e1] at q4
    simp only [Option.some.injEq] at q4
    subst q4
    have hen : e.n = 0 := by
      obtain ⟨ob, B, _, g2, g3⟩ := tbl_inv e1
      subst g3
      simp only at e3 ⊢
      rw [Blk.n, e3]; rfl
    have hll : l0 = l := by
      have := (q5 hen).1
      rw [e4 hen] at this
      simpa using this.symm
    subst hll
    simp only [List.cons.injEq, and_true] at q3
    have hvv : a.eval f = .func (.yield l0) #[] #[] := q3
    obtain ⟨f', tmps, assign, body, hy1, hy2⟩ := hY w S' m _ hi hv (hs.bgp.2.2.mono hkp htx)
    refine .inr (.inr ⟨l0, f', tmps, assign, body, ?_, hy2⟩)
    unfold execOp
    rw [hop]
    simp only [resolve, hc, hvv, Deferred.ofValue, Sem.run_bind, Sem.run_pure, Result.andThen, invoke]
    have : (#[] ++ Array.map a.eval c.args : Array Value) = (c.args.toList.map a.eval).toArray := by
      rw [← Array.toList_inj]; simp
    rw [this]
    exact hy1
  · have hc' : dyn E.disp fv args' σ1 = some (res, σ') := by
      cases fv with
      | hnd s i => exact absurd ⟨s, i, rfl⟩ hy
      | _ => exact hc'
    have h1 := dyn_sound (vals := c.args.map a.eval) hE.disp hi ((ev_sound hs hfv).mono hkp htx) (by rw [Array.toList_map]; exact hv) hc'
    unfold execOp
    rw [hop]
    simp only [resolve, hc]
    exact h1
theorem op_call (hE : EnvOk bg P E) (hs : Sit bg w S m σ fr a) {o : Oper} {c : Call} (hop : o.op = .call c) {K : AV → Store → Option Res} {r : Res} {next : Act → World → Prop} {Q : Exit → Act → World → Prop} (hn : Nexts P w S m σ o a K r next)
    (h : opK0 E fr o σ K = some r) : OWp P o a w next Q := by
  cases hc : c.callee with
  | value f =>
    by_cases hf : ∃ g, f = .func g
    · obtain ⟨g, rfl⟩ := hf
      exact op_func hE hs hop hc hn h
    · exact op_dyn hE hs (fun g hg => hf ⟨g, hg⟩) hop hc hn h
  | invoke x n =>
    unfold opK0 at h
    rw [hop] at h
    simp only [Option.bind_eq_some_iff, hc] at h
    simp at h
  | builtin b =>
    cases b with
    | len => exact op_len hE hs hop hc hn h
    | max => exact op_max hs hop hc hn h
    | min => exact op_min hs hop hc hn h
    | append => exact op_append hE hs hop hc hn h
    | copy => exact op_copy hE hs hop hc hn h
    | clear => exact op_clear hE hs hop hc hn h
    | _ =>
      unfold opK0 at h
      rw [hop] at h
      simp only [Option.bind_eq_some_iff, hc] at h
      simp at h
theorem opK0_sound (hE : EnvOk bg P E) (hs : Sit bg w S m σ fr a) {o : Oper} {K : AV → Store → Option Res} {r : Res} {next : Act → World → Prop} {Q : Exit → Act → World → Prop} (hn : Nexts P w S m σ o a K r next)
    (h : opK0 E fr o σ K = some r) : OWp P o a w next Q := by
  cases hop : o.op with
  | move x => exact op_move hs (.inl hop) hn h
  | assign x => exact op_move hs (.inr hop) hn h
  | pick c x y => exact op_pick hs hop hn h
  | alloc t => exact op_alloc hE hs hop hn h
  | box t x => exact op_box hE hs hop hn h
  | build t ps => exact op_build hE hs hop hn h
  | buildSlice t n ps => exact op_buildSlice hE hs hop hn h
  | load t x => exact op_load hE hs hop hn h
  | store t x y => exact op_store hE hs hop hn h
  | nilCheck x => exact op_nilCheck hs hop hn h
  | binOp op t x y yt => exact op_binOp hE hs hop hn h
  | unOp op t x => exact op_unOp hs hop hn h
  | convert s d x => exact op_convert hE hs hop hn h
  | makeFunc f x y => exact op_makeFunc hs hop hn h
  | makeSlice t x y => exact op_makeSlice hE hs hop hn h
  | makeMap t x => exact op_makeMap hs hop hn h
  | lookup t x k ok => exact op_lookup hE hs hop hn h
  | mapUpdate t x k v => exact op_mapUpdate hE hs hop hn h
  | sliceToArrayPointer t x => exact op_s2a hE hs hop hn h
  | slice t x lo hi mx => exact op_slice hE hs hop hn h
  | fieldAddr t x f => exact op_fieldAddr hE hs hop hn h
  | field t x f => exact op_field hE hs hop hn h
  | indexAddr t x i => exact op_indexAddr hE hs hop hn h
  | index t x i => exact op_index hE hs hop hn h
  | extract x i => exact op_extract hs hop hn h
  | call c => exact op_call hE hs hop hn h
  | _ =>
    unfold opK0 at h
    rw [hop] at h
    simp at h
end
end Go.AX

namespace Go.AX
variable {bg : Bg}
theorem opK_sound {P : Program} {E : Env} {w : World} {S : Nat → Prop} {m : List (Option Nat)} {σ : Store} {fr : Frame'} {a : Act} (hE : EnvOk bg P E) (hs : Sit bg w S m σ fr a) {o : Oper} {K : AV → Store → Option Res} {r : Res} {next : Act → World → Prop} {Q : Exit → Act → World → Prop}
    (hn : Nexts P w S m σ o a K r next) (h : opK E fr o σ K = some r) : OWp P o a w next Q := by
  obtain ⟨p, h1, h2⟩ := T.k_some h
  refine opK0_sound hE hs ?_ (opT_run h1)
  intro v σ' val w' S' m' hst hv hk
  simp only [Option.some.injEq, Prod.mk.injEq, List.cons.injEq, and_true] at hk
  obtain ⟨rfl, rfl⟩ := hk
  exact hn _ _ _ _ _ _ hst hv (asV_some h2)
theorem slice_nil {P : Program} {w : World} {t e : TypeId} (hu : P.underlying t = some (.slice e)) (a0 : Option Addr) (n c : Nat) : (Op.equal t (.slice a0 n c) (.slice none 0 0)).run P w = .ok a0.isNone w := by
  have he : Op.maxDepth = 9999 + 1 := rfl
  unfold Op.equal
  rw [he]
  unfold Op.equalIn
  cases a0 with
  | none => simp only [Sem.run_bind, underlying_run hu, Result.andThen, Sem.run_pure, Option.isNone_none]
  | some a => simp only [Sem.run_bind, underlying_run hu, Result.andThen, Sem.run_pure, Option.isNone_some]
theorem rs_slice {w : World} {S : Nat → Prop} {T : Nat → Option Ent} {s : Sh} {ds : List D} {u : Value} (h : Rs w S T (.dat (.slc s ds)) u) : ∃ a0 n c, u = .slice a0 n c ∧ (ds ≠ [] → a0.isNone = false) := by
  have h : valAgg u = false ∧ Rv w S T (.dat (.slc s ds)) u.cells.toList := h
  obtain ⟨h1, h2⟩ := h
  rw [cells_one h1, Rv, Rd] at h2
  obtain ⟨a0, c, h3, _, _, h4⟩ := h2
  simp only [List.cons.injEq, and_true] at h3
  refine ⟨a0, ds.length, c, h3, fun hne => ?_⟩
  rcases h4 with h4 | ⟨b, o, r, rfl, _⟩
  · exact absurd h4 hne
  · rfl
theorem rs_fslice {w : World} {S : Nat → Prop} {T : Nat → Option Ent} {s : Sh} {ds : List D} {u : Value} (h : Rs w S T (.fslc s ds) u) : ∃ a0 n c, u = .slice a0 n c ∧ (ds ≠ [] → a0.isNone = false) := by
  have h : valAgg u = false ∧ Rv w S T (.fslc s ds) u.cells.toList := h
  obtain ⟨h1, h2⟩ := h
  rw [cells_one h1, Rv, Rd] at h2
  obtain ⟨⟨a0, c, h3, _, _, h4⟩, _⟩ := h2
  simp only [List.cons.injEq, and_true] at h3
  refine ⟨a0, ds.length, c, h3, fun hne => ?_⟩
  rcases h4 with h4 | ⟨b, o, r, rfl, _⟩
  · exact absurd h4 hne
  · rfl
theorem rs_sref {w : World} {S : Nat → Prop} {T : Nat → Option Ent} {s : Sh} {id n : Nat} {p : List Nat} {off len : Nat} {u : Value} (h : Rs w S T (.sref s id n p off len) u) : ∃ a0 n c, u = .slice a0 n c ∧ (len ≠ 0 → a0.isNone = false) := by
  have h : valAgg u = false ∧ Rv w S T (.sref s id n p off len) u.cells.toList := h
  obtain ⟨h1, h2⟩ := h
  rw [cells_one h1, Rv] at h2
  obtain ⟨a0, c, e, h3, ⟨_, h4⟩, _⟩ := h2
  simp only [List.cons.injEq, and_true] at h3
  refine ⟨a0, len, c, h3, fun hne => ?_⟩
  rcases h4 with h4 | h4
  · exact absurd h4 hne
  · cases a0 <;> simp_all
theorem tab_slc_is {P : Program} {tab : Tab} {t : TypeId} (hT : tabOk P tab 0 tab = true) (ht : tab_slc tab t = true) : ∃ e, P.underlying t = some (.slice e) := by
  unfold tab_slc at ht
  cases hI : tab[t]? with
  | none => rw [hI] at ht; simp at ht
  | some I =>
    rw [hI] at ht
    simp only [Bool.and_eq_true] at ht
    cases hty : I.ty with
    | slc e =>
      obtain ⟨hu, _⟩ := (tyOk hT hI ht.1).slice hty
      exact ⟨e, hu⟩
    | _ => rw [hty] at ht; simp at ht
theorem nil_op {P : Program} {w : World} {S : Nat → Prop} {m : List (Option Nat)} {σ : Store} {fr : Frame'} {a : Act} (hs : Sit bg w S m σ fr a) {o : Oper} {K : AV → Store → Option Res} {r : Res} {next : Act → World → Prop} {Q : Exit → Act → World → Prop}
    (hn : Nexts P w S m σ o a K r next) {op : BinOp} {t e : TypeId} {x : Operand} {yt : TypeId} {neg : Bool} (hop : o.op = .binOp op t x (.const (.slice none 0 0)) yt) {a0 : Option Addr} {n c : Nat} (hu : P.underlying t = some (.slice e)) (hx : a.eval x = .slice a0 n c)
    (hop' : op = .eql ∧ neg = false ∨ op = .neq ∧ neg = true) (hb : K (aBool (neg ^^ a0.isNone)) σ = some r) : OWp P o a w next Q := by
  refine pure_op hs.inv hn ?_ (Rs.of_bool (neg ^^ a0.isNone)) hb
  unfold execOp
  rw [hop]
  refine vrun ?_
  show (do eqGuard op t x (.const (.slice none 0 0)) (a.eval x) (.slice none 0 0); Go.binOp op t (a.eval x) (.slice none 0 0) : Sem Value).run P w = _
  rw [hx]
  have hg : (eqGuard op t x (.const (.slice none 0 0)) (.slice a0 n c) (.slice none 0 0)).run P w = .ok () w := eqGuard_other (by simp) rfl w
  rcases hop' with ⟨rfl, rfl⟩ | ⟨rfl, rfl⟩
  · rw [Sem.run_bind, hg]
    simp only [Result.andThen]
    show (do pure (.bool (← Op.equal t (.slice a0 n c) (.slice none 0 0))) : Sem Value).run P w = _
    simp only [Sem.run_bind, slice_nil hu, Result.andThen, Sem.run_pure, Bool.false_xor]
  · rw [Sem.run_bind, hg]
    simp only [Result.andThen]
    show (do pure (.bool (!(← Op.equal t (.slice a0 n c) (.slice none 0 0)))) : Sem Value).run P w = _
    simp only [Sem.run_bind, slice_nil hu, Result.andThen, Sem.run_pure, Bool.true_xor]
theorem opN_sound {P : Program} {E : Env} {w : World} {S : Nat → Prop} {m : List (Option Nat)} {σ : Store} {fr : Frame'} {a : Act} (hE : EnvOk bg P E) (hs : Sit bg w S m σ fr a) {o : Oper} {K : AV → Store → Option Res} {r : Res} {next : Act → World → Prop} {Q : Exit → Act → World → Prop}
    (hn : Nexts P w S m σ o a K r next) (h : opN E fr o σ K = some r) : OWp P o a w next Q := by
  unfold opN at h
  split at h
  · rename_i ds neg hq
    unfold nilAsk at hq
    split at hq
    · rename_i op t x yt hop
      have main : ∀ (e : TypeId) (a0 : Option Addr) (n c : Nat), P.underlying t = some (.slice e) → a.eval x = .slice a0 n c → (ds ≠ [] → a0.isNone = false) → (op = .eql ∧ neg = false ∨ op = .neq ∧ neg = true) → OWp P o a w next Q := by
        intro e a0 n c hu hx hne hop'
        have hb : K (aBool (neg ^^ a0.isNone)) σ = some r := by
          cases hd : ds with
          | nil =>
            rw [hd] at h
            simp only [List.isEmpty_nil, cond_true] at h
            obtain ⟨g1, g2⟩ := both_some h
            cases hb : (neg ^^ a0.isNone) with
            | true => exact g1
            | false => exact g2
          | cons d l =>
            rw [hd] at h hne
            simp only [List.isEmpty_cons, cond_false] at h
            rw [hne (by simp), Bool.xor_false]
            exact h
        refine pure_op hs.inv hn ?_ (Rs.of_bool (neg ^^ a0.isNone)) hb
        unfold execOp
        rw [hop]
        refine vrun ?_
        show (do eqGuard op t x (.const (.slice none 0 0)) (a.eval x) (.slice none 0 0); Go.binOp op t (a.eval x) (.slice none 0 0) : Sem Value).run P w = _
        rw [hx]
        have hg : (eqGuard op t x (.const (.slice none 0 0)) (.slice a0 n c) (.slice none 0 0)).run P w = .ok () w := eqGuard_other (by simp) rfl w
        rcases hop' with ⟨rfl, rfl⟩ | ⟨rfl, rfl⟩
        · rw [Sem.run_bind, hg]
          simp only [Result.andThen]
          show (do pure (.bool (← Op.equal t (.slice a0 n c) (.slice none 0 0))) : Sem Value).run P w = _
          simp only [Sem.run_bind, slice_nil hu, Result.andThen, Sem.run_pure, Bool.false_xor]
        · rw [Sem.run_bind, hg]
          simp only [Result.andThen]
          show (do pure (.bool (!(← Op.equal t (.slice a0 n c) (.slice none 0 0)))) : Sem Value).run P w = _
          simp only [Sem.run_bind, slice_nil hu, Result.andThen, Sem.run_pure, Bool.true_xor]
      have ofT : tab_slc E.tab t = true → ∃ e, P.underlying t = some (.slice e) := by
        intro ht
        unfold tab_slc at ht
        cases hI : E.tab[t]? with
        | none => rw [hI] at ht; simp at ht
        | some I =>
          rw [hI] at ht
          simp only [Bool.and_eq_true] at ht
          cases hty : I.ty with
          | slc e =>
            obtain ⟨hu, _⟩ := (tyOk hE.tab hI ht.1).slice hty
            exact ⟨e, hu⟩
          | _ => rw [hty] at ht; simp at ht
      split at hq
      · rename_i ng hng
        have hop' : op = .eql ∧ ng = false ∨ op = .neq ∧ ng = true := by
          cases op <;> simp at hng
          · exact .inl ⟨rfl, hng⟩
          · exact .inr ⟨rfl, hng⟩
        split at hq
        · rename_i s ds' ht hv
          simp only [Option.some.injEq, Prod.mk.injEq] at hq
          obtain ⟨rfl, rfl⟩ := hq
          obtain ⟨e, hu⟩ := ofT ht
          obtain ⟨a0, n, c, hx, hne⟩ := rs_slice (ev_sound hs hv)
          exact main e a0 n c hu hx hne hop'
        · rename_i s ds' ht hv
          simp only [Option.some.injEq, Prod.mk.injEq] at hq
          obtain ⟨rfl, rfl⟩ := hq
          obtain ⟨e, hu⟩ := ofT ht
          obtain ⟨a0, n, c, hx, hne⟩ := rs_fslice (ev_sound hs hv)
          exact main e a0 n c hu hx hne hop'
        · simp at hq
      · simp at hq
    · simp at hq
  · split at h
    · rename_i len neg hq
      cases hl : Nat.beq len 0 with
      | true => rw [hl] at h; simp at h
      | false =>
      rw [hl, cond_false] at h
      have hl : len ≠ 0 := fun e => by rw [e] at hl; simp at hl
      unfold nilRef at hq
      split at hq
      · rename_i op t x yt hop
        split at hq
        · rename_i ng hng
          have hop' : op = .eql ∧ ng = false ∨ op = .neq ∧ ng = true := by
            cases op <;> simp at hng
            · exact .inl ⟨rfl, hng⟩
            · exact .inr ⟨rfl, hng⟩
          split at hq
          · rename_i s2 id2 n2 p2 off2 len2 ht hv
            simp only [Option.some.injEq, Prod.mk.injEq] at hq
            obtain ⟨rfl, rfl⟩ := hq
            obtain ⟨e, hu⟩ := tab_slc_is hE.tab ht
            obtain ⟨a0, n, c, hx, hne⟩ := rs_sref (ev_sound hs hv)
            refine nil_op hs hn hop hu hx hop' ?_
            rw [hne hl, Bool.xor_false]
            exact h
          · simp at hq
        · simp at hq
      · simp at hq
    · exact opK_sound hE hs hn h
end Go.AX
