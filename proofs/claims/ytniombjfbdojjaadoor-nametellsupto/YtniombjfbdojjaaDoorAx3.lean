import Derived.Test.YtniombjfbdojjaaDoorAx2
/- AX, part 5b: the operations once more, with what is not known yet as a tree. -/
namespace Go.AX
def D.getI : D → Int | .int _ n => n | _ => 0
def D.getB : D → Bool | .bool b => b | _ => false
def D.getS : D → ByteArray | .str s => s | _ => .empty
def D.getL : D → List D | .slc _ l | .agg l | .arr _ l => l | _ => []
def D.isI (k : IntKind) : D → Bool | .int k' _ => decide (k' = k) | _ => false
def D.isB : D → Bool | .bool _ => true | _ => false
def D.isS : D → Bool | .str _ => true | _ => false
def D.isSlc (sh : Sh) : D → Bool | .slc s _ => Sh.eqb s sh | _ => false
def D.isArr (sh : Sh) : D → Bool | .arr s _ => Sh.eqb s sh | _ => false
def D.isAgg (n : Nat) : D → Bool | .agg l => Nat.beq l.length n | _ => false
def nthD (l : List D) (i : Nat) : D := l.getD i .nili
theorem nthD_some {l : List D} {i : Nat} (h : i < l.length) : l[i]? = some (nthD l i) := by
  unfold nthD
  rw [List.getD_eq_getElem?_getD, List.getElem?_eq_getElem h]; rfl
mutual
def etS : Sh → D → D
  | .one, d => d
  | .agg l, d => .agg (etSL l 0 d.getL)
  | .arr s _, d => .arr s d.getL
def etSL : List Sh → Nat → List D → List D
  | [], _, _ => []
  | s :: l, i, ds => etS s (nthD ds i) :: etSL l (i + 1) ds
end
mutual
def okS : Sh → D → Bool
  | .one, _ => true
  | .agg l, d => d.isAgg l.length && okSL l 0 d.getL
  | .arr s _, d => d.isArr s
def okSL : List Sh → Nat → List D → Bool
  | [], _, _ => true
  | s :: l, i, ds => okS s (nthD ds i) && okSL l (i + 1) ds
end
inductive Ek where
  | any | int (k : IntKind) | bool | str | slc (s : Sh) | agg (l : List Ek) | arr (s : Sh)
def ekOf (tab : Tab) : Nat → TypeId → Ek
  | 0, _ => .any
  | d + 1, t => match tab[t]? with
    | some I => match I.ty with
      | .int k => .int k
      | .bool => .bool
      | .str => .str
      | .slc e => match tab.sh e with | some s => .slc s | none => .any
      | .arr _ e => match tab.sh e with | some s => .arr s | none => .any
      | .struct fs => .agg (fs.map fun f => ekOf tab d f.1)
      | _ => .any
    | none => .any
mutual
def etE : Ek → D → D
  | .any, d => d
  | .int k, d => .int k d.getI
  | .bool, d => .bool d.getB
  | .str, d => .str d.getS
  | .slc s, d => .slc s d.getL
  | .arr s, d => .arr s d.getL
  | .agg l, d => .agg (etEL l 0 d.getL)
def etEL : List Ek → Nat → List D → List D
  | [], _, _ => []
  | s :: l, i, ds => etE s (nthD ds i) :: etEL l (i + 1) ds
end
mutual
def okE : Ek → D → Bool
  | .any, _ => true
  | .int k, d => d.isI k
  | .bool, d => d.isB
  | .str, d => d.isS
  | .slc s, d => d.isSlc s
  | .arr s, d => d.isArr s
  | .agg l, d => d.isAgg l.length && okEL l 0 d.getL
def okEL : List Ek → Nat → List D → Bool
  | [], _, _ => true
  | s :: l, i, ds => okE s (nthD ds i) && okEL l (i + 1) ds
end
theorem list_eta {l : List D} {f : Nat → D} (h : ∀ i, i < l.length → f i = nthD l i) : (List.range l.length).map f = l := by
  refine List.ext_getElem (by simp) fun i h1 h2 => ?_
  simp only [List.getElem_map, List.getElem_range]
  rw [h i h2]
  unfold nthD
  rw [List.getD_eq_getElem?_getD, List.getElem?_eq_getElem h2]; rfl
theorem drop_cons_nth {l : List D} {i : Nat} (h : i < l.length) : l.drop i = nthD l i :: l.drop (i + 1) := by
  rw [List.drop_eq_getElem_cons h]
  unfold nthD
  rw [List.getD_eq_getElem?_getD, List.getElem?_eq_getElem h]; rfl
mutual
theorem etS_eq : ∀ {s : Sh} {d : D}, okS s d = true → etS s d = d
  | .one, d, _ => by rw [etS]
  | .arr s n, d, h => by
    rw [okS] at h
    rw [etS]
    cases d <;> simp [D.isArr] at h
    rw [Sh.eq_of_eqb h]; rfl
  | .agg l, d, h => by
    rw [okS] at h
    simp only [Bool.and_eq_true] at h
    rw [etS]
    cases d with
    | agg ds =>
      have h1 := Nat.eq_of_beq_eq_true (show Nat.beq ds.length l.length = true from h.1)
      rw [show D.getL (.agg ds) = ds from rfl] at h ⊢
      rw [etSL_eq h.2 (by omega), List.drop_zero]
    | _ => simp [D.isAgg] at h
theorem etSL_eq : ∀ {l : List Sh} {i : Nat} {ds : List D}, okSL l i ds = true → i + l.length = ds.length → etSL l i ds = ds.drop i
  | [], i, ds, _, hl => by rw [etSL, List.drop_eq_nil_of_le (by simp at hl; omega)]
  | s :: l, i, ds, h, hl => by
    rw [okSL] at h
    simp only [Bool.and_eq_true] at h
    simp only [List.length_cons] at hl
    rw [etSL, etS_eq h.1, etSL_eq h.2 (by omega), ← drop_cons_nth (by omega)]
end
mutual
theorem etE_eq : ∀ {s : Ek} {d : D}, okE s d = true → etE s d = d
  | .any, d, _ => by rw [etE]
  | .int k, d, h => by
    rw [okE] at h; rw [etE]
    cases d <;> simp [D.isI] at h
    rw [h]; rfl
  | .bool, d, h => by
    rw [okE] at h; rw [etE]
    cases d <;> simp [D.isB] at h
    rfl
  | .str, d, h => by
    rw [okE] at h; rw [etE]
    cases d <;> simp [D.isS] at h
    rfl
  | .slc s, d, h => by
    rw [okE] at h; rw [etE]
    cases d <;> simp [D.isSlc] at h
    rw [Sh.eq_of_eqb h]; rfl
  | .arr s, d, h => by
    rw [okE] at h; rw [etE]
    cases d <;> simp [D.isArr] at h
    rw [Sh.eq_of_eqb h]; rfl
  | .agg l, d, h => by
    rw [okE] at h
    simp only [Bool.and_eq_true] at h
    rw [etE]
    cases d with
    | agg ds =>
      have h1 := Nat.eq_of_beq_eq_true (show Nat.beq ds.length l.length = true from h.1)
      rw [show D.getL (.agg ds) = ds from rfl] at h ⊢
      rw [etEL_eq h.2 (by omega), List.drop_zero]
    | _ => simp [D.isAgg] at h
theorem etEL_eq : ∀ {l : List Ek} {i : Nat} {ds : List D}, okEL l i ds = true → i + l.length = ds.length → etEL l i ds = ds.drop i
  | [], i, ds, _, hl => by rw [etEL, List.drop_eq_nil_of_le (by simp at hl; omega)]
  | s :: l, i, ds, h, hl => by
    rw [okEL] at h
    simp only [Bool.and_eq_true] at h
    simp only [List.length_cons] at hl
    rw [etEL, etE_eq h.1, etEL_eq h.2 (by omega), ← drop_cons_nth (by omega)]
end
def spreadE (k : Ek) (d : D) : T D := .chk (okE k d) (.leaf (etE k d))
theorem spreadE_run {k : Ek} {d e : D} (h : (spreadE k d).run = some e) : e = d := by
  obtain ⟨h1, h2⟩ := T.chk_some h
  rw [← T.leaf_some h2, etE_eq h1]
def spreadA (k : Ek) : AV → T AV
  | .dat d => (spreadE k d).bind fun d => .leaf (.dat d)
  | v => .leaf v
theorem spreadA_run {k : Ek} {v u : AV} (h : (spreadA k v).run = some u) : u = v := by
  unfold spreadA at h
  split at h
  · obtain ⟨d, h1, h2⟩ := T.bind_some h
    rw [← T.leaf_some h2, spreadE_run h1]
  · exact (T.leaf_some h).symm
def navDT : List Nat → D → T D
  | [], d => .leaf d
  | k :: p, .agg ds => (T.ofOpt ds[k]?).bind (navDT p)
  | k :: p, .arr s ds => .chk (decide (k < ds.length)) (.chk (okS s (nthD ds k)) (navDT p (etS s (nthD ds k))))
  | _ :: _, _ => .fail
theorem navDT_run : ∀ {p : List Nat} {d e : D}, (navDT p d).run = some e → D.nav p d = some e
  | [], d, e, h => by rw [navDT] at h; rw [D.nav, T.leaf_some h]
  | k :: p, d, e, h => by
    cases d
    case agg ds =>
      rw [navDT] at h
      obtain ⟨u, h1, h2⟩ := T.bind_some h
      rw [D.nav, T.of_some h1, Option.bind_some, navDT_run h2]
    case arr s ds =>
      rw [navDT] at h
      obtain ⟨h1, h2⟩ := T.chk_some h
      obtain ⟨h2, h3⟩ := T.chk_some h2
      rw [etS_eq h2] at h3
      rw [D.nav, nthD_some (of_decide_eq_true h1), Option.bind_some, navDT_run h3]
    all_goals simp [navDT, T.run_fail] at h
def navAT : List Nat → AV → T AV
  | [], v => .leaf v
  | k :: p, .agg vs => (T.ofOpt vs[k]?).bind (navAT p)
  | k :: p, .dat d => (navDT (k :: p) d).bind fun d => .leaf (.dat d)
  | _ :: _, _ => .fail
theorem navAT_run : ∀ {p : List Nat} {d e : AV}, (navAT p d).run = some e → AV.nav p d = some e
  | [], d, e, h => by rw [navAT] at h; rw [AV.nav, T.leaf_some h]
  | k :: p, d, e, h => by
    cases d
    case agg ds =>
      rw [navAT] at h
      obtain ⟨u, h1, h2⟩ := T.bind_some h
      rw [AV.nav, T.of_some h1, Option.bind_some, navAT_run h2]
    case dat d =>
      rw [navAT] at h
      obtain ⟨u, h1, h2⟩ := T.bind_some h
      rw [AV.nav, navDT_run h1, Option.map_some, T.leaf_some h2]
    all_goals simp [navAT, T.run_fail] at h
def putAT : List Nat → AV → AV → T AV
  | [], old, v => .chk (Sh.eqb old.shape v.shape) (.leaf v)
  | k :: p, .agg vs, v => (T.ofOpt vs[k]?).bind fun u => (putAT p u v).bind fun u' => .leaf (.agg (vs.set k u'))
  | k :: p, .dat (.agg ds), v => (T.ofOpt ds[k]?).bind fun u => (putAT p (.dat u) v).bind fun u' => .leaf (match u' with
      | .dat d' => .dat (.agg (ds.set k d'))
      | u' => .agg ((ds.map .dat).set k u'))
  | k :: p, .dat (.arr s ds), v => .chk (decide (k < ds.length)) (.chk (okS s (nthD ds k)) ((putAT p (.dat (etS s (nthD ds k))) v).bind fun u' => match u' with
      | .dat d' => .leaf (.dat (.arr s (ds.set k d')))
      | _ => .fail))
  | _ :: _, _, _ => .fail
theorem putAT_run : ∀ {p : List Nat} {old v e : AV}, (putAT p old v).run = some e → AV.put p old v = some e
  | [], old, v, e, h => by
    rw [putAT] at h
    obtain ⟨h1, h2⟩ := T.chk_some h
    rw [AV.put, if_pos h1, T.leaf_some h2]
  | k :: p, old, v, e, h => by
    cases old
    case agg vs =>
      rw [putAT] at h
      obtain ⟨u, h1, h2⟩ := T.bind_some h
      obtain ⟨u', h3, h4⟩ := T.bind_some h2
      rw [AV.put, T.of_some h1, Option.bind_some, putAT_run h3, Option.map_some, T.leaf_some h4]
    case dat d =>
      cases d
      case agg ds =>
        rw [putAT] at h
        obtain ⟨u, h1, h2⟩ := T.bind_some h
        obtain ⟨u', h3, h4⟩ := T.bind_some h2
        rw [AV.put, T.of_some h1, Option.bind_some, putAT_run h3, Option.map_some, ← T.leaf_some h4]
        cases u' <;> rfl
      case arr s ds =>
        rw [putAT] at h
        obtain ⟨h1, h2⟩ := T.chk_some h
        obtain ⟨h2, h3⟩ := T.chk_some h2
        obtain ⟨u', h3, h4⟩ := T.bind_some h3
        rw [etS_eq h2] at h3
        rw [AV.put, nthD_some (of_decide_eq_true h1), Option.bind_some, putAT_run h3, Option.bind_some]
        split at h4
        · rw [← T.leaf_some h4]
        · simp [T.run_fail] at h4
      all_goals simp [putAT, T.run_fail] at h
    all_goals simp [putAT, T.run_fail] at h
def oLoadT (sh : Sh) (x : AV) (σ : Store) : T AV :=
  match x with
  | .ptr s id n p => .chk (Sh.eqb s sh) (match σ[id]? with
      | some B => .chk (Nat.beq B.n n && !(B.dyn && p.isEmpty) && posSh B.sh) (navAT p B.v)
      | none => .fail)
  | .dat (.vptr s d) => .chk (Sh.eqb s sh) (.leaf (.dat d))
  | _ => .fail
theorem oLoadT_run {sh : Sh} {x v : AV} {σ : Store} (h : (oLoadT sh x σ).run = some v) : oLoad sh x σ = some v := by
  unfold oLoadT at h
  split at h
  · obtain ⟨h1, h2⟩ := T.chk_some h
    simp only [oLoad, h1, cond_true]
    split at h2
    · obtain ⟨h3, h4⟩ := T.chk_some h2
      rename_i B hB
      simp only [hB, h3, cond_true]
      exact navAT_run h4
    · simp [T.run_fail] at h2
  · obtain ⟨h1, h2⟩ := T.chk_some h
    simp only [oLoad, h1, cond_true, T.leaf_some h2]
  · simp [T.run_fail] at h
def oStoreT (sh : Sh) (x v : AV) (σ : Store) : T Store :=
  match x with
  | .ptr s id n p => .chk (Sh.eqb s sh && v.real) (match σ[id]? with
      | some B => .chk (Nat.beq B.n n && !B.frz && !(B.dyn && p.isEmpty) && posSh B.sh) ((putAT p B.v v).bind fun v' => .leaf (σ.set id { B with v := v' }))
      | none => .fail)
  | _ => .fail
theorem oStoreT_run {sh : Sh} {x v : AV} {σ σ' : Store} (h : (oStoreT sh x v σ).run = some σ') : oStore sh x v σ = some σ' := by
  unfold oStoreT at h
  split at h
  · obtain ⟨h1, h2⟩ := T.chk_some h
    simp only [oStore, h1, cond_true]
    split at h2
    · obtain ⟨h3, h4⟩ := T.chk_some h2
      rename_i B hB
      simp only [hB, h3, cond_true]
      obtain ⟨v', h5, h6⟩ := T.bind_some h4
      rw [putAT_run h5, Option.map_some, T.leaf_some h6]
    · simp [T.run_fail] at h2
  · simp [T.run_fail] at h
def oIndexAddrT (ek : Ek) (sh : Sh) (x i : AV) : T AV :=
  (T.ofOpt (asI i)).bind fun k => .chk (decide (0 ≤ k)) (match x with
    | .dat (.slc s ds) => .chk (Sh.eqb s sh) (.chk (decide (k.toNat < ds.length)) ((spreadE ek (nthD ds k.toNat)).bind fun d => .leaf (.dat (.vptr sh d))))
    | .fslc s ds => .chk (Sh.eqb s sh) (.chk (decide (k.toNat < ds.length)) ((spreadE ek (nthD ds k.toNat)).bind fun d => .leaf (.dat (.vptr sh d))))
    | .sref s id n p off len => .chk (Sh.eqb s sh && decide (k < len)) (.leaf (.ptr sh id n (p ++ [off + k.toNat])))
    | _ => .fail)
theorem oIndexAddrT_run {ek : Ek} {sh : Sh} {x i v : AV} (h : (oIndexAddrT ek sh x i).run = some v) : oIndexAddr sh x i = some v := by
  unfold oIndexAddrT at h
  obtain ⟨k, h1, h⟩ := T.bind_some h
  obtain ⟨h2, h⟩ := T.chk_some h
  simp only [oIndexAddr, T.of_some h1, Option.bind_some, h2, cond_true]
  split at h
  · obtain ⟨h3, h⟩ := T.chk_some h
    obtain ⟨h4, h⟩ := T.chk_some h
    obtain ⟨d, h5, h⟩ := T.bind_some h
    simp only [h3, cond_true, nthD_some (of_decide_eq_true h4), Option.map_some]
    rw [← T.leaf_some h, spreadE_run h5]
  · obtain ⟨h3, h⟩ := T.chk_some h
    obtain ⟨h4, h⟩ := T.chk_some h
    obtain ⟨d, h5, h⟩ := T.bind_some h
    simp only [h3, cond_true, nthD_some (of_decide_eq_true h4), Option.map_some]
    rw [← T.leaf_some h, spreadE_run h5]
  · obtain ⟨h3, h⟩ := T.chk_some h
    simp only [h3, cond_true]
    rw [← T.leaf_some h]
  · simp [T.run_fail] at h
def oIndexAddrAT (ek : Ek) (sh : Sh) (N : Nat) (x i : AV) : T AV :=
  (T.ofOpt (asI i)).bind fun k => .chk (decide (0 ≤ k) && decide (k < N)) (match x with
    | .ptr s id n p => .chk (Sh.eqb s (.arr sh N)) (.leaf (.ptr sh id n (p ++ [k.toNat])))
    | .dat (.vptr s (.arr _ ds)) => .chk (Sh.eqb s (.arr sh N)) (.chk (decide (k.toNat < ds.length)) ((spreadE ek (nthD ds k.toNat)).bind fun d => .leaf (.dat (.vptr sh d))))
    | _ => .fail)
theorem oIndexAddrAT_run {ek : Ek} {sh : Sh} {N : Nat} {x i v : AV} (h : (oIndexAddrAT ek sh N x i).run = some v) : oIndexAddrA sh N x i = some v := by
  unfold oIndexAddrAT at h
  obtain ⟨k, h1, h⟩ := T.bind_some h
  obtain ⟨h2, h⟩ := T.chk_some h
  simp only [oIndexAddrA, T.of_some h1, Option.bind_some, h2, cond_true]
  split at h
  · obtain ⟨h3, h⟩ := T.chk_some h
    simp only [h3, cond_true]
    rw [← T.leaf_some h]
  · obtain ⟨h3, h⟩ := T.chk_some h
    obtain ⟨h4, h⟩ := T.chk_some h
    obtain ⟨d, h5, h⟩ := T.bind_some h
    simp only [h3, cond_true, nthD_some (of_decide_eq_true h4), Option.map_some]
    rw [← T.leaf_some h, spreadE_run h5]
  · simp [T.run_fail] at h
def strAt (s : ByteArray) (i : Nat) : UInt8 := s.data.toList.getD i 0
def oS2AT (sh : Sh) (n : Nat) : AV → T AV
  | .dat (.slc s ds) => .chk (Sh.eqb s sh && decide (0 < n) && decide (n ≤ ds.length)) (.leaf (.dat (.vptr (.arr sh n) (.arr sh (seg ds 0 n)))))
  | .fslc s ds => .chk (Sh.eqb s sh && decide (0 < n) && decide (n ≤ ds.length)) (.leaf (.dat (.vptr (.arr sh n) (.arr sh (seg ds 0 n)))))
  | _ => .fail
theorem oS2AT_run {sh : Sh} {n : Nat} {x v : AV} (h : (oS2AT sh n x).run = some v) : oS2A sh n x = some v := by
  unfold oS2AT at h
  unfold oS2A
  split at h
  · obtain ⟨hc, h⟩ := T.chk_some h
    simp only [hc, cond_true, T.leaf_some h]
  · obtain ⟨hc, h⟩ := T.chk_some h
    simp only [hc, cond_true, T.leaf_some h]
  · simp [T.run_fail] at h
def oIndexST (x i : AV) : T AV :=
  match x, asI i with
  | .dat (.str s), some k => .chk (decide (0 ≤ k)) (.chk (decide (k.toNat < s.data.toList.length)) (.leaf (.dat (.int .u8 (strAt s k.toNat).toNat))))
  | _, _ => .fail
theorem oIndexST_run {x i v : AV} (h : (oIndexST x i).run = some v) : oIndexS x i = some v := by
  unfold oIndexST at h
  split at h
  · rename_i s k hk
    obtain ⟨h2, h⟩ := T.chk_some h
    obtain ⟨h3, h⟩ := T.chk_some h
    have h3 := of_decide_eq_true h3
    simp only [oIndexS, hk, h2, cond_true, List.getElem?_eq_getElem h3, Option.map_some]
    rw [← T.leaf_some h]
    unfold strAt
    rw [List.getD_eq_getElem?_getD, List.getElem?_eq_getElem h3]; rfl
  · simp [T.run_fail] at h
def oIndexAT (ek : Ek) (x i : AV) : T AV :=
  match x, asI i with
  | .dat (.arr _ ds), some k => .chk (decide (0 ≤ k)) (.chk (decide (k.toNat < ds.length)) ((spreadE ek (nthD ds k.toNat)).bind fun d => .leaf (.dat d)))
  | _, _ => .fail
theorem oIndexAT_run {ek : Ek} {x i v : AV} (h : (oIndexAT ek x i).run = some v) : oIndexA x i = some v := by
  unfold oIndexAT at h
  split at h
  · rename_i s ds k hk
    obtain ⟨h2, h⟩ := T.chk_some h
    obtain ⟨h3, h⟩ := T.chk_some h
    obtain ⟨d, h5, h⟩ := T.bind_some h
    simp only [oIndexA, hk, h2, cond_true, nthD_some (of_decide_eq_true h3), Option.map_some]
    rw [← T.leaf_some h, spreadE_run h5]
  · simp [T.run_fail] at h
def elemsT (x : AV) (σ : Store) : T (List D) :=
  match x with
  | .dat (.slc _ ds) | .fslc _ ds => .leaf ds
  | .sref _ id n p off len =>
    match σ[id]? with
    | some B => .chk (Nat.beq B.n n) ((navAT p B.v).bind fun v => match v with
        | .dat (.arr _ ds) => .leaf (seg ds off len)
        | _ => .fail)
    | none => .fail
  | .dat (.str s) => .leaf (bytesD s)
  | _ => .fail
theorem elemsT_run {x : AV} {σ : Store} {l : List D} (h : (elemsT x σ).run = some l) : elems x σ = some l := by
  unfold elemsT at h
  split at h
  · simp only [elems, T.leaf_some h]
  · simp only [elems, T.leaf_some h]
  · split at h
    · rename_i B hB
      obtain ⟨h1, h⟩ := T.chk_some h
      obtain ⟨v, h2, h⟩ := T.bind_some h
      simp only [elems, hB, h1, cond_true, navAT_run h2]
      split at h
      · simp only [T.leaf_some h]
      · simp [T.run_fail] at h
    · simp [T.run_fail] at h
  · simp only [elems, T.leaf_some h]
  · simp [T.run_fail] at h
def boundT (y : Option AV) (d : Nat) : T Nat :=
  match y with
  | none => .leaf d
  | some v => (T.ofOpt (asI v)).bind fun k => .chk (decide (0 ≤ k)) (.leaf k.toNat)
theorem boundT_run {y : Option AV} {d n : Nat} (h : (boundT y d).run = some n) : bound y d = some n := by
  unfold boundT at h
  split at h
  · simp only [bound, T.leaf_some h]
  · obtain ⟨k, h1, h⟩ := T.bind_some h
    obtain ⟨h2, h⟩ := T.chk_some h
    simp only [bound, T.of_some h1, Option.bind_some, h2, cond_true, T.leaf_some h]
def oSliceT (x : AV) (lo hi : Option AV) (full : Bool) : T AV :=
  match x with
  | .dat (.slc s ds) => (boundT hi ds.length).bind fun h => (boundT lo 0).bind fun l => .chk (decide (l ≤ h) && decide (h ≤ ds.length))
      (.leaf (bif full then .fslc s (seg ds l (h - l)) else .dat (.slc s (seg ds l (h - l)))))
  | .fslc s ds => (boundT hi ds.length).bind fun h => (boundT lo 0).bind fun l => .chk (decide (l ≤ h) && decide (h ≤ ds.length))
      (.leaf (bif full || hi.isNone then .fslc s (seg ds l (h - l)) else .dat (.slc s (seg ds l (h - l)))))
  | .sref s id n p off len => (boundT hi len).bind fun h => (boundT lo 0).bind fun l => .chk (decide (l ≤ h) && decide (h ≤ len))
      (.leaf (.sref s id n p (off + l) (h - l)))
  | .dat (.str s) => (boundT hi s.size).bind fun h => (boundT lo 0).bind fun l => .chk (!full && decide (l ≤ h) && decide (h ≤ s.size)) (.leaf (.dat (.str (subStr s l h))))
  | _ => .fail
theorem oSliceT_run {x v : AV} {lo hi : Option AV} {full : Bool} (h : (oSliceT x lo hi full).run = some v) : oSlice x lo hi full = some v := by
  unfold oSliceT at h
  split at h
  all_goals first
    | (simp [T.run_fail] at h; done)
    | (obtain ⟨a, h1, h⟩ := T.bind_some h
       obtain ⟨b, h2, h⟩ := T.bind_some h
       obtain ⟨h3, h⟩ := T.chk_some h
       simp only [oSlice, boundT_run h1, boundT_run h2, Option.bind_some, h3, cond_true, T.leaf_some h])
def oSliceAT (sh : Sh) (N : Nat) (x : AV) (lo hi : Option AV) (σ : Store) : T AV :=
  match x with
  | .ptr s id n p => (boundT hi N).bind fun h => (boundT lo 0).bind fun l => .chk (Sh.eqb s (.arr sh N) && decide (l ≤ h) && decide (h ≤ N)) (match σ[id]? with
      | some B => .chk (Nat.beq B.n n && !(B.dyn && p.isEmpty) && posSh B.sh) ((navAT p B.v).bind fun _ => .leaf (.sref sh id n p l (h - l)))
      | none => .fail)
  | .dat (.vptr s (.arr _ ds)) => (boundT hi N).bind fun h => (boundT lo 0).bind fun l => .chk (Sh.eqb s (.arr sh N) && decide (l ≤ h) && decide (h ≤ N))
      (.leaf (.dat (.slc sh (seg ds l (h - l)))))
  | _ => .fail
theorem oSliceAT_run {sh : Sh} {N : Nat} {x v : AV} {lo hi : Option AV} {σ : Store} (h : (oSliceAT sh N x lo hi σ).run = some v) : oSliceA sh N x lo hi σ = some v := by
  unfold oSliceAT at h
  split at h
  · obtain ⟨a, h1, h⟩ := T.bind_some h
    obtain ⟨b, h2, h⟩ := T.bind_some h
    obtain ⟨h3, h⟩ := T.chk_some h
    simp only [oSliceA, boundT_run h1, boundT_run h2, Option.bind_some, h3, cond_true]
    split at h
    · rename_i B hB
      obtain ⟨h4, h⟩ := T.chk_some h
      obtain ⟨u, h5, h⟩ := T.bind_some h
      simp only [Bool.and_eq_true] at h4
      simp only [hB, navAT_run h5, Option.isSome_some, Bool.and_true, h4.1.1, h4.1.2, h4.2, cond_true, T.leaf_some h]
    · simp [T.run_fail] at h
  · obtain ⟨a, h1, h⟩ := T.bind_some h
    obtain ⟨b, h2, h⟩ := T.bind_some h
    obtain ⟨h3, h⟩ := T.chk_some h
    simp only [oSliceA, boundT_run h1, boundT_run h2, Option.bind_some, h3, cond_true, T.leaf_some h]
  · simp [T.run_fail] at h
mutual
def freezeT : AV → Store → T (AV × Store)
  | .sref s id n p off len, σ =>
    match σ[id]? with
    | some B => .chk (Nat.beq B.n n) ((navAT p B.v).bind fun v => match v with
        | .dat (.arr _ ds) => .leaf (.dat (.slc s (seg ds off len)), bif B.frz then σ else σ.set id { B with frz := true })
        | _ => .fail)
    | none => .fail
  | .fslc s ds, σ => .leaf (.dat (.slc s ds), σ)
  | .agg vs, σ => (freezeLT vs σ).bind fun r => .leaf (pack r.1, r.2)
  | v, σ => .leaf (v, σ)
def freezeLT : List AV → Store → T (List AV × Store)
  | [], σ => .leaf ([], σ)
  | v :: vs, σ => (freezeT v σ).bind fun r => (freezeLT vs r.2).bind fun q => .leaf (r.1 :: q.1, q.2)
end
mutual
theorem freezeT_run : ∀ {v : AV} {σ : Store} {r : AV × Store}, (freezeT v σ).run = some r → freeze v σ = some r
  | .sref s id n p off len, σ, r, h => by
    rw [freezeT] at h
    rw [freeze]
    split at h
    · rename_i B hB
      obtain ⟨h1, h⟩ := T.chk_some h
      obtain ⟨v, h2, h⟩ := T.bind_some h
      simp only [hB, h1, cond_true, navAT_run h2]
      split at h
      · simp only [T.leaf_some h]
      · simp [T.run_fail] at h
    · simp [T.run_fail] at h
  | .fslc s ds, σ, r, h => by rw [freezeT] at h; rw [freeze, T.leaf_some h]
  | .agg vs, σ, r, h => by
    rw [freezeT] at h
    obtain ⟨q, h1, h⟩ := T.bind_some h
    rw [freeze, freezeLT_run h1, Option.map_some, T.leaf_some h]
  | .undef, σ, r, h => by simp only [freezeT] at h; simp only [freeze, T.leaf_some h]
  | .dat d, σ, r, h => by simp only [freezeT] at h; simp only [freeze, T.leaf_some h]
  | .ptr .., σ, r, h => by simp only [freezeT] at h; simp only [freeze, T.leaf_some h]
  | .fn .., σ, r, h => by simp only [freezeT] at h; simp only [freeze, T.leaf_some h]
  | .tup .., σ, r, h => by simp only [freezeT] at h; simp only [freeze, T.leaf_some h]
  | .hnd .., σ, r, h => by simp only [freezeT] at h; simp only [freeze, T.leaf_some h]
theorem freezeLT_run : ∀ {vs : List AV} {σ : Store} {r : List AV × Store}, (freezeLT vs σ).run = some r → freezeL vs σ = some r
  | [], σ, r, h => by rw [freezeLT] at h; rw [freezeL, T.leaf_some h]
  | v :: vs, σ, r, h => by
    rw [freezeLT] at h
    obtain ⟨q, h1, h⟩ := T.bind_some h
    obtain ⟨q', h2, h⟩ := T.bind_some h
    rw [freezeL, freezeT_run h1, Option.bind_some, freezeLT_run h2, Option.map_some, T.leaf_some h]
end
def frzAtT (x : AV) (p : List Nat) (σ : Store) : T Store :=
  match x with
  | .ptr _ id n q => match σ[id]? with
    | some B => .chk (Nat.beq B.n n && !B.frz && !B.dyn && posSh B.sh) (match B.v.nav (q ++ p) with
        | some (.sref s i2 n2 p2 off len) => bif Nat.beq i2 id then .fail else (freezeT (.sref s i2 n2 p2 off len) σ).bind fun r => (putAT (q ++ p) B.v r.1).bind fun v' => .leaf (r.2.set id { B with v := v' })
        | some (.fslc s ds) => (putAT (q ++ p) B.v (.dat (.slc s ds))).bind fun v' => .leaf (σ.set id { B with v := v' })
        | some _ => .leaf σ
        | none => .fail)
    | none => .fail
  | _ => .fail
def ownAtT (x : AV) (p : List Nat) (σ : Store) : T Store :=
  match x with
  | .ptr _ id n q => match σ[id]? with
    | some B => .chk (Nat.beq B.n n && !B.frz && !B.dyn && posSh B.sh) (match B.v.nav (q ++ p) with
        | some (.fslc s []) => (putAT (q ++ p) B.v (.sref s σ.length 0 [] 0 0)).bind fun v' => .leaf ((σ ++ [mkDyn s []]).set id { B with v := v' })
        | some _ => .leaf σ
        | none => .fail)
    | none => .fail
  | _ => .fail
theorem ownAtT_run {x : AV} {p : List Nat} {σ σ' : Store} (h : (ownAtT x p σ).run = some σ') : ownAt x p σ = some σ' := by
  unfold ownAtT at h
  unfold ownAt
  split at h
  · rename_i s id n q
    simp only
    split at h
    · rename_i B hB
      obtain ⟨hc, h⟩ := T.chk_some h
      simp only [hB, hc, cond_true]
      split at h
      · rename_i s2 hnav
        simp only [hnav]
        obtain ⟨v', h2, h⟩ := T.bind_some h
        simp only [putAT_run h2, Option.map_some, T.leaf_some h]
      · rename_i v hv hnav
        have h := T.leaf_some h
        subst h
        rw [hnav]
        split
        · rename_i heq; simp only [Option.some.injEq] at heq; exact absurd heq (hv _)
        · rfl
        · rename_i heq; simp at heq
      · simp [T.run_fail] at h
    · simp [T.run_fail] at h
  · simp [T.run_fail] at h
theorem frzAtT_run {x : AV} {p : List Nat} {σ σ' : Store} (h : (frzAtT x p σ).run = some σ') : frzAt x p σ = some σ' := by
  unfold frzAtT at h
  unfold frzAt
  split at h
  · rename_i s id n q
    simp only
    split at h
    · rename_i B hB
      obtain ⟨hc, h⟩ := T.chk_some h
      simp only [hB, hc, cond_true]
      split at h
      · rename_i s2 i2 n2 p2 off len hnav
        simp only [hnav]
        cases hne : Nat.beq i2 id with
        | true => rw [hne] at h; simp [T.run_fail] at h
        | false =>
          rw [hne, cond_false] at h
          obtain ⟨r, h1, h⟩ := T.bind_some h
          obtain ⟨v', h2, h⟩ := T.bind_some h
          simp only [cond_false, freezeT_run h1, putAT_run h2, Option.bind_some, Option.map_some, T.leaf_some h]
      · rename_i s2 ds hnav
        simp only [hnav]
        obtain ⟨v', h2, h⟩ := T.bind_some h
        simp only [putAT_run h2, Option.map_some, T.leaf_some h]
      · rename_i v hv hv2 hnav
        have h := T.leaf_some h
        subst h
        rw [hnav]
        split
        · rename_i heq; simp only [Option.some.injEq] at heq; exact absurd heq (hv _ _ _ _ _ _)
        · rename_i heq; simp only [Option.some.injEq] at heq; exact absurd heq (hv2 _ _)
        · rfl
        · rename_i heq; simp at heq
      · simp [T.run_fail] at h
    · simp [T.run_fail] at h
  · simp [T.run_fail] at h
def oAppendT (sh : Sh) (bytes : Nat) (x : AV) (ys : List D) (σ : Store) : T (AV × Store) :=
  .chk (fits sh ys) (match x with
    | .sref s id n p off len =>
      match σ[id]? with
      | some B => .chk (Nat.beq B.n n && B.dyn && !B.frz && p.isEmpty && Nat.beq off 0 && Nat.beq len n && Sh.eqb s sh && decide (0 < bytes) && decide ((n + ys.length) * bytes ≤ LIM)) (match B.v with
          | .dat (.arr _ ds) => .leaf (.sref sh id (n + ys.length) [] 0 (n + ys.length), σ.set id { B with v := .dat (.arr sh (ds ++ ys)) })
          | _ => .fail)
      | none => .fail
    | .fslc s ds => .chk (Sh.eqb s sh && decide (0 < bytes) && decide ((ds.length + ys.length) * bytes ≤ LIM))
        (.br ys.isEmpty (.leaf (.fslc s ds, σ)) (.leaf (.sref sh σ.length (ds.length + ys.length) [] 0 (ds.length + ys.length), σ ++ [mkDyn sh (ds ++ ys)])))
    | .dat (.slc s ds) => .chk (Sh.eqb s sh && ys.isEmpty) (.leaf (.dat (.slc s ds), σ))
    | _ => .fail)
theorem oAppendT_run {sh : Sh} {bytes : Nat} {x : AV} {ys : List D} {σ : Store} {r : AV × Store} (h : (oAppendT sh bytes x ys σ).run = some r) : oAppend sh bytes x ys σ = some r := by
  unfold oAppendT at h
  obtain ⟨h1, h⟩ := T.chk_some h
  unfold oAppend
  rw [h1, cond_true]
  split at h
  · split at h
    · rename_i B hB
      obtain ⟨h2, h⟩ := T.chk_some h
      simp only [hB, h2, cond_true]
      split at h
      · rename_i hv
        simp only [hv, T.leaf_some h]
      · simp [T.run_fail] at h
    · simp [T.run_fail] at h
  · obtain ⟨h2, h⟩ := T.chk_some h
    simp only [h2, cond_true]
    cases ys with
    | nil => exact h
    | cons y ys => exact h
  · obtain ⟨h2, h3⟩ := T.chk_some h
    simp only [Bool.and_eq_true] at h2
    cases ys with
    | nil => simp only [h2.1, cond_true, T.leaf_some h3]
    | cons y ys => simp at h2
  · simp [T.run_fail] at h
def oAppendFT (sh : Sh) (bytes : Nat) (x : AV) (ys : List D) (σ : Store) : T (AV × Store) :=
  .chk (fits sh ys) (match x with
    | .sref s id n p off len =>
      match σ[id]? with
      | some B => .chk (Nat.beq B.n n && B.dyn && !B.frz && p.isEmpty && Nat.beq off 0 && Nat.beq len n && Sh.eqb s sh && decide (0 < bytes) && decide ((n + ys.length) * bytes ≤ LIM)) (.chk (decide (0 < n)) (match B.v with
          | .dat (.arr _ ds) => .leaf (.dat (.slc sh (ds ++ ys)), σ.set id { B with frz := true })
          | _ => .fail))
      | none => .fail
    | _ => .fail)
theorem oAppendFT_run {sh : Sh} {bytes : Nat} {x : AV} {ys : List D} {σ : Store} {r : AV × Store} (h : (oAppendFT sh bytes x ys σ).run = some r) : oAppendF sh bytes x ys σ = some r := by
  unfold oAppendFT at h
  obtain ⟨h1, h⟩ := T.chk_some h
  unfold oAppendF
  rw [h1, cond_true]
  split at h
  · split at h
    · rename_i B hB
      obtain ⟨h2, h⟩ := T.chk_some h
      obtain ⟨h3, h⟩ := T.chk_some h
      simp only [hB, h2, h3, Bool.and_true, cond_true]
      split at h
      · rename_i hv
        simp only [hv]
        rw [← hv, T.leaf_some h]
      · simp [T.run_fail] at h
    · simp [T.run_fail] at h
  · simp [T.run_fail] at h
def apndT (c : Bool) (sh : Sh) (bytes : Nat) (x : AV) (ys : List D) (σ : Store) : T (AV × Store) := bif c then oAppendFT sh bytes x ys σ else oAppendT sh bytes x ys σ
theorem apndT_run {c : Bool} {sh : Sh} {bytes : Nat} {x : AV} {ys : List D} {σ : Store} {r : AV × Store} (h : (apndT c sh bytes x ys σ).run = some r) : apnd c sh bytes x ys σ = some r := by
  cases c
  · exact oAppendT_run h
  · exact oAppendFT_run h
def oOwnT (x : AV) (σ : Store) : T (AV × Store) :=
  match x with
  | .fslc s ds => .chk ds.isEmpty (.leaf (.sref s σ.length 0 [] 0 0, σ ++ [mkDyn s []]))
  | .sref s id n p off len => .leaf (.sref s id n p off len, σ)
  | _ => .fail
theorem oOwnT_run {x : AV} {σ : Store} {r : AV × Store} (h : (oOwnT x σ).run = some r) : oOwn x σ = some r := by
  unfold oOwnT at h
  split at h
  · rename_i ds
    obtain ⟨h2, h⟩ := T.chk_some h
    cases ds with
    | nil => simp only [oOwn]; exact h
    | cons y ys => simp at h2
  · simp only [oOwn]; exact h
  · simp [T.run_fail] at h
def oMarkT (x : AV) (σ : Store) : T (AV × Store) :=
  match x with
  | .sref s id n p off len => match σ[id]? with
    | some B => .chk (Nat.beq B.n n && !B.frz && decide (0 < len)) (match B.v.nav p with
        | some (.dat (.arr _ ds)) => .leaf (.dat (.slc s (seg ds off len)), σ.set id { B with frz := true })
        | _ => .fail)
    | none => .fail
  | _ => .fail
theorem oMarkT_run {x : AV} {σ : Store} {r : AV × Store} (h : (oMarkT x σ).run = some r) : oMark x σ = some r := by
  unfold oMarkT at h
  unfold oMark
  split at h
  · split at h
    · rename_i B hB
      simp only
      rw [hB]
      simp only
      obtain ⟨h1, h⟩ := T.chk_some h
      rw [h1, cond_true]
      split at h
      · rename_i ds hv
        rw [hv]
        simp only [T.leaf_some h]
      · simp [T.run_fail] at h
    · simp [T.run_fail] at h
  · simp [T.run_fail] at h
def zerosT (J : AV) (y : AV) : T (List D) :=
  match asI y, J.toD with
  | some n, some zd => .chk (decide (0 ≤ n) && decide (n ≤ LIM)) (.leaf (List.replicate n.toNat zd))
  | _, _ => .fail
theorem zerosT_run {J y : AV} {r : List D} (h : (zerosT J y).run = some r) : zerosOf J y = some r := by
  unfold zerosT at h
  unfold zerosOf
  split at h
  · rename_i n zd h1 h2
    obtain ⟨h3, h⟩ := T.chk_some h
    simp only [h1, h2, h3, cond_true, T.leaf_some h]
  · simp [T.run_fail] at h
def oMakeT (sh : Sh) (bytes : Nat) (z : AV) (n cap : AV) (σ : Store) : T (AV × Store) :=
  match asI n, asI cap, z.toD with
  | some n, some c, some d => .chk (decide (0 ≤ n) && decide (n ≤ c) && decide (c * bytes ≤ LIM) && decide (c ≤ LIM) && Sh.eqb d.shape sh)
      (.leaf (.sref sh σ.length n.toNat [] 0 n.toNat, σ ++ [mkDyn sh (List.replicate n.toNat d)]))
  | _, _, _ => .fail
theorem oMakeT_run {sh : Sh} {bytes : Nat} {z n cap : AV} {σ : Store} {r : AV × Store} (h : (oMakeT sh bytes z n cap σ).run = some r) : oMake sh bytes z n cap σ = some r := by
  unfold oMakeT at h
  split at h
  · rename_i a b c
    obtain ⟨h2, h⟩ := T.chk_some h
    simp only [oMake, a, b, c, h2, cond_true, T.leaf_some h]
  · simp [T.run_fail] at h
theorem set_same {α : Type} {l : List α} {i : Nat} {x : α} (h : l[i]? = some x) : l.set i x = l := by
  obtain ⟨hl, rfl⟩ := List.getElem?_eq_some_iff.1 h
  exact List.set_getElem_self hl
def oCopyT (sh : Sh) (x : AV) (ys : List D) (σ : Store) : T (AV × Store) :=
  match x with
  | .sref s id n p off len =>
    match σ[id]? with
    | some B => .chk (Nat.beq B.n n && !B.frz && Sh.eqb s sh && fits sh ys) ((navAT p B.v).bind fun v => match v with
        | .dat (.arr s' ds) =>
          let k := min ys.length len
          let ds' := ds.take off ++ ys.take k ++ ds.drop (off + k)
          bif p.isEmpty && B.dyn then .leaf (aInt k, σ.set id { B with v := .dat (.arr s' ds') })
          else .br (Nat.beq k 0) (.leaf (aInt 0, σ)) ((putAT p B.v (.dat (.arr s' ds'))).bind fun v' => .leaf (aInt k, σ.set id { B with v := v' }))
        | _ => .fail)
    | none => .fail
  | _ => .fail
def oClearT (sh : Sh) (zd : D) (x : AV) (σ : Store) : T (AV × Store) :=
  match x with
  | .sref s id n p off len => (oCopyT sh (.sref s id n p off len) (List.replicate len zd) σ).bind fun r => .leaf (.tup [], r.2)
  | .fslc _ [] => .leaf (.tup [], σ)
  | _ => .fail
theorem oCopyT_run {sh : Sh} {x : AV} {ys : List D} {σ : Store} {r : AV × Store} (h : (oCopyT sh x ys σ).run = some r) : oCopy sh x ys σ = some r := by
  unfold oCopyT at h
  split at h
  · split at h
    · rename_i B hB
      obtain ⟨h2, h⟩ := T.chk_some h
      obtain ⟨v, h3, h⟩ := T.bind_some h
      simp only [oCopy, hB, h2, cond_true, navAT_run h3]
      split at h
      · rename_i s' ds
        simp only
        have hnav := navAT_run h3
        cases hp : (List.isEmpty _ && B.dyn) with
        | true =>
          rw [hp] at h
          simp only [cond_true] at h
          cases hk : Nat.beq (min ys.length _) 0 with
          | true =>
            simp only [cond_true]
            rw [Bool.and_eq_true, List.isEmpty_iff] at hp
            rw [hp.1, AV.nav, Option.some.injEq] at hnav
            have hk := Nat.eq_of_beq_eq_true hk
            rw [hk, List.take_zero, Nat.add_zero, List.append_nil, List.take_append_drop, ← hnav] at h
            have hset : List.set σ _ B = σ := set_same hB
            rw [hset] at h
            exact h
          | false =>
            simp only [cond_false, cond_true]
            exact h
        | false =>
          rw [hp] at h
          simp only [cond_false, T.run_br] at h
          cases hk : Nat.beq (min ys.length _) 0 with
          | true =>
            rw [hk] at h
            simp only [cond_true] at h ⊢
            exact h
          | false =>
            rw [hk] at h
            simp only [cond_false] at h ⊢
            obtain ⟨v', h5, h⟩ := T.bind_some h
            rw [putAT_run h5, Option.map_some, T.leaf_some h]
      · simp [T.run_fail] at h
    · simp [T.run_fail] at h
  · simp [T.run_fail] at h
theorem oClearT_run {sh : Sh} {zd : D} {x : AV} {σ : Store} {r : AV × Store} (h : (oClearT sh zd x σ).run = some r) : oClear sh zd x σ = some r := by
  unfold oClearT at h
  split at h
  · obtain ⟨q, h1, h⟩ := T.bind_some h
    rw [← T.leaf_some h]
    simp only [oClear, oCopyT_run h1, Option.map_some]
  · rw [← T.leaf_some h]; rfl
  · simp [T.run_fail] at h
def byteV : D → UInt8
  | .int _ n => UInt8.ofNat n.toNat
  | _ => 0
def isBytes (ds : List D) : Bool := ds.all (D.isI .u8)
def byteVs (ds : List D) : List UInt8 := ds.map byteV
theorem bytesOf_eq : ∀ {ds : List D}, isBytes ds = true → bytesOf ds = some (byteVs ds)
  | [], _ => rfl
  | d :: ds, h => by
    unfold isBytes at h
    simp only [List.all_cons, Bool.and_eq_true] at h
    rw [bytesOf, bytesOf_eq (ds := ds) h.2]
    cases d <;> simp [D.isI] at h
    rw [h.1]; rfl
def oToStrT (x : AV) (σ : Store) : T AV :=
  bif isStr x then .fail else (elemsT x σ).bind fun ds => .chk (isBytes ds) (.leaf (.dat (.str ⟨(byteVs ds).toArray⟩)))
theorem oToStrT_run {x v : AV} {σ : Store} (h : (oToStrT x σ).run = some v) : oToStr x σ = some v := by
  unfold oToStrT at h
  unfold oToStr
  cases hs : isStr x with
  | true => rw [hs] at h; simp [T.run_fail] at h
  | false =>
    rw [hs] at h
    simp only [cond_false] at h ⊢
    obtain ⟨ds, h1, h⟩ := T.bind_some h
    obtain ⟨h2, h⟩ := T.chk_some h
    rw [elemsT_run h1, Option.bind_some, bytesOf_eq h2, Option.map_some, T.leaf_some h]
def oNewSliceT (sh : Sh) (ds : List D) (σ : Store) : T (AV × Store) :=
  .chk (fits sh ds) (.leaf (.sref sh σ.length ds.length [] 0 ds.length, σ ++ [mkDyn sh ds]))
theorem oNewSliceT_run {sh : Sh} {ds : List D} {σ : Store} {r : AV × Store} (h : (oNewSliceT sh ds σ).run = some r) : oNewSlice sh ds σ = some r := by
  obtain ⟨h2, h⟩ := T.chk_some h
  rw [oNewSlice, h2, cond_true, T.leaf_some h]
def oToBytesT (x : AV) (σ : Store) : T (AV × Store) :=
  match x with
  | .dat (.str s) => .chk (decide (s.size ≤ LIM)) (oNewSliceT .one (bytesD s) σ)
  | _ => .fail
theorem oToBytesT_run {x : AV} {σ : Store} {r : AV × Store} (h : (oToBytesT x σ).run = some r) : oToBytes x σ = some r := by
  unfold oToBytesT at h
  split at h
  · obtain ⟨h2, h⟩ := T.chk_some h
    simp only [oToBytes, h2, cond_true, oNewSliceT_run h]
  · simp [T.run_fail] at h
def oBinT (op : BinOp) (x y : AV) : T AV :=
  match op, x, y with
  | .shl, .dat (.int k a), .dat (.int _ b) => .chk (decide (0 ≤ b)) (.leaf (.dat (.int k (k.wrap (a * 2 ^ (min b.toNat k.bits))))))
  | .shr, .dat (.int k a), .dat (.int _ b) => .chk (decide (0 ≤ b)) (.leaf (.dat (.int k (a.fdiv (2 ^ (min b.toNat k.bits))))))
  | .quo, .dat (.int k a), .dat (.int k' b) => .chk (decide (k = k') && !decide (b = 0)) (.leaf (.dat (.int k (k.wrap (a.tdiv b)))))
  | .rem, .dat (.int k a), .dat (.int k' b) => .chk (decide (k = k') && !decide (b = 0)) (.leaf (.dat (.int k (a.tmod b))))
  | .add, .dat (.str a), .dat (.str b) => .chk (decide (a.size + b.size ≤ LIM)) (.leaf (.dat (.str (catStr a b))))
  | op, x, y => T.ofOpt (oBin op x y)
theorem oBinT_run {op : BinOp} {x y v : AV} (h : (oBinT op x y).run = some v) : oBin op x y = some v := by
  unfold oBinT at h
  split at h
  · obtain ⟨h2, h⟩ := T.chk_some h
    have h2 := of_decide_eq_true h2
    simp only [oBin, Go.binOp, Op.shift, if_neg (Int.not_lt.2 h2)]
    exact h
  · obtain ⟨h2, h⟩ := T.chk_some h
    have h2 := of_decide_eq_true h2
    simp only [oBin, Go.binOp, Op.shift, if_neg (Int.not_lt.2 h2)]
    exact h
  · obtain ⟨h2, h⟩ := T.chk_some h
    simp only [Bool.and_eq_true, decide_eq_true_eq, Bool.not_eq_true', decide_eq_false_iff_not] at h2
    simp only [oBin, Go.binOp, Op.intDiv, h2.1, ne_eq, not_true_eq_false, if_false, h2.2]
    rw [h2.1] at h
    exact h
  · obtain ⟨h2, h⟩ := T.chk_some h
    simp only [Bool.and_eq_true, decide_eq_true_eq, Bool.not_eq_true', decide_eq_false_iff_not] at h2
    simp only [oBin, Go.binOp, Op.intDiv, h2.1, ne_eq, not_true_eq_false, if_false, h2.2]
    rw [h2.1] at h
    exact h
  · obtain ⟨h2, h⟩ := T.chk_some h
    simp only [oBin, oStr, h2, cond_true]
    exact h
  · exact T.of_some h
end Go.AX
