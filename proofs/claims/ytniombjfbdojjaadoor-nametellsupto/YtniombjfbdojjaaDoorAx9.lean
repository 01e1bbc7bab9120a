import Derived.Test.YtniombjfbdojjaaDoorAx8
/- AX, part 9: pieces of slices, parts of structs and arrays, data out of slices, new blocks. -/
namespace Go.AX
section
variable {P : Program} {tab : Tab} {t : TypeId} {I : TyI} {w : World} {S : Nat → Prop} {T : Nat → Option Ent} {m : List (Option Nat)} {σ : Store}
def BndOk (w : World) (S : Nat → Prop) (T : Nat → Option Ent) (y : Option AV) (u : Option Value) : Prop :=
  match y, u with
  | none, none => True
  | some v, some u => Rs w S T v u
  | _, _ => False
theorem bound_sound {y : Option AV} {u : Option Value} {d n : Nat} (h : bound y d = some n) (hy : BndOk w S T y u) :
    (u = none ∧ n = d) ∨ ∃ k, u = some (.int k n) := by
  unfold bound at h
  cases y with
  | none =>
    cases u with
    | none => simp at h; exact .inl ⟨rfl, h.symm⟩
    | some u => exact hy.elim
  | some v =>
    cases u with
    | none => exact hy.elim
    | some u =>
      simp only [Option.bind_eq_some_iff] at h
      obtain ⟨k, hk, h⟩ := h
      obtain ⟨kk, rfl, rfl⟩ := asI_sound hk hy
      cases h0 : decide (0 ≤ k) with
      | false => rw [h0] at h; simp at h
      | true =>
        rw [h0] at h
        simp only [decide_eq_true_eq] at h0
        simp only [cond_true, Option.some.injEq] at h
        right
        refine ⟨kk, ?_⟩
        congr 2
        omega
theorem sliceBound_run {k : IntKind} {n y : Nat} {code : BoundsCode} (h : n ≤ y) (w : World) : (Instr.sliceBound (.int k n) y code).run P w = .ok n w := by
  unfold Instr.sliceBound
  simp only [asIntOf, Sem.run_bind, Sem.run_pure, Result.andThen, Sem.run_ite]
  rw [if_pos (by omega)]
  simp
theorem sliceBounds_run {isS : Bool} {len cap l h : Nat} {lo hi : Option Value} (hl : (lo = none ∧ l = 0) ∨ ∃ k, lo = some (.int k l)) (hh : (hi = none ∧ h = len) ∨ ∃ k, hi = some (.int k h))
    (h1 : l ≤ h) (h2 : h ≤ len) (h3 : len ≤ cap) (w : World) :
    (Instr.sliceBounds isS len cap lo hi none).run P w = .ok (l, h, cap) w := by
  unfold Instr.sliceBounds
  have h4 : h ≤ cap := by omega
  rcases hh with ⟨rfl, rfl⟩ | ⟨k, rfl⟩ <;> rcases hl with ⟨rfl, rfl⟩ | ⟨k', rfl⟩ <;>
    simp only [Sem.run_bind, Sem.run_pure, Result.andThen, sliceBound_run h1, sliceBound_run h4]
theorem sliceBounds_run3 {len cap l h : Nat} {lo : Option Value} {k k' : IntKind} (hl : (lo = none ∧ l = 0) ∨ ∃ k, lo = some (.int k l))
    (h1 : l ≤ h) (h2 : h ≤ cap) (w : World) :
    (Instr.sliceBounds true len cap lo (some (.int k h)) (some (.int k' h))).run P w = .ok (l, h, h) w := by
  unfold Instr.sliceBounds
  rcases hl with ⟨rfl, rfl⟩ | ⟨k', rfl⟩ <;>
    simp only [Sem.run_bind, Sem.run_pure, Result.andThen, sliceBound_run h1, sliceBound_run h2, sliceBound_run (Nat.le_refl h)]
theorem slice_run {e : TypeId} {i : TypeInfo} (hu : P.underlying t = some (.slice e)) (hi : P.info? e = some i) {a : Option Addr} {len cap l h mx : Nat} {lo hi' mx' : Option Value}
    (hb : ∀ w, (Instr.sliceBounds true len cap lo hi' mx').run P w = .ok (l, h, mx) w) (w : World) :
    (Instr.sliceAt t (.slice a len cap) lo hi' mx').run P w = .ok (.slice (if mx = l then a else a.map (·.add (l * i.size))) (h - l) (mx - l)) w := by
  unfold Instr.sliceAt
  simp only [Sem.run_bind, underlying_run hu, Result.andThen]
  unfold Instr.slice
  simp only [Sem.run_bind, underlying_run hu, Result.andThen, hb, sizeOf_run hi, Sem.run_pure]
theorem slice_str_run (hu : P.underlying t = some .string) {s : ByteArray} {l h mx : Nat} {lo hi' : Option Value}
    (hb : ∀ w, (Instr.sliceBounds false s.size s.size lo hi' none).run P w = .ok (l, h, mx) w) (w : World) :
    (Instr.sliceAt t (.string s) lo hi' none).run P w = .ok (.string (s.extract l h)) w := by
  unfold Instr.sliceAt
  simp only [Sem.run_bind, underlying_run hu, Result.andThen]
  unfold Instr.slice
  simp only [Sem.run_bind, underlying_run hu, Result.andThen, Option.isSome_none, Bool.false_eq_true, if_false, Sem.run_pure, hb]
theorem TyOk.str (hI : TyOk P tab t I) (h : I.ty = .str) : P.underlying t = some .string := by
  obtain ⟨i, d, h1, h2, _, _, _, _, h3⟩ := hI.info
  rw [h] at h3
  cases d <;> cases hsh : I.sh <;> rw [hsh] at h3 <;> simp at h3
  exact h2
theorem slc_piece {sh : Sh} {ds : List D} {a : Option Addr} {cap l h : Nat} (g1 : ds.length ≤ cap) (g2 : ∀ d ∈ ds, d.shape = sh)
    (g3 : ds = [] ∨ ∃ b o r, a = some ⟨b, o, none⟩ ∧ S b ∧ row w b o (ds.length * sh.size) = some r ∧ RdL w S ds r) (h1 : l ≤ h) (h2 : h ≤ ds.length) (mx : Nat) (hm : h ≤ mx) :
    ∃ a', (if mx = l then a else a.map (·.add (l * sh.size))) = a' ∧ (∀ d ∈ seg ds l (h - l), d.shape = sh) ∧ (seg ds l (h - l)).length = h - l ∧
      (seg ds l (h - l) = [] ∨ ∃ b o r, a' = some ⟨b, o, none⟩ ∧ S b ∧ row w b o ((seg ds l (h - l)).length * sh.size) = some r ∧ RdL w S (seg ds l (h - l)) r) := by
  have hl : (seg ds l (h - l)).length = h - l := seg_length (by omega)
  refine ⟨_, rfl, seg_all g2, hl, ?_⟩
  by_cases hz : h - l = 0
  · left; exact List.eq_nil_of_length_eq_zero (by omega)
  · right
    rcases g3 with g3 | ⟨b, o, r, rfl, g4, g5, g6⟩
    · subst g3; simp at h2; omega
    · obtain ⟨r', k1, k2⟩ := seg_row (l := l) (n := h - l) g5 g6 g2 (by omega)
      rw [if_neg (by omega)]
      exact ⟨b, _, r', by simp [addr_add], g4, k1, k2⟩
theorem oSlice_sound (hP : tabOk P tab 0 tab = true) (hI : TyOk P tab t I) {e : TypeId} {J : TyI} (hty : I.ty = .slc e) (hJ : tab[e]? = some J) {x v : AV} {vx : Value} {lo hi : Option AV} {ul uh : Option Value}
    (hs : slcSh x = some J.sh) (h : oSlice x lo hi false = some v) (hx : Rs w S T x vx) (hl : BndOk w S T lo ul) (hh : BndOk w S T hi uh) :
    ∃ vz, (Instr.sliceAt t vx ul uh none).run P w = .ok vz w ∧ Rs w S T v vz := by
  obtain ⟨hu, J', hJ', hsz, hkn⟩ := hI.slice hty
  rw [hJ] at hJ'; simp only [Option.some.injEq] at hJ'; subst hJ'
  obtain ⟨i, b1, b3, _⟩ := TyOk.of_tab hP hJ hkn
  have hiNone : ∀ {h ln : Nat}, bound hi ln = some h → hi = none → h = ln := by
    intro h ln hb hn; subst hn; simp [bound] at hb; exact hb.symm
  unfold oSlice at h
  split at h
  · rename_i s ds
    simp only [slcSh, Option.some.injEq] at hs; subst hs
    simp only [Option.bind_eq_some_iff] at h
    obtain ⟨h', hbh, l, hbl, h⟩ := h
    cases hc : (decide (l ≤ h') && decide (h' ≤ ds.length)) with
    | false => rw [hc] at h; simp at h
    | true =>
      rw [hc] at h
      simp only [Bool.and_eq_true, decide_eq_true_eq] at hc
      simp only [cond_true, cond_false, Option.some.injEq] at h
      subst h
      obtain ⟨a, cap, rfl, g1, g2, g3⟩ := hx.slc
      have hb := fun w => sliceBounds_run (P := P) (isS := true) (len := ds.length) (cap := cap) (bound_sound hbl hl) (bound_sound hbh hh) hc.1 hc.2 g1 w
      obtain ⟨a', k1, k2, k3, k4⟩ := slc_piece g1 g2 g3 hc.1 hc.2 cap (by omega)
      refine ⟨_, slice_run hu b1 hb w, ?_⟩
      have hz := Rs.of_slc (T := T) (a := a') (cap := cap - l) (by omega) k2 k4
      rw [k3] at hz
      rw [b3, k1]
      exact hz
  · rename_i s ds
    simp only [slcSh, Option.some.injEq] at hs; subst hs
    simp only [Option.bind_eq_some_iff] at h
    obtain ⟨h', hbh, l, hbl, h⟩ := h
    cases hc : (decide (l ≤ h') && decide (h' ≤ ds.length)) with
    | false => rw [hc] at h; simp at h
    | true =>
      rw [hc] at h
      simp only [Bool.and_eq_true, decide_eq_true_eq] at hc
      simp only [cond_true, Bool.false_or, Option.some.injEq] at h
      obtain ⟨hx', a0, n0, hn0⟩ := hx.fslc
      obtain ⟨a, cap, hv, g1, g2, g3⟩ := hx'.slc
      have hcap : cap = ds.length := by
        rw [hv] at hn0
        simp only [Value.slice.injEq] at hn0
        omega
      subst hcap
      rw [hv]
      have hb := fun w => sliceBounds_run (P := P) (isS := true) (len := ds.length) (cap := ds.length) (bound_sound hbl hl) (bound_sound hbh hh) hc.1 hc.2 (Nat.le_refl _) w
      obtain ⟨a', k1, k2, k3, k4⟩ := slc_piece g1 g2 g3 hc.1 hc.2 ds.length (by omega)
      refine ⟨_, slice_run hu b1 hb w, ?_⟩
      rw [b3, k1]
      cases hi with
      | none =>
        have := hiNone hbh rfl
        subst this
        simp only [Option.isNone_none, cond_true] at h
        subst h
        have hz := Rs.of_fslc (T := T) (a := a') k2 k4
        rw [k3] at hz
        exact hz
      | some y =>
        simp only [Option.isNone_some, cond_false] at h
        subst h
        have hz := Rs.of_slc (T := T) (a := a') (cap := ds.length - l) (by omega) k2 k4
        rw [k3] at hz
        exact hz
  · rename_i s id n p off len
    simp only [slcSh, Option.some.injEq] at hs; subst hs
    simp only [Option.bind_eq_some_iff] at h
    obtain ⟨h', hbh, l, hbl, h⟩ := h
    cases hc : (decide (l ≤ h') && decide (h' ≤ len)) with
    | false => rw [hc] at h; simp at h
    | true =>
      rw [hc] at h
      simp only [Bool.and_eq_true, decide_eq_true_eq] at hc
      simp only [cond_true, Option.some.injEq] at h
      subst h
      obtain ⟨a, cap, e', rfl, ⟨g0, g1⟩, g2, g3, g4⟩ := hx.sref
      have hb := fun w => sliceBounds_run (P := P) (isS := true) (len := len) (cap := cap) (bound_sound hbl hl) (bound_sound hbh hh) hc.1 hc.2 g0 w
      refine ⟨_, slice_run hu b1 hb w, rfl, ?_⟩
      show Rv w S T _ [_]
      rw [Rv]
      refine ⟨_, _, e', rfl, ⟨by omega, ?_⟩, g2, g3, fun hn => ?_⟩
      · by_cases hz : h' - l = 0
        · exact .inl hz
        · right
          rw [if_neg (by omega)]
          rcases g1 with g1 | g1
          · omega
          · simpa using g1
      · obtain ⟨N, k1, k2, k3, k4⟩ := g4 hn
        refine ⟨N, k1, by omega, by omega, ?_⟩
        cases hblk : e'.blk with
        | none => rw [hblk] at k4; simp only at k4 ⊢; omega
        | some b =>
          rw [hblk] at k4
          obtain ⟨o, c, t', f, l1, l2, l3, l4⟩ := k4
          refine ⟨o, c, t', f, l1, ?_, l3, ?_⟩
          · by_cases hz : cap - l = 0
            · exact .inl hz
            · right
              rw [if_neg (by omega)]
              rcases l2 with l2 | l2
              · omega
              · rw [l2, b3]
                simp [addr_add, Nat.add_mul, Nat.add_assoc]
          · have : off + l + (cap - l) = off + cap := by omega
            rw [this]; exact l4
  · simp [slcSh] at hs
  · simp at h
theorem oSlice3_sound (hP : tabOk P tab 0 tab = true) (hI : TyOk P tab t I) {e : TypeId} {J : TyI} (hty : I.ty = .slc e) (hJ : tab[e]? = some J) {x v hi mx : AV} {vx uh um : Value} {lo : Option AV} {ul : Option Value} {n : Int}
    (hs : slcSh x = some J.sh) (h : oSlice x lo (some hi) true = some v) (hx : Rs w S T x vx) (hl : BndOk w S T lo ul) (hh : Rs w S T hi uh) (hm : Rs w S T mx um) (h1 : asI hi = some n) (h2 : asI mx = some n) :
    ∃ vz, (Instr.sliceAt t vx ul (some uh) (some um)).run P w = .ok vz w ∧ Rs w S T v vz := by
  obtain ⟨hu, J', hJ', hsz, hkn⟩ := hI.slice hty
  rw [hJ] at hJ'; simp only [Option.some.injEq] at hJ'; subst hJ'
  obtain ⟨i, b1, b3, _⟩ := TyOk.of_tab hP hJ hkn
  obtain ⟨kh, rfl, rfl⟩ := asI_sound h1 hh
  obtain ⟨km, rfl, rfl⟩ := asI_sound h2 hm
  have hbn : ∀ {d h' : Nat}, bound (some (.dat (.int kh n))) d = some h' → n = h' := by
    intro d h' hb
    simp only [bound, asI, Option.bind_some] at hb
    cases h0 : decide (0 ≤ n) with
    | false => rw [h0] at hb; simp at hb
    | true =>
      rw [h0] at hb
      simp only [decide_eq_true_eq] at h0
      simp only [cond_true, Option.some.injEq] at hb
      omega
  have slcCase : ∀ (s : Sh) (ds : List D), s = J.sh → Rs w S T (.dat (.slc s ds)) vx → ((bound (some (.dat (.int kh n))) ds.length).bind fun h => (bound lo 0).bind fun l => bif decide (l ≤ h) && decide (h ≤ ds.length) then
      some (AV.fslc s (seg ds l (h - l))) else none) = some v → ∃ vz, (Instr.sliceAt t vx ul (some (.int kh n)) (some (.int km n))).run P w = .ok vz w ∧ Rs w S T v vz := by
    intro s ds hs hr hq
    subst hs
    simp only [Option.bind_eq_some_iff] at hq
    obtain ⟨h', hbh, l, hbl, hq⟩ := hq
    have := hbn hbh
    subst this
    cases hc : (decide (l ≤ h') && decide (h' ≤ ds.length)) with
    | false => rw [hc] at hq; simp at hq
    | true =>
      rw [hc] at hq
      simp only [Bool.and_eq_true, decide_eq_true_eq] at hc
      simp only [cond_true, Option.some.injEq] at hq
      subst hq
      obtain ⟨a, cap, rfl, g1, g2, g3⟩ := hr.slc
      have hb := fun w => sliceBounds_run3 (P := P) (len := ds.length) (cap := cap) (k := kh) (k' := km) (bound_sound hbl hl) hc.1 (by omega) w
      obtain ⟨a', k1, k2, k3, k4⟩ := slc_piece g1 g2 g3 hc.1 hc.2 h' (Nat.le_refl _)
      refine ⟨_, slice_run hu b1 hb w, ?_⟩
      have hz := Rs.of_fslc (T := T) (a := a') k2 k4
      rw [k3] at hz
      rw [b3, k1]
      exact hz
  unfold oSlice at h
  split at h
  · simp only [slcSh, Option.some.injEq] at hs
    exact slcCase _ _ hs hx (by simpa using h)
  · simp only [slcSh, Option.some.injEq] at hs
    exact slcCase _ _ hs hx.fslc.1 (by simpa using h)
  · rename_i s id n' p off len
    simp only [slcSh, Option.some.injEq] at hs; subst hs
    simp only [Option.bind_eq_some_iff] at h
    obtain ⟨h', hbh, l, hbl, h⟩ := h
    have := hbn hbh
    subst this
    cases hc : (decide (l ≤ h') && decide (h' ≤ len)) with
    | false => rw [hc] at h; simp at h
    | true =>
      rw [hc] at h
      simp only [Bool.and_eq_true, decide_eq_true_eq] at hc
      simp only [cond_true, Option.some.injEq] at h
      subst h
      obtain ⟨a, cap, e', rfl, ⟨g0, g1⟩, g2, g3, g4⟩ := hx.sref
      have hb := fun w => sliceBounds_run3 (P := P) (len := len) (cap := cap) (k := kh) (k' := km) (bound_sound hbl hl) hc.1 (by omega) w
      refine ⟨_, slice_run hu b1 hb w, rfl, ?_⟩
      show Rv w S T _ [_]
      rw [Rv]
      refine ⟨_, _, e', rfl, ⟨by omega, ?_⟩, g2, g3, fun hn => ?_⟩
      · by_cases hz : h' - l = 0
        · exact .inl hz
        · right
          rw [if_neg (by omega)]
          rcases g1 with g1 | g1
          · omega
          · simpa using g1
      · obtain ⟨N, k1, k2, k3, k4⟩ := g4 hn
        refine ⟨N, k1, by omega, by omega, ?_⟩
        cases hblk : e'.blk with
        | none => rw [hblk] at k4; simp only at k4 ⊢; omega
        | some b =>
          rw [hblk] at k4
          obtain ⟨o, c, t', f, l1, l2, l3, l4⟩ := k4
          refine ⟨o, c, t', f, l1, ?_, l3, ?_⟩
          · by_cases hz : h' - l = 0
            · exact .inl hz
            · right
              rw [if_neg (by omega)]
              rcases l2 with l2 | l2
              · omega
              · rw [l2, b3]
                simp [addr_add, Nat.add_mul, Nat.add_assoc]
          · refine Nat.le_trans ?_ l4
            have : off + l + (h' - l) ≤ off + cap := by omega
            exact Nat.add_le_add_left (Nat.mul_le_mul_right _ this) _
  · simp [slcSh] at hs
  · simp at h
theorem subStr_eq (s : ByteArray) (l h : Nat) : s.extract l h = subStr s l h := by
  have h1 := Lib.extract_data s l h
  unfold subStr
  cases hs : s.extract l h with
  | mk d =>
    rw [hs] at h1
    simp only at h1
    congr 1
    rw [← Array.toList_inj, h1]
theorem oSliceStr_sound (hu : P.underlying t = some .string) {x v : AV} {vx : Value} {lo hi : Option AV} {ul uh : Option Value}
    (hs : slcSh x = none) (h : oSlice x lo hi false = some v) (hx : Rs w S T x vx) (hl : BndOk w S T lo ul) (hh : BndOk w S T hi uh) :
    ∃ vz, (Instr.sliceAt t vx ul uh none).run P w = .ok vz w ∧ Rs w S T v vz := by
  unfold oSlice at h
  split at h
  · simp [slcSh] at hs
  · simp [slcSh] at hs
  · simp [slcSh] at hs
  · rename_i s
    simp only [Option.bind_eq_some_iff] at h
    obtain ⟨h', hbh, l, hbl, h⟩ := h
    cases hc : (!false && decide (l ≤ h') && decide (h' ≤ s.size)) with
    | false => rw [hc] at h; simp at h
    | true =>
      rw [hc] at h
      simp only [Bool.and_eq_true, decide_eq_true_eq] at hc
      simp only [cond_true, Option.some.injEq] at h
      subst h
      rw [hx.str]
      have hb := fun w => sliceBounds_run (P := P) (isS := false) (len := s.size) (cap := s.size) (bound_sound hbl hl) (bound_sound hbh hh) hc.1.2 hc.2 (Nat.le_refl _) w
      refine ⟨_, slice_str_run hu hb w, ?_⟩
      rw [subStr_eq]
      exact Rs.of_str _
  · simp at h
theorem newRow_run {e : TypeId} {c : Array Value} (w : World) : (newRow e c).run P w = .ok ⟨w.heap.size, 0, none⟩ { w with heap := w.heap.push (.cells c e) } := rfl
theorem newVar_run {e : TypeId} {u : Value} (w : World) : (newVar e u).run P w = .ok ⟨w.heap.size, 0, none⟩ { w with heap := w.heap.push (.cells u.cells e) } := rfl
theorem tbl_new {m : List (Option Nat)} {σ : Store} (h : m.length = σ.length) (ob : Option Nat) (B : Blk) : tbl (m ++ [ob]) (σ ++ [B]) σ.length = some ⟨ob, B.sh, B.dyn, B.n⟩ := by
  rw [tbl_append h, if_pos rfl]
theorem oNew_sound (hi : Inv w S m σ) {v r : AV} {u : Value} {e : TypeId} {σ' : Store} (h : oNew v σ = some (r, σ')) (hv : Rs w S (tbl m σ) v u) :
    ∃ w' m', (newVar e u).run P w = .ok ⟨w.heap.size, 0, none⟩ w' ∧ Stp w S m σ w' S m' σ' ∧ Rs w' S (tbl m' σ') r (.pointer (some ⟨w.heap.size, 0, none⟩)) := by
  unfold oNew at h
  cases hr : v.real with
  | false => rw [hr] at h; simp at h
  | true =>
    rw [hr] at h
    simp only [cond_true, Option.some.injEq, Prod.mk.injEq] at h
    obtain ⟨rfl, rfl⟩ := h
    obtain ⟨h1, h2⟩ := hv.real hr
    have hstp := hi.new (c := u.cells) (t := e) (f := (0, 0)) (B := mkVar v) rfl (by intro o _ h; omega) (fun hq => by simp [mkVar] at hq) (fun _ => ⟨rfl, h2⟩)
    refine ⟨_, _, newVar_run w, hstp, rfl, ?_⟩
    show Rv _ S _ _ [_]
    rw [Rv]
    exact ⟨_, _, rfl, tbl_new hi.len _ _, Nat.zero_le _, fun _ => ⟨_, 0, rfl, rfl, rfl, rfl⟩⟩
theorem fits_sound {sh : Sh} {ds : List D} (h : fits sh ds = true) : ∀ d ∈ ds, d.shape = sh := by
  unfold fits at h
  rw [List.all_eq_true] at h
  exact fun d hd => Sh.eq_of_eqb (h d hd)
theorem newDyn_stp (hi : Inv w S m σ) {sh : Sh} {ds : List D} {e : TypeId} {c : Array Value} {f : Nat × Nat} (hs : ∀ d ∈ ds, d.shape = sh) (hl : ds.length * sh.size ≤ c.size)
    (hd : RdL w S ds (c.toList.take (ds.length * sh.size))) (hf : ∀ o, o < c.size → ¬ (f.1 ≤ o ∧ o < f.2)) {cap : Nat} (hcap : cap * sh.size ≤ c.size) (hlc : ds.length ≤ cap) :
    Stp w S m σ { w with heap := w.heap.push (.cells c e f) } S (m ++ [some w.heap.size]) (σ ++ [mkDyn sh ds]) ∧
    Rs { w with heap := w.heap.push (.cells c e f) } S (tbl (m ++ [some w.heap.size]) (σ ++ [mkDyn sh ds])) (.sref sh σ.length ds.length [] 0 ds.length) (.slice (some ⟨w.heap.size, 0, none⟩) ds.length cap) := by
  have hstp := hi.new (c := c) (t := e) (f := f) (B := mkDyn sh ds) rfl hf (fun _ => ⟨sh, ds, rfl, rfl, hl, by rw [Rd]; exact ⟨hd, hs⟩⟩) (fun hq => by simp [mkDyn] at hq)
  refine ⟨hstp, rfl, ?_⟩
  show Rv _ S _ _ [_]
  rw [Rv]
  refine ⟨_, _, _, rfl, ⟨hlc, .inr rfl⟩, tbl_new hi.len _ _, Nat.le_refl _, fun _ => ⟨0, rfl, hlc, ?_, 0, c, e, f, rfl, .inr (by simp), ?_, by simpa using hcap⟩⟩
  · simp [mkDyn, Blk.n, AV.many]
  · simp
end
end Go.AX

namespace Go.AX
section
variable {P : Program} {tab : Tab} {t : TypeId} {I : TyI} {w : World} {S : Nat → Prop} {T : Nat → Option Ent} {m : List (Option Nat)} {σ : Store}
theorem bytesD_shape (s : ByteArray) : ∀ d ∈ bytesD s, d.shape = .one := by
  intro d hd
  simp only [bytesD, List.mem_map] at hd
  obtain ⟨b, _, rfl⟩ := hd
  rfl
theorem bytesD_length (s : ByteArray) : (bytesD s).length = s.size := by
  simp only [bytesD, List.length_map, Array.length_toList]
  rfl
theorem bytesD_cells (s : ByteArray) : RdL w S (bytesD s) (s.data.toList.map fun b => Value.int .u8 b.toNat) := by
  unfold bytesD
  induction s.data.toList with
  | nil => simp [RdL]
  | cons b l ih =>
    simp only [List.map_cons]
    rw [RdL]
    exact ⟨[_], _, rfl, by rw [Rd], ih⟩
def Src (w : World) (S : Nat → Prop) (sh : Sh) (ys : List D) (u : Value) : Prop := SlcAt w S sh ys u ∨ ∃ s : ByteArray, u = .string s ∧ ys = bytesD s
theorem lenOf_run {sh : Sh} {ys : List D} {u : Value} (h : Src w S sh ys u) (w' : World) : (Builtin.lenOf u).run P w' = .ok ys.length w' := by
  rcases h with ⟨a, cap, rfl, _⟩ | ⟨s, rfl, rfl⟩
  · rfl
  · unfold Builtin.lenOf
    rw [bytesD_length]; rfl
theorem loadCells_zero (a : Addr) (w : World) : (loadCells a 0).run P w = .ok #[] w := rfl
theorem firstCells_run {sh : Sh} {ys : List D} {u : Value} (h : Src w S sh ys u) : ∃ r, (Builtin.firstCells sh.size ys.length u).run P w = .ok r w ∧ RdL w S ys r.toList := by
  rcases h with ⟨a, cap, rfl, h1, h2, h3⟩ | ⟨s, rfl, rfl⟩
  · rcases h3 with h3 | ⟨b, o, r, rfl, h4, h5⟩
    · subst h3
      refine ⟨#[], ?_, by simp [RdL]⟩
      cases a with
      | none => rfl
      | some a => simp only [Builtin.firstCells, List.length_nil, Nat.zero_mul]; rfl
    · exact ⟨r.toArray, by simp only [Builtin.firstCells]; exact run_loadCells' h4, by simpa using h5⟩
  · refine ⟨_, rfl, ?_⟩
    rw [bytesD_length]
    have : (s.extract 0 s.size).data.toList = s.data.toList := by
      rw [Lib.extract_data]
      simp only [List.drop_zero, Nat.sub_zero]
      rw [List.take_of_length_le]
      simp only [Array.length_toList]
      exact Nat.le_refl _
    rw [Array.toList_map, this]
    exact bytesD_cells s
theorem growBy_le (n : Nat) : ∀ (r c : Nat), Builtin.growBy n r c ≤ max c (n + (n + 768) / 4)
  | 0, c => by simp only [Builtin.growBy]; omega
  | r + 1, c => by
    simp only [Builtin.growBy]
    split
    · omega
    · have := growBy_le n r (c + (c + 768) / 4)
      omega
theorem nextcap_le {need cap : Nat} (h : cap < need) : Builtin.nextslicecap need cap ≤ 2 * need := by
  unfold Builtin.nextslicecap
  split
  · omega
  · split
    · omega
    · have := growBy_le need 4 cap
      omega
theorem nextcap_bytes {need cap bytes : Nat} (h : cap < need) (hb : need * bytes ≤ LIM) : ¬ Builtin.nextslicecap need cap * bytes > 2 ^ 48 := by
  have h1 := nextcap_le h
  have h2 : Builtin.nextslicecap need cap * bytes ≤ 2 * need * bytes := Nat.mul_le_mul_right _ h1
  have h3 : 2 * need * bytes ≤ 2 * LIM := by rw [Nat.mul_assoc]; exact Nat.mul_le_mul_left _ hb
  unfold LIM at h3
  omega
theorem askRoom_run (n : Nat) (w : World) : (askRoom n).run P w = .ok () w := by
  unfold askRoom
  split <;> rfl
theorem append_in_place {e u ty : TypeId} {i : TypeInfo} {d : TypeDesc} (hu : P.underlying t = some (.slice e)) (hi : P.info? e = some i) (hd : P.underlying u = some d) (hz : ∀ k, d ≠ .int k)
    {a : Option Addr} {len cap n : Nat} {vy : Value} {new : Array Value} (hlen : ∀ w', (Builtin.lenOf vy).run P w' = .ok n w') (hfc : (Builtin.firstCells i.size n vy).run P w = .ok new w) (hn : len + n ≤ cap) :
    (Builtin.append_ #[t, u] ty #[.slice a len cap, vy]).run P w =
      match a with
      | some ad => ((storeCells (ad.add (len * i.size)) new.toList).run P w).andThen fun _ w' => .ok (.slice a (len + n) cap) w'
      | none => .ok (.slice none (len + n) cap) w := by
  have hz' : (match d with | .int _ => true | _ => false : Bool) = false := by cases d <;> first | rfl | exact absurd rfl (hz _)
  unfold Builtin.append_
  simp only [List.size_toArray, List.length_cons, List.length_nil, Nat.zero_add, Nat.reduceAdd, Nat.zero_lt_succ, getElem?_pos, List.getElem_toArray, List.getElem_cons_zero, List.getElem_cons_succ, Nat.lt_add_one,
    Sem.run_bind, underlying_run hu, underlying_run hd, sizeOf_run hi, Result.andThen, Sem.run_pure, Bool.false_eq_true, if_false, hlen, hn, if_true, Bool.not_false, hfc]
  cases a <;> simp [Result.andThen]
theorem append_grow {e u ty : TypeId} {i : TypeInfo} {d : TypeDesc} {z : Value} (hu : P.underlying t = some (.slice e)) (hi : P.info? e = some i) (hzero : i.zero = some z) (hd : P.underlying u = some d) (hz : ∀ k, d ≠ .int k)
    {a : Option Addr} {len cap n : Nat} {vy : Value} {new old : Array Value} (hlen : ∀ w', (Builtin.lenOf vy).run P w' = .ok n w')
    (hfc : ∀ k, (Builtin.firstCells i.size n vy).run P { w with drawn := k } = .ok new { w with drawn := k }) (hold : ∀ k, (Builtin.firstCells i.size len (.slice a len cap)).run P { w with drawn := k } = .ok old { w with drawn := k })
    (hn : ¬ len + n ≤ cap) (hb : 0 < i.bytes) (hB : (len + n) * i.bytes ≤ LIM) :
    ∃ newCap k, len + n ≤ newCap ∧ (Builtin.append_ #[t, u] ty #[.slice a len cap, vy]).run P w =
      .ok (.slice (some ⟨w.heap.size, 0, none⟩) (len + n) newCap) { w with heap := w.heap.push (.cells (old ++ new ++ Builtin.zeroCells z.cells (newCap - (len + n))) e), drawn := k } := by
  have h1 := nextcap_bytes (cap := cap) (by omega) hB
  have h2 : ¬ (((len + n : Nat) : Int) > IntKind.i64.max ∧ (false = true ∨ i.bytes = 0)) := by
    rintro ⟨_, h | h⟩
    · simp at h
    · omega
  have hz' : (match d with | .int _ => true | _ => false : Bool) = false := by cases d <;> first | rfl | exact absurd rfl (hz _)
  refine ⟨(Question.appendCap (len + n) cap e).cut (w.tape w.drawn (.appendCap (len + n) cap e)), w.drawn + 1, ?_, ?_⟩
  · simp only [Question.cut]; omega
  · unfold Builtin.append_
    simp only [List.size_toArray, List.length_cons, List.length_nil, Nat.zero_add, Nat.reduceAdd, Nat.zero_lt_succ, getElem?_pos, List.getElem_toArray, List.getElem_cons_zero, List.getElem_cons_succ, Nat.lt_add_one,
      Sem.run_bind, underlying_run hu, underlying_run hd, sizeOf_run hi, typeInfo_run hi, Result.andThen, Sem.run_pure, Bool.false_eq_true, if_false, hlen, hn, Bool.not_false, if_true]
    rw [if_neg (by simpa using h2)]
    simp only [Sem.run_bind, typeInfo_run hi, Result.andThen]
    rw [if_neg h1]
    simp only [Sem.run_bind, choose, Sem.run, Question.forced, Bool.false_eq_true, if_false, Result.andThen, askRoom_run, hold, hfc, Sem.run_pure, typeInfo_run hi, zeroValue_run hi hzero, newRow_run]
theorem SlcAt.mono {w w' : World} {sh : Sh} {ds : List D} {u : Value} (hk : Kp w S w' S) (hrow : ∀ b o n, row w' b o n = row w b o n) (h : SlcAt w S sh ds u) : SlcAt w' S sh ds u := by
  obtain ⟨a, cap, h1, h2, h3, h4⟩ := h
  refine ⟨a, cap, h1, h2, h3, ?_⟩
  rcases h4 with h4 | ⟨b, o, r, g1, g2, g3⟩
  · exact .inl h4
  · exact .inr ⟨b, o, r, g1, by rw [hrow]; exact g2, g3.mono hk⟩
theorem Kp.drew (w : World) (S : Nat → Prop) (k : Nat) : Kp w S { w with drawn := k } S := ⟨fun _ h => h, fun _ _ => rfl, fun _ c t f hb => ⟨c, t, f, hb, rfl⟩, fun _ r hb => ⟨r, hb, rfl⟩⟩
theorem Src.drew {sh : Sh} {ys : List D} {u : Value} (h : Src w S sh ys u) (k : Nat) : Src { w with drawn := k } S sh ys u := by
  rcases h with h | h
  · exact .inl (h.mono (Kp.drew w S k) (fun _ _ _ => rfl))
  · exact .inr h
theorem Src.refit {sh sh' : Sh} {ys : List D} {u : Value} (h : Src w S sh' ys u) (hf : ∀ d ∈ ys, d.shape = sh) : Src w S sh ys u := by
  rcases h with ⟨a, cap, h1, h2, h3, h4⟩ | h
  · cases ys with
    | nil => exact .inl ⟨a, cap, h1, h2, by simp, .inl rfl⟩
    | cons d ds =>
      have : sh = sh' := (hf d (by simp)).symm.trans (h3 d (by simp))
      subst this
      exact .inl ⟨a, cap, h1, h2, h3, h4⟩
  · exact .inr h
theorem zero_cells (hP : tabOk P tab 0 tab = true) {J : TyI} {e : TypeId} (hJ : tab[e]? = some J) (hk : known tab e = true) : ∃ i z, P.info? e = some i ∧ i.size = J.sh.size ∧ i.bytes = J.bytes ∧ i.zero = some z ∧ z.cells.size = J.sh.size ∧
    (∀ (w : World) S T, Rs w S T J.zero z) ∧ J.zero.shape = J.sh := by
  obtain ⟨i, d, h1, h2, h3, h4, ⟨z, cs, h5, h6, h7, h8⟩, h9, _⟩ := (tyOk hP hJ hk).info
  have hrv : ∀ (w : World) S T, Rv w S T J.zero z.cells.toList := fun w S T => by rw [h8]; exact AV.flat_ok h6
  refine ⟨i, z, h1, h3, h4, h5, ?_, fun w S T => Rs.of h7 (hrv w S T), h9⟩
  have := Rv.length (hrv default (fun _ => False) (fun _ => none))
  rw [h9] at this
  simpa using this
theorem zeroCells_size (z : Array Value) (n : Nat) : (Builtin.zeroCells z n).size = n * z.size := by simp [Builtin.zeroCells]
theorem RdL.append {xs ys : List D} {c1 c2 : List Value} (h1 : RdL w S xs c1) (h2 : RdL w S ys c2) : RdL w S (xs ++ ys) (c1 ++ c2) := by
  induction xs generalizing c1 with
  | nil => simp [RdL] at h1; subst h1; simpa using h2
  | cons x xs ih =>
    rw [RdL] at h1
    obtain ⟨a, b, rfl, h3, h4⟩ := h1
    rw [List.cons_append, RdL]
    exact ⟨a, b ++ c2, by simp, h3, ih h4⟩
structure Ap (P : Program) (w : World) (S : Nat → Prop) (t u ty e : TypeId) (ys : List D) (vy : Value) (r2 : Array Value) : Prop where
  rd : RdL w S ys r2.toList
  place : ∀ i : TypeInfo, P.info? e = some i → ∀ (a : Option Addr) (len cap : Nat), len + ys.length ≤ cap → ys.length * i.bytes ≤ LIM →
    (Builtin.append_ #[t, u] ty #[.slice a len cap, vy]).run P w =
      match a with
      | some ad => ((storeCells (ad.add (len * i.size)) r2.toList).run P w).andThen fun _ w' => .ok (.slice a (len + ys.length) cap) w'
      | none => .ok (.slice none (len + ys.length) cap) w
  grow : ∀ (i : TypeInfo) (z : Value), P.info? e = some i → i.zero = some z → ∀ (a : Option Addr) (len cap : Nat) (old : Array Value),
    (∀ k, (Builtin.firstCells i.size len (.slice a len cap)).run P { w with drawn := k } = .ok old { w with drawn := k }) → ¬ len + ys.length ≤ cap → 0 < i.bytes → (len + ys.length) * i.bytes ≤ LIM →
    ∃ newCap k, len + ys.length ≤ newCap ∧ (Builtin.append_ #[t, u] ty #[.slice a len cap, vy]).run P w =
      .ok (.slice (some ⟨w.heap.size, 0, none⟩) (len + ys.length) newCap) { w with heap := w.heap.push (.cells (old ++ r2 ++ Builtin.zeroCells z.cells (newCap - (len + ys.length))) e), drawn := k }
theorem grow_new (hP : tabOk P tab 0 tab = true) (hI : TyOk P tab t I) {e u ty : TypeId} {J : TyI} (hty : I.ty = .slc e) (hJ : tab[e]? = some J)
    {a : Option Addr} {cap : Nat} {vy : Value} {ds ys : List D} {r2 : Array Value} (hx : SlcAt w S J.sh ds (.slice a ds.length cap)) (hap : Ap P w S t u ty e ys vy r2) (hf : ∀ d ∈ ys, d.shape = J.sh) (hn : ¬ ds.length + ys.length ≤ cap)
    (hb : 0 < J.bytes) (hB : (ds.length + ys.length) * J.bytes ≤ LIM) :
    ∃ newCap k c, (Builtin.append_ #[t, u] ty #[.slice a ds.length cap, vy]).run P w = .ok (.slice (some ⟨w.heap.size, 0, none⟩) (ds ++ ys).length newCap) { w with heap := w.heap.push (.cells c e), drawn := k } ∧
      (ds ++ ys).length ≤ newCap ∧ c.size = newCap * J.sh.size ∧ RdL { w with drawn := k } S (ds ++ ys) (c.toList.take ((ds ++ ys).length * J.sh.size)) ∧ (∀ d ∈ ds ++ ys, d.shape = J.sh) := by
  obtain ⟨hu, J', hJ', hsz, hkn⟩ := hI.slice hty
  rw [hJ] at hJ'; simp only [Option.some.injEq] at hJ'; subst hJ'
  obtain ⟨i, z, b1, b3, b4, b5, b6, _⟩ := zero_cells hP hJ hkn
  have hx' : Src w S J.sh ds (.slice a ds.length cap) := .inl hx
  obtain ⟨r1, g1, g2⟩ := firstCells_run hx' (P := P)
  have g4 := hap.rd
  have q1 : ∀ k, (Builtin.firstCells i.size ds.length (.slice a ds.length cap)).run P { w with drawn := k } = .ok r1 { w with drawn := k } := by
    intro k
    obtain ⟨r1', g1', g2'⟩ := firstCells_run (hx'.drew k) (P := P)
    rw [b3, g1']
    have : r1' = r1 := by
      rcases hx with ⟨a', cap', e1, h1, h2, h3⟩
      simp only [Value.slice.injEq] at e1
      obtain ⟨rfl, _, rfl⟩ := e1
      rcases h3 with h3 | ⟨b, o, r, rfl, h4, h5⟩
      · have l1 := RdL.length g2
        have l2 := RdL.length g2'
        subst h3
        simp [D.shapeL, Sh.sizeL] at l1 l2
        rw [l1, l2]
      · simp only [Builtin.firstCells] at g1 g1'
        rw [run_loadCells' h4] at g1
        have h4' : row { w with drawn := k } b o (ds.length * J.sh.size) = some r := h4
        rw [run_loadCells' h4'] at g1'
        simp only [Result.ok.injEq, and_true] at g1 g1'
        rw [← g1, ← g1']
    rw [this]
  obtain ⟨newCap, k, h1, h2⟩ := hap.grow i z b1 b5 a ds.length cap r1 q1 hn (by omega) (by rw [b4]; exact hB)
  have hsh : ∀ d ∈ ds ++ ys, d.shape = J.sh := by
    intro d hd
    rcases List.mem_append.1 hd with h | h
    · obtain ⟨_, _, _, _, h3, _⟩ := hx; exact h3 d h
    · exact hf d h
  have hl := RdL.append g2 g4
  have hlen := RdL.length hl
  rw [sizeL_all J.sh hsh] at hlen
  refine ⟨newCap, k, r1 ++ r2 ++ Builtin.zeroCells z.cells (newCap - (ds.length + ys.length)), by rw [h2]; simp, by simpa using h1, ?_, ?_, hsh⟩
  · rw [Array.size_append, zeroCells_size, b6]
    have : (r1 ++ r2).size = (ds.length + ys.length) * J.sh.size := by simpa using hlen
    rw [this, ← Nat.add_mul]
    congr 1
    omega
  · rw [Array.toList_append, Array.toList_append, ← hlen, List.take_left]
    exact hl.mono (Kp.drew w S k)
theorem Ap.of_src (hP : tabOk P tab 0 tab = true) (hI : TyOk P tab t I) {e u ty : TypeId} {d : TypeDesc} {J : TyI} (hty : I.ty = .slc e) (hJ : tab[e]? = some J) (hd : P.underlying u = some d) (hz : ∀ k, d ≠ .int k)
    {vy : Value} {ys : List D} (hy : Src w S J.sh ys vy) : ∃ r2, Ap P w S t u ty e ys vy r2 := by
  obtain ⟨hu, J', hJ', hsz, hkn⟩ := hI.slice hty
  rw [hJ] at hJ'; simp only [Option.some.injEq] at hJ'; subst hJ'
  obtain ⟨i, z, b1, b3, b4, b5, b6, _⟩ := zero_cells hP hJ hkn
  obtain ⟨r2, g3, g4⟩ := firstCells_run hy (P := P)
  have q2 : ∀ k, (Builtin.firstCells i.size ys.length vy).run P { w with drawn := k } = .ok r2 { w with drawn := k } := by
    intro k
    obtain ⟨r2', g1', g2'⟩ := firstCells_run (hy.drew k) (P := P)
    rw [b3, g1']
    have : r2' = r2 := by
      rcases hy with ⟨a', cap', rfl, h1, h2, h3⟩ | ⟨s, rfl, rfl⟩
      · rcases h3 with h3 | ⟨b, o, r, rfl, h4, h5⟩
        · have l1 := RdL.length g4
          have l2 := RdL.length g2'
          subst h3
          simp [D.shapeL, Sh.sizeL] at l1 l2
          rw [l1, l2]
        · simp only [Builtin.firstCells] at g3 g1'
          rw [run_loadCells' h4] at g3
          have h4' : row { w with drawn := k } b o (ys.length * J.sh.size) = some r := h4
          rw [run_loadCells' h4'] at g1'
          simp only [Result.ok.injEq, and_true] at g3 g1'
          rw [← g3, ← g1']
      · simp only [Builtin.firstCells, Sem.run_pure, Result.ok.injEq, and_true] at g3 g1'
        rw [← g3, ← g1']
    rw [this]
  refine ⟨r2, g4, fun i' hi' a len cap hn _ => ?_, fun i' z' hi' hz' a len cap old hold hn hb hB => ?_⟩
  · rw [b1] at hi'; simp only [Option.some.injEq] at hi'; subst hi'
    exact append_in_place (ty := ty) hu b1 hd hz (fun w' => lenOf_run hy w') (by rw [b3]; exact g3) hn
  · rw [b1] at hi'; simp only [Option.some.injEq] at hi'; subst hi'
    rw [b5] at hz'; simp only [Option.some.injEq] at hz'; subst hz'
    exact append_grow (w := w) (ty := ty) hu b1 b5 hd hz (fun w' => lenOf_run hy w') q2 hold hn hb hB
set_option maxHeartbeats 2000000 in
theorem oAppend_ap (hP : tabOk P tab 0 tab = true) (hI : TyOk P tab t I) {e u ty : TypeId} {J : TyI} (hty : I.ty = .slc e) (hJ : tab[e]? = some J)
    (hi : Inv w S m σ) {x v : AV} {vx vy : Value} {ys : List D} {σ' : Store} {r2 : Array Value} (h : oAppend J.sh J.bytes x ys σ = some (v, σ')) (hx : Rs w S (tbl m σ) x vx) (hap : Ap P w S t u ty e ys vy r2) :
    ∃ vz w' m', (Builtin.append_ #[t, u] ty #[vx, vy]).run P w = .ok vz w' ∧ Stp w S m σ w' S m' σ' ∧ Rs w' S (tbl m' σ') v vz := by
  obtain ⟨hu, J', hJ', hsz, hkn⟩ := hI.slice hty
  rw [hJ] at hJ'; simp only [Option.some.injEq] at hJ'; subst hJ'
  obtain ⟨i, z, b1, b3, b4, b5, b6, _⟩ := zero_cells hP hJ hkn
  unfold oAppend at h
  cases hft : fits J.sh ys with
  | false => rw [hft] at h; simp at h
  | true =>
    rw [hft] at h
    have hft := fits_sound hft
    simp only [cond_true] at h
    have g4 := hap.rd
    have nothing : ∀ (a : Option Addr) (len cap : Nat), ys = [] → len ≤ cap → (Builtin.append_ #[t, u] ty #[.slice a len cap, vy]).run P w = .ok (.slice a len cap) w := by
      intro a len cap hys hle
      subst hys
      have hr2 : r2 = #[] := by
        have := RdL.length g4
        simp [D.shapeL, Sh.sizeL] at this
        exact this
      subst hr2
      have := hap.place i b1 a len cap (by simpa using hle) (by simp)
      rw [this]
      cases a with
      | none => simp
      | some ad => simp [storeCells, Result.andThen]
    split at h
    · rename_i s id n p off len
      split at h
      · rename_i B hB
        cases hc : (Nat.beq B.n n && B.dyn && !B.frz && p.isEmpty && Nat.beq off 0 && Nat.beq len n && Sh.eqb s J.sh && decide (0 < J.bytes) && decide ((n + ys.length) * J.bytes ≤ LIM)) with
        | false => rw [hc] at h; simp at h
        | true =>
          rw [hc] at h
          simp only [cond_true] at h
          simp only [Bool.and_eq_true, Bool.not_eq_true', decide_eq_true_eq, List.isEmpty_iff] at hc
          obtain ⟨⟨⟨⟨⟨⟨⟨⟨c1, c2⟩, c3⟩, c4⟩, c5⟩, c6⟩, c7⟩, c8⟩, c9⟩ := hc
          have c1 := Nat.eq_of_beq_eq_true c1
          have c5 := Nat.eq_of_beq_eq_true c5
          have c6 := Nat.eq_of_beq_eq_true c6
          have c7 := Sh.eq_of_eqb c7
          subst c1; subst c4; subst c5; subst c6; subst c7
          split at h
          · rename_i s0 ds hBv
            simp only [Option.some.injEq, Prod.mk.injEq] at h
            obtain ⟨rfl, rfl⟩ := h
            have hBn : B.n = ds.length := by rw [Blk.n, c2, hBv]; rfl
            obtain ⟨a, cap, e', rfl, ⟨g0, g1⟩, g2, g3', g4'⟩ := hx.sref
            obtain ⟨t1, t2, t3, t4⟩ := tbl_get g2 hB
            have hso := g4' t4
            obtain ⟨N, k1, k2, k3, k4⟩ := hso
            have hBk := hi.blk id B hB
            rw [List.getD_eq_getElem?_getD, t1] at hBk
            have hs0 : s0 = J.sh ∧ B.sh = .arr J.sh 0 := by
              rw [t2] at k1
              simp only [Sh.nav, Option.some.injEq] at k1
              cases hq : e'.blk with
              | none =>
                rw [hq] at hBk
                obtain ⟨_, s1, q2, q3⟩ := hBk
                rw [q2] at k1
                simp only [Sh.arr.injEq] at k1
                rw [hBv] at q3
                simp only [AV.dat.injEq, D.arr.injEq] at q3
                exact ⟨by rw [q3.1, k1.1], by rw [q2, k1.1]⟩
              | some b =>
                rw [hq] at hBk
                obtain ⟨c, t', f, l1, l2, l3, l4, l5⟩ := BlkOk.cel hBk (.inl c2)
                obtain ⟨s1, ds1, q2, q3, _⟩ := l4 c2
                rw [q2] at k1
                simp only [Sh.arr.injEq] at k1
                rw [hBv] at q3
                simp only [AV.dat.injEq, D.arr.injEq] at q3
                exact ⟨by rw [q3.1, k1.1], by rw [q2, k1.1]⟩
            obtain ⟨rfl, hBsh⟩ := hs0
            have hid := (List.getElem?_eq_some_iff.1 hB).1
            by_cases hys : ys = []
            · -- nothing
              refine ⟨_, w, m, nothing a _ cap hys g0, ?_⟩
              subst hys
              have hset : σ.set id { B with v := .dat (.arr J.sh (ds ++ [])) } = σ := by
                rw [List.append_nil, ← hBv]
                exact list_set_self hB
              rw [hset]
              exact ⟨Stp.refl hi, by simpa using hx⟩
            · have hpos : 0 < ys.length := List.length_pos_iff.2 hys
              have hx' : SlcAt w S J.sh ds (.slice a ds.length cap) := by
                rcases elems_sound (ds := ds) hi (by simp only [elems, hB]; simp [hBv, AV.nav, hBn, seg]) hx with ⟨s, h1, _⟩ | ⟨sh, h1, h2⟩
                · simp at h1
                · simp only [slcSh, Option.some.injEq] at h2
                  rw [h2, ← hBn]; exact h1
              by_cases hle : B.n + ys.length ≤ cap
              · -- in place
                cases hq : e'.blk with
                | none => rw [hq] at k4; simp only at k4; omega
                | some b =>
                  rw [hq] at k4 hBk t1
                  obtain ⟨o, c, t', f, j1, j2, j3, j4⟩ := k4
                  obtain ⟨c', t'', f', l1, l2, l3, l4, l5⟩ := BlkOk.cel hBk (.inl c2)
                  rw [j3] at l1
                  simp only [Option.some.injEq, Obj.cells.injEq] at l1
                  obtain ⟨rfl, rfl, rfl⟩ := l1
                  simp only [Sh.off, Option.some.injEq] at j1
                  subst j1
                  have ha : a = some ⟨b, 0, none⟩ := by
                    rcases j2 with j2 | j2
                    · omega
                    · simpa using j2
                  subst ha
                  have hrun := hap.place i b1 (some ⟨b, 0, none⟩) B.n cap hle (by rw [b4]; exact Nat.le_trans (Nat.mul_le_mul_right _ (Nat.le_add_left _ _)) c9)
                  obtain ⟨s1, ds1, q1, q2, q3, q4⟩ := l4 c2
                  rw [hBv] at q2
                  simp only [AV.dat.injEq, D.arr.injEq] at q2
                  obtain ⟨rfl, rfl⟩ := q2
                  rw [Rd] at q4
                  have hlr := RdL.length g4
                  rw [sizeL_all J.sh hft] at hlr
                  have hcapsz : (ds.length + ys.length) * J.sh.size ≤ c.size := by
                    refine Nat.le_trans (Nat.mul_le_mul_right _ (by omega : ds.length + ys.length ≤ cap)) ?_
                    simpa using j4
                  have hst := run_storeCells' (P := P) (b := b) (o := B.n * J.sh.size) (t := t') (f := f) r2.toList 0 w c j3 (by have h9 := hcapsz; rw [Nat.add_mul] at h9; rw [hlr, hBn]; omega) (l3 c3).2 (RdL.oneCell g4)
                  have hrun' : (Builtin.append_ #[t, u] ty #[.slice (some ⟨b, 0, none⟩) B.n cap, vy]).run P w = .ok (.slice (some ⟨b, 0, none⟩) (ds.length + ys.length) cap) (putHeap w b (.cells (splice c.toList (ds.length * J.sh.size) r2.toList).toArray t' f)) := by
                    rw [hrun]
                    simp only [addr_add, Nat.zero_add, b3]
                    rw [hst]
                    simp only [Result.andThen, Nat.add_zero, hBn]
                  clear hrun hst
                  have hspl : (splice c.toList (ds.length * J.sh.size) r2.toList).length = c.size := by
                    rw [splice_length (by rw [hlr, ← Nat.add_mul]; simpa using hcapsz)]; simp
                  have hstp := hi.write (B' := { B with v := .dat (.arr J.sh (ds ++ ys)) }) (c' := (splice c.toList (ds.length * J.sh.size) r2.toList).toArray) hB t1 j3 (by simpa using hspl) c3 c3 rfl rfl
                    (by simp [Blk.n, c2, hBv, AV.many]) (fun _ => ⟨J.sh, ds ++ ys, hBsh, rfl, by simp only [List.size_toArray, hspl, List.length_append]; exact hcapsz, by
                      rw [Rd]
                      refine ⟨?_, fun d hd => ?_⟩
                      · have htk : (splice c.toList (ds.length * J.sh.size) r2.toList).take ((ds ++ ys).length * J.sh.size) = c.toList.take (ds.length * J.sh.size) ++ r2.toList := by
                          unfold splice
                          have e1 : (c.toList.take (ds.length * J.sh.size) ++ r2.toList).length = (ds ++ ys).length * J.sh.size := by
                            rw [List.length_append, hlr, List.length_append, Nat.add_mul, List.length_take]
                            simp; omega
                          rw [← e1, List.take_left]
                        rw [List.toList_toArray, htk]
                        exact RdL.append q4.1 g4
                      · rcases List.mem_append.1 hd with h | h
                        · exact q4.2 d h
                        · exact hft d h⟩) (fun hq => by simp [c2] at hq)
                  refine ⟨_, _, m, hrun', hstp, rfl, ?_⟩
                  show Rv _ S _ _ [_]
                  rw [Rv]
                  have hent : tbl m (σ.set id { B with v := .dat (.arr J.sh (ds ++ ys)) }) id = some ⟨some b, B.sh, B.dyn, (ds ++ ys).length⟩ := by
                    unfold tbl
                    rw [t1, List.getElem?_set_self hid]
                    simp [Blk.n, c2, AV.many]
                  refine ⟨_, _, _, by rw [hBn], ⟨by omega, .inr rfl⟩, hent, by simp; omega, fun _ => ⟨0, by rw [hBsh]; rfl, by omega, by simp [c2]; omega, ?_⟩⟩
                  refine ⟨0, (splice c.toList (ds.length * J.sh.size) r2.toList).toArray, t', f, rfl, .inr (by simp), ?_, ?_⟩
                  · have hbs : b < w.heap.size := by
                      rcases Nat.lt_or_ge b w.heap.size with h' | h'
                      · exact h'
                      · simp [Array.getElem?_eq_none h'] at j3
                    simp [putHeap, hbs]
                  · simp only [List.size_toArray, hspl]; simpa using j4
              · -- into a new block
                have hle' : ¬ ds.length + ys.length ≤ cap := by omega
                obtain ⟨newCap, k, c, r1, r2', r3, r4, r5⟩ := grow_new hP hI hty hJ hx' hap hft hle' c8 (by rw [← hBn]; exact c9)
                have hdr := hi.drew k
                have hstp := hdr.inv.regrow (id := id) (B := B) (B' := { B with v := .dat (.arr J.sh (ds ++ ys)) }) (c := c) (t := e) hB c3 rfl rfl (by simp [Blk.n, c2, hBv, AV.many]; omega) c2
                  ⟨J.sh, ds ++ ys, hBsh, rfl, by rw [r3]; exact Nat.mul_le_mul_right _ r2', by rw [Rd]; exact ⟨r4, r5⟩⟩
                rw [hBn]
                refine ⟨_, _, _, r1, hdr.trans hstp, rfl, ?_⟩
                show Rv _ S _ _ [_]
                rw [Rv]
                have hent : tbl (m.set id (some w.heap.size)) (σ.set id { B with v := .dat (.arr J.sh (ds ++ ys)) }) id = some ⟨some w.heap.size, B.sh, B.dyn, (ds ++ ys).length⟩ := by
                  unfold tbl
                  rw [List.getElem?_set_self (by rw [hi.len]; exact hid), List.getElem?_set_self hid]
                  simp [Blk.n, c2, AV.many]
                refine ⟨_, _, _, by rw [List.length_append], ⟨by simpa using r2', .inr rfl⟩, hent, by simp, fun _ => ⟨0, by rw [hBsh]; rfl, by simpa using r2', by simp [c2], ?_⟩⟩
                refine ⟨0, c, e, (0, 0), rfl, .inr (by simp), ?_, by rw [r3]; simp⟩
                simp
          · simp at h
      · simp at h
    · rename_i s ds
      cases hc : (Sh.eqb s J.sh && decide (0 < J.bytes) && decide ((ds.length + ys.length) * J.bytes ≤ LIM)) with
      | false => rw [hc] at h; simp at h
      | true =>
        rw [hc] at h
        simp only [cond_true] at h
        simp only [Bool.and_eq_true, decide_eq_true_eq] at hc
        obtain ⟨⟨c1, c2⟩, c3⟩ := hc
        have c1 := Sh.eq_of_eqb c1
        subst c1
        obtain ⟨hx', a0, n0, hn0⟩ := hx.fslc
        obtain ⟨a, cap, hv, f1, f2, f3⟩ := hx'.slc
        have hcap : cap = ds.length := by
          rw [hv] at hn0
          simp only [Value.slice.injEq] at hn0
          omega
        subst hcap
        rw [hv]
        split at h
        · simp only [Option.some.injEq, Prod.mk.injEq] at h
          obtain ⟨rfl, rfl⟩ := h
          exact ⟨_, w, m, nothing a _ _ rfl (Nat.le_refl _), Stp.refl hi, Rs.of_fslc f2 f3⟩
        · rename_i hys
          have hpos : 0 < ys.length := List.length_pos_iff.2 hys
          simp only [Option.some.injEq, Prod.mk.injEq] at h
          obtain ⟨rfl, rfl⟩ := h
          have hx'' : SlcAt w S J.sh ds (.slice a ds.length ds.length) := by
            refine ⟨a, _, rfl, Nat.le_refl _, f2, ?_⟩
            rcases f3 with f3 | ⟨b, o, r, q1, q2, q3, q4⟩
            · exact .inl f3
            · exact .inr ⟨b, o, r, q1, q3, q4⟩
          obtain ⟨newCap, k, c, r1, r2', r3, r4, r5⟩ := grow_new hP hI hty hJ hx'' hap hft (by omega) c2 c3
          have hdr := hi.drew k
          obtain ⟨s1, s2⟩ := newDyn_stp (e := e) (f := (0, 0)) hdr.inv r5 (by rw [r3]; exact Nat.mul_le_mul_right _ r2') r4 (by intro o _ h; omega) (cap := newCap) (by rw [r3]; exact Nat.le_refl _) r2'
          refine ⟨_, _, _, r1, hdr.trans s1, ?_⟩
          rw [List.length_append] at s2 ⊢
          exact s2
    · rename_i s ds
      cases hc : Sh.eqb s J.sh with
      | false => rw [hc] at h; simp at h
      | true =>
        rw [hc] at h
        simp only [cond_true] at h
        split at h
        · simp only [Option.some.injEq, Prod.mk.injEq] at h
          obtain ⟨rfl, rfl⟩ := h
          obtain ⟨a, cap, rfl, f1, f2, f3⟩ := hx.slc
          exact ⟨_, w, m, nothing a _ _ rfl f1, Stp.refl hi, hx⟩
        · simp at h
    · simp at h
theorem oAppend_sound (hP : tabOk P tab 0 tab = true) (hI : TyOk P tab t I) {e u ty : TypeId} {d : TypeDesc} {J : TyI} (hty : I.ty = .slc e) (hJ : tab[e]? = some J) (hd : P.underlying u = some d) (hz : ∀ k, d ≠ .int k)
    (hi : Inv w S m σ) {x v : AV} {vx vy : Value} {ys : List D} {σ' : Store} {shy : Sh} (h : oAppend J.sh J.bytes x ys σ = some (v, σ')) (hx : Rs w S (tbl m σ) x vx) (hy : Src w S shy ys vy) :
    ∃ vz w' m', (Builtin.append_ #[t, u] ty #[vx, vy]).run P w = .ok vz w' ∧ Stp w S m σ w' S m' σ' ∧ Rs w' S (tbl m' σ') v vz := by
  have hft : fits J.sh ys = true := by
    cases hft : fits J.sh ys with
    | false => unfold oAppend at h; rw [hft] at h; simp at h
    | true => rfl
  obtain ⟨r2, hap⟩ := Ap.of_src (ty := ty) hP hI hty hJ hd hz (hy.refit (fits_sound hft))
  exact oAppend_ap hP hI hty hJ hi h hx hap
end
end Go.AX

namespace Go.AX
theorem Inv.shut {w w' : World} {S S2 : Nat → Prop} {m : List (Option Nat)} {σ : Store} (h : Inv w S m σ) {id b : Nat} {B : Blk} (hB : σ[id]? = some B) (hm : m[id]? = some (some b)) (hf : B.frz = false) (hdy : B.dyn = true)
    (hos : w'.os = w.os) (htp : w'.tape = w.tape) (hout : w'.output = w.output) (hsz : w.heap.size ≤ w'.heap.size)
    (same : ∀ x, x < w.heap.size → x ≠ b → w'.heap[x]? = w.heap[x]?)
    {c c' : Array Value} {t t' : TypeId} {f f' : Nat × Nat} (hb : w.heap[b]? = some (.cells c t f)) (hb' : w'.heap[b]? = some (.cells c' t' f')) (hc : c'.size = c.size)
    (hd : DynOk w' S2 c' B) (hS1 : ∀ x, S x → S2 x) (hSb : S2 b) (hS2 : ∀ x, S2 x → S x ∨ x = b ∨ w.heap.size ≤ x) (hSd : ∀ x, S2 x → x < w'.heap.size)
    (hSc : ∀ x, S2 x → w.heap.size ≤ x → ∀ y, w'.heap[x]? ≠ some (.deferred y)) :
    Stp w S m σ w' S2 m (σ.set id { B with frz := true }) := by
  have hid := (List.getElem?_eq_some_iff.1 hB).1
  have hBk := h.blk id B hB
  rw [List.getD_eq_getElem?_getD, hm] at hBk
  replace hBk : CelOk w S (tbl m σ) b B := BlkOk.cel hBk (.inl hdy)
  obtain ⟨c0, t0, f0, a1, a2, a3, a4, a5⟩ := hBk
  have hSnb : ∀ x, S x → x ≠ b := fun x hx e => (a3 hf).1 (e ▸ hx)
  have kp : Kp w S w' S2 := by
    refine ⟨hS1, fun x hx => same x (h.sdom x hx) (hSnb x hx), fun x cc tt ff hx => ?_, fun x r hx => ?_⟩
    · by_cases e : x = b
      · subst e
        rw [hb] at hx
        simp only [Option.some.injEq, Obj.cells.injEq] at hx
        obtain ⟨rfl, rfl, rfl⟩ := hx
        exact ⟨c', t', f', hb', hc⟩
      · exact ⟨cc, tt, ff, (same x (Array.getElem?_eq_some_iff.1 hx).1 e).trans hx, rfl⟩
    · by_cases e : x = b
      · subst e; rw [hb] at hx; simp at hx
      · exact ⟨r, (same x (Array.getElem?_eq_some_iff.1 hx).1 e).trans hx, rfl⟩
  have hT : tbl m (σ.set id { B with frz := true }) = tbl m σ := by
    funext j
    unfold tbl
    by_cases e : j = id
    · subst e
      rw [List.getElem?_set_self hid, hB]; cases m[j]? <;> rfl
    · rw [List.getElem?_set_ne (fun h => e h.symm)]
  have x : TExt (tbl m σ) (tbl m (σ.set id { B with frz := true })) := by rw [hT]; exact TExt.refl _
  have hbs : b < w.heap.size := (Array.getElem?_eq_some_iff.1 hb).1
  refine ⟨⟨by simp [h.len], hSd, fun y hy z => ?_, h.inj, ?_⟩, ⟨kp, hos, htp, hout, hsz, fun y hy hno => same y hy fun e => hno id (e ▸ hm), fun y hy => ?_, fun _ _ h => .inl h⟩, x⟩
  · rcases hS2 y hy with h1 | rfl | h1
    · rw [same y (h.sdom y h1) (hSnb y h1)]; exact h.scel y h1 z
    · rw [hb']; simp
    · exact hSc y hy h1 z
  · intro i Bi hBi
    by_cases e : i = id
    · subst e
      rw [List.getElem?_set_self hid] at hBi
      simp only [Option.some.injEq] at hBi
      subst hBi
      rw [List.getD_eq_getElem?_getD, hm]
      refine .inl ⟨c', t', f', hb', fun _ => hSb, fun hf => by simp at hf, fun _ => hd, fun hq => ?_⟩
      simp only at hq
      rw [hdy] at hq; simp at hq
    · rw [List.getElem?_set_ne (fun h => e h.symm)] at hBi
      have him : ∀ q, m.getD i none = some q → m[i]? = some (some q) := fun q hq => by
        rw [List.getD_eq_getElem?_getD] at hq
        cases hr : m[i]? with
        | none => rw [hr] at hq; simp at hq
        | some r => rw [hr] at hq; simp at hq; rw [hq]
      have hqlt : ∀ q, m.getD i none = some q → q < w.heap.size := fun q hq => by
        have := h.blk i Bi hBi
        rw [hq] at this
        exact this.lt
      have hqb : ∀ q, m.getD i none = some q → q ≠ b := fun q hq e2 => e (h.inj i id b (e2 ▸ him q hq) hm)
      refine (h.blk i Bi hBi).mono kp x (fun q hq => same q (hqlt q hq) (hqb q hq)) (fun q hq hs => ?_)
      rcases hS2 q hs with h1 | h1 | h1
      · exact h1
      · exact absurd h1 (hqb q hq)
      · have := hqlt q hq; omega
  · rcases hS2 y hy with h1 | rfl | h1
    · exact .inl h1
    · exact .inr (.inr ⟨id, hm⟩)
    · exact .inr (.inl h1)
theorem Kp.shut {w w' : World} {S S2 : Nat → Prop} {b : Nat} (hsd : ∀ x, S x → x < w.heap.size) (hSnb : ∀ x, S x → x ≠ b) (same : ∀ x, x < w.heap.size → x ≠ b → w'.heap[x]? = w.heap[x]?)
    {c c' : Array Value} {t t' : TypeId} {f f' : Nat × Nat} (hb : w.heap[b]? = some (.cells c t f)) (hb' : w'.heap[b]? = some (.cells c' t' f')) (hc : c'.size = c.size) (hS1 : ∀ x, S x → S2 x) : Kp w S w' S2 := by
  refine ⟨hS1, fun x hx => same x (hsd x hx) (hSnb x hx), fun x cc tt ff hx => ?_, fun x r hx => ?_⟩
  · by_cases e : x = b
    · subst e
      rw [hb] at hx
      simp only [Option.some.injEq, Obj.cells.injEq] at hx
      obtain ⟨rfl, rfl, rfl⟩ := hx
      exact ⟨c', t', f', hb', hc⟩
    · exact ⟨cc, tt, ff, (same x (Array.getElem?_eq_some_iff.1 hx).1 e).trans hx, rfl⟩
  · by_cases e : x = b
    · subst e; rw [hb] at hx; simp at hx
    · exact ⟨r, (same x (Array.getElem?_eq_some_iff.1 hx).1 e).trans hx, rfl⟩
section
variable {P : Program} {tab : Tab} {t : TypeId} {I : TyI} {w : World} {S : Nat → Prop} {T : Nat → Option Ent} {m : List (Option Nat)} {σ : Store}
set_option maxHeartbeats 2000000 in
theorem oAppendF_ap (hP : tabOk P tab 0 tab = true) (hI : TyOk P tab t I) {e u ty : TypeId} {J : TyI} (hty : I.ty = .slc e) (hJ : tab[e]? = some J)
    (hi : Inv w S m σ) {x v : AV} {vx vy : Value} {ys : List D} {σ' : Store} {r2 : Array Value} (h : oAppendF J.sh J.bytes x ys σ = some (v, σ')) (hx : Rs w S (tbl m σ) x vx) (hap : Ap P w S t u ty e ys vy r2) :
    ∃ vz w' S', (Builtin.append_ #[t, u] ty #[vx, vy]).run P w = .ok vz w' ∧ Stp w S m σ w' S' m σ' ∧ Rs w' S' (tbl m σ') v vz := by
  obtain ⟨hu, J', hJ', hsz, hkn⟩ := hI.slice hty
  rw [hJ] at hJ'; simp only [Option.some.injEq] at hJ'; subst hJ'
  obtain ⟨i, z, b1, b3, b4, b5, b6, _⟩ := zero_cells hP hJ hkn
  unfold oAppendF at h
  cases hft : fits J.sh ys with
  | false => rw [hft] at h; simp at h
  | true =>
    rw [hft] at h
    have hft := fits_sound hft
    simp only [cond_true] at h
    have g4 := hap.rd
    split at h
    · rename_i s id n p off len
      split at h
      · rename_i B hB
        cases hc : (Nat.beq B.n n && B.dyn && !B.frz && p.isEmpty && Nat.beq off 0 && Nat.beq len n && Sh.eqb s J.sh && decide (0 < J.bytes) && decide ((n + ys.length) * J.bytes ≤ LIM) && decide (0 < n)) with
        | false => rw [hc] at h; simp at h
        | true =>
          rw [hc] at h
          simp only [cond_true] at h
          simp only [Bool.and_eq_true, Bool.not_eq_true', decide_eq_true_eq, List.isEmpty_iff] at hc
          obtain ⟨⟨⟨⟨⟨⟨⟨⟨⟨c1, c2⟩, c3⟩, c4⟩, c5⟩, c6⟩, c7⟩, c8⟩, c9⟩, c10⟩ := hc
          have c1 := Nat.eq_of_beq_eq_true c1
          have c5 := Nat.eq_of_beq_eq_true c5
          have c6 := Nat.eq_of_beq_eq_true c6
          have c7 := Sh.eq_of_eqb c7
          subst c1; subst c4; subst c5; subst c6; subst c7
          split at h
          · rename_i s0 ds hBv
            simp only [Option.some.injEq, Prod.mk.injEq] at h
            obtain ⟨rfl, rfl⟩ := h
            have hBn : B.n = ds.length := by rw [Blk.n, c2, hBv]; rfl
            obtain ⟨a, cap, e', rfl, ⟨g0, g1⟩, g2, g3', g4'⟩ := hx.sref
            obtain ⟨t1, t2, t3, t4⟩ := tbl_get g2 hB
            have hso := g4' t4
            obtain ⟨N, k1, k2, k3, k4⟩ := hso
            have hBk := hi.blk id B hB
            rw [List.getD_eq_getElem?_getD, t1] at hBk
            cases hq : e'.blk with
            | none => rw [hq] at k4; simp only at k4; omega
            | some b =>
            rw [hq] at k4 hBk t1
            obtain ⟨o, c, t', f, j1, j2, j3, j4⟩ := k4
            obtain ⟨c', t'', f'', l1, l2, l3, l4, l5⟩ := BlkOk.cel hBk (.inl c2)
            rw [j3] at l1
            simp only [Option.some.injEq, Obj.cells.injEq] at l1
            obtain ⟨rfl, rfl, rfl⟩ := l1
            obtain ⟨s1, ds1, q1, q2, q3, q4⟩ := l4 c2
            rw [hBv] at q2
            simp only [AV.dat.injEq, D.arr.injEq] at q2
            obtain ⟨rfl, rfl⟩ := q2
            have hs0 : s0 = J.sh := by
              rw [t2, q1] at k1
              simp only [Sh.nav, Option.some.injEq, Sh.arr.injEq] at k1
              exact k1.1
            subst hs0
            rw [t2, q1] at j1
            simp only [Sh.off, Option.some.injEq] at j1
            subst j1
            have ha : a = some ⟨b, 0, none⟩ := by
              rcases j2 with j2 | j2
              · omega
              · simpa using j2
            subst ha
            rw [Rd] at q4
            have hnSb := (l3 c3).1
            have hSnb : ∀ y, S y → y ≠ b := fun y hy e => hnSb (e ▸ hy)
            have hbs : b < w.heap.size := (Array.getElem?_eq_some_iff.1 j3).1
            by_cases hle : B.n + ys.length ≤ cap
            · -- in place
              have hrun := hap.place i b1 (some ⟨b, 0, none⟩) B.n cap hle (by rw [b4]; exact Nat.le_trans (Nat.mul_le_mul_right _ (Nat.le_add_left _ _)) c9)
              have hlr := RdL.length g4
              rw [sizeL_all J.sh hft] at hlr
              have hcapsz : (ds.length + ys.length) * J.sh.size ≤ c.size := by
                refine Nat.le_trans (Nat.mul_le_mul_right _ (by omega : ds.length + ys.length ≤ cap)) ?_
                simpa using j4
              have hst := run_storeCells' (P := P) (b := b) (o := B.n * J.sh.size) (t := t') (f := f) r2.toList 0 w c j3 (by have h9 := hcapsz; rw [Nat.add_mul] at h9; rw [hlr, hBn]; omega) (l3 c3).2 (RdL.oneCell g4)
              have hrun' : (Builtin.append_ #[t, u] ty #[.slice (some ⟨b, 0, none⟩) B.n cap, vy]).run P w = .ok (.slice (some ⟨b, 0, none⟩) (ds.length + ys.length) cap) (putHeap w b (.cells (splice c.toList (ds.length * J.sh.size) r2.toList).toArray t' f)) := by
                rw [hrun]
                simp only [addr_add, Nat.zero_add, b3]
                rw [hst]
                simp only [Result.andThen, Nat.add_zero, hBn]
              clear hrun hst
              have hspl : (splice c.toList (ds.length * J.sh.size) r2.toList).length = c.size := by
                rw [splice_length (by rw [hlr, ← Nat.add_mul]; simpa using hcapsz)]; simp
              have htk : (splice c.toList (ds.length * J.sh.size) r2.toList).take ((ds ++ ys).length * J.sh.size) = c.toList.take (ds.length * J.sh.size) ++ r2.toList := by
                unfold splice
                have e1 : (c.toList.take (ds.length * J.sh.size) ++ r2.toList).length = (ds ++ ys).length * J.sh.size := by
                  rw [List.length_append, hlr, List.length_append, Nat.add_mul, List.length_take]
                  simp; omega
                rw [← e1, List.take_left]
              have htk0 : (splice c.toList (ds.length * J.sh.size) r2.toList).take (ds.length * J.sh.size) = c.toList.take (ds.length * J.sh.size) := by
                unfold splice
                have e1 : (c.toList.take (ds.length * J.sh.size)).length = ds.length * J.sh.size := by
                  rw [List.length_take]; simp; omega
                rw [List.append_assoc, List.take_append_of_le_length (by omega), List.take_of_length_le (by omega)]
              have hb' : (putHeap w b (.cells (splice c.toList (ds.length * J.sh.size) r2.toList).toArray t' f)).heap[b]? = some (.cells (splice c.toList (ds.length * J.sh.size) r2.toList).toArray t' f) := by simp [putHeap, hbs]
              have same : ∀ y, y < w.heap.size → y ≠ b → (putHeap w b (.cells (splice c.toList (ds.length * J.sh.size) r2.toList).toArray t' f)).heap[y]? = w.heap[y]? := fun y _ hy => by
                simp only [putHeap, Array.getElem?_setIfInBounds]
                rw [if_neg (fun e => hy e.symm)]
              have kp : Kp w S (putHeap w b (.cells (splice c.toList (ds.length * J.sh.size) r2.toList).toArray t' f)) (fun y => S y ∨ y = b) := Kp.shut hi.sdom hSnb same j3 hb' (by simpa using hspl) (fun y hy => .inl hy)
              refine ⟨_, _, fun y => S y ∨ y = b, hrun', hi.shut hB t1 c3 c2 rfl rfl rfl (by simp [putHeap]) same j3 hb' (by simpa using hspl) ?_ (fun y hy => .inl hy) (.inr rfl) ?_ ?_ ?_, rfl, ?_⟩
              · refine ⟨J.sh, ds, q1, hBv, by simp only [List.size_toArray, hspl]; exact q3, ?_⟩
                rw [Rd, List.toList_toArray, htk0]
                exact ⟨q4.1.mono kp, q4.2⟩
              · rintro y (hy | rfl)
                · exact .inl hy
                · exact .inr (.inl rfl)
              · rintro y (hy | rfl)
                · have := hi.sdom y hy; simpa [putHeap] using this
                · simpa [putHeap] using hbs
              · rintro y (hy | rfl) hge
                · have := hi.sdom y hy; omega
                · omega
              · show Rv _ _ _ (.dat (.slc J.sh (ds ++ ys))) [_]
                rw [Rv, Rd]
                refine ⟨_, cap, by rw [List.length_append], by rw [List.length_append]; omega, fun d hd => ?_, .inr ⟨b, 0, _, rfl, .inr rfl, ?_, RdL.append (q4.1.mono kp) (g4.mono kp)⟩⟩
                · rcases List.mem_append.1 hd with h | h
                  · exact q4.2 d h
                  · exact hft d h
                · unfold row
                  rw [hb']
                  simp only [List.size_toArray, hspl, List.drop_zero, Nat.zero_add]
                  rw [if_pos (by rw [List.length_append]; exact hcapsz), htk]
            · -- into a new block
              have hx' : SlcAt w S J.sh ds (.slice (some ⟨b, 0, none⟩) ds.length cap) := by
                rcases elems_sound (ds := ds) hi (by simp only [elems, hB]; simp [hBv, AV.nav, hBn, seg]) hx with ⟨s, h1, _⟩ | ⟨sh, h1, h2⟩
                · simp at h1
                · simp only [slcSh, Option.some.injEq] at h2
                  rw [h2, ← hBn]; exact h1
              have hle' : ¬ ds.length + ys.length ≤ cap := by omega
              obtain ⟨newCap, k, c2', r1, r2', r3, r4, r5⟩ := grow_new hP hI hty hJ hx' hap hft hle' c8 (by rw [← hBn]; exact c9)
              have same : ∀ y, y < w.heap.size → ({ w with heap := w.heap.push (.cells c2' e), drawn := k } : World).heap[y]? = w.heap[y]? := fun y hy => by
                show (w.heap.push _)[y]? = _
                rw [Array.getElem?_push, if_neg (by omega)]
              have kp : Kp w S { w with heap := w.heap.push (.cells c2' e), drawn := k } (fun y => S y ∨ y = b ∨ y = w.heap.size) := Kp.shut hi.sdom hSnb (fun y hy _ => same y hy) j3 ((same b hbs).trans j3) rfl (fun y hy => .inl hy)
              have kp2 : Kp { w with drawn := k } S { w with heap := w.heap.push (.cells c2' e), drawn := k } (fun y => S y ∨ y = b ∨ y = w.heap.size) := Kp.shut (b := b) hi.sdom hSnb (fun y hy _ => same y hy) j3 ((same b hbs).trans j3) rfl (fun y hy => .inl hy)
              have hnew : ({ w with heap := w.heap.push (.cells c2' e), drawn := k } : World).heap[w.heap.size]? = some (.cells c2' e (0, 0)) := by
                show (w.heap.push _)[w.heap.size]? = _
                simp
              rw [hBn]
              refine ⟨_, _, fun y => S y ∨ y = b ∨ y = w.heap.size, r1, hi.shut hB t1 c3 c2 rfl rfl rfl (by show _ ≤ (w.heap.push _).size; rw [Array.size_push]; omega) (fun y hy _ => same y hy) j3 ((same b hbs).trans j3) rfl ?_ (fun y hy => .inl hy) (.inr (.inl rfl)) ?_ ?_ ?_, rfl, ?_⟩
              · exact ⟨J.sh, ds, q1, hBv, q3, by rw [Rd]; exact ⟨q4.1.mono kp, q4.2⟩⟩
              · rintro y (hy | rfl | rfl)
                · exact .inl hy
                · exact .inr (.inl rfl)
                · exact .inr (.inr (Nat.le_refl _))
              · show ∀ y, _ → y < (w.heap.push _).size
                rw [Array.size_push]
                rintro y (hy | rfl | rfl)
                · have := hi.sdom y hy; omega
                · omega
                · omega
              · rintro y (hy | rfl | rfl) hge z
                · have := hi.sdom y hy; omega
                · omega
                · rw [hnew]; simp
              · show Rv _ _ _ (.dat (.slc J.sh (ds ++ ys))) [_]
                rw [Rv, Rd]
                refine ⟨_, newCap, rfl, r2', r5, .inr ⟨w.heap.size, 0, _, rfl, .inr (.inr rfl), ?_, r4.mono kp2⟩⟩
                unfold row
                rw [hnew]
                simp only [List.drop_zero, Nat.zero_add]
                rw [if_pos (by rw [r3]; exact Nat.mul_le_mul_right _ r2')]
          · simp at h
      · simp at h
    · simp at h
theorem apnd_ap (hP : tabOk P tab 0 tab = true) (hI : TyOk P tab t I) {e u ty : TypeId} {J : TyI} (hty : I.ty = .slc e) (hJ : tab[e]? = some J)
    (hi : Inv w S m σ) {c : Bool} {x v : AV} {vx vy : Value} {ys : List D} {σ' : Store} {r2 : Array Value} (h : apnd c J.sh J.bytes x ys σ = some (v, σ')) (hx : Rs w S (tbl m σ) x vx) (hap : Ap P w S t u ty e ys vy r2) :
    ∃ vz w' S' m', (Builtin.append_ #[t, u] ty #[vx, vy]).run P w = .ok vz w' ∧ Stp w S m σ w' S' m' σ' ∧ Rs w' S' (tbl m' σ') v vz := by
  cases c with
  | false => obtain ⟨vz, w', m', g1, g2, g3⟩ := oAppend_ap hP hI hty hJ hi h hx hap; exact ⟨vz, w', S, m', g1, g2, g3⟩
  | true => obtain ⟨vz, w', S', g1, g2, g3⟩ := oAppendF_ap hP hI hty hJ hi h hx hap; exact ⟨vz, w', S', m, g1, g2, g3⟩
theorem apnd_fits {c : Bool} {sh : Sh} {bytes : Nat} {x : AV} {ys : List D} {σ : Store} {r : AV × Store} (h : apnd c sh bytes x ys σ = some r) : fits sh ys = true := by
  cases hft : fits sh ys with
  | true => rfl
  | false =>
    cases c
    · simp only [apnd, cond_false] at h; unfold oAppend at h; rw [hft] at h; simp at h
    · simp only [apnd, cond_true] at h; unfold oAppendF at h; rw [hft] at h; simp at h
theorem apnd_sound (hP : tabOk P tab 0 tab = true) (hI : TyOk P tab t I) {e u ty : TypeId} {d : TypeDesc} {J : TyI} (hty : I.ty = .slc e) (hJ : tab[e]? = some J) (hd : P.underlying u = some d) (hz : ∀ k, d ≠ .int k)
    (hi : Inv w S m σ) {c : Bool} {x v : AV} {vx vy : Value} {ys : List D} {σ' : Store} {shy : Sh} (h : apnd c J.sh J.bytes x ys σ = some (v, σ')) (hx : Rs w S (tbl m σ) x vx) (hy : Src w S shy ys vy) :
    ∃ vz w' S' m', (Builtin.append_ #[t, u] ty #[vx, vy]).run P w = .ok vz w' ∧ Stp w S m σ w' S' m' σ' ∧ Rs w' S' (tbl m' σ') v vz := by
  obtain ⟨r2, hap⟩ := Ap.of_src (ty := ty) hP hI hty hJ hd hz (hy.refit (fits_sound (apnd_fits h)))
  exact apnd_ap hP hI hty hJ hi h hx hap
end
end Go.AX
