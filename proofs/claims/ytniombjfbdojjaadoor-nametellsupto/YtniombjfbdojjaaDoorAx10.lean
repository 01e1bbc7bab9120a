import Derived.Test.YtniombjfbdojjaaDoorAx9
/- AX, part 11: making, copying, freezing; bytes and texts; parts of values. -/
namespace Go.AX
mutual
theorem toD_shape : ∀ {v : AV} {d : D}, v.toD = some d → d.shape = v.shape ∧ d.aggB = v.aggB
  | .dat d', d, h => by simp only [AV.toD, Option.some.injEq] at h; subst h; exact ⟨rfl, rfl⟩
  | .fslc s ds, d, h => by simp only [AV.toD, Option.some.injEq] at h; subst h; exact ⟨rfl, rfl⟩
  | .agg vs, d, h => by
    simp only [AV.toD, Option.map_eq_some_iff] at h
    obtain ⟨ds, h, rfl⟩ := h
    exact ⟨by rw [D.shape, AV.shape, toDL_shape h], rfl⟩
  | .fn f a b, d, h => by
    simp only [AV.toD] at h
    split at h
    · simp only [Option.some.injEq] at h; subst h; exact ⟨rfl, rfl⟩
    · simp at h
  | .undef, _, h => by simp [AV.toD] at h
  | .ptr .., _, h => by simp [AV.toD] at h
  | .sref .., _, h => by simp [AV.toD] at h
  | .tup _, _, h => by simp [AV.toD] at h
  | .hnd .., _, h => by simp [AV.toD] at h
theorem toDL_shape : ∀ {vs : List AV} {ds : List D}, AV.toDL vs = some ds → D.shapeL ds = AV.shapeL vs
  | [], ds, h => by simp only [AV.toDL, Option.some.injEq] at h; subst h; rfl
  | v :: vs, ds, h => by
    simp only [AV.toDL] at h
    split at h
    · rename_i d ds' h1 h2
      simp only [Option.some.injEq] at h; subst h
      rw [D.shapeL, AV.shapeL, (toD_shape h1).1, toDL_shape h2]
    · simp at h
end
mutual
theorem toD_sound {w : World} {S : Nat → Prop} {T : Nat → Option Ent} : ∀ {v : AV} {d : D} {cs : List Value}, v.toD = some d → Rv w S T v cs → Rd w S d cs
  | .dat d', d, cs, h, hv => by simp only [AV.toD, Option.some.injEq] at h; subst h; rw [Rv] at hv; exact hv
  | .fslc s ds, d, cs, h, hv => by simp only [AV.toD, Option.some.injEq] at h; subst h; rw [Rv] at hv; exact hv.1
  | .agg vs, d, cs, h, hv => by
    simp only [AV.toD, Option.map_eq_some_iff] at h
    obtain ⟨ds, h, rfl⟩ := h
    rw [Rv] at hv; rw [Rd]
    exact toDL_sound h hv
  | .fn f a b, d, cs, h, hv => by
    simp only [AV.toD] at h
    split at h
    · rename_i a' b' h1 h2
      simp only [Option.some.injEq] at h; subst h
      rw [Rv] at hv; rw [Rd]
      obtain ⟨x, y, e, g1, g2⟩ := hv
      exact ⟨x, y, e, toDVs_sound h1 g1, toDVs_sound h2 g2⟩
    · simp at h
  | .undef, _, _, h, _ => by simp [AV.toD] at h
  | .ptr .., _, _, h, _ => by simp [AV.toD] at h
  | .sref .., _, _, h, _ => by simp [AV.toD] at h
  | .tup _, _, _, h, _ => by simp [AV.toD] at h
  | .hnd .., _, _, h, _ => by simp [AV.toD] at h
theorem toDL_sound {w : World} {S : Nat → Prop} {T : Nat → Option Ent} : ∀ {vs : List AV} {ds : List D} {cs : List Value}, AV.toDL vs = some ds → RvL w S T vs cs → RdL w S ds cs
  | [], ds, cs, h, hv => by simp only [AV.toDL, Option.some.injEq] at h; subst h; simpa [RvL, RdL] using hv
  | v :: vs, ds, cs, h, hv => by
    simp only [AV.toDL] at h
    split at h
    · rename_i d ds' h1 h2
      simp only [Option.some.injEq] at h; subst h
      rw [RvL] at hv; rw [RdL]
      obtain ⟨c1, c2, e, g1, g2⟩ := hv
      exact ⟨c1, c2, e, toD_sound h1 g1, toDL_sound h2 g2⟩
    · simp at h
theorem toDVs_sound {w : World} {S : Nat → Prop} {T : Nat → Option Ent} : ∀ {vs : List AV} {ds : List D} {us : List Value}, AV.toDL vs = some ds → RvVs w S T vs us → RdVs w S ds us
  | [], ds, us, h, hv => by simp only [AV.toDL, Option.some.injEq] at h; subst h; simpa [RvVs, RdVs] using hv
  | v :: vs, ds, us, h, hv => by
    simp only [AV.toDL] at h
    split at h
    · rename_i d ds' h1 h2
      simp only [Option.some.injEq] at h; subst h
      rw [RvVs] at hv; rw [RdVs]
      obtain ⟨u, us', e, g0, g1, g2⟩ := hv
      exact ⟨u, us', e, by rw [g0, (toD_shape h1).2], toD_sound h1 g1, toDVs_sound h2 g2⟩
    · simp at h
end
section
variable {P : Program} {tab : Tab} {t : TypeId} {I : TyI} {w : World} {S : Nat → Prop} {T : Nat → Option Ent} {m : List (Option Nat)} {σ : Store}
theorem toD_rs {v : AV} {d : D} {u : Value} (h : v.toD = some d) (hv : Rs w S T v u) : Rs w S T (.dat d) u := by
  have hr : v.real = true := by cases v <;> simp [AV.toD] at h <;> rfl
  obtain ⟨h1, h2⟩ := hv.real hr
  exact ⟨by rw [h1, ← (toD_shape h).2]; rfl, by rw [Rv]; exact toD_sound h h2⟩
theorem pack_rs {vs : List AV} {cs : Array Value} (h : RvL w S T vs cs.toList) : Rs w S T (pack vs) (.agg cs) := by
  unfold pack
  split
  · rename_i ds hd
    exact ⟨rfl, by rw [Rv, Rd]; exact toDL_sound hd h⟩
  · exact ⟨rfl, by rw [Rv]; exact h⟩
theorem range_rows (z : Array Value) : ∀ n, (List.range (n * z.size)).map (fun i => z[i % z.size]!) = (List.replicate n z.toList).flatten
  | 0 => by simp
  | n + 1 => by
    rw [Nat.succ_mul, List.range_add, List.map_append, range_rows z n, List.replicate_succ', List.flatten_append]
    congr 1
    simp only [List.map_map, List.flatten_cons, List.flatten_nil, List.append_nil]
    apply List.ext_getElem
    · simp
    · intro i h1 h2
      have hi : i < z.size := by simpa using h1
      simp only [List.getElem_map, List.getElem_range, Function.comp]
      rw [Nat.mul_comm n, Nat.mul_add_mod, Nat.mod_eq_of_lt hi]
      simp [hi]
theorem RdL.replicate {d : D} {cs : List Value} (h : Rd w S d cs) : ∀ n, RdL w S (List.replicate n d) (List.replicate n cs).flatten
  | 0 => by simp [RdL]
  | n + 1 => by
    rw [List.replicate_succ, List.replicate_succ, RdL]
    exact ⟨cs, _, by simp, h, RdL.replicate h n⟩
theorem flatten_replicate_length (cs : List Value) (n : Nat) : (List.replicate n cs).flatten.length = n * cs.length := by
  induction n with
  | zero => simp
  | succ n ih => rw [List.replicate_succ, List.flatten_cons, List.length_append, ih, Nat.succ_mul, Nat.add_comm]
theorem take_rows (cs : List Value) {n c : Nat} (h : n ≤ c) : ((List.replicate c cs).flatten).take (n * cs.length) = (List.replicate n cs).flatten := by
  have : List.replicate c cs = List.replicate n cs ++ List.replicate (c - n) cs := by rw [List.replicate_append_replicate]; congr 1; omega
  rw [this, List.flatten_append]
  exact List.take_left' (flatten_replicate_length cs n)
theorem wrap64_in {n : Int} (h0 : 0 ≤ n) (h1 : n ≤ (LIM : Int)) : IntKind.i64.wrap n = n := by
  have : LIM = 35184372088832 := by decide
  rw [this] at h1
  have h2 : n % (2 ^ 64 : Int) = n := Int.emod_eq_of_lt h0 (by omega)
  show (if (true && decide (n % (2 ^ 64 : Int) ≥ (2 ^ 63 : Int))) = true then n % (2 ^ 64 : Int) - (2 ^ 64 : Int) else n % (2 ^ 64 : Int)) = n
  simp only [h2, Bool.true_and, decide_eq_true_eq]
  rw [if_neg (by omega)]
theorem makeSlice_run (hP : tabOk P tab 0 tab = true) (hI : TyOk P tab t I) {e : TypeId} {J : TyI} (hty : I.ty = .slc e) (hJ : tab[e]? = some J) {k k' : IntKind} {n c : Int} (h0 : 0 ≤ n) (h1 : n ≤ c) (h2 : c * J.bytes ≤ (LIM : Int)) (h3 : c ≤ (LIM : Int)) (w : World) :
    ∃ z i, P.info? e = some i ∧ i.zero = some z ∧ z.cells.size = J.sh.size ∧ (Instr.makeSlice t (.int k n) (.int k' c)).run P w =
      .ok (.slice (some ⟨w.heap.size, 0, none⟩) n.toNat c.toNat) { w with heap := w.heap.push (.cells ((List.replicate c.toNat z.cells.toList).flatten).toArray e) } := by
  obtain ⟨hu, J', hJ', hsz, hkn⟩ := hI.slice hty
  rw [hJ] at hJ'; simp only [Option.some.injEq] at hJ'; subst hJ'
  obtain ⟨i, z, b1, b3, b4, b5, b6, b7, b8⟩ := zero_cells hP hJ hkn
  refine ⟨z, i, b1, b5, b6, ?_⟩
  have hLIM : LIM = 35184372088832 := by decide
  have hbig : ∀ q : Int, 0 ≤ q → q ≤ c → (decide (q < 0) || decide ((J.bytes : Int) * q > 2 ^ 48)) = false := by
    intro q hq hqc
    simp only [Bool.or_eq_false_iff, decide_eq_false_iff_not]
    refine ⟨by omega, ?_⟩
    have : (J.bytes : Int) * q ≤ c * J.bytes := by
      rw [Int.mul_comm c]
      exact Int.mul_le_mul_of_nonneg_left hqc (by omega)
    rw [hLIM] at h2
    omega
  unfold Instr.makeSlice
  simp only [Sem.run_bind, underlying_run hu, Result.andThen, asInt, asIntOf, Sem.run_pure, typeInfo_run b1, b4, wrap64_in h0 (Int.le_trans h1 h3), wrap64_in (Int.le_trans h0 h1) h3, hbig c (by omega) (Int.le_refl _)]
  rw [if_neg (by simp; omega)]
  simp only [Sem.run_bind, askRoom_run, sizeOf_run b1, Result.andThen, b3]
  by_cases hz : c.toNat * J.sh.size = 0
  · have hc0 : c.toNat = 0 := by
      rcases Nat.mul_eq_zero.1 hz with h | h
      · exact h
      · exact absurd h hsz
    simp only [hc0, Nat.zero_mul, if_true, Sem.run_bind, Sem.run_pure, Result.andThen, newRow_run, List.replicate_zero, List.flatten_nil]
    have hr0 : Array.range 0 = #[] := rfl
    simp only [hr0, Array.map_empty]
  · simp only [hz, if_false, Sem.run_bind, Sem.run_pure, Result.andThen, zeroValue_run b1 b5, newRow_run]
    congr 4
    rw [← Array.toList_inj]
    simp only [Array.toList_map, Array.toList_range]
    rw [← range_rows, b6]
theorem oMake_sound (hP : tabOk P tab 0 tab = true) (hI : TyOk P tab t I) {e : TypeId} {J : TyI} (hty : I.ty = .slc e) (hJ : tab[e]? = some J) (hi : Inv w S m σ) {n c v : AV} {un uc : Value} {σ' : Store}
    (h : oMake J.sh J.bytes J.zero n c σ = some (v, σ')) (hn : Rs w S (tbl m σ) n un) (hc : Rs w S (tbl m σ) c uc) :
    ∃ vz w' m', (Instr.makeSlice t un uc).run P w = .ok vz w' ∧ Stp w S m σ w' S m' σ' ∧ Rs w' S (tbl m' σ') v vz := by
  obtain ⟨hu, J', hJ', hsz, hkn⟩ := hI.slice hty
  rw [hJ] at hJ'; simp only [Option.some.injEq] at hJ'; subst hJ'
  obtain ⟨i, z, b1, b3, b4, b5, b6, b7, b8⟩ := zero_cells hP hJ hkn
  unfold oMake at h
  split at h
  · rename_i n' c' d hn' hc' hd
    cases hq : (decide (0 ≤ n') && decide (n' ≤ c') && decide (c' * J.bytes ≤ LIM) && decide (c' ≤ LIM) && Sh.eqb d.shape J.sh) with
    | false => rw [hq] at h; simp at h
    | true =>
      rw [hq] at h
      simp only [cond_true, Option.some.injEq, Prod.mk.injEq] at h
      obtain ⟨rfl, rfl⟩ := h
      simp only [Bool.and_eq_true, decide_eq_true_eq] at hq
      obtain ⟨⟨⟨⟨q1, q2⟩, q3⟩, q4⟩, q5⟩ := hq
      obtain ⟨k, rfl, rfl⟩ := asI_sound hn' hn
      obtain ⟨k', rfl, rfl⟩ := asI_sound hc' hc
      obtain ⟨z', i', a1, a2, a3, a4⟩ := makeSlice_run hP hI hty hJ (k := k) (k' := k') q1 q2 q3 q4 w
      rw [b1] at a1; simp only [Option.some.injEq] at a1; subst a1
      rw [b5] at a2; simp only [Option.some.injEq] at a2; subst a2
      have hzd : Rd w S d z.cells.toList := by
        have := toD_rs hd (b7 w S (tbl m σ))
        have h2 := this.2
        rw [Rv] at h2
        exact h2
      have hds := Sh.eq_of_eqb q5
      have hzl : z.cells.toList.length = J.sh.size := by simpa using b6
      have hlen : (List.replicate n'.toNat d).length = n'.toNat := by simp
      obtain ⟨s1, s2⟩ := newDyn_stp (e := e) (f := (0, 0)) (c := ((List.replicate c'.toNat z.cells.toList).flatten).toArray) (cap := c'.toNat) hi (sh := J.sh) (ds := List.replicate n'.toNat d)
        (by intro x hx; rw [List.eq_of_mem_replicate hx]; exact hds)
        (by rw [hlen]; simp only [List.size_toArray, flatten_replicate_length, hzl]; exact Nat.mul_le_mul_right _ (by omega))
        (by
          rw [hlen, List.toList_toArray, ← hzl, take_rows _ (by omega)]
          exact RdL.replicate hzd _)
        (by intro o _ h; omega) (by simp only [List.size_toArray, flatten_replicate_length, hzl]; exact Nat.le_refl _) (by rw [hlen]; omega)
      rw [hlen] at s2
      exact ⟨_, _, _, a4, s1, s2⟩
  · simp at h
theorem freeze_sref (hi : Inv w S m σ) {s : Sh} {id n : Nat} {p : List Nat} {off len : Nat} {r : AV} {u : Value} {σ' : Store} (h : freeze (.sref s id n p off len) σ = some (r, σ')) (hx : Rs w S (tbl m σ) (.sref s id n p off len) u) :
    ∃ S', Stp w S m σ w S' m σ' ∧ Rs w S' (tbl m σ') r u := by
  rw [freeze] at h
  split at h
  · rename_i B hB
    cases hc : Nat.beq B.n n with
    | false => rw [hc] at h; simp at h
    | true =>
      rw [hc] at h
      have := Nat.eq_of_beq_eq_true hc; subst this
      simp only [cond_true] at h
      split at h
      · rename_i s' ds hv
        simp only [Option.some.injEq, Prod.mk.injEq] at h
        obtain ⟨rfl, rfl⟩ := h
        obtain ⟨a, cap, e, rfl, ⟨g0, g1⟩, g2, g3, g4⟩ := hx.sref
        obtain ⟨t1, t2, t3, hen⟩ := tbl_get g2 hB
        obtain ⟨rfl, k2, k3, k4⟩ := arr_place hi hB g2 hen (g4 hen) hv
        have hsl := seg_length k2
        have fin : ∀ (S' : Nat → Prop) σ', Stp w S m σ w S' m σ' → (∀ b, m[id]? = some (some b) → S' b) → Rs w S' (tbl m σ') (.dat (.slc s' (seg ds off len))) (.slice a len cap) := by
          intro S' σ' hst hS
          have hcs : Rs w S' (tbl m σ') (.dat (.slc s' (seg ds off len))) (.slice a (seg ds off len).length cap) := by
            refine Rs.of_slc (by rw [hsl]; exact g0) (fun d hd => k3 d (seg_mem hd)) ?_
            rcases k4 with k4 | ⟨b, o, r, l1, l2, l3, l4, _⟩
            · left; exact List.eq_nil_of_length_eq_zero (by rw [hsl, k4])
            · right
              obtain ⟨r', j1, j2⟩ := seg_row (l := off) (n := len) l3 l4 k3 k2
              exact ⟨b, _, r', l2, hS b l1, j1, j2.mono hst.ext.kp⟩
          rwa [hsl] at hcs
        cases hfz : B.frz with
        | true =>
          simp only [cond_true]
          refine ⟨S, Stp.refl hi, fin S σ (Stp.refl hi) ?_⟩
          intro b hb
          rcases k4 with k4 | ⟨b', o, r, l1, l2, l3, l4, l5⟩
          · -- without elements: the block is frozen all the same
            have hBk := hi.blk id B hB
            rw [List.getD_eq_getElem?_getD, hb] at hBk
            rcases hBk with ⟨c, t', f, j1, j2, _⟩ | ⟨_, j2, _⟩
            · exact j2 hfz
            · exact j2 hfz
          · rw [hb] at l1
            simp only [Option.some.injEq] at l1
            subst l1
            exact l5 hfz
        | false =>
          simp only [cond_false]
          have hst := hi.freeze hB
          refine ⟨_, hst, fin _ _ hst (fun b hb => .inr hb)⟩
      · simp at h
  · simp at h
theorem Rs.freeze_self {v : AV} {σ : Store} (h : ∀ s id n p off len, v ≠ .sref s id n p off len) (h' : ∀ s ds, v ≠ .fslc s ds) (h'' : ∀ vs, v ≠ .agg vs) : freeze v σ = some (v, σ) := by
  cases v with
  | sref => exact absurd rfl (h _ _ _ _ _ _)
  | fslc => exact absurd rfl (h' _ _)
  | agg => exact absurd rfl (h'' _)
  | undef => rw [freeze] <;> simp
  | dat => rw [freeze] <;> simp
  | ptr => rw [freeze] <;> simp
  | fn => rw [freeze] <;> simp
  | tup => rw [freeze] <;> simp
  | hnd => rw [freeze] <;> simp
mutual
theorem freeze_sound {w : World} : ∀ {v : AV} {σ : Store} {S : Nat → Prop} {m : List (Option Nat)} {r : AV} {σ' : Store} {u : Value}, Inv w S m σ → freeze v σ = some (r, σ') → Rs w S (tbl m σ) v u →
    ∃ S', Stp w S m σ w S' m σ' ∧ Rs w S' (tbl m σ') r u
  | .sref s id n p off len, σ, S, m, r, σ', u, hi, h, hx => freeze_sref hi h hx
  | .fslc s ds, σ, S, m, r, σ', u, hi, h, hx => by
    rw [freeze] at h
    simp only [Option.some.injEq, Prod.mk.injEq] at h
    obtain ⟨rfl, rfl⟩ := h
    exact ⟨S, Stp.refl hi, hx.fslc.1⟩
  | .agg vs, σ, S, m, r, σ', u, hi, h, hx => by
    rw [freeze] at h
    simp only [Option.map_eq_some_iff] at h
    obtain ⟨⟨vs', σ''⟩, h, hq⟩ := h
    simp only [Prod.mk.injEq] at hq
    obtain ⟨rfl, rfl⟩ := hq
    obtain ⟨h1, h2⟩ := hx
    cases u with
    | agg cs =>
      rw [Rv] at h2
      obtain ⟨S', g1, g2⟩ := freezeL_cells hi h h2
      exact ⟨S', g1, pack_rs g2⟩
    | _ => simp [valAgg, AV.aggB] at h1
  | .undef, σ, S, m, r, σ', u, hi, h, hx => by
    rw [Rs.freeze_self (by simp) (by simp) (by simp)] at h
    simp only [Option.some.injEq, Prod.mk.injEq] at h
    obtain ⟨rfl, rfl⟩ := h
    exact ⟨S, Stp.refl hi, hx⟩
  | .dat d, σ, S, m, r, σ', u, hi, h, hx => by
    rw [Rs.freeze_self (by simp) (by simp) (by simp)] at h
    simp only [Option.some.injEq, Prod.mk.injEq] at h
    obtain ⟨rfl, rfl⟩ := h
    exact ⟨S, Stp.refl hi, hx⟩
  | .ptr .., σ, S, m, r, σ', u, hi, h, hx => by
    rw [Rs.freeze_self (by simp) (by simp) (by simp)] at h
    simp only [Option.some.injEq, Prod.mk.injEq] at h
    obtain ⟨rfl, rfl⟩ := h
    exact ⟨S, Stp.refl hi, hx⟩
  | .fn .., σ, S, m, r, σ', u, hi, h, hx => by
    rw [Rs.freeze_self (by simp) (by simp) (by simp)] at h
    simp only [Option.some.injEq, Prod.mk.injEq] at h
    obtain ⟨rfl, rfl⟩ := h
    exact ⟨S, Stp.refl hi, hx⟩
  | .tup _, σ, S, m, r, σ', u, hi, h, hx => by
    rw [Rs.freeze_self (by simp) (by simp) (by simp)] at h
    simp only [Option.some.injEq, Prod.mk.injEq] at h
    obtain ⟨rfl, rfl⟩ := h
    exact ⟨S, Stp.refl hi, hx⟩
  | .hnd .., σ, S, m, r, σ', u, hi, h, hx => by
    rw [Rs.freeze_self (by simp) (by simp) (by simp)] at h
    simp only [Option.some.injEq, Prod.mk.injEq] at h
    obtain ⟨rfl, rfl⟩ := h
    exact ⟨S, Stp.refl hi, hx⟩
theorem freezeL_cells {w : World} : ∀ {vs : List AV} {σ : Store} {S : Nat → Prop} {m : List (Option Nat)} {rs : List AV} {σ' : Store} {cs : List Value}, Inv w S m σ → freezeL vs σ = some (rs, σ') → RvL w S (tbl m σ) vs cs →
    ∃ S', Stp w S m σ w S' m σ' ∧ RvL w S' (tbl m σ') rs cs
  | [], σ, S, m, rs, σ', cs, hi, h, hx => by
    rw [freezeL] at h
    simp only [Option.some.injEq, Prod.mk.injEq] at h
    obtain ⟨rfl, rfl⟩ := h
    exact ⟨S, Stp.refl hi, hx⟩
  | v :: vs, σ, S, m, rs, σ', cs, hi, h, hx => by
    rw [freezeL] at h
    simp only [Option.bind_eq_some_iff, Option.map_eq_some_iff] at h
    obtain ⟨⟨r1, σ1⟩, h1, ⟨rs2, σ2⟩, h2, hq⟩ := h
    simp only [Prod.mk.injEq] at hq
    obtain ⟨rfl, rfl⟩ := hq
    rw [RvL] at hx
    obtain ⟨c1, c2, rfl, x1, x2⟩ := hx
    have hreal : v.real = true := by cases v <;> first | rfl | simp [Rv] at x1
    have hone : ∃ u : Value, u.cells.toList = c1 ∧ valAgg u = v.aggB := by
      cases hg : v.aggB with
      | true => exact ⟨.agg c1.toArray, by simp [Value.cells], rfl⟩
      | false =>
        have hs : v.shape = .one := size_one_of_not_agg (by rw [← AV.aggB_shape, hg])
        have hl := Rv.length x1
        rw [hs] at hl
        match c1, hl with
        | [x], _ =>
          have := Rv.oneCell x1 x (by simp)
          have hva : valAgg x = false := by cases x <;> first | rfl | simp [oneC] at this
          exact ⟨x, by rw [cells_one hva], hva⟩
    obtain ⟨u, hu1, hu2⟩ := hone
    obtain ⟨S1, s1, r1'⟩ := freeze_sound hi h1 (Rs.of hu2 (by rw [hu1]; exact x1))
    have hr1 : Rv w S1 (tbl m σ1) r1 c1 := by
      have hrr : r1.real = true := by
        cases v with
        | sref s id n p off len =>
          rw [freeze] at h1
          split at h1
          · rename_i B hB
            cases hc : Nat.beq B.n n with
            | false => rw [hc] at h1; simp at h1
            | true =>
              rw [hc] at h1
              simp only [cond_true] at h1
              split at h1
              · simp only [Option.some.injEq, Prod.mk.injEq] at h1; rw [← h1.1]; rfl
              · simp at h1
          · simp at h1
        | fslc s ds =>
          rw [freeze] at h1
          simp only [Option.some.injEq, Prod.mk.injEq] at h1; rw [← h1.1]; rfl
        | agg vs =>
          rw [freeze] at h1
          simp only [Option.map_eq_some_iff] at h1
          obtain ⟨q, _, h1⟩ := h1
          simp only [Prod.mk.injEq] at h1
          rw [← h1.1]
          unfold pack; split <;> rfl
        | undef => simp [AV.real] at hreal
        | tup => simp [AV.real] at hreal
        | dat =>
          rw [Rs.freeze_self (by simp) (by simp) (by simp)] at h1
          simp only [Option.some.injEq, Prod.mk.injEq] at h1; rw [← h1.1]; rfl
        | ptr =>
          rw [Rs.freeze_self (by simp) (by simp) (by simp)] at h1
          simp only [Option.some.injEq, Prod.mk.injEq] at h1; rw [← h1.1]; rfl
        | fn =>
          rw [Rs.freeze_self (by simp) (by simp) (by simp)] at h1
          simp only [Option.some.injEq, Prod.mk.injEq] at h1; rw [← h1.1]; rfl
        | hnd =>
          rw [Rs.freeze_self (by simp) (by simp) (by simp)] at h1
          simp only [Option.some.injEq, Prod.mk.injEq] at h1; rw [← h1.1]; rfl
      have := (r1'.real hrr).2
      rwa [hu1] at this
    obtain ⟨S2, s2, r2⟩ := freezeL_cells s1.inv h2 (x2.mono s1.ext.kp s1.tx)
    refine ⟨S2, s1.trans s2, ?_⟩
    rw [RvL]
    exact ⟨c1, c2, rfl, hr1.mono s2.ext.kp s2.tx, r2⟩
end
end
end Go.AX

namespace Go.AX
section
variable {P : Program} {tab : Tab} {t : TypeId} {I : TyI} {w : World} {S : Nat → Prop}
theorem Ap.of_zeros (hP : tabOk P tab 0 tab = true) (hI : TyOk P tab t I) {e u ty : TypeId} {k k' : IntKind} {J : TyI} (hty : I.ty = .slc e) (hJ : tab[e]? = some J) (hd : P.underlying u = some (.int k))
    {n : Nat} {zd : D} (hzd : J.zero.toD = some zd) (hn : n < 2 ^ 62) : ∃ r2, Ap P w S t u ty e (List.replicate n zd) (.int k' (n : Int)) r2 := by
  obtain ⟨hu, J', hJ', hsz, hkn⟩ := hI.slice hty
  rw [hJ] at hJ'; simp only [Option.some.injEq] at hJ'; subst hJ'
  obtain ⟨i, z, b1, b3, b4, b5, b6, b7, b8⟩ := zero_cells hP hJ hkn
  have hw : IntKind.wrap .i64 (n : Int) = (n : Int) := by rw [IntKind.wrap_i64]; omega
  have hrs := toD_rs hzd (b7 w S (fun _ => none))
  have hrd : Rd w S zd z.cells.toList := by
    have h' : valAgg z = zd.aggB ∧ Rv w S (fun _ => none) (.dat zd) z.cells.toList := hrs
    have := h'.2
    rwa [Rv] at this
  have hcells : (Builtin.zeroCells z.cells n).toList = (List.replicate n z.cells.toList).flatten := by
    unfold Builtin.zeroCells
    simp only [Array.toList_map, Array.toList_range]
    rw [← range_rows]
  have hneg : ¬ ((n : Int) < 0) := by omega
  have hnil : n * i.size = 0 → Builtin.zeroCells z.cells n = #[] := by
    intro h0
    have : n = 0 := by
      rcases Nat.mul_eq_zero.1 h0 with h | h
      · exact h
      · rw [b3] at h; exact absurd h hsz
    subst this
    simp [Builtin.zeroCells]
  have happ : ∀ w', ((if n * i.size = 0 then pure #[] else do pure (Builtin.zeroCells (← zeroValue e).cells n) : Sem (Array Value))).run P w' = .ok (Builtin.zeroCells z.cells n) w' := by
    intro w'
    by_cases h0 : n * i.size = 0
    · rw [if_pos h0, hnil h0]; rfl
    · rw [if_neg h0]
      simp only [Sem.run_bind, zeroValue_run b1 b5, Result.andThen, Sem.run_pure]
  refine ⟨Builtin.zeroCells z.cells n, by rw [hcells]; exact RdL.replicate hrd n, fun i' hi' a len cap hle hB => ?_, fun i' z' hi' hz' a len cap old hold hnle hb hB => ?_⟩
  · rw [b1] at hi'; simp only [Option.some.injEq] at hi'; subst hi'
    rw [List.length_replicate] at hle hB ⊢
    have hbig : ¬ ((n : Int) * (i.bytes : Int) > 2 ^ 48) := by
      have : ((n * i.bytes : Nat) : Int) ≤ ((LIM : Nat) : Int) := Int.ofNat_le.2 hB
      rw [Int.natCast_mul] at this
      unfold LIM at this
      omega
    unfold Builtin.append_
    simp only [List.size_toArray, List.length_cons, List.length_nil, Nat.zero_add, Nat.reduceAdd, Nat.zero_lt_succ, getElem?_pos, List.getElem_toArray, List.getElem_cons_zero, List.getElem_cons_succ, Nat.lt_add_one,
      Sem.run_bind, underlying_run hu, underlying_run hd, sizeOf_run b1, typeInfo_run b1, Result.andThen, Sem.run_pure, if_true, asInt, asIntOf, hw, hneg, hbig, if_false, Int.toNat_natCast, hle, Bool.not_true, Bool.false_eq_true, happ]
    cases a <;> simp [Result.andThen]
  · rw [b1] at hi'; simp only [Option.some.injEq] at hi'; subst hi'
    rw [b5] at hz'; simp only [Option.some.injEq] at hz'; subst hz'
    rw [List.length_replicate] at hnle hB ⊢
    have hB' : n * i.bytes ≤ LIM := Nat.le_trans (Nat.mul_le_mul_right _ (Nat.le_add_left _ _)) hB
    have hbig : ¬ ((n : Int) * (i.bytes : Int) > 2 ^ 48) := by
      have : ((n * i.bytes : Nat) : Int) ≤ ((LIM : Nat) : Int) := Int.ofNat_le.2 hB'
      rw [Int.natCast_mul] at this
      unfold LIM at this
      omega
    have h1 := nextcap_bytes (cap := cap) (by omega) hB
    have h2 : ¬ (((len + n : Nat) : Int) > IntKind.i64.max) := by
      have : len + n ≤ LIM := Nat.le_trans (Nat.le_mul_of_pos_right _ hb) hB
      unfold LIM at this
      simp [IntKind.max, IntKind.signed, IntKind.bits]
      omega
    refine ⟨(Question.appendCap (len + n) cap e).cut (w.tape w.drawn (.appendCap (len + n) cap e)), w.drawn + 1, ?_, ?_⟩
    · simp only [Question.cut]; omega
    · unfold Builtin.append_
      simp only [List.size_toArray, List.length_cons, List.length_nil, Nat.zero_add, Nat.reduceAdd, Nat.zero_lt_succ, getElem?_pos, List.getElem_toArray, List.getElem_cons_zero, List.getElem_cons_succ, Nat.lt_add_one,
        Sem.run_bind, underlying_run hu, underlying_run hd, sizeOf_run b1, typeInfo_run b1, Result.andThen, Sem.run_pure, if_true, asInt, asIntOf, hw, hneg, hbig, if_false, Int.toNat_natCast, hnle, Bool.not_true, Bool.false_eq_true, h2, false_and, h1,
        choose, Sem.run, Question.forced, askRoom_run, hold, zeroValue_run b1 b5, newRow_run]
      by_cases h0 : n * i.size = 0
      · simp only [h0, if_true, hnil h0, Sem.run_pure]
      · simp only [h0, if_false, Sem.run_bind, zeroValue_run b1 b5, Result.andThen, Sem.run_pure]
end
end Go.AX

namespace Go.AX
section
variable {P : Program} {w : World} {S : Nat → Prop} {m : List (Option Nat)} {σ : Store}
theorem Inv.mark (h : Inv w S m σ) {id b : Nat} {c : Array Value} {t : TypeId} {f f' : Nat × Nat} {B : Blk}
    (hB : σ[id]? = some B) (hm : m[id]? = some (some b)) (hb : w.heap[b]? = some (.cells c t f)) (hf : B.frz = false) :
    Stp w S m σ (putHeap w b (.cells c t f')) (fun x => S x ∨ x = b) m (σ.set id { B with frz := true }) := by
  have hid := (List.getElem?_eq_some_iff.1 hB).1
  have hbs : b < w.heap.size := by
    rcases Nat.lt_or_ge b w.heap.size with h' | h'
    · exact h'
    · simp [Array.getElem?_eq_none h'] at hb
  have hBk := h.blk id B hB
  rw [List.getD_eq_getElem?_getD, hm] at hBk
  replace hBk : CelOk w S (tbl m σ) b B := by
    rcases hBk with hBk | ⟨_, _, _, ⟨_, _, _, g, _⟩ | ⟨_, _, _, g, _⟩⟩
    · exact hBk
    all_goals rw [hb] at g; simp at g
  obtain ⟨c0, t0, f0, a1, a2, a3, a4, a5⟩ := hBk
  rw [hb] at a1
  simp only [Option.some.injEq, Obj.cells.injEq] at a1
  obtain ⟨rfl, rfl, rfl⟩ := a1
  have hnS := (a3 hf).1
  have hnew : (putHeap w b (.cells c t f')).heap[b]? = some (.cells c t f') := by simp [putHeap, hbs]
  have hold : ∀ b', b' ≠ b → (putHeap w b (.cells c t f')).heap[b']? = w.heap[b']? := by
    intro b' hne
    simp only [putHeap, Array.getElem?_setIfInBounds]
    rw [if_neg (fun h => hne h.symm)]
  have k : Kp w S (putHeap w b (.cells c t f')) (fun x => S x ∨ x = b) := by
    refine ⟨fun _ h => .inl h, fun b' hb' => hold b' (fun e => hnS (e ▸ hb')), fun b' c1 t1 f1 h1 => ?_, fun b' r hr => ⟨r, (hold b' (fun e => by rw [e, hb] at hr; simp at hr)).trans hr, rfl⟩⟩
    by_cases e : b' = b
    · subst e
      rw [hb] at h1
      simp only [Option.some.injEq, Obj.cells.injEq] at h1
      obtain ⟨rfl, rfl, rfl⟩ := h1
      exact ⟨c, t, f', hnew, rfl⟩
    · exact ⟨c1, t1, f1, (hold b' e).trans h1, rfl⟩
  have hT : tbl m (σ.set id { B with frz := true }) = tbl m σ := by
    funext j
    unfold tbl
    by_cases e : j = id
    · subst e
      rw [List.getElem?_set_self hid, hB]; cases m[j]? <;> rfl
    · rw [List.getElem?_set_ne (fun h => e h.symm)]
  have x : TExt (tbl m σ) (tbl m (σ.set id { B with frz := true })) := by rw [hT]; exact TExt.refl _
  refine ⟨⟨by simp [h.len], fun b' hb' => ?_, fun b' hb' x => by
      rcases hb' with hb' | hb'
      · rw [k.same b' hb']; exact h.scel b' hb' x
      · subst hb'; rw [hnew]; simp, h.inj, ?_⟩, ⟨k, rfl, rfl, rfl, by simp [putHeap], ?_, ?_, fun _ _ h => .inl h⟩, x⟩
  · rcases hb' with hb' | hb'
    · have := h.sdom b' hb'; simp [putHeap]; omega
    · subst hb'
      simp [putHeap]; omega
  · intro i Bi hBi
    by_cases e : i = id
    · subst e
      rw [List.getElem?_set_self hid] at hBi
      simp only [Option.some.injEq] at hBi
      subst hBi
      rw [List.getD_eq_getElem?_getD, hm]
      refine .inl ⟨c, t, f', hnew, fun _ => .inr rfl, fun hq => by simp at hq, fun hd => ?_, fun hd => ⟨(a5 hd).1, (a5 hd).2.mono k x⟩⟩
      obtain ⟨s, ds, g1, g2, g3, g4⟩ := a4 hd
      exact ⟨s, ds, g1, g2, g3, g4.mono k⟩
    · rw [List.getElem?_set_ne (fun h => e h.symm)] at hBi
      have hne : ∀ b', m.getD i none = some b' → m[i]? = some (some b') := by
        intro b' hb'
        rw [List.getD_eq_getElem?_getD] at hb'
        cases hq : m[i]? with
        | none => rw [hq] at hb'; simp at hb'
        | some q => rw [hq] at hb'; simp at hb'; rw [hb']
      refine (h.blk i Bi hBi).mono k x (fun b' hb' => ?_) (fun b' hb' hs => ?_)
      · apply hold
        rintro rfl
        exact e (h.inj i id b' (hne b' hb') hm)
      · rcases hs with hs | hs
        · exact hs
        · subst hs; exact absurd (h.inj i id _ (hne _ hb') hm) e
  · intro b' _ hno
    exact hold b' (fun e => hno id (e ▸ hm))
  · intro b' hb'
    rcases hb' with hb' | hb'
    · exact .inl hb'
    · subst hb'; exact .inr (.inr ⟨id, hm⟩)
theorem row_mark {b b' : Nat} {c : Array Value} {t : TypeId} {f f' : Nat × Nat} (hb : w.heap[b]? = some (.cells c t f)) (o n : Nat) : row (putHeap w b (.cells c t f')) b' o n = row w b' o n := by
  have hbs : b < w.heap.size := by
    rcases Nat.lt_or_ge b w.heap.size with h' | h'
    · exact h'
    · simp [Array.getElem?_eq_none h'] at hb
  unfold row
  by_cases e : b' = b
  · subst e
    have : (putHeap w b' (.cells c t f')).heap[b']? = some (.cells c t f') := by simp [putHeap, hbs]
    rw [this, hb]
  · have : (putHeap w b (.cells c t f')).heap[b']? = w.heap[b']? := by
      simp only [putHeap, Array.getElem?_setIfInBounds]
      rw [if_neg (fun h => e h.symm)]
    rw [this]
theorem markStringish_run {b o : Nat} {c : Array Value} {t : TypeId} {f : Nat × Nat} (hb : w.heap[b]? = some (.cells c t f)) :
    ∃ f', (markStringish ⟨b, o, none⟩).run P w = .ok () (putHeap w b (.cells c t f')) := by
  have hshape : w.shape? b = some (t, c.size) := by simp only [World.shape?, hb]
  refine ⟨if f.1 == f.2 then (c.size, c.size + 1) else (min f.1 c.size, max f.2 (c.size + 1)), ?_⟩
  unfold markStringish
  simp only [Sem.run_bind, Go.shape, Sem.run, hshape, Result.andThen, Go.freeze, World.freeze, Nat.add_one_ne_zero, if_false, putHeap]
  congr 2
  exact modify_eq_set _ _ (Obj.cells c t f) _ hb
theorem mark_sref (hi : Inv w S m σ) {s : Sh} {id n : Nat} {p : List Nat} {off len : Nat} {B : Blk} {ds : List D} {s' : Sh} {u : Value} (hB : σ[id]? = some B) (hBn : B.n = n) (hfz : B.frz = false) (hlen : 0 < len)
    (hv : B.v.nav p = some (.dat (.arr s' ds))) (hx : Rs w S (tbl m σ) (.sref s id n p off len) u) :
    ∃ a cap w' S', u = .slice (some a) len cap ∧ (markStringish a).run P w = .ok () w' ∧ Stp w S m σ w' S' m (σ.set id { B with frz := true }) ∧ Rs w' S' (tbl m (σ.set id { B with frz := true })) (.dat (.slc s (seg ds off len))) u := by
  subst hBn
  obtain ⟨a, cap, e, rfl, ⟨g0, g1⟩, g2, g3, g4⟩ := hx.sref
  obtain ⟨t1, t2, t3, hen⟩ := tbl_get g2 hB
  obtain ⟨rfl, k2, k3, k4⟩ := arr_place hi hB g2 hen (g4 hen) hv
  have hsl := seg_length k2
  rcases k4 with k4 | ⟨b, o, r, l1, rfl, l3, l4, _⟩
  · omega
  · have hBk := hi.blk id B hB
    rw [List.getD_eq_getElem?_getD, l1] at hBk
    obtain ⟨c, t, f, hb, _⟩ := BlkOk.cel hBk (.inr (.inr ⟨p, _, _, hv⟩))
    obtain ⟨f', hmk⟩ := markStringish_run (P := P) (o := o + off * s'.size) hb
    have hst := hi.mark (f' := f') hB l1 hb hfz
    refine ⟨_, cap, _, _, rfl, hmk, hst, ?_⟩
    have hcs : Rs (putHeap w b (.cells c t f')) (fun x => S x ∨ x = b) (tbl m (σ.set id { B with frz := true })) (.dat (.slc s' (seg ds off len))) (.slice (some ⟨b, o + off * s'.size, none⟩) (seg ds off len).length cap) := by
      refine Rs.of_slc (by rw [hsl]; exact g0) (fun d hd => k3 d (seg_mem hd)) ?_
      right
      obtain ⟨r', j1, j2⟩ := seg_row (l := off) (n := len) l3 l4 k3 k2
      exact ⟨b, _, r', rfl, .inr rfl, by rw [row_mark hb]; exact j1, j2.mono hst.ext.kp⟩
    rwa [hsl] at hcs
end
end Go.AX

namespace Go.AX
variable {P : Program} {w : World} {S : Nat → Prop} {m : List (Option Nat)} {σ : Store}
theorem putHeap_other {w : World} {b b' : Nat} {o : Obj} (h : b' ≠ b) : (putHeap w b o).heap[b']? = w.heap[b']? := by
  simp only [putHeap, Array.getElem?_setIfInBounds]
  rw [if_neg (fun e => h e.symm)]
theorem putHeap_self {w : World} {b : Nat} {o : Obj} (h : b < w.heap.size) : (putHeap w b o).heap[b]? = some o := by simp [putHeap, h]
theorem gD_some {i b : Nat} (h : m.getD i none = some b) : m[i]? = some (some b) := by
  rw [List.getD_eq_getElem?_getD] at h
  cases hq : m[i]? with
  | none => rw [hq] at h; simp at h
  | some q => rw [hq] at h; simp at h; rw [h]
theorem tbl_some {m : List (Option Nat)} {σ : Store} {i : Nat} {ob : Option Nat} {B : Blk} (hm : m[i]? = some ob) (hB : σ[i]? = some B) : tbl m σ i = some ⟨ob, B.sh, B.dyn, B.n⟩ := by
  unfold tbl; rw [hm, hB]
theorem tbl_inv {m : List (Option Nat)} {σ : Store} {i : Nat} {e : Ent} (h : tbl m σ i = some e) : ∃ ob B, m[i]? = some ob ∧ σ[i]? = some B ∧ e = ⟨ob, B.sh, B.dyn, B.n⟩ := by
  unfold tbl at h
  split at h
  · rename_i ob B h1 h2
    simp only [Option.some.injEq] at h
    exact ⟨ob, B, h1, h2, h.symm⟩
  · simp at h
theorem Inv.hlt (h : Inv w S m σ) {i b : Nat} (hi : m[i]? = some (some b)) : b < w.heap.size := by
  have hl : i < σ.length := by rw [← h.len]; exact (List.getElem?_eq_some_iff.1 hi).1
  have hB := h.blk i σ[i] (List.getElem?_eq_getElem hl)
  rw [List.getD_eq_getElem?_getD, hi] at hB
  exact BlkOk.lt hB
theorem push_old {w : World} {b : Nat} {o : Obj} (h : b < w.heap.size) : (w.heap.push o)[b]? = w.heap[b]? := by
  rw [Array.getElem?_push, if_neg (by omega)]
theorem Kp.push (h : Inv w S m σ) (o : Obj) : Kp w S { w with heap := w.heap.push o } S :=
  ⟨fun _ h => h, fun b hb => push_old (h.sdom b hb), fun b c t f hb => ⟨c, t, f, (push_old (Array.getElem?_eq_some_iff.1 hb).1).trans hb, rfl⟩,
   fun b r hb => ⟨r, (push_old (Array.getElem?_eq_some_iff.1 hb).1).trans hb, rfl⟩⟩
theorem Inv.newObj (h : Inv w S m σ) {o : Obj} {B : Blk} (hd : B.dyn = false) (hf : B.frz = false) (ho : ∀ w' : World, w'.heap[w.heap.size]? = some o → ∀ S', ¬ S' w.heap.size → ObjOk w' S' w.heap.size B) :
    Stp w S m σ { w with heap := w.heap.push o } S (m ++ [some w.heap.size]) (σ ++ [B]) := by
  have k := Kp.push h o
  have x := TExt.append h.len (some w.heap.size) B
  have hm : ∀ (i : Nat) b, (m ++ [some w.heap.size])[i]? = some (some b) → m[i]? = some (some b) ∨ (b = w.heap.size ∧ i = m.length) := by
    intro i b hi
    rcases Nat.lt_or_ge i m.length with hl | hl
    · rw [List.getElem?_append_left hl] at hi; exact .inl hi
    · rw [List.getElem?_append_right hl] at hi
      cases hq : i - m.length with
      | zero => rw [hq] at hi; simp at hi; exact .inr ⟨hi.symm, by omega⟩
      | succ q => rw [hq] at hi; simp at hi
  refine ⟨⟨by simp [h.len], fun b hb => by have := h.sdom b hb; simp; omega, fun b hb y => by rw [k.same b hb]; exact h.scel b hb y, ?_, fun i B' hB => ?_⟩,
    ⟨k, rfl, rfl, rfl, by simp, fun b hb _ => push_old hb, fun _ h => .inl h, fun i b hi => ?_⟩, x⟩
  · intro i j b hi hj
    rcases hm i b hi with h1 | ⟨h1, h1'⟩ <;> rcases hm j b hj with h2 | ⟨h2, h2'⟩
    · exact h.inj i j b h1 h2
    · have := h.hlt h1; omega
    · have := h.hlt h2; omega
    · omega
  · rcases Nat.lt_or_ge i σ.length with hl | hl
    · rw [List.getElem?_append_left hl] at hB
      have hg : (m ++ [some w.heap.size]).getD i none = m.getD i none := by
        rw [List.getD_eq_getElem?_getD, List.getD_eq_getElem?_getD, List.getElem?_append_left (by rw [h.len]; exact hl)]
      rw [hg]
      exact (h.blk i B' hB).mono k x (fun b hb => push_old (h.hlt (gD_some hb))) (fun _ _ hs => hs)
    · have hi : i = σ.length := by
        have := (List.getElem?_eq_some_iff.1 hB).1
        simp at this; omega
      subst hi
      rw [List.getElem?_append_right (Nat.le_refl _)] at hB
      simp at hB
      subst hB
      have hg : (m ++ [some w.heap.size]).getD σ.length none = some w.heap.size := by
        rw [List.getD_eq_getElem?_getD, List.getElem?_append_right (by rw [h.len]; exact Nat.le_refl _)]
        simp [h.len]
      rw [hg]
      exact .inr (ho _ (by simp) S (fun hs => by have := h.sdom _ hs; omega))
  · rcases hm i b hi with h1 | ⟨h1, _⟩
    · exact .inl h1
    · exact .inr (by omega)
theorem Inv.putObj (h : Inv w S m σ) {j l : Nat} {B B' : Blk} {o o' : Obj} (hB : σ[j]? = some B) (hm : m[j]? = some (some l)) (hr : w.heap[l]? = some o) (hc : ∀ c t f, o ≠ .cells c t f) (hL : ∀ r, o ≠ .loop r)
    (hd : B.dyn = false) (hnS : ¬ S l) (hsh : B'.sh = B.sh) (hd' : B'.dyn = false) (ho : ∀ w' : World, w'.heap[l]? = some o' → ObjOk w' S l B') :
    Stp w S m σ (putHeap w l o') S m (σ.set j B') := by
  have hid := (List.getElem?_eq_some_iff.1 hB).1
  have hl : l < w.heap.size := (Array.getElem?_eq_some_iff.1 hr).1
  have k : Kp w S (putHeap w l o') S := by
    refine ⟨fun _ h => h, fun b hb => putHeap_other (fun e => hnS (e ▸ hb)), fun b c1 t1 f1 h1 => ⟨c1, t1, f1, ?_, rfl⟩, fun b q hq => ⟨q, ?_, rfl⟩⟩
    · rw [putHeap_other (fun e => by rw [e, hr] at h1; exact hc _ _ _ (Option.some.inj h1))]; exact h1
    · rw [putHeap_other (fun e => by rw [e, hr] at hq; exact hL _ (Option.some.inj hq))]; exact hq
  have x : TExt (tbl m σ) (tbl m (σ.set j B')) := by
    intro i e he
    by_cases hj : i = j
    · subst hj
      obtain ⟨ob, B1, g1, g2, rfl⟩ := tbl_inv he
      rw [hB] at g2
      simp only [Option.some.injEq] at g2
      subst g2
      refine ⟨⟨ob, B'.sh, B'.dyn, B'.n⟩, tbl_some g1 (List.getElem?_set_self hid), hsh, by rw [hd, hd'], ?_, fun _ => rfl⟩
      simp [Blk.n, hd, hd']
    · refine ⟨e, ?_, rfl, rfl, Nat.le_refl _, fun _ => rfl⟩
      unfold tbl at he ⊢
      rw [List.getElem?_set_ne (fun h => hj h.symm)]
      exact he
  refine ⟨⟨by simp [h.len], fun b hb => by have := h.sdom b hb; simp [putHeap]; omega, fun b hb y => by rw [k.same b hb]; exact h.scel b hb y, h.inj, fun i Bi hBi => ?_⟩,
    ⟨k, rfl, rfl, rfl, by simp [putHeap], fun b _ hno => putHeap_other (fun e => hno j (e ▸ hm)), fun _ h => .inl h, fun _ _ h => .inl h⟩, x⟩
  by_cases e : i = j
  · subst e
    rw [List.getElem?_set_self hid] at hBi
    simp only [Option.some.injEq] at hBi
    subst hBi
    rw [List.getD_eq_getElem?_getD, hm]
    exact .inr (ho _ (putHeap_self hl))
  · rw [List.getElem?_set_ne (fun h => e h.symm)] at hBi
    refine (h.blk i Bi hBi).mono k x (fun b hb => putHeap_other ?_) (fun _ _ hs => hs)
    rintro rfl
    exact e (h.inj i j b (gD_some hb) hm)
end Go.AX

namespace Go.AX
section
variable {P : Program} {w : World} {S : Nat → Prop} {m : List (Option Nat)} {σ : Store}
theorem putHeap_same {w : World} {b : Nat} {o : Obj} (h : w.heap[b]? = some o) : putHeap w b o = w := by
  unfold putHeap
  have : w.heap.setIfInBounds b o = w.heap := by
    apply Array.ext_getElem?
    intro j
    rw [Array.getElem?_setIfInBounds]
    split
    · rename_i hj; subst hj
      split
      · rw [h]
      · rename_i hj; rw [Array.getElem?_eq_none (by omega)]
    · rfl
  rw [this]
theorem splice_same {cs : List Value} {o : Nat} {x : Value} (h : (cs.drop o).take 1 = [x]) : splice cs o [x] = cs := by
  unfold splice
  rw [← h]
  have hl : ((cs.drop o).take 1).length = 1 := by rw [h]; rfl
  rw [hl, List.append_assoc, ← List.drop_drop, List.take_append_drop, List.take_append_drop]
theorem frzAt_sound (hi : Inv w S m σ) {x : AV} {p : List Nat} {σ' : Store} {u : Value} (h : frzAt x p σ = some σ') (hx : Rs w S (tbl m σ) x u) : ∃ S', Stp w S m σ w S' m σ' := by
  unfold frzAt at h
  split at h
  · rename_i s id n q
    split at h
    · rename_i B hB
      cases hc : Nat.beq B.n n && !B.frz && !B.dyn && posSh B.sh with
      | false => rw [hc] at h; simp at h
      | true =>
      rw [hc, cond_true] at h
      simp only [Bool.and_eq_true, Bool.not_eq_true'] at hc
      obtain ⟨⟨⟨hn, hf⟩, hd⟩, hps⟩ := hc
      have hn := Nat.eq_of_beq_eq_true hn
      subst hn
      split at h
      · rename_i s2 i2 n2 p2 off len hnav
        cases hne : Nat.beq i2 id with
        | true => rw [hne] at h; simp at h
        | false =>
        rw [hne, cond_false] at h
        simp only [Option.bind_eq_some_iff, Option.map_eq_some_iff] at h
        obtain ⟨⟨r, σ1⟩, hfr, v', hput, rfl⟩ := h
        obtain ⟨b, o, c, t, f, rfl, hm, hb, k2, k3, _, k6, l4, l5⟩ := ptr_place hi hps hB hx
        obtain ⟨h1, h2⟩ := l5 hd
        obtain ⟨o', a1, a2, a3, a4⟩ := AV.nav_spec _ h2 hnav
        simp only [AV.shape, Sh.size] at a3 a4
        obtain ⟨y, hy⟩ : ∃ y, (c.toList.drop o').take 1 = [y] := by
          rw [Rv] at a3
          obtain ⟨ad, cap, e, g, _⟩ := a3
          exact ⟨_, g⟩
        rw [hy] at a3
        have hyv : valAgg y = false := by
          have := Rv.oneCell a3 y (by simp)
          cases y <;> first | rfl | simp [oneC] at this
        have hys : Rs w S (tbl m σ) (.sref s2 i2 n2 p2 off len) y := ⟨by rw [hyv]; rfl, by rw [cells_one hyv]; exact a3⟩
        obtain ⟨S1, s1, r1⟩ := freeze_sound hi hfr hys
        have hrr : r.real = true := by
          rw [freeze] at hfr
          split at hfr
          · rename_i B2 hB2
            cases hq : Nat.beq B2.n n2 with
            | false => rw [hq] at hfr; simp at hfr
            | true =>
              rw [hq] at hfr
              simp only [cond_true] at hfr
              split at hfr
              · simp only [Option.some.injEq, Prod.mk.injEq] at hfr; rw [← hfr.1]; rfl
              · simp at hfr
          · simp at hfr
        obtain ⟨q1, q2⟩ := r1.real hrr
        rw [cells_one hyv] at q2
        have hB1 : σ1[id]? = some B := by
          have hid : i2 ≠ id := fun e => by rw [e] at hne; simp at hne
          rw [freeze] at hfr
          split at hfr
          · rename_i B2 hB2
            cases hq : Nat.beq B2.n n2 with
            | false => rw [hq] at hfr; simp at hfr
            | true =>
              rw [hq] at hfr
              simp only [cond_true] at hfr
              split at hfr
              · simp only [Option.some.injEq, Prod.mk.injEq] at hfr
                rw [← hfr.2]
                cases B2.frz
                · rw [cond_false, List.getElem?_set_ne hid]; exact hB
                · exact hB
              · simp at hfr
          · simp at hfr
        have hx1 := s1.rs hx
        obtain ⟨b', o1, c1, t1, f1, hbb, hm1, hb1, k21, k31, _, _, l41, l51⟩ := ptr_place s1.inv hps hB1 hx1
        rw [hm] at hm1
        simp only [Option.some.injEq] at hm1
        subst hm1
        rw [hb] at hb1
        simp only [Option.some.injEq, Obj.cells.injEq] at hb1
        obtain ⟨rfl, rfl, rfl⟩ := hb1
        have hpp : (B.dyn && (q ++ p).isEmpty) = false := by rw [hd]; rfl
        rw [h1] at a1 a2
        obtain ⟨_, st⟩ := put_place s1.inv hB1 hm hb hf hpp a2 a1 l41 l51 hput q2
        rw [splice_same hy] at st
        have : c.toList.toArray = c := by simp
        rw [this, putHeap_same hb] at st
        exact ⟨S1, s1.trans st⟩
      · rename_i s2 ds hnav
        simp only [Option.map_eq_some_iff] at h
        obtain ⟨v', hput, rfl⟩ := h
        obtain ⟨b, o, c, t, f, rfl, hm, hb, k2, k3, _, k6, l4, l5⟩ := ptr_place hi hps hB hx
        obtain ⟨h1, h2⟩ := l5 hd
        obtain ⟨o', a1, a2, a3, a4⟩ := AV.nav_spec _ h2 hnav
        simp only [AV.shape, Sh.size] at a3 a4
        obtain ⟨y, hy⟩ : ∃ y, (c.toList.drop o').take 1 = [y] := by
          rw [Rv] at a3
          obtain ⟨_, ad, nn, e⟩ := a3
          exact ⟨_, e⟩
        rw [hy] at a3
        have hyv : valAgg y = false := by
          have := Rv.oneCell a3 y (by simp)
          cases y <;> first | rfl | simp [oneC] at this
        have hys : Rs w S (tbl m σ) (.fslc s2 ds) y := ⟨by rw [hyv]; rfl, by rw [cells_one hyv]; exact a3⟩
        obtain ⟨S1, s1, r1⟩ := freeze_sound hi (show freeze (.fslc s2 ds) σ = some (.dat (.slc s2 ds), σ) by rw [freeze]) hys
        obtain ⟨q1, q2⟩ := r1.real rfl
        rw [cells_one hyv] at q2
        have hx1 := s1.rs hx
        obtain ⟨b', o1, c1, t1, f1, hbb, hm1, hb1, k21, k31, _, _, l41, l51⟩ := ptr_place s1.inv hps hB hx1
        rw [hm] at hm1
        simp only [Option.some.injEq] at hm1
        subst hm1
        rw [hb] at hb1
        simp only [Option.some.injEq, Obj.cells.injEq] at hb1
        obtain ⟨rfl, rfl, rfl⟩ := hb1
        have hpp : (B.dyn && (q ++ p).isEmpty) = false := by rw [hd]; rfl
        rw [h1] at a1 a2
        obtain ⟨_, st⟩ := put_place s1.inv hB hm hb hf hpp a2 a1 l41 l51 hput q2
        rw [splice_same hy] at st
        have : c.toList.toArray = c := by simp
        rw [this, putHeap_same hb] at st
        exact ⟨S1, s1.trans st⟩
      · simp only [Option.some.injEq] at h
        subst h
        exact ⟨S, Stp.refl hi⟩
      · simp at h
    · simp at h
  · simp at h
end
end Go.AX

namespace Go.AX
inductive F2 {α β : Type} (R : α → β → Prop) : List α → List β → Prop where
  | nil : F2 R [] []
  | cons {a : α} {b : β} {l : List α} {k : List β} (h : R a b) (t : F2 R l k) : F2 R (a :: l) (b :: k)
theorem F2.mono {α β : Type} {R R' : α → β → Prop} (h : ∀ a b, R a b → R' a b) {l : List α} {k : List β} (x : F2 R l k) : F2 R' l k := by
  induction x with
  | nil => exact .nil
  | cons h' _ ih => exact .cons (h _ _ h') ih
section
variable {P : Program} {tab : Tab} {t : TypeId} {I : TyI} {w : World} {S : Nat → Prop} {T : Nat → Option Ent} {m : List (Option Nat)} {σ : Store}
theorem foldl_splice (off : Nat) : ∀ (vs : List Value) (j : Nat) (cells : Array Value), off + j + vs.length ≤ cells.size →
    ((vs.zipIdx j).foldl (fun (cs : Array Value) (x : Value × Nat) => cs.setIfInBounds (off + x.2) x.1) cells).toList = splice cells.toList (off + j) vs
  | [], j, cells, _ => by simp [splice]
  | v :: vs, j, cells, h => by
    simp only [List.zipIdx_cons, List.foldl_cons, List.length_cons] at h ⊢
    rw [foldl_splice off vs (j + 1) _ (by simp; omega)]
    have h2 := splice_splice (cs := cells.toList.set (off + j) v) (o := 0) (n := cells.size) (o' := off + (j + 1)) (cn := vs) (by simp) (by omega)
    simp only [splice, Array.toList_setIfInBounds, List.length_cons]
    have e0 : (cells.toList.set (off + j) v).take (off + (j + 1)) = cells.toList.take (off + j) ++ [v] := by
      rw [show off + (j + 1) = off + j + 1 by omega, List.take_succ_eq_append_getElem (by simp; omega)]
      congr 1
      · apply List.ext_getElem?
        intro i
        rw [List.getElem?_take, List.getElem?_take]
        split
        · rw [List.getElem?_set_ne (by omega)]
        · rfl
      · simp
    rw [e0, List.drop_set_of_lt (by omega), show off + (j + 1) + vs.length = off + j + (vs.length + 1) by omega]
    simp
theorem fill_step {place : Nat → Option (Nat × Nat)} {cells : Array Value} {i off size : Nat} {v : Value} {rest : List (Nat × Value)} (hp : place i = some (off, size)) (hs : v.cells.size = size) (hl : off + size ≤ cells.size) :
    Instr.fill place cells ((i, v) :: rest) = Instr.fill place (splice cells.toList off v.cells.toList).toArray rest := by
  simp only [Instr.fill, hp]
  rw [if_neg (by simp; omega)]
  congr 1
  rw [← Array.toList_inj, List.toList_toArray]
  have := foldl_splice off v.cells.toList 0 cells (by simp; omega)
  rw [Nat.add_zero] at this
  rw [← this, ← Array.foldl_toList]
  simp
theorem fill_elems {sh : Sh} : ∀ {ps : List (Nat × D)} {vs : List (Nat × Value)} {ds ds' : List D} {cells : Array Value}, setAll ds ps = some ds' → RdL w S ds cells.toList → (∀ d ∈ ds, d.shape = sh) → (∀ p ∈ ps, p.2.shape = sh) →
    F2 (fun (p : Nat × D) (v : Nat × Value) => p.1 = v.1 ∧ Rs w S T (.dat p.2) v.2) ps vs →
    ∃ cells', Instr.fill (fun i => some (i * sh.size, sh.size)) cells vs = some cells' ∧ RdL w S ds' cells'.toList ∧ (∀ d ∈ ds', d.shape = sh) ∧ cells'.size = cells.size
  | [], vs, ds, ds', cells, h, hd, hs, _, hp => by
    cases hp
    simp only [setAll, Option.some.injEq] at h; subst h
    exact ⟨cells, rfl, hd, hs, rfl⟩
  | (i, d) :: ps, vs, ds, ds', cells, h, hd, hs, hps, hp => by
    cases hp with
    | cons hv hr =>
      rename_i v vs'
      obtain ⟨hv1, hv2⟩ := hv
      simp only at hv1 hv2
      simp only [setAll] at h
      cases hc : decide (i < ds.length) with
      | false => rw [hc] at h; simp at h
      | true =>
        rw [hc] at h
        simp only [decide_eq_true_eq] at hc
        simp only [cond_true] at h
        have hdi : ds[i]? = some ds[i] := List.getElem?_eq_getElem hc
        have hdsh := hs ds[i] (List.getElem_mem hc)
        have hvsh := hps (i, d) (by simp)
        simp only at hvsh
        have hrd : Rd w S d v.2.cells.toList := by have := hv2.2; rwa [Rv] at this
        have hvl := Rd.length hrd
        rw [hvsh] at hvl
        obtain ⟨q1, q2⟩ := RdL.get hd hdi
        have hz := sizeL_same sh (D.shapeL ds) i (shapeL_all hs) (by rw [D.shapeL_eq]; simp; omega)
        rw [hz, hdsh] at q2
        have hset := RdL.set hd hdi hrd (by rw [hvsh, hdsh])
        rw [hz] at hset
        obtain ⟨cells', a1, a2, a3, a4⟩ := fill_elems (cells := (splice cells.toList (i * sh.size) v.2.cells.toList).toArray) h (by simpa using hset) (by
          intro x hx
          rcases List.mem_or_eq_of_mem_set hx with hx | hx
          · exact hs x hx
          · rw [hx]; exact hvsh) (fun p hp => hps p (List.mem_cons_of_mem _ hp)) hr
        refine ⟨cells', ?_, a2, a3, ?_⟩
        · obtain ⟨j, u⟩ := v
          simp only at hv1 ⊢
          subst hv1
          rw [fill_step rfl (by simpa using hvl) (by simpa using q2)]
          exact a1
        · rw [a4]; simp only [List.size_toArray]
          rw [splice_length (by rw [hvl]; exact q2)]; simp
theorem fill_parts {place : Nat → Option (Nat × Nat)} {l : List Sh} (hpl : ∀ i s, l[i]? = some s → place i = some (Sh.sizeL (l.take i), s.size)) :
    ∀ {ps : List (Nat × AV)} {us : List (Nat × Value)} {vs vs' : List AV} {cells : Array Value}, partsAll vs ps = some vs' → RvL w S T vs cells.toList → AV.shapeL vs = l →
    F2 (fun (p : Nat × AV) (v : Nat × Value) => p.1 = v.1 ∧ Rs w S T p.2 v.2) ps us →
    ∃ cells', Instr.fill place cells us = some cells' ∧ RvL w S T vs' cells'.toList ∧ AV.shapeL vs' = l
  | [], us, vs, vs', cells, h, hd, hs, hp => by
    cases hp
    simp only [partsAll, Option.some.injEq] at h; subst h
    exact ⟨cells, rfl, hd, hs⟩
  | (i, x) :: ps, us, vs, vs', cells, h, hd, hs, hp => by
    cases hp with
    | cons hv hr =>
      rename_i u us'
      obtain ⟨hv1, hv2⟩ := hv
      simp only at hv1 hv2
      simp only [partsAll] at h
      split at h
      · rename_i y hy
        cases hc : (Sh.eqb y.shape x.shape && x.real) with
        | false => rw [hc] at h; simp at h
        | true =>
          rw [hc] at h
          simp only [cond_true] at h
          simp only [Bool.and_eq_true] at hc
          have hsh := Sh.eq_of_eqb hc.1
          obtain ⟨g1, g2⟩ := hv2.real hc.2
          have hl := Rv.length g2
          obtain ⟨q1, q2⟩ := RvL.get hd hy
          have hset := RvL.set hd hy g2 hsh.symm
          have hli : l[i]? = some y.shape := by rw [← hs]; exact AV.shapeL_get hy
          rw [hs] at q2 hset
          obtain ⟨cells', a1, a2, a3⟩ := fill_parts hpl (cells := (splice cells.toList (Sh.sizeL (l.take i)) u.2.cells.toList).toArray) h (by simpa using hset) (by
            rw [AV.shapeL_eq, List.map_set, ← hsh]
            have : (vs.map AV.shape)[i]? = some y.shape := by simp [hy]
            rw [list_set_self this, ← AV.shapeL_eq, hs]) hr
          refine ⟨cells', ?_, a2, a3⟩
          obtain ⟨j, u⟩ := u
          simp only at hv1 ⊢
          subst hv1
          rw [fill_step (hpl i _ hli) (by rw [hsh]; simpa using hl) (by simpa using q2)]
          exact a1
      · simp at h
theorem bytesOf_cells : ∀ {ds : List D} {l : List UInt8} {cs : List Value}, bytesOf ds = some l → RdL w S ds cs → ∃ ns : List Int, cs = ns.map (Value.int .u8) ∧ l = ns.map (fun n => UInt8.ofNat n.toNat)
  | [], l, cs, h, hd => by
    simp only [bytesOf, Option.some.injEq] at h; subst h
    simp only [RdL] at hd; subst hd
    exact ⟨[], rfl, rfl⟩
  | d :: ds, l, cs, h, hd => by
    simp only [bytesOf] at h
    split at h
    · rename_i b l' hb hl
      simp only [Option.some.injEq] at h; subst h
      rw [RdL] at hd
      obtain ⟨c1, c2, rfl, h1, h2⟩ := hd
      obtain ⟨ns, e1, e2⟩ := bytesOf_cells hl h2
      unfold byteOfD at hb
      split at hb
      · rename_i n
        simp only [Option.some.injEq] at hb; subst hb
        rw [Rd] at h1; subst h1
        exact ⟨n :: ns, by simp [e1], by simp [e2]⟩
      · simp at hb
    · simp at h
theorem pushBytes_run (body : Value → ByteArray → Sem (ForInStep ByteArray)) (hbody : ∀ n s w, (body (.int .u8 n) s).run P w = .ok (.yield (s.push (UInt8.ofNat n.toNat))) w) :
    ∀ (ns : List Int) (s : ByteArray) (w : World), (forIn (ns.map (Value.int .u8)) s body : Sem ByteArray).run P w = .ok ⟨s.data ++ (ns.map (fun n => UInt8.ofNat n.toNat)).toArray⟩ w
  | [], s, w => by simp
  | n :: ns, s, w => by
    simp only [List.map_cons, List.forIn_cons, Sem.run_bind, hbody, Result.andThen]
    rw [pushBytes_run body hbody ns _ w]
    congr 1
    cases s
    simp [ByteArray.push]
theorem bytesToString_run {ns : List Int} {a : Option Addr} {cap : Nat} (h : ns = [] ∨ ∃ b o, a = some ⟨b, o, none⟩ ∧ row w b o ns.length = some (ns.map (Value.int .u8))) :
    (Conv.bytesToString (.slice a ns.length cap)).run P w = .ok (.string ⟨(ns.map (fun n => UInt8.ofNat n.toNat)).toArray⟩) w := by
  have key : ∀ ad : Addr, (loadCells ad ns.length).run P w = .ok (ns.map (Value.int .u8)).toArray w → (Conv.bytesToString (.slice (some ad) ns.length cap)).run P w = .ok (.string ⟨(ns.map (fun n => UInt8.ofNat n.toNat)).toArray⟩) w := by
    intro ad hl
    unfold Conv.bytesToString
    simp only [Sem.run_bind, hl, Result.andThen, List.forIn_toArray]
    rw [pushBytes_run]
    · have he : ByteArray.empty.data = #[] := rfl
      simp only [he, Array.empty_append, Sem.run_pure]
    · intro n s w; rfl
  cases a with
  | none =>
    rcases h with h | ⟨b, o, h, _⟩
    · subst h; rfl
    · simp at h
  | some ad =>
    rcases h with h | ⟨b, o, h, hr⟩
    · subst h; exact key ad rfl
    · simp only [Option.some.injEq] at h; subst h
      exact key _ (run_loadCells' hr)
theorem oToStr_sound (hi : Inv w S m σ) {x v : AV} {u : Value} (h : oToStr x σ = some v) (hx : Rs w S (tbl m σ) x u) :
    ∃ vz, (Conv.bytesToString u).run P w = .ok vz w ∧ Rs w S (tbl m σ) v vz := by
  unfold oToStr at h
  cases hst : isStr x with
  | true => rw [hst] at h; simp at h
  | false =>
  rw [hst] at h
  simp only [cond_false] at h
  have hs : ∀ s, x ≠ .dat (.str s) := by rintro s rfl; simp [isStr] at hst
  simp only [Option.bind_eq_some_iff, Option.map_eq_some_iff] at h
  obtain ⟨ds, h1, l, h2, rfl⟩ := h
  rcases elems_sound hi h1 hx with ⟨s, h3, _⟩ | ⟨sh, ⟨a, cap, rfl, g1, g2, g3⟩, _⟩
  · exact absurd h3 (hs s)
  · rcases g3 with g3 | ⟨b, o, r, rfl, g4, g5⟩
    · subst g3
      simp only [bytesOf, Option.some.injEq] at h2; subst h2
      exact ⟨_, bytesToString_run (ns := []) (.inl rfl), Rs.of_str _⟩
    · obtain ⟨ns, e1, e2⟩ := bytesOf_cells h2 g5
      have hlen : ds.length = ns.length := by
        have := congrArg List.length e2
        have h3 : ∀ {ds : List D} {l}, bytesOf ds = some l → l.length = ds.length := by
          intro ds
          induction ds with
          | nil => intro l h; simp [bytesOf] at h; subst h; rfl
          | cons d ds ih =>
            intro l h
            simp only [bytesOf] at h
            split at h
            · rename_i hl
              simp only [Option.some.injEq] at h; subst h
              simp [ih hl]
            · simp at h
        rw [h3 h2] at this
        simpa using this
      subst e1; subst e2
      cases hns : ns with
      | nil =>
        subst hns
        simp only [List.length_nil] at hlen
        rw [hlen]
        exact ⟨_, bytesToString_run (ns := []) (.inl rfl), Rs.of_str _⟩
      | cons n0 ns0 =>
        rw [← hns]
        have hsh : sh.size = 1 := by
          have := row_length g4
          rw [List.length_map, hlen] at this
          have hp : 0 < ns.length := by rw [hns]; simp
          exact Nat.eq_of_mul_eq_mul_left hp (by omega)
        rw [hlen]
        refine ⟨_, bytesToString_run (.inr ⟨b, o, rfl, ?_⟩), Rs.of_str _⟩
        rw [hsh, Nat.mul_one, hlen] at g4
        exact g4
theorem stringToBytes_run {e : TypeId} {s : ByteArray} (w : World) : ∃ cap k f, s.size ≤ cap ∧ (∀ o, o < cap → ¬ (f.1 ≤ o ∧ o < f.2)) ∧ (Conv.stringToBytes e s).run P w =
    .ok (.slice (some ⟨w.heap.size, 0, none⟩) s.size cap) { w with heap := w.heap.push (.cells ((s.data.map fun b => Value.int .u8 b.toNat) ++ Array.replicate (cap - s.size) (.int .u8 0)) e f), drawn := k } := by
  have hcut : s.size ≤ (Question.appendCap s.size 0 e).cut (w.tape w.drawn (.appendCap s.size 0 e)) := by simp only [Question.cut]; omega
  refine ⟨(Question.appendCap s.size 0 e).cut (w.tape w.drawn (.appendCap s.size 0 e)), w.drawn + 1, ((Question.appendCap s.size 0 e).cut (w.tape w.drawn (.appendCap s.size 0 e)), (Question.appendCap s.size 0 e).cut (w.tape w.drawn (.appendCap s.size 0 e)) + 1), hcut, ?_, ?_⟩
  · intro o ho h; simp only at h; omega
  · unfold Conv.stringToBytes
    simp only [Sem.run_bind, choose, Sem.run, Question.forced, Bool.false_eq_true, if_false, Result.andThen, newRow_run]
    generalize (Question.appendCap s.size 0 e).cut (w.tape w.drawn (.appendCap s.size 0 e)) = cap at hcut ⊢
    unfold markStringish
    have hsz : ((s.data.map fun b => Value.int .u8 b.toNat) ++ Array.replicate (cap - s.size) (Value.int .u8 0)).size = cap := by
      simp only [Array.size_append, Array.size_map, Array.size_replicate]
      have : s.data.size = s.size := rfl
      omega
    have hshape : ({ w with heap := w.heap.push (.cells ((s.data.map fun b => Value.int .u8 b.toNat) ++ Array.replicate (cap - s.size) (.int .u8 0)) e), drawn := w.drawn + 1 } : World).shape? w.heap.size = some (e, cap) := by
      simp only [World.shape?, Array.getElem?_push_size, hsz]
    simp only [Sem.run_bind, Go.shape, Sem.run, hshape, Result.andThen, Go.freeze, Sem.run_pure, World.freeze, Nat.add_one_ne_zero, if_false]
    congr 2
    rw [modify_eq_set _ _ (.cells ((s.data.map fun b => Value.int .u8 b.toNat) ++ Array.replicate (cap - s.size) (.int .u8 0)) e (0, 0)) _ (by simp)]
    apply Array.ext_getElem?
    intro j
    rw [Array.getElem?_setIfInBounds, Array.getElem?_push, Array.getElem?_push]
    split
    · rename_i h; subst h; simp
    · rename_i h; rw [if_neg (fun h' => h h'.symm), if_neg (fun h' => h h'.symm)]
end
end Go.AX
