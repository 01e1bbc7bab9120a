import Derived.Test.YtdmmobjegfhneaaAx15
/- AX, part 19: one operation is sound, continued: addresses, parts, slices, function values. -/
namespace Go.AX
variable {bg : Bg}
section
variable {P : Program} {E : Env} {w : World} {S : Nat → Prop} {m : List (Option Nat)} {σ : Store} {fr : Frame'} {a : Act}
theorem op_makeFunc (hs : Sit bg w S m σ fr a) {o : Oper} {f : Fn} {x y : Array Operand} (hop : o.op = .makeFunc f x y) {K : AV → Store → Option Res} {r : Res} {next : Act → World → Prop} {Q : Exit → Act → World → Prop} (hn : Nexts P w S m σ o a K r next)
    (h : opK0 E fr o σ K = some r) : OWp P o a w next Q := by
  unfold opK0 at h
  rw [hop] at h
  simp only [Option.bind_eq_some_iff] at h
  obtain ⟨vx, hx, vy, hy, h⟩ := h
  obtain ⟨hc, h⟩ := cond_some h
  simp only [Bool.and_eq_true] at hc
  have h1 := rvVs_of (evs_sound hs hx) hc.1
  have h2 := rvVs_of (evs_sound hs hy) hc.2
  refine pure_op hs.inv hn (val := .func f (x.map a.eval) (y.map a.eval)) ?_ ?_ h
  · unfold execOp
    rw [hop]
    rfl
  · unfold oFn
    split
    · rename_i dx dy h3 h4
      refine ⟨rfl, ?_⟩
      show Rv w S _ _ [_]
      rw [Rv, Rd]
      exact ⟨_, _, rfl, by simpa using toDVs_sound h3 h1, by simpa using toDVs_sound h4 h2⟩
    · refine ⟨rfl, ?_⟩
      show Rv w S _ _ [_]
      rw [Rv]
      exact ⟨_, _, rfl, by simpa using h1, by simpa using h2⟩
theorem op_makeSlice (hE : EnvOk bg P E) (hs : Sit bg w S m σ fr a) {o : Oper} {t : TypeId} {x y : Operand} (hop : o.op = .makeSlice t x y) {K : AV → Store → Option Res} {r : Res} {next : Act → World → Prop} {Q : Exit → Act → World → Prop} (hn : Nexts P w S m σ o a K r next)
    (h : opK0 E fr o σ K = some r) : OWp P o a w next Q := by
  unfold opK0 at h
  rw [hop] at h
  simp only [Option.bind_eq_some_iff] at h
  obtain ⟨vx, hx, vy, hy, h⟩ := h
  obtain ⟨hk, h⟩ := cond_some h
  split at h
  · rename_i I hI
    split at h
    · rename_i e hty
      split at h
      · rename_i J hJ
        obtain ⟨v, σ', h1, h2⟩ := bind2_some h
        obtain ⟨vz, w', m', g1, g2, g3⟩ := oMake_sound hE.tab (tyOk hE.tab hI hk) hty hJ hs.inv h1 (ev_sound hs hx) (ev_sound hs hy)
        refine wp_value ?_ (hn _ _ _ _ _ _ g2 g3 h2)
        unfold execOp
        rw [hop]
        exact vrun g1
      · simp at h
    · simp at h
  · simp at h
theorem op_fieldAddr (hE : EnvOk bg P E) (hs : Sit bg w S m σ fr a) {o : Oper} {t : TypeId} {x : Operand} {f : Nat} (hop : o.op = .fieldAddr t x f) {K : AV → Store → Option Res} {r : Res} {next : Act → World → Prop} {Q : Exit → Act → World → Prop} (hn : Nexts P w S m σ o a K r next)
    (h : opK0 E fr o σ K = some r) : OWp P o a w next Q := by
  unfold opK0 at h
  rw [hop] at h
  simp only [Option.bind_eq_some_iff] at h
  obtain ⟨vx, hx, h⟩ := h
  obtain ⟨hk, h⟩ := cond_some h
  split at h
  · rename_i I hI
    split at h
    · rename_i fs l hty hsh
      split at h
      · rename_i s hl
        obtain ⟨v, h1, h2⟩ := one_some h
        obtain ⟨vz, g1, g2⟩ := oFieldAddr_sound hE.tab (tyOk hE.tab hI hk) hty hsh hl h1 (ev_sound hs hx)
        refine pure_op hs.inv hn ?_ g2 h2
        unfold execOp
        rw [hop]
        exact vrun g1
      · simp at h
    · simp at h
  · simp at h
theorem op_field (hE : EnvOk bg P E) (hs : Sit bg w S m σ fr a) {o : Oper} {t : TypeId} {x : Operand} {f : Nat} (hop : o.op = .field t x f) {K : AV → Store → Option Res} {r : Res} {next : Act → World → Prop} {Q : Exit → Act → World → Prop} (hn : Nexts P w S m σ o a K r next)
    (h : opK0 E fr o σ K = some r) : OWp P o a w next Q := by
  unfold opK0 at h
  rw [hop] at h
  simp only [Option.bind_eq_some_iff] at h
  obtain ⟨vx, hx, h⟩ := h
  obtain ⟨hk, h⟩ := cond_some h
  split at h
  · rename_i I hI
    split at h
    · rename_i fs hty
      obtain ⟨hc, h⟩ := cond_some h
      obtain ⟨v, h1, h2⟩ := one_some h
      obtain ⟨vz, g1, g2⟩ := oField_sound hE.tab (tyOk hE.tab hI hk) hty (Sh.eq_of_eqb hc) h1 (ev_sound hs hx)
      refine pure_op hs.inv hn ?_ g2 h2
      unfold execOp
      rw [hop]
      exact vrun g1
    · simp at h
  · simp at h
theorem op_indexAddr (hE : EnvOk bg P E) (hs : Sit bg w S m σ fr a) {o : Oper} {t : TypeId} {x y : Operand} (hop : o.op = .indexAddr t x y) {K : AV → Store → Option Res} {r : Res} {next : Act → World → Prop} {Q : Exit → Act → World → Prop} (hn : Nexts P w S m σ o a K r next)
    (h : opK0 E fr o σ K = some r) : OWp P o a w next Q := by
  unfold opK0 at h
  rw [hop] at h
  simp only [Option.bind_eq_some_iff] at h
  obtain ⟨vx, hx, vy, hy, h⟩ := h
  obtain ⟨hk, h⟩ := cond_some h
  split at h
  · rename_i I hI
    split at h
    · rename_i e hty
      simp only [Option.bind_eq_some_iff] at h
      obtain ⟨s, hsh, h⟩ := h
      unfold Tab.sh at hsh
      simp only [Option.map_eq_some_iff] at hsh
      obtain ⟨J, hJ, rfl⟩ := hsh
      obtain ⟨v, h1, h2⟩ := one_some h
      obtain ⟨vz, g1, g2⟩ := oIndexAddr_sound hE.tab (tyOk hE.tab hI hk) hty hJ h1 (ev_sound hs hx) (ev_sound hs hy)
      refine pure_op hs.inv hn ?_ g2 h2
      unfold execOp
      rw [hop]
      exact vrun g1
    · rename_i n e hty
      simp only [Option.bind_eq_some_iff] at h
      obtain ⟨s, hsh, h⟩ := h
      unfold Tab.sh at hsh
      simp only [Option.map_eq_some_iff] at hsh
      obtain ⟨J, hJ, rfl⟩ := hsh
      obtain ⟨v, h1, h2⟩ := one_some h
      obtain ⟨vz, g1, g2⟩ := oIndexAddrA_sound hE.tab (tyOk hE.tab hI hk) hty hJ h1 (ev_sound hs hx) (ev_sound hs hy)
      refine pure_op hs.inv hn ?_ g2 h2
      unfold execOp
      rw [hop]
      exact vrun g1
    · simp at h
  · simp at h
theorem op_index (hE : EnvOk bg P E) (hs : Sit bg w S m σ fr a) {o : Oper} {t : TypeId} {x y : Operand} (hop : o.op = .index t x y) {K : AV → Store → Option Res} {r : Res} {next : Act → World → Prop} {Q : Exit → Act → World → Prop} (hn : Nexts P w S m σ o a K r next)
    (h : opK0 E fr o σ K = some r) : OWp P o a w next Q := by
  unfold opK0 at h
  rw [hop] at h
  simp only [Option.bind_eq_some_iff] at h
  obtain ⟨vx, hx, vy, hy, h⟩ := h
  obtain ⟨hk, h⟩ := cond_some h
  split at h
  · rename_i I hI
    split at h
    · rename_i hty
      obtain ⟨v, h1, h2⟩ := one_some h
      obtain ⟨vz, g1, g2⟩ := oIndexS_sound ((tyOk hE.tab hI hk).str hty) h1 (ev_sound hs hx) (ev_sound hs hy)
      refine pure_op hs.inv hn ?_ g2 h2
      unfold execOp
      rw [hop]
      exact vrun g1
    · rename_i n e hty
      obtain ⟨hc, h⟩ := cond_some h
      obtain ⟨v, h1, h2⟩ := one_some h
      obtain ⟨vz, g1, g2⟩ := oIndexA_sound hE.tab (tyOk hE.tab hI hk) hty (Sh.eq_of_eqb hc) h1 (ev_sound hs hx) (ev_sound hs hy)
      refine pure_op hs.inv hn ?_ g2 h2
      unfold execOp
      rw [hop]
      exact vrun g1
    · simp at h
  · simp at h
theorem rvVs_get {T : Nat → Option Ent} : ∀ {vs : List AV} {us : List Value} {i : Nat} {v : AV}, RvVs w S T vs us → vs[i]? = some v → ∃ u, us[i]? = some u ∧ Rs w S T v u
  | [], _, _, _, _, h => by simp at h
  | x :: vs, us, 0, v, hr, h => by
    simp at h; subst h
    rw [RvVs] at hr
    obtain ⟨u, us', rfl, h0, h1, _⟩ := hr
    exact ⟨u, rfl, Rs.of h0 h1⟩
  | x :: vs, us, i + 1, v, hr, h => by
    simp at h
    rw [RvVs] at hr
    obtain ⟨u, us', rfl, h0, h1, h2⟩ := hr
    simpa using rvVs_get h2 h
theorem op_extract (hs : Sit bg w S m σ fr a) {o : Oper} {x : Operand} {i : Nat} (hop : o.op = .extract x i) {K : AV → Store → Option Res} {r : Res} {next : Act → World → Prop} {Q : Exit → Act → World → Prop} (hn : Nexts P w S m σ o a K r next)
    (h : opK0 E fr o σ K = some r) : OWp P o a w next Q := by
  unfold opK0 at h
  rw [hop] at h
  simp only [Option.bind_eq_some_iff] at h
  obtain ⟨vx, hx, h⟩ := h
  obtain ⟨v, h1, h2⟩ := one_some h
  have hr := ev_sound hs hx
  unfold oExtract at h1
  split at h1
  · rename_i vs
    obtain ⟨l, h3, h4⟩ := hr
    obtain ⟨u, h5, h6⟩ := rvVs_get h4 h1
    refine pure_op hs.inv hn (val := u) ?_ h6 h2
    unfold execOp
    rw [hop]
    refine vrun ?_
    simp only [h3, Instr.extract]
    rw [Array.getElem?_toList] at h5
    rw [h5]
    rfl
  · simp at h1
theorem oSliceA_sound {tab : Tab} {t : TypeId} {I J : TyI} (hP : tabOk P tab 0 tab = true) (hI : TyOk P tab t I) {e N : Nat} (hty : I.ty = .arr N e) (hJ : tab[e]? = some J) {x v : AV} {vx : Value} {lo hi : Option AV} {ul uh : Option Value}
    (hinv : Inv w S m σ) (h : oSliceA J.sh N x lo hi σ = some v) (hx : Rs w S (tbl m σ) x vx) (hl : BndOk w S (tbl m σ) lo ul) (hh : BndOk w S (tbl m σ) hi uh) :
    ∃ vz, (Instr.sliceAt t vx ul uh none).run P w = .ok vz w ∧ Rs w S (tbl m σ) v vz := by
  obtain ⟨hu, J', hJ', hsh, hsz, hkn⟩ := hI.array hty
  rw [hJ] at hJ'; simp only [Option.some.injEq] at hJ'; subst hJ'
  obtain ⟨i, b1, b3, _⟩ := TyOk.of_tab hP hJ hkn
  have hrun : ∀ (ad : Addr) (l h : Nat), (∀ w, (Instr.sliceBounds false N N ul uh none).run P w = .ok (l, h, N) w) → (Instr.sliceAt t (.pointer (some ad)) ul uh none).run P w =
      .ok (.slice (some (if N = l then ad else ad.add (l * J.sh.size))) (h - l) (N - l)) w := by
    intro ad l h hb
    unfold Instr.sliceAt
    simp only [Sem.run_bind, underlying_run hu, Result.andThen, sureAddr_run, hb, sizeOf_run b1, Sem.run_pure, b3]
  cases x with
  | ptr s id n p =>
    simp only [oSliceA, Option.bind_eq_some_iff] at h
    obtain ⟨h', hbh, l, hbl, h⟩ := h
    have hcs := cond_some h; clear h; obtain ⟨hc, h⟩ := hcs
    simp only [Bool.and_eq_true, decide_eq_true_eq] at hc
    obtain ⟨⟨c1, c2⟩, c3⟩ := hc
    have c1 := Sh.eq_of_eqb c1
    subst c1
    split at h
    · rename_i B hB
      have hcs := cond_some h; clear h; obtain ⟨hc, h⟩ := hcs
      simp only [Bool.and_eq_true, Bool.not_eq_true'] at hc
      obtain ⟨⟨⟨d1, d2⟩, d3⟩, hps⟩ := hc
      have d1 := Nat.eq_of_beq_eq_true d1
      subst d1
      simp only [Option.some.injEq] at h
      subst h
      obtain ⟨nv, hnv⟩ := Option.isSome_iff_exists.1 d3
      have hx' := hx
      obtain ⟨b, o, c, t', f, rfl, hm, l1, l2, l3, _, _, l4, l5⟩ := ptr_place hinv hps hB hx
      obtain ⟨k1, k2, k3⟩ := nav_place l4 l5 d2 hnv l3 l2
      have hb := fun w => sliceBounds_run (P := P) (isS := false) (len := N) (cap := N) (bound_sound hbl hl) (bound_sound hbh hh) c2 c3 (Nat.le_refl _) w
      refine ⟨_, hrun _ l h' hb, rfl, ?_⟩
      show Rv w S _ _ [_]
      rw [Rv]
      refine ⟨_, _, _, rfl, ⟨by omega, .inr rfl⟩, tbl_some hm hB, Nat.le_refl _, fun _ => ⟨N, l2, by omega, ?_, o, c, t', f, l3, ?_, l1, ?_⟩⟩
      · simp only [d2, cond_false]; omega
      · by_cases hz : N = l
        · left; omega
        · right; rw [if_neg hz, addr_add]
      · rw [Sh.size] at k2
        have : l + (N - l) = N := by omega
        rw [this]; exact k2
    · simp at h
  | dat d =>
   cases d with
   | vptr s d =>
    cases d with
    | arr s' ds =>
    simp only [oSliceA, Option.bind_eq_some_iff] at h
    obtain ⟨h', hbh, l, hbl, h⟩ := h
    have hcs := cond_some h; clear h; obtain ⟨hc, h⟩ := hcs
    simp only [Bool.and_eq_true, decide_eq_true_eq] at hc
    obtain ⟨⟨c1, c2⟩, c3⟩ := hc
    have c1 := Sh.eq_of_eqb c1
    subst c1
    simp only [Option.some.injEq] at h
    subst h
    obtain ⟨b, o, r, rfl, g4, g5, g6, g7⟩ := hx.vptr
    rw [D.shape] at g5
    simp only [Sh.arr.injEq] at g5
    obtain ⟨hs', hdl⟩ := g5
    rw [Rd, hs'] at g7
    have hb := fun w => sliceBounds_run (P := P) (isS := false) (len := N) (cap := N) (bound_sound hbl hl) (bound_sound hbh hh) c2 c3 (Nat.le_refl _) w
    refine ⟨_, hrun _ l h' hb, ?_⟩
    have hsl : (seg ds l (h' - l)).length = h' - l := seg_length (by omega)
    have hz := Rs.of_slc (T := tbl m σ) (sh := J.sh) (ds := seg ds l (h' - l)) (a := some (if N = l then (⟨b, o, none⟩ : Addr) else (⟨b, o, none⟩ : Addr).add (l * J.sh.size))) (cap := N - l) (w := w) (S := S) (by omega) (seg_all g7.2) (by
      by_cases hz : h' - l = 0
      · left; exact List.eq_nil_of_length_eq_zero (by omega)
      · right
        have g6' : row w b o (ds.length * J.sh.size) = some r := by rw [hdl]; exact g6
        obtain ⟨r', k1, k2⟩ := seg_row (l := l) (n := h' - l) g6' g7.1 g7.2 (by omega)
        rw [if_neg (by omega)]
        exact ⟨b, _, r', by rw [addr_add], g4, k1, k2⟩)
    rw [hsl] at hz
    exact hz
    | _ => simp [oSliceA] at h
   | _ => simp [oSliceA] at h
  | _ => simp [oSliceA] at h
theorem fitsSlc_spec {tab : Tab} {e : TypeId} {x : AV} (h : fitsSlc tab e x = true) : ∃ J, tab[e]? = some J ∧ slcSh x = some J.sh := by
  unfold fitsSlc at h
  split at h
  · rename_i s s' h1 h2
    unfold Tab.sh at h2
    simp only [Option.map_eq_some_iff] at h2
    obtain ⟨J, hJ, rfl⟩ := h2
    exact ⟨J, hJ, by rw [h1, Sh.eq_of_eqb h]⟩
  · simp at h
theorem bnd_of (hs : Sit bg w S m σ fr a) {x : Option Operand} {v : Option AV} (h : (match x with | none => some none | some l => (ev E.tab fr 0 l).map some) = some v) : BndOk w S (tbl m σ) v (x.map a.eval) := by
  cases x with
  | none => simp only [Option.some.injEq] at h; subst h; trivial
  | some l =>
    simp only [Option.map_eq_some_iff] at h
    obtain ⟨y, hy, rfl⟩ := h
    exact ev_sound hs hy
theorem op_slice (hE : EnvOk bg P E) (hs : Sit bg w S m σ fr a) {o : Oper} {t : TypeId} {x : Operand} {lo hi mx : Option Operand} (hop : o.op = .slice t x lo hi mx) {K : AV → Store → Option Res} {r : Res} {next : Act → World → Prop} {Q : Exit → Act → World → Prop} (hn : Nexts P w S m σ o a K r next)
    (h : opK0 E fr o σ K = some r) : OWp P o a w next Q := by
  unfold opK0 at h
  rw [hop] at h
  simp only [Option.bind_eq_some_iff] at h
  obtain ⟨vx, hx, vlo, hlo, vhi, hhi, h⟩ := h
  obtain ⟨hk, h⟩ := cond_some h
  have rlo := bnd_of hs hlo
  have rhi := bnd_of hs hhi
  have fin : ∀ v, (∃ vz, (Instr.sliceAt t (a.eval x) (lo.map a.eval) (hi.map a.eval) (mx.map a.eval)).run P w = .ok vz w ∧ Rs w S (tbl m σ) v vz) → K v σ = some r → OWp P o a w next Q := by
    rintro v ⟨vz, g1, g2⟩ hk
    refine pure_op hs.inv hn ?_ g2 hk
    unfold execOp
    rw [hop]
    exact vrun g1
  split at h
  · rename_i I hI
    have hIok := tyOk hE.tab hI hk
    cases mx with
    | none =>
      cases hty : I.ty with
      | arr n e =>
        rw [hty] at h
        simp only [Option.bind_eq_some_iff] at h
        obtain ⟨s, hsh, h⟩ := h
        unfold Tab.sh at hsh
        simp only [Option.map_eq_some_iff] at hsh
        obtain ⟨J, hJ, rfl⟩ := hsh
        obtain ⟨v, h1, h2⟩ := one_some h
        exact fin v (oSliceA_sound hE.tab hIok hty hJ hs.inv h1 (ev_sound hs hx) rlo rhi) h2
      | slc e =>
        rw [hty] at h
        obtain ⟨hc, h⟩ := cond_some h
        obtain ⟨J, hJ, hsl⟩ := fitsSlc_spec hc
        obtain ⟨v, h1, h2⟩ := one_some h
        exact fin v (oSlice_sound hE.tab hIok hty hJ hsl h1 (ev_sound hs hx) rlo rhi) h2
      | str =>
        rw [hty] at h
        obtain ⟨hc, h⟩ := cond_some h
        obtain ⟨v, h1, h2⟩ := one_some h
        refine fin v (oSliceStr_sound (hIok.str hty) ?_ h1 (ev_sound hs hx) rlo rhi) h2
        unfold isStr at hc
        split at hc
        · rfl
        · simp at hc
      | _ => rw [hty] at h; simp at h
    | some mm =>
      cases hty : I.ty with
      | slc e =>
        rw [hty] at h
        simp only [Option.bind_eq_some_iff] at h
        obtain ⟨vm, hm, h⟩ := h
        cases vhi with
        | none => simp at h
        | some vh =>
          simp only [Option.bind_eq_some_iff] at h
          obtain ⟨ih, h3, im, h4, h⟩ := h
          have hcs := cond_some h; clear h; obtain ⟨hc, h⟩ := hcs
          simp only [Bool.and_eq_true, decide_eq_true_eq] at hc
          obtain ⟨hc1, hc2⟩ := hc
          subst hc2
          obtain ⟨J, hJ, hsl⟩ := fitsSlc_spec hc1
          obtain ⟨v, h1, h2⟩ := one_some h
          cases hi with
          | none => simp at hhi
          | some oh => exact fin v (oSlice3_sound hE.tab hIok hty hJ hsl h1 (ev_sound hs hx) rlo rhi (ev_sound hs hm) h3 h4) h2
      | _ => rw [hty] at h; simp at h
  · simp at h
end
end Go.AX
