import Derived.Test.YtniombjfbdojjaaDoorAx13
/- AX, part 19: one operation is sound, continued: addresses, parts, slices, function values. -/
namespace Go.AX
variable {bg : Bg}
section
variable {P : Program} {E : Env} {w : World} {S : Nat → Prop} {m : List (Option Nat)} {σ : Store} {fr : Frame'} {a : Act}
theorem op_makeFunc (hs : Sit bg w S m σ fr a) {o : Oper} {f : Fn} {x y : Array Operand} (hop : o.op = .makeFunc f x y) {K : AV → Store → Option Res} {r : Res} {next : Act → World → Prop} {Q : Exit → Act → World → Prop} (hn : Nexts P w S m σ o a K r next)
    (h : opK0 E fr o σ K = some r) : OWp P o a w next Q := by
  unfold opK0 at h
  rw [hop] at h
  simp only [Option.bind_eq_some_iff] at h
  obtain ⟨vx, hx, vy, hy, h⟩ := h
  obtain ⟨hc, h⟩ := cond_some h
  simp only [Bool.and_eq_true] at hc
  have h1 := rvVs_of (evs_sound hs hx) hc.1
  have h2 := rvVs_of (evs_sound hs hy) hc.2
  refine pure_op hs.inv hn (val := .func f (x.map a.eval) (y.map a.eval)) ?_ ?_ h
  · unfold execOp
    rw [hop]
    rfl
  · unfold oFn
    split
    · rename_i dx dy h3 h4
      refine ⟨rfl, ?_⟩
      show Rv w S _ _ [_]
      rw [Rv, Rd]
      exact ⟨_, _, rfl, by simpa using toDVs_sound h3 h1, by simpa using toDVs_sound h4 h2⟩
    · refine ⟨rfl, ?_⟩
      show Rv w S _ _ [_]
      rw [Rv]
      exact ⟨_, _, rfl, by simpa using h1, by simpa using h2⟩
theorem op_makeSlice (hE : EnvOk bg P E) (hs : Sit bg w S m σ fr a) {o : Oper} {t : TypeId} {x y : Operand} (hop : o.op = .makeSlice t x y) {K : AV → Store → Option Res} {r : Res} {next : Act → World → Prop} {Q : Exit → Act → World → Prop} (hn : Nexts P w S m σ o a K r next)
    (h : opK0 E fr o σ K = some r) : OWp P o a w next Q := by
  unfold opK0 at h
  rw [hop] at h
  simp only [Option.bind_eq_some_iff] at h
  obtain ⟨vx, hx, vy, hy, h⟩ := h
  obtain ⟨hk, h⟩ := cond_some h
  split at h
  · rename_i I hI
    split at h
    · rename_i e hty
      split at h
      · rename_i J hJ
        obtain ⟨v, σ', h1, h2⟩ := bind2_some h
        obtain ⟨vz, w', m', g1, g2, g3⟩ := oMake_sound hE.tab (tyOk hE.tab hI hk) hty hJ hs.inv h1 (ev_sound hs hx) (ev_sound hs hy)
        refine wp_value ?_ (hn _ _ _ _ _ _ g2 g3 h2)
        unfold execOp
        rw [hop]
        exact vrun g1
      · simp at h
    · simp at h
  · simp at h
theorem op_fieldAddr (hE : EnvOk bg P E) (hs : Sit bg w S m σ fr a) {o : Oper} {t : TypeId} {x : Operand} {f : Nat} (hop : o.op = .fieldAddr t x f) {K : AV → Store → Option Res} {r : Res} {next : Act → World → Prop} {Q : Exit → Act → World → Prop} (hn : Nexts P w S m σ o a K r next)
    (h : opK0 E fr o σ K = some r) : OWp P o a w next Q := by
  unfold opK0 at h
  rw [hop] at h
  simp only [Option.bind_eq_some_iff] at h
  obtain ⟨vx, hx, h⟩ := h
  obtain ⟨hk, h⟩ := cond_some h
  split at h
  · rename_i I hI
    split at h
    · rename_i fs l hty hsh
      split at h
      · rename_i s hl
        obtain ⟨v, h1, h2⟩ := one_some h
        obtain ⟨vz, g1, g2⟩ := oFieldAddr_sound hE.tab (tyOk hE.tab hI hk) hty hsh hl h1 (ev_sound hs hx)
        refine pure_op hs.inv hn ?_ g2 h2
        unfold execOp
        rw [hop]
        exact vrun g1
      · simp at h
    · simp at h
  · simp at h
theorem op_field (hE : EnvOk bg P E) (hs : Sit bg w S m σ fr a) {o : Oper} {t : TypeId} {x : Operand} {f : Nat} (hop : o.op = .field t x f) {K : AV → Store → Option Res} {r : Res} {next : Act → World → Prop} {Q : Exit → Act → World → Prop} (hn : Nexts P w S m σ o a K r next)
    (h : opK0 E fr o σ K = some r) : OWp P o a w next Q := by
  unfold opK0 at h
  rw [hop] at h
  simp only [Option.bind_eq_some_iff] at h
  obtain ⟨vx, hx, h⟩ := h
  obtain ⟨hk, h⟩ := cond_some h
  split at h
  · rename_i I hI
    split at h
    · rename_i fs hty
      obtain ⟨hc, h⟩ := cond_some h
      obtain ⟨v, h1, h2⟩ := one_some h
      obtain ⟨vz, g1, g2⟩ := oField_sound hE.tab (tyOk hE.tab hI hk) hty (Sh.eq_of_eqb hc) h1 (ev_sound hs hx)
      refine pure_op hs.inv hn ?_ g2 h2
      unfold execOp
      rw [hop]
      exact vrun g1
    · simp at h
  · simp at h
theorem op_indexAddr (hE : EnvOk bg P E) (hs : Sit bg w S m σ fr a) {o : Oper} {t : TypeId} {x y : Operand} (hop : o.op = .indexAddr t x y) {K : AV → Store → Option Res} {r : Res} {next : Act → World → Prop} {Q : Exit → Act → World → Prop} (hn : Nexts P w S m σ o a K r next)
    (h : opK0 E fr o σ K = some r) : OWp P o a w next Q := by
  unfold opK0 at h
  rw [hop] at h
  simp only [Option.bind_eq_some_iff] at h
  obtain ⟨vx, hx, vy, hy, h⟩ := h
  obtain ⟨hk, h⟩ := cond_some h
  split at h
  · rename_i I hI
    split at h
    · rename_i e hty
      simp only [Option.bind_eq_some_iff] at h
      obtain ⟨s, hsh, h⟩ := h
      unfold Tab.sh at hsh
      simp only [Option.map_eq_some_iff] at hsh
      obtain ⟨J, hJ, rfl⟩ := hsh
      obtain ⟨v, h1, h2⟩ := one_some h
      obtain ⟨vz, g1, g2⟩ := oIndexAddr_sound hE.tab (tyOk hE.tab hI hk) hty hJ h1 (ev_sound hs hx) (ev_sound hs hy)
      refine pure_op hs.inv hn ?_ g2 h2
      unfold execOp
      rw [hop]
      exact vrun g1
    · rename_i n e hty
      simp only [Option.bind_eq_some_iff] at h
      obtain ⟨s, hsh, h⟩ := h
      unfold Tab.sh at hsh
      simp only [Option.map_eq_some_iff] at hsh
      obtain ⟨J, hJ, rfl⟩ := hsh
      obtain ⟨v, h1, h2⟩ := one_some h
      obtain ⟨vz, g1, g2⟩ := oIndexAddrA_sound hE.tab (tyOk hE.tab hI hk) hty hJ h1 (ev_sound hs hx) (ev_sound hs hy)
      refine pure_op hs.inv hn ?_ g2 h2
      unfold execOp
      rw [hop]
      exact vrun g1
    · simp at h
  · simp at h
theorem op_index (hE : EnvOk bg P E) (hs : Sit bg w S m σ fr a) {o : Oper} {t : TypeId} {x y : Operand} (hop : o.op = .index t x y) {K : AV → Store → Option Res} {r : Res} {next : Act → World → Prop} {Q : Exit → Act → World → Prop} (hn : Nexts P w S m σ o a K r next)
    (h : opK0 E fr o σ K = some r) : OWp P o a w next Q := by
  unfold opK0 at h
  rw [hop] at h
  simp only [Option.bind_eq_some_iff] at h
  obtain ⟨vx, hx, vy, hy, h⟩ := h
  obtain ⟨hk, h⟩ := cond_some h
  split at h
  · rename_i I hI
    split at h
    · rename_i hty
      obtain ⟨v, h1, h2⟩ := one_some h
      obtain ⟨vz, g1, g2⟩ := oIndexS_sound ((tyOk hE.tab hI hk).str hty) h1 (ev_sound hs hx) (ev_sound hs hy)
      refine pure_op hs.inv hn ?_ g2 h2
      unfold execOp
      rw [hop]
      exact vrun g1
    · rename_i n e hty
      obtain ⟨hc, h⟩ := cond_some h
      obtain ⟨v, h1, h2⟩ := one_some h
      obtain ⟨vz, g1, g2⟩ := oIndexA_sound hE.tab (tyOk hE.tab hI hk) hty (Sh.eq_of_eqb hc) h1 (ev_sound hs hx) (ev_sound hs hy)
      refine pure_op hs.inv hn ?_ g2 h2
      unfold execOp
      rw [hop]
      exact vrun g1
    · simp at h
  · simp at h
theorem rvVs_get {T : Nat → Option Ent} : ∀ {vs : List AV} {us : List Value} {i : Nat} {v : AV}, RvVs w S T vs us → vs[i]? = some v → ∃ u, us[i]? = some u ∧ Rs w S T v u
  | [], _, _, _, _, h => by simp at h
  | x :: vs, us, 0, v, hr, h => by
    simp at h; subst h
    rw [RvVs] at hr
    obtain ⟨u, us', rfl, h0, h1, _⟩ := hr
    exact ⟨u, rfl, Rs.of h0 h1⟩
  | x :: vs, us, i + 1, v, hr, h => by
    simp at h
    rw [RvVs] at hr
    obtain ⟨u, us', rfl, h0, h1, h2⟩ := hr
    simpa using rvVs_get h2 h
theorem op_extract (hs : Sit bg w S m σ fr a) {o : Oper} {x : Operand} {i : Nat} (hop : o.op = .extract x i) {K : AV → Store → Option Res} {r : Res} {next : Act → World → Prop} {Q : Exit → Act → World → Prop} (hn : Nexts P w S m σ o a K r next)
    (h : opK0 E fr o σ K = some r) : OWp P o a w next Q := by
  unfold opK0 at h
  rw [hop] at h
  simp only [Option.bind_eq_some_iff] at h
  obtain ⟨vx, hx, h⟩ := h
  obtain ⟨v, h1, h2⟩ := one_some h
  have hr := ev_sound hs hx
  unfold oExtract at h1
  split at h1
  · rename_i vs
    obtain ⟨l, h3, h4⟩ := hr
    obtain ⟨u, h5, h6⟩ := rvVs_get h4 h1
    refine pure_op hs.inv hn (val := u) ?_ h6 h2
    unfold execOp
    rw [hop]
    refine vrun ?_
    simp only [h3, Instr.extract]
    rw [Array.getElem?_toList] at h5
    rw [h5]
    rfl
  · simp at h1
theorem oSliceA_sound {tab : Tab} {t : TypeId} {I J : TyI} (hP : tabOk P tab 0 tab = true) (hI : TyOk P tab t I) {e N : Nat} (hty : I.ty = .arr N e) (hJ : tab[e]? = some J) {x v : AV} {vx : Value} {lo hi : Option AV} {ul uh : Option Value}
    (hinv : Inv w S m σ) (h : oSliceA J.sh N x lo hi σ = some v) (hx : Rs w S (tbl m σ) x vx) (hl : BndOk w S (tbl m σ) lo ul) (hh : BndOk w S (tbl m σ) hi uh) :
    ∃ vz, (Instr.sliceAt t vx ul uh none).run P w = .ok vz w ∧ Rs w S (tbl m σ) v vz := by
  obtain ⟨hu, J', hJ', hsh, hsz, hkn⟩ := hI.array hty
  rw [hJ] at hJ'; simp only [Option.some.injEq] at hJ'; subst hJ'
  obtain ⟨i, b1, b3, _⟩ := TyOk.of_tab hP hJ hkn
  have hrun : ∀ (ad : Addr) (l h : Nat), (∀ w, (Instr.sliceBounds false N N ul uh none).run P w = .ok (l, h, N) w) → (Instr.sliceAt t (.pointer (some ad)) ul uh none).run P w =
      .ok (.slice (some (if N = l then ad else ad.add (l * J.sh.size))) (h - l) (N - l)) w := by
    intro ad l h hb
    unfold Instr.sliceAt
    simp only [Sem.run_bind, underlying_run hu, Result.andThen, sureAddr_run, hb, sizeOf_run b1, Sem.run_pure, b3]
  cases x with
  | ptr s id n p =>
    simp only [oSliceA, Option.bind_eq_some_iff] at h
    obtain ⟨h', hbh, l, hbl, h⟩ := h
    have hcs := cond_some h; clear h; obtain ⟨hc, h⟩ := hcs
    simp only [Bool.and_eq_true, decide_eq_true_eq] at hc
    obtain ⟨⟨c1, c2⟩, c3⟩ := hc
    have c1 := Sh.eq_of_eqb c1
    subst c1
    split at h
    · rename_i B hB
      have hcs := cond_some h; clear h; obtain ⟨hc, h⟩ := hcs
      simp only [Bool.and_eq_true, Bool.not_eq_true'] at hc
      obtain ⟨⟨⟨d1, d2⟩, d3⟩, hps⟩ := hc
      have d1 := Nat.eq_of_beq_eq_true d1
      subst d1
      simp only [Option.some.injEq] at h
      subst h
      obtain ⟨nv, hnv⟩ := Option.isSome_iff_exists.1 d3
      have hx' := hx
      obtain ⟨b, o, c, t', f, rfl, hm, l1, l2, l3, _, _, l4, l5⟩ := ptr_place hinv hps hB hx
      obtain ⟨k1, k2, k3⟩ := nav_place l4 l5 d2 hnv l3 l2
      have hb := fun w => sliceBounds_run (P := P) (isS := false) (len := N) (cap := N) (bound_sound hbl hl) (bound_sound hbh hh) c2 c3 (Nat.le_refl _) w
      refine ⟨_, hrun _ l h' hb, rfl, ?_⟩
      show Rv w S _ _ [_]
      rw [Rv]
      refine ⟨_, _, _, rfl, ⟨by omega, .inr rfl⟩, tbl_some hm hB, Nat.le_refl _, fun _ => ⟨N, l2, by omega, ?_, o, c, t', f, l3, ?_, l1, ?_⟩⟩
      · simp only [d2, cond_false]; omega
      · by_cases hz : N = l
        · left; omega
        · right; rw [if_neg hz, addr_add]
      · rw [Sh.size] at k2
        have : l + (N - l) = N := by omega
        rw [this]; exact k2
    · simp at h
  | dat d =>
   cases d with
   | vptr s d =>
    cases d with
    | arr s' ds =>
    simp only [oSliceA, Option.bind_eq_some_iff] at h
    obtain ⟨h', hbh, l, hbl, h⟩ := h
    have hcs := cond_some h; clear h; obtain ⟨hc, h⟩ := hcs
    simp only [Bool.and_eq_true, decide_eq_true_eq] at hc
    obtain ⟨⟨c1, c2⟩, c3⟩ := hc
    have c1 := Sh.eq_of_eqb c1
    subst c1
    simp only [Option.some.injEq] at h
    subst h
    obtain ⟨b, o, r, rfl, g4, g5, g6, g7⟩ := hx.vptr
    rw [D.shape] at g5
    simp only [Sh.arr.injEq] at g5
    obtain ⟨hs', hdl⟩ := g5
    rw [Rd, hs'] at g7
    have hb := fun w => sliceBounds_run (P := P) (isS := false) (len := N) (cap := N) (bound_sound hbl hl) (bound_sound hbh hh) c2 c3 (Nat.le_refl _) w
    refine ⟨_, hrun _ l h' hb, ?_⟩
    have hsl : (seg ds l (h' - l)).length = h' - l := seg_length (by omega)
    have hz := Rs.of_slc (T := tbl m σ) (sh := J.sh) (ds := seg ds l (h' - l)) (a := some (if N = l then (⟨b, o, none⟩ : Addr) else (⟨b, o, none⟩ : Addr).add (l * J.sh.size))) (cap := N - l) (w := w) (S := S) (by omega) (seg_all g7.2) (by
      by_cases hz : h' - l = 0
      · left; exact List.eq_nil_of_length_eq_zero (by omega)
      · right
        have g6' : row w b o (ds.length * J.sh.size) = some r := by rw [hdl]; exact g6
        obtain ⟨r', k1, k2⟩ := seg_row (l := l) (n := h' - l) g6' g7.1 g7.2 (by omega)
        rw [if_neg (by omega)]
        exact ⟨b, _, r', by rw [addr_add], g4, k1, k2⟩)
    rw [hsl] at hz
    exact hz
    | _ => simp [oSliceA] at h
   | _ => simp [oSliceA] at h
  | _ => simp [oSliceA] at h
theorem fitsSlc_spec {tab : Tab} {e : TypeId} {x : AV} (h : fitsSlc tab e x = true) : ∃ J, tab[e]? = some J ∧ slcSh x = some J.sh := by
  unfold fitsSlc at h
  split at h
  · rename_i s s' h1 h2
    unfold Tab.sh at h2
    simp only [Option.map_eq_some_iff] at h2
    obtain ⟨J, hJ, rfl⟩ := h2
    exact ⟨J, hJ, by rw [h1, Sh.eq_of_eqb h]⟩
  · simp at h
theorem bnd_of (hs : Sit bg w S m σ fr a) {x : Option Operand} {v : Option AV} (h : (match x with | none => some none | some l => (ev E.tab fr 0 l).map some) = some v) : BndOk w S (tbl m σ) v (x.map a.eval) := by
  cases x with
  | none => simp only [Option.some.injEq] at h; subst h; trivial
  | some l =>
    simp only [Option.map_eq_some_iff] at h
    obtain ⟨y, hy, rfl⟩ := h
    exact ev_sound hs hy
theorem op_slice (hE : EnvOk bg P E) (hs : Sit bg w S m σ fr a) {o : Oper} {t : TypeId} {x : Operand} {lo hi mx : Option Operand} (hop : o.op = .slice t x lo hi mx) {K : AV → Store → Option Res} {r : Res} {next : Act → World → Prop} {Q : Exit → Act → World → Prop} (hn : Nexts P w S m σ o a K r next)
    (h : opK0 E fr o σ K = some r) : OWp P o a w next Q := by
  unfold opK0 at h
  rw [hop] at h
  simp only [Option.bind_eq_some_iff] at h
  obtain ⟨vx, hx, vlo, hlo, vhi, hhi, h⟩ := h
  obtain ⟨hk, h⟩ := cond_some h
  have rlo := bnd_of hs hlo
  have rhi := bnd_of hs hhi
  have fin : ∀ v, (∃ vz, (Instr.sliceAt t (a.eval x) (lo.map a.eval) (hi.map a.eval) (mx.map a.eval)).run P w = .ok vz w ∧ Rs w S (tbl m σ) v vz) → K v σ = some r → OWp P o a w next Q := by
    rintro v ⟨vz, g1, g2⟩ hk
    refine pure_op hs.inv hn ?_ g2 hk
    unfold execOp
    rw [hop]
    exact vrun g1
  split at h
  · rename_i I hI
    have hIok := tyOk hE.tab hI hk
    cases mx with
    | none =>
      cases hty : I.ty with
      | arr n e =>
        rw [hty] at h
        simp only [Option.bind_eq_some_iff] at h
        obtain ⟨s, hsh, h⟩ := h
        unfold Tab.sh at hsh
        simp only [Option.map_eq_some_iff] at hsh
        obtain ⟨J, hJ, rfl⟩ := hsh
        obtain ⟨v, h1, h2⟩ := one_some h
        exact fin v (oSliceA_sound hE.tab hIok hty hJ hs.inv h1 (ev_sound hs hx) rlo rhi) h2
      | slc e =>
        rw [hty] at h
        obtain ⟨hc, h⟩ := cond_some h
        obtain ⟨J, hJ, hsl⟩ := fitsSlc_spec hc
        obtain ⟨v, h1, h2⟩ := one_some h
        exact fin v (oSlice_sound hE.tab hIok hty hJ hsl h1 (ev_sound hs hx) rlo rhi) h2
      | str =>
        rw [hty] at h
        obtain ⟨hc, h⟩ := cond_some h
        obtain ⟨v, h1, h2⟩ := one_some h
        refine fin v (oSliceStr_sound (hIok.str hty) ?_ h1 (ev_sound hs hx) rlo rhi) h2
        unfold isStr at hc
        split at hc
        · rfl
        · simp at hc
      | _ => rw [hty] at h; simp at h
    | some mm =>
      cases hty : I.ty with
      | slc e =>
        rw [hty] at h
        simp only [Option.bind_eq_some_iff] at h
        obtain ⟨vm, hm, h⟩ := h
        cases vhi with
        | none => simp at h
        | some vh =>
          simp only [Option.bind_eq_some_iff] at h
          obtain ⟨ih, h3, im, h4, h⟩ := h
          have hcs := cond_some h; clear h; obtain ⟨hc, h⟩ := hcs
          simp only [Bool.and_eq_true, decide_eq_true_eq] at hc
          obtain ⟨hc1, hc2⟩ := hc
          subst hc2
          obtain ⟨J, hJ, hsl⟩ := fitsSlc_spec hc1
          obtain ⟨v, h1, h2⟩ := one_some h
          cases hi with
          | none => simp at hhi
          | some oh => exact fin v (oSlice3_sound hE.tab hIok hty hJ hsl h1 (ev_sound hs hx) rlo rhi (ev_sound hs hm) h3 h4) h2
      | _ => rw [hty] at h; simp at h
  · simp at h
end
end Go.AX

namespace Go.AX
variable {bg : Bg}
section
variable {P : Program} {E : Env} {w : World} {S : Nat → Prop} {m : List (Option Nat)} {σ : Store} {fr : Frame'} {a : Act}
theorem norm1_rv {T : Nat → Option Ent} {v : AV} {cs : List Value} (h : Rv w S T v cs) : Rv w S T (norm1 v) cs := by
  cases v with
  | fslc s ds =>
    show Rv w S T (.dat (.slc s ds)) cs
    rw [Rv] at h
    rw [Rv]
    exact h.1
  | _ => exact h
theorem norm1_shape (v : AV) : (norm1 v).shape = v.shape ∧ (norm1 v).aggB = v.aggB := by
  unfold norm1
  split <;> exact ⟨rfl, rfl⟩
theorem norm1_rs {T : Nat → Option Ent} {v : AV} {u : Value} (h : Rs w S T v u) : Rs w S T (norm1 v) u := by
  unfold norm1
  split
  · exact h.fslc.1
  · exact h
theorem norm1_rvL {T : Nat → Option Ent} : ∀ {vs : List AV} {cs : List Value}, RvL w S T vs cs → RvL w S T (vs.map norm1) cs
  | [], cs, h => by simpa [RvL] using h
  | v :: vs, cs, h => by
    rw [RvL] at h
    obtain ⟨c1, c2, rfl, h1, h2⟩ := h
    rw [List.map_cons, RvL]
    exact ⟨c1, c2, rfl, norm1_rv h1, norm1_rvL h2⟩
theorem norm1_shapeL (vs : List AV) : AV.shapeL (vs.map norm1) = AV.shapeL vs := by
  induction vs with
  | nil => rfl
  | cons v vs ih => simp only [List.map_cons, AV.shapeL, (norm1_shape v).1, ih]
theorem nrm_rs {T : Nat → Option Ent} {c : Bool} {v : AV} {u : Value} (h : Rs w S T v u) : Rs w S T (nrm c v) u := by
  cases c with
  | true => exact h
  | false => exact norm1_rs h
theorem nrm_rvL {T : Nat → Option Ent} {c : Bool} {vs : List AV} {cs : List Value} (h : RvL w S T vs cs) : RvL w S T (vs.map (nrm c)) cs := by
  cases c with
  | true => show RvL w S T (vs.map fun v => v) cs; rw [List.map_id']; exact h
  | false => exact norm1_rvL h
theorem nrm_shapeL (c : Bool) (vs : List AV) : AV.shapeL (vs.map (nrm c)) = AV.shapeL vs := by
  cases c with
  | true => show AV.shapeL (vs.map fun v => v) = _; rw [List.map_id']
  | false => exact norm1_shapeL vs
theorem pck_rs {T : Nat → Option Ent} {c : Bool} {vs : List AV} {cs : Array Value} (h : RvL w S T vs cs.toList) : Rs w S T (pck c vs) (.agg cs) := by
  cases c with
  | true =>
    refine ⟨rfl, ?_⟩
    show Rv w S T (.agg vs) cs.toList
    rw [Rv]; exact h
  | false => exact pack_rs h
theorem parts_spec {T : Nat → Option Ent} {v : AV} {vs : List AV} (h : v.parts = some vs) : v.shape = .agg (AV.shapeL vs) ∧ ∀ cs, Rv w S T v cs → RvL w S T vs cs := by
  unfold AV.parts at h
  split at h
  · simp only [Option.some.injEq] at h; subst h
    exact ⟨by rw [AV.shape], fun cs hc => by rwa [Rv] at hc⟩
  · simp only [Option.some.injEq] at h; subst h
    exact ⟨by rw [AV.shape, D.shape, AV.shapeL_dat], fun cs hc => by rw [Rv, Rd] at hc; exact RvL.of_dat hc⟩
  · simp at h
theorem mapList_run {α β : Type} {f : α → Sem β} {g : α → β} : ∀ {l : List α}, (∀ x ∈ l, ∀ w, (f x).run P w = .ok (g x) w) → ∀ w, (l.mapM f).run P w = .ok (l.map g) w
  | [], _, w => by simp
  | x :: l, h, w => by
    rw [List.mapM_cons]
    simp only [Sem.run_bind, h x (by simp), Result.andThen, mapList_run (fun y hy => h y (List.mem_cons_of_mem _ hy)), Sem.run_pure, List.map_cons]
theorem mapArr_run {α β : Type} {f : α → Sem β} {g : α → β} {l : Array α} (h : ∀ x ∈ l.toList, ∀ w, (f x).run P w = .ok (g x) w) (w : World) : (l.mapM f).run P w = .ok (l.map g) w := by
  rw [Array.mapM_eq_mapM_toList]
  simp only [Sem.run_map, mapList_run h, Result.andThen]
  congr 1
  rw [← Array.toList_inj]
  simp
theorem fieldsOk_all {tab : Tab} (hP : tabOk P tab 0 tab = true) : ∀ {fs : List (TypeId × Nat)} {gs : List Field} {l : List Sh} {at_ : Nat}, fieldsOk tab fs gs l at_ = true → ∀ f ∈ gs, ∃ i, P.info? f.type = some i
  | [], [], [], _, _, f, hf => by simp at hf
  | (ft, o) :: fs, g :: gs, s' :: l, at_, h, f, hf => by
    simp only [fieldsOk, Bool.and_eq_true, decide_eq_true_eq] at h
    obtain ⟨⟨⟨⟨⟨h1, h2⟩, h3⟩, h4⟩, h5⟩, h6⟩ := h
    rcases List.mem_cons.1 hf with hf | hf
    · subst hf
      split at h5
      · rename_i J hJ
        simp only [Bool.and_eq_true] at h5
        have hkn : known tab ft = true := by unfold known; rw [hJ]; exact h5.2
        obtain ⟨i, hi, _⟩ := TyOk.of_tab hP hJ hkn
        exact ⟨i, by rw [h1]; exact hi⟩
      · simp at h5
    · exact fieldsOk_all hP h6 f hf
  | [], [], _ :: _, _, h, _, _ => by simp [fieldsOk] at h
  | [], _ :: _, _, _, h, _, _ => by simp [fieldsOk] at h
  | _ :: _, [], _, _, h, _, _ => by simp [fieldsOk] at h
  | _ :: _, _ :: _, [], _, h, _, _ => by simp [fieldsOk] at h
theorem freezeP_sound {w : World} : ∀ {ps : List (Nat × AV)} {σ : Store} {S : Nat → Prop} {m : List (Option Nat)} {qs : List (Nat × D)} {σ' : Store} {us : List (Nat × Value)}, Inv w S m σ → freezeP ps σ = some (qs, σ') →
    F2 (fun (p : Nat × AV) (u : Nat × Value) => p.1 = u.1 ∧ Rs w S (tbl m σ) p.2 u.2) ps us →
    ∃ S', Stp w S m σ w S' m σ' ∧ F2 (fun (p : Nat × D) (u : Nat × Value) => p.1 = u.1 ∧ Rs w S' (tbl m σ') (.dat p.2) u.2) qs us
  | [], σ, S, m, qs, σ', _, hi, h, .nil => by
    simp only [freezeP, Option.some.injEq, Prod.mk.injEq] at h
    obtain ⟨rfl, rfl⟩ := h
    exact ⟨S, Stp.refl hi, .nil⟩
  | (i, v) :: ps, σ, S, m, qs, σ', _, hi, h, .cons (b := u) (k := us) hv ht => by
    simp only [freezeP, Option.bind_eq_some_iff, Option.map_eq_some_iff] at h
    obtain ⟨⟨r1, σ1⟩, h1, d, h2, ⟨q2, σ2⟩, h3, hq⟩ := h
    simp only [Prod.mk.injEq] at hq
    obtain ⟨rfl, rfl⟩ := hq
    obtain ⟨S1, s1, g1⟩ := freeze_sound hi h1 hv.2
    obtain ⟨S2, s2, g2⟩ := freezeP_sound s1.inv h3 (ht.mono fun _ _ hh => ⟨hh.1, s1.rs hh.2⟩)
    exact ⟨S2, s1.trans s2, .cons ⟨hv.1, s2.rs (toD_rs h2 g1)⟩ g2⟩
theorem op_build (hE : EnvOk bg P E) (hs : Sit bg w S m σ fr a) {o : Oper} {t : TypeId} {ps : Array (Nat × Operand)} (hop : o.op = .build t ps) {K : AV → Store → Option Res} {r : Res} {next : Act → World → Prop} {Q : Exit → Act → World → Prop} (hn : Nexts P w S m σ o a K r next)
    (h : opK0 E fr o σ K = some r) : OWp P o a w next Q := by
  unfold opK0 at h
  rw [hop] at h
  simp only at h
  cases hI : E.tab[t]? with
  | none => rw [hI] at h; simp at h
  | some I =>
    rw [hI] at h
    simp only at h
    cases hty : I.ty with
    | struct fs =>
      rw [hty] at h
      have hcs := cond_some h; clear h; obtain ⟨hk, h⟩ := hcs
      simp only [Option.bind_eq_some_iff] at h
      obtain ⟨zs, hzs, pvs, hpv, vs, hvs, h⟩ := h
      have hIok := tyOk hE.tab hI hk
      obtain ⟨l, hl⟩ := hIok.structSh hty
      obtain ⟨gs, hu, hok, _⟩ := hIok.struct hty hl
      obtain ⟨i, z, b1, b3, b4, b5, b6, b7, b8⟩ := zero_cells hE.tab hI hk
      obtain ⟨p1, p2⟩ := parts_spec (w := w) (S := S) (T := tbl m σ) hzs
      rw [b8, hl] at p1
      simp only [Sh.agg.injEq] at p1
      have hzr : z = .agg z.cells := by
        have h1 := (b7 w S (tbl m σ)).real (by cases hz : I.zero <;> simp [AV.parts, hz] at hzs <;> rfl)
        have : I.zero.aggB = true := by rw [AV.aggB_shape, b8, hl]; rfl
        rw [this] at h1
        cases z <;> simp [valAgg] at h1
        rfl
      have hzv := p2 z.cells.toList (by
        have := b7 w S (tbl m σ)
        exact (this.real (by cases hz : I.zero <;> simp [AV.parts, hz] at hzs <;> rfl)).2)
      have hplace : ∀ i s, l[i]? = some s → (gs.map fun f => (f.offset, ((P.info? f.type).map (·.size)).getD 0))[i]? = some (Sh.sizeL (l.take i), s.size) := by
        intro i s hs
        obtain ⟨ft, f, J, a1, a2, a3, a4, a5, a6, a7, a8⟩ := fieldsOk_get hok hs
        obtain ⟨i', c1, c2, _⟩ := TyOk.of_tab hE.tab a6 a8
        rw [Array.getElem?_map]
        have : gs[i]? = some f := by rw [← Array.getElem?_toList]; exact a2
        rw [this]
        simp only [Option.map_some, a3, c1, Option.getD_some, c2, a7, a4, Nat.zero_add]
      have hparts := evParts_sound hs hpv
      have hparts' : F2 (fun (p : Nat × AV) (u : Nat × Value) => p.1 = u.1 ∧ Rs w S (tbl m σ) p.2 u.2) (pvs.map fun p => (p.1, nrm (rawB E t) p.2)) (ps.toList.map fun p => (p.1, a.eval p.2)) := by
        clear hvs hpv
        revert hparts
        generalize (ps.toList.map fun p => (p.1, a.eval p.2)) = us
        intro hparts
        induction hparts with
        | nil => exact .nil
        | cons hh _ ih => exact .cons ⟨hh.1, nrm_rs hh.2⟩ ih
      obtain ⟨cells', f1, f2, f3⟩ := fill_parts hplace hvs (nrm_rvL hzv) (by rw [nrm_shapeL, p1]) hparts'
      refine pure_op hs.inv hn (val := .agg cells') ?_ (pck_rs f2) h
      unfold execOp
      rw [hop]
      refine vrun ?_
      unfold Instr.build
      simp only [Sem.run_bind, zeroValue_run b1 b5, Result.andThen, underlying_run hu]
      rw [mapArr_run (g := fun f => (f.offset, ((P.info? f.type).map (·.size)).getD 0)) (by
        intro f hf w
        obtain ⟨i', hi'⟩ := fieldsOk_all hE.tab hok f hf
        simp only [Sem.run_bind, sizeOf_run hi', Result.andThen, Sem.run_pure, hi', Option.map_some, Option.getD_some])]
      simp only [Array.toList_map, f1, Sem.run_pure]
    | arr n e =>
      rw [hty] at h
      have hcs := cond_some h; clear h; obtain ⟨hk, h⟩ := hcs
      simp only [Option.bind_eq_some_iff] at h
      obtain ⟨pvs, hpv, h⟩ := h
      have hbs := bind2_some h; clear h; obtain ⟨qs, σ1, hfz, h⟩ := hbs
      have hIok := tyOk hE.tab hI hk
      obtain ⟨hu, J, hJ, hsh, hsz, hkn⟩ := hIok.array hty
      obtain ⟨i, z, b1, b3, b4, b5, b6, b7, b8⟩ := zero_cells hE.tab hI hk
      obtain ⟨iJ, c1, c2, _⟩ := TyOk.of_tab hE.tab hJ hkn
      obtain ⟨S1, s1, g1⟩ := freezeP_sound hs.inv hfz (evParts_sound hs hpv)
      cases hz : I.zero with
      | dat d =>
        rw [hz] at h
        cases d with
        | arr s zs =>
          have hcs := cond_some h; clear h; obtain ⟨hft, h⟩ := hcs
          simp only [Option.bind_eq_some_iff] at h
          obtain ⟨ds, hds, h⟩ := h
          have hzr := b7 w S1 (tbl m σ1)
          rw [hz] at hzr b8
          rw [AV.shape, D.shape, hsh] at b8
          simp only [Sh.arr.injEq] at b8
          obtain ⟨rfl, hzl⟩ := b8
          obtain ⟨hz1, hz2⟩ := hzr
          cases z with
          | agg zc =>
            rw [Rv, Rd] at hz2
            have hft := fits_sound hft
            obtain ⟨cells', f1, f2, f3, f4⟩ := fill_elems (cells := zc) (vs := ps.toList.map fun p => (p.1, a.eval p.2)) hds hz2.1 hz2.2 (by
              intro p hp
              exact hft p.2 (List.mem_map_of_mem hp)) g1
            refine wp_value (v := .agg cells') (w' := w) ?_ (hn (.dat (.arr J.sh ds)) _ _ _ _ _ s1 ⟨rfl, by rw [Rv, Rd]; exact ⟨f2, f3⟩⟩ h)
            unfold execOp
            rw [hop]
            refine vrun ?_
            unfold Instr.build
            simp only [Sem.run_bind, zeroValue_run b1 b5, Result.andThen, underlying_run hu, sizeOf_run c1, c2, Value.cells, Array.toList_map, f1, Sem.run_pure]
          | _ => simp [valAgg, AV.aggB, D.aggB] at hz1
        | _ => simp at h
      | _ => rw [hz] at h; simp at h
    | _ => rw [hty] at h; simp at h
theorem op_buildSlice (hE : EnvOk bg P E) (hs : Sit bg w S m σ fr a) {o : Oper} {t : TypeId} {len : Nat} {ps : Array (Nat × Operand)} (hop : o.op = .buildSlice t len ps) {K : AV → Store → Option Res} {r : Res} {next : Act → World → Prop} {Q : Exit → Act → World → Prop} (hn : Nexts P w S m σ o a K r next)
    (h : opK0 E fr o σ K = some r) : OWp P o a w next Q := by
  unfold opK0 at h
  rw [hop] at h
  simp only at h
  cases hI : E.tab[t]? with
  | none => rw [hI] at h; simp at h
  | some I =>
    rw [hI] at h
    simp only at h
    cases hty : I.ty with
    | slc e =>
      rw [hty] at h
      have hcs := cond_some h; clear h; obtain ⟨hk, h⟩ := hcs
      have hIok := tyOk hE.tab hI hk
      obtain ⟨hu, J, hJ, hsz, hkn⟩ := hIok.slice hty
      rw [hJ] at h
      simp only [Option.bind_eq_some_iff] at h
      obtain ⟨pvs, hpv, h⟩ := h
      have hbs := bind2_some h; clear h; obtain ⟨qs, σ1, hfz, h⟩ := hbs
      simp only [Option.bind_eq_some_iff] at h
      obtain ⟨zd, hzd, h⟩ := h
      have hcs := cond_some h; clear h; obtain ⟨hlen, h⟩ := hcs
      simp only [Bool.and_eq_true, decide_eq_true_eq] at hlen
      simp only [Option.bind_eq_some_iff] at h
      obtain ⟨ds, hds, h⟩ := h
      have hbs := bind2_some h; clear h; obtain ⟨v, σ2, hnew, h⟩ := hbs
      obtain ⟨i, z, b1, b3, b4, b5, b6, b7, b8⟩ := zero_cells hE.tab hJ hkn
      obtain ⟨S1, s1, g1⟩ := freezeP_sound hs.inv hfz (evParts_sound hs hpv)
      unfold oNewSlice at hnew
      have hcs := cond_some hnew; clear hnew; obtain ⟨hft, hnew⟩ := hcs
      simp only [Option.some.injEq, Prod.mk.injEq] at hnew
      obtain ⟨rfl, rfl⟩ := hnew
      have hft := fits_sound hft
      have hzr : Rd w S1 zd z.cells.toList := by
        have := toD_rs hzd (b7 w S1 (tbl m σ1))
        have h2 := this.2
        rwa [Rv] at h2
      have hzs : zd.shape = J.sh := by rw [(toD_shape hzd).1, b8]
      have hzl : z.cells.toList.length = J.sh.size := by simpa using b6
      have hzL : RdL w S1 (List.replicate len zd) ((List.replicate len z.cells.toList).flatten) := RdL.replicate hzr len
      obtain ⟨cells', f1, f2, f3, f4⟩ := fill_elems (sh := J.sh) (cells := ((List.replicate len z.cells.toList).flatten).toArray) (vs := ps.toList.map fun p => (p.1, a.eval p.2)) hds (by simpa using hzL) (by intro d hd; rw [List.eq_of_mem_replicate hd]; exact hzs) (by
        intro p hp
        exact fits_sound hlen.2 p.2 (List.mem_map_of_mem hp)) g1
      have hdl : ds.length * J.sh.size = cells'.size := by
        have h1 := RdL.length f2
        rw [sizeL_all J.sh f3] at h1
        simpa using h1.symm
      have hlenD : ds.length = len := by
        rw [f4] at hdl
        simp only [List.size_toArray, flatten_replicate_length, hzl] at hdl
        exact Nat.eq_of_mul_eq_mul_right (Nat.pos_of_ne_zero hsz) hdl
      obtain ⟨q1, q2⟩ := newDyn_stp (e := e) (f := (0, 0)) (c := cells') (cap := len) s1.inv f3 (by rw [hdl]; exact Nat.le_refl _) (by rw [hdl]; rw [List.take_of_length_le (by simp)]; exact f2) (by intro o _ h; omega) (by rw [← hlenD]; omega) (by omega)
      have hrun : (Instr.buildSlice t len (ps.map fun p => (p.1, a.eval p.2))).run P w = .ok (.slice (some ⟨w.heap.size, 0, none⟩) len len) { w with heap := w.heap.push (.cells cells' e) } := by
        unfold Instr.buildSlice
        simp only [Sem.run_bind, underlying_run hu, Result.andThen, sizeOf_run b1, b3]
        rw [if_neg (by omega)]
        by_cases hz0 : len * J.sh.size = 0
        · have hl0 : len = 0 := by
            rcases Nat.mul_eq_zero.1 hz0 with h | h
            · exact h
            · exact absurd h hsz
          subst hl0
          have e0 : Array.range 0 = #[] := rfl
          simp only [Nat.zero_mul, if_true, Sem.run_bind, Sem.run_pure, Result.andThen, e0, Array.map_empty, Array.toList_map]
          simp only [List.replicate_zero, List.flatten_nil] at f1
          rw [f1]
          simp only [Sem.run_bind, newRow_run, Result.andThen, Sem.run_pure]
        · have hcells : ((Array.range (len * J.sh.size)).map fun i => z.cells[i % z.cells.size]!) = ((List.replicate len z.cells.toList).flatten).toArray := by
            rw [← Array.toList_inj]
            simp only [Array.toList_map, Array.toList_range]
            rw [← range_rows, b6]
          simp only [hz0, if_false, Sem.run_bind, zeroValue_run b1 b5, Result.andThen, Sem.run_pure, hcells, Array.toList_map, f1, newRow_run]
      refine wp_value (v := .slice (some ⟨w.heap.size, 0, none⟩) len len) ?_ (hn _ _ _ _ _ _ (s1.trans q1) (by rw [hlenD] at q2 ⊢; exact q2) h)
      unfold execOp
      rw [hop]
      exact vrun hrun
    | _ => rw [hty] at h; simp at h
end
end Go.AX
