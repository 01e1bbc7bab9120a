import Derived.Test.YtniombjfbdojjaaDoorAx4
/- AX, part 5c: one operation as a tree; regions in their order. -/
namespace Go.AX
def freezePT : List (Nat × AV) → Store → T (List (Nat × D) × Store)
  | [], σ => .leaf ([], σ)
  | (i, v) :: l, σ => (freezeT v σ).bind fun r => (T.ofOpt (AV.toD r.1)).bind fun d => (freezePT l r.2).bind fun q => .leaf ((i, d) :: q.1, q.2)
theorem freezePT_run : ∀ {l : List (Nat × AV)} {σ : Store} {r : List (Nat × D) × Store}, (freezePT l σ).run = some r → freezeP l σ = some r
  | [], σ, r, h => by rw [freezePT] at h; rw [freezeP, T.leaf_some h]
  | (i, v) :: l, σ, r, h => by
    rw [freezePT] at h
    obtain ⟨q, h1, h⟩ := T.bind_some h
    obtain ⟨d, h2, h⟩ := T.bind_some h
    obtain ⟨q', h3, h⟩ := T.bind_some h
    rw [freezeP, freezeT_run h1, Option.bind_some, T.of_some h2, Option.bind_some, freezePT_run h3, Option.map_some, T.leaf_some h]
def partsAllT (vs : List AV) : List (Nat × AV) → T (List AV)
  | [] => .leaf vs
  | (i, v) :: l => match vs[i]? with
    | some u => .chk (Sh.eqb u.shape v.shape && v.real) (partsAllT (vs.set i v) l)
    | none => .fail
theorem partsAllT_run : ∀ {l : List (Nat × AV)} {vs r : List AV}, (partsAllT vs l).run = some r → partsAll vs l = some r
  | [], vs, r, h => by rw [partsAllT] at h; rw [partsAll, T.leaf_some h]
  | (i, v) :: l, vs, r, h => by
    rw [partsAllT] at h
    rw [partsAll]
    split at h
    · rename_i u hu
      obtain ⟨h1, h⟩ := T.chk_some h
      simp only [hu, h1, cond_true, partsAllT_run h]
    · simp [T.run_fail] at h
def callT (F : FunT) (args : List AV) (σ : Store) : T Res :=
  let ids := AV.idsL args
  let ρ := reach σ 4096 ids []
  bif closed σ ids ρ then
    let r := fun i => posOf i ρ
    (F (AV.renL r args) (getAll σ r ρ)).bind fun p => .ofOpt (merge ρ σ p.1 p.2)
  else .fail
theorem callT_run {F : FunT} {args : List AV} {σ : Store} {r : Res} (h : (callT F args σ).run = some r) : callS (FunT.run F) args σ = some r := by
  unfold callT at h
  unfold callS
  simp only at h ⊢
  cases hc : closed σ (AV.idsL args) (reach σ 4096 (AV.idsL args) []) with
  | true =>
    rw [hc] at h
    simp only [cond_true] at h ⊢
    obtain ⟨p, h1, h⟩ := T.bind_some h
    simp only [bind2, FunT.run, h1, Option.bind_some, T.of_some h]
  | false => rw [hc] at h; simp [T.run_fail] at h
def dynT (C : Disp) (f : AV) (args : List AV) (σ : Store) : T Res :=
  match f with
  | .dat (.fn (.func g) a b) => callT (C g) (a.map .dat ++ args ++ b.map .dat) σ
  | .fn (.func g) a b => callT (C g) (a ++ args ++ b) σ
  | _ => .fail
theorem dynT_run {C : Disp} {f : AV} {args : List AV} {σ : Store} {r : Res} (h : (dynT C f args σ).run = some r) : dyn C f args σ = some r := by
  unfold dynT at h
  split at h
  · exact callT_run h
  · exact callT_run h
  · simp [T.run_fail] at h
def dynYT (E : Env) (f : AV) (args : List AV) (σ : Store) : T Res :=
  match f with
  | .hnd s i => .chk (Sh.eqb s loopSh) (E.yld i args σ)
  | f => dynT E.disp f args σ
theorem dynYT_run {E : Env} {f : AV} {args : List AV} {σ : Store} {r : Res} (h : (dynYT E f args σ).run = some r) : dynY E f args σ = some r := by
  unfold dynYT at h
  unfold dynY
  cases f with
  | hnd s i =>
    simp only at h ⊢
    obtain ⟨hc, h⟩ := T.chk_some h
    rw [hc]; exact h
  | _ => exact dynT_run h
def call1T (ref : Bool) (f : List AV → Store → T Res) (args : List AV) (σ : Store) : T (AV × Store) :=
  bif realL args then
    bif ref then (f args σ).bind fun r => .leaf (res1 r.1, r.2)
    else (freezeLT args σ).bind fun a => (f a.1 a.2).bind fun r => .leaf (res1 r.1, r.2)
  else .fail
abbrev K1 : AV → Store → Option Res := fun v s => some ([v], s)
theorem call1T_run {E : Env} {ref : Bool} {f : List AV → Store → T Res} {g : List AV → Store → Option Res} {args : List AV} {σ : Store} {p : AV × Store} (hf : ∀ a s r, (f a s).run = some r → g a s = some r)
    (h : (call1T ref f args σ).run = some p) : call1 E ref g args σ K1 = some ([p.1], p.2) := by
  unfold call1T at h
  unfold call1
  cases hr : realL args with
  | false => rw [hr] at h; simp [T.run_fail] at h
  | true =>
    rw [hr] at h
    simp only [cond_true] at h ⊢
    cases ref with
    | true =>
      simp only [cond_true] at h ⊢
      obtain ⟨r, h1, h⟩ := T.bind_some h
      rw [bind2, hf _ _ _ h1, Option.bind_some, ← T.leaf_some h]
    | false =>
      simp only [cond_false] at h ⊢
      obtain ⟨a, h0, h⟩ := T.bind_some h
      obtain ⟨r, h1, h⟩ := T.bind_some h
      rw [bind2, freezeLT_run h0, Option.bind_some, bind2, hf _ _ _ h1, Option.bind_some, ← T.leaf_some h]
def oneT (x : T AV) (σ : Store) : T (AV × Store) := x.bind fun v => .leaf (v, σ)
theorem oneT_run {x : T AV} {y : Option AV} {σ : Store} {p : AV × Store} (hx : ∀ v, x.run = some v → y = some v) (h : (oneT x σ).run = some p) : one y σ K1 = some ([p.1], p.2) := by
  obtain ⟨v, h1, h⟩ := T.bind_some h
  rw [one, hx v h1, Option.bind_some, ← T.leaf_some h]
theorem bind2_run {y : Option (AV × Store)} {p : AV × Store} (h : y = some p) : bind2 y K1 = some ([p.1], p.2) := by
  rw [bind2, h, Option.bind_some]
def evT (tab : Tab) (fr : Frame') (t : TypeId) (x : Operand) : T AV := .ofOpt (ev tab fr t x)
def evOT (tab : Tab) (fr : Frame') : Option Operand → T (Option AV)
  | none => .leaf none
  | some x => (evT tab fr 0 x).bind fun v => .leaf (some v)
theorem evOT_none {tab : Tab} {fr : Frame'} {v : Option AV} (h : (evOT tab fr none).run = some v) : v = none := (T.leaf_some h).symm
theorem evOT_some {tab : Tab} {fr : Frame'} {x : Operand} {v : Option AV} (h : (evOT tab fr (some x)).run = some v) : ∃ u, ev tab fr 0 x = some u ∧ v = some u := by
  obtain ⟨u, h1, h⟩ := T.bind_some h
  exact ⟨u, T.of_some h1, (T.leaf_some h).symm⟩
def opD (E : Env) (fr : Frame') (o : Oper) (σ : Store) : T (AV × Store) :=
  match opK0 E fr o σ K1 with
  | some ([v], s) => .leaf (v, s)
  | _ => .fail
theorem opD_run {E : Env} {fr : Frame'} {o : Oper} {σ : Store} {p : AV × Store} (h : (opD E fr o σ).run = some p) : opK0 E fr o σ K1 = some ([p.1], p.2) := by
  unfold opD at h
  split at h
  · rename_i v s he
    rw [he, ← T.leaf_some h]
  · simp [T.run_fail] at h
def oLookT (T' : Ty × Int) (x k : AV) (σ : Store) : T AV :=
  (T.ofOpt (mapOf x σ)).bind fun p => (T.ofOpt (datOf k)).bind fun d => .chk (keyOk T'.1 d && p.2.all (entOkD T'.1)) (.leaf (.dat (.int .i64 (mapGet T'.2 d p.2))))
def oMapUpdT (T' : Ty × Int) (x k v : AV) (σ : Store) : T Store :=
  (T.ofOpt (mapOf x σ)).bind fun p => (T.ofOpt (datOf k)).bind fun d => (T.ofOpt (intOf v)).bind fun n => .chk (keyOk T'.1 d && p.2.all (entOkD T'.1)) (.leaf (σ.set p.1 (mapBlk (mapPut d n p.2))))
theorem oLookT_run {T' : Ty × Int} {x k v : AV} {σ : Store} (h : (oLookT T' x k σ).run = some v) : oLook T' x k σ = some v := by
  unfold oLookT at h
  obtain ⟨p, h1, h⟩ := T.bind_some h
  obtain ⟨d, h2, h⟩ := T.bind_some h
  obtain ⟨h3, h⟩ := T.chk_some h
  unfold oLook
  rw [T.of_some h1, Option.bind_some, T.of_some h2, Option.bind_some, h3, cond_true, ← T.leaf_some h]
theorem oMapUpdT_run {T' : Ty × Int} {x k v : AV} {σ σ' : Store} (h : (oMapUpdT T' x k v σ).run = some σ') : oMapUpd T' x k v σ = some σ' := by
  unfold oMapUpdT at h
  obtain ⟨p, h1, h⟩ := T.bind_some h
  obtain ⟨d, h2, h⟩ := T.bind_some h
  obtain ⟨n, h4, h⟩ := T.bind_some h
  obtain ⟨h3, h⟩ := T.chk_some h
  unfold oMapUpd
  rw [T.of_some h1, Option.bind_some, T.of_some h2, Option.bind_some, T.of_some h4, Option.bind_some, h3, cond_true, ← T.leaf_some h]
def opT (E : Env) (fr : Frame') (o : Oper) (σ : Store) : T (AV × Store) :=
  let tab := E.tab
  match o.op with
  | .pick c a b => (evT tab fr 0 c).bind fun c => (T.ofOpt (asB c)).bind fun c => (evT tab fr o.type a).bind fun a => (evT tab fr o.type b).bind fun b => .br c (.leaf (a, σ)) (.leaf (b, σ))
  | .box t x => (evT tab fr t x).bind fun v => match tab[t]? with
    | some I => .chk (known tab t && Sh.eqb v.shape I.sh) (.ofOpt (oNew v σ))
    | none => .fail
  | .build t ps => match tab[t]? with
    | some I => match I.ty with
      | .struct fs => .chk (known tab t)
          ((T.ofOpt I.zero.parts).bind fun zs => (T.ofOpt (evParts tab fr (fieldTy fs) ps.toList)).bind fun ps => (partsAllT (zs.map (nrm (rawB E t))) (ps.map fun p => (p.1, nrm (rawB E t) p.2))).bind fun vs => .leaf (pck (rawB E t) vs, σ))
      | .arr _ e => .chk (known tab t)
          ((T.ofOpt (evParts tab fr (fun _ => e) ps.toList)).bind fun ps => (freezePT ps σ).bind fun r => match I.zero with
            | .dat (.arr s zs) => .chk (fits s (r.1.map (·.2))) ((T.ofOpt (setAll zs r.1)).bind fun ds => .leaf (.dat (.arr s ds), r.2))
            | _ => .fail)
      | _ => .fail
    | none => .fail
  | .buildSlice t len ps => match tab[t]? with
    | some I => match I.ty with
      | .slc e => .chk (known tab t) (match tab[e]? with
        | some J => (T.ofOpt (evParts tab fr (fun _ => e) ps.toList)).bind fun ps => (freezePT ps σ).bind fun r => (T.ofOpt J.zero.toD).bind fun z =>
            .chk (decide (len * J.sh.size ≤ 2 ^ 24) && fits J.sh (r.1.map (·.2))) ((T.ofOpt (setAll (List.replicate len z) r.1)).bind fun ds => oNewSliceT J.sh ds r.2)
        | none => .fail)
      | _ => .fail
    | none => .fail
  | .load t x => (evT tab fr 0 x).bind fun x => .chk (known tab t) ((T.ofOpt (tab.sh t)).bind fun s => oneT ((oLoadT s x σ).bind (spreadA (ekOf tab 20 t))) σ)
  | .store t x v => (evT tab fr 0 x).bind fun x => (evT tab fr t v).bind fun v => .chk (known tab t) ((T.ofOpt (tab.sh t)).bind fun s => (oStoreT s x v σ).bind fun σ => .leaf (.undef, σ))
  | .binOp op t x y _ => match op with
    | .eql | .neq => opD E fr o σ
    | op => (evT tab fr t x).bind fun x => (evT tab fr t y).bind fun y => oneT (oBinT op x y) σ
  | .convert src dst x => (evT tab fr src x).bind fun x => .chk (known tab src && known tab dst) (match tab[src]?, tab[dst]? with
    | some I, some J => match I.ty, J.ty with
      | .int _, .int k => oneT (.ofOpt (oConvI k x)) σ
      | .str, .slc e => match tab[e]? with
        | some L => match L.ty with | .int .u8 => oToBytesT x σ | _ => .fail
        | none => .fail
      | .slc e, .str => match tab[e]? with
        | some L => match L.ty with | .int .u8 => oneT (oToStrT x σ) σ | _ => .fail
        | none => .fail
      | .slc _, .slc e => .chk (Nat.beq src dst) (match tab[e]? with
        | some L => match L.ty with | .int .u8 => oMarkT x σ | _ => .fail
        | none => .fail)
      | .str, .str => .chk (isStr x) (.leaf (x, σ))
      | _, _ => .fail
    | _, _ => .fail)
  | .sliceToArrayPointer t x => (evT tab fr 0 x).bind fun x => .chk (known tab t) (match tab[t]? with
    | some I => match I.ty with
      | .arr n e => (T.ofOpt (tab.sh e)).bind fun s => oneT (oS2AT s n x) σ
      | _ => .fail
    | none => .fail)
  | .makeSlice t n c => (evT tab fr 0 n).bind fun n => (evT tab fr 0 c).bind fun c => .chk (known tab t) (match tab[t]? with
    | some I => match I.ty with
      | .slc e => match tab[e]? with
        | some J => oMakeT J.sh J.bytes J.zero n c σ
        | none => .fail
      | _ => .fail
    | none => .fail)
  | .slice t x lo hi mx => (evT tab fr t x).bind fun x => (evOT tab fr lo).bind fun lo => (evOT tab fr hi).bind fun hi => .chk (known tab t) (match tab[t]? with
        | some I => match I.ty, mx with
          | .arr n e, none => (T.ofOpt (tab.sh e)).bind fun s => oneT (oSliceAT s n x lo hi σ) σ
          | .slc e, none => .chk (fitsSlc tab e x) (oneT (oSliceT x lo hi false) σ)
          | .str, none => .chk (isStr x) (oneT (oSliceT x lo hi false) σ)
          | .slc e, some m => (evT tab fr 0 m).bind fun m => match hi with
            | some h => (T.ofOpt (asI h)).bind fun a => (T.ofOpt (asI m)).bind fun b => .chk (fitsSlc tab e x && decide (a = b)) (oneT (oSliceT x lo (some h) true) σ)
            | none => .fail
          | _, _ => .fail
        | none => .fail)
  | .lookup t x k false => (evT tab fr 0 x).bind fun x => (evT tab fr 0 k).bind fun k => (T.ofOpt (mapTy tab t)).bind fun T' => oneT (oLookT T' x k σ) σ
  | .mapUpdate t x k v => (evT tab fr 0 x).bind fun x => (evT tab fr 0 k).bind fun k => (evT tab fr 0 v).bind fun v => (T.ofOpt (mapTy tab t)).bind fun T' => (oMapUpdT T' x k v σ).bind fun σ => .leaf (.undef, σ)
  | .indexAddr t x i => (evT tab fr t x).bind fun x => (evT tab fr 0 i).bind fun i => .chk (known tab t) (match tab[t]? with
    | some I => match I.ty with
      | .slc e => (T.ofOpt (tab.sh e)).bind fun s => oneT (oIndexAddrT (ekOf tab 20 e) s x i) σ
      | .arr n e => (T.ofOpt (tab.sh e)).bind fun s => oneT (oIndexAddrAT (ekOf tab 20 e) s n x i) σ
      | _ => .fail
    | none => .fail)
  | .index t x i => (evT tab fr t x).bind fun x => (evT tab fr 0 i).bind fun i => .chk (known tab t) (match tab[t]? with
    | some I => match I.ty with
      | .str => oneT (oIndexST x i) σ
      | .arr _ e => .chk (Sh.eqb x.shape I.sh) (oneT (oIndexAT (ekOf tab 20 e) x i) σ)
      | _ => .fail
    | none => .fail)
  | .call c => match c.callee with
    | .builtin .append => (T.ofOpt (evs tab fr c.argTypes.toList c.args.toList)).bind fun args => match args, c.argTypes[0]?, c.argTypes[1]? with
      | [x, y], some t, some u => .chk (known tab t && known tab u) (match tab[t]?, tab[u]? with
        | some I, some L => match I.ty, L.ty with
          | .slc e, .slc _ => match tab[e]? with | some J => (elemsT y σ).bind fun ys => apndT (apF E o) J.sh J.bytes x ys σ | none => .fail
          | .slc e, .str => match tab[e]? with | some J => (elemsT y σ).bind fun ys => apndT (apF E o) J.sh J.bytes x ys σ | none => .fail
          | .slc e, .int _ => match tab[e]? with | some J => (zerosT J.zero y).bind fun ys => apndT (apF E o) J.sh J.bytes x ys σ | none => .fail
          | _, _ => .fail
        | _, _ => .fail)
      | _, _, _ => .fail
    | .builtin .copy => (T.ofOpt (evs tab fr c.argTypes.toList c.args.toList)).bind fun args => match args, c.argTypes[0]? with
      | [x, y], some t => .chk (known tab t) (match tab[t]? with
        | some I => match I.ty with
          | .slc e => match tab[e]? with | some J => (elemsT y σ).bind fun ys => oCopyT J.sh x ys σ | none => .fail
          | _ => .fail
        | none => .fail)
      | _, _ => .fail
    | .builtin .clear => (T.ofOpt (evs tab fr c.argTypes.toList c.args.toList)).bind fun args => match args, c.argTypes[0]? with
      | [x], some t => .chk (known tab t) (match tab[t]? with
        | some I => match I.ty with
          | .slc e => match tab[e]? with | some J => (T.ofOpt J.zero.toD).bind fun zd => oClearT J.sh zd x σ | none => .fail
          | _ => .fail
        | none => .fail)
      | _, _ => .fail
    | .value (.func g) => (T.ofOpt (evs tab fr c.argTypes.toList c.args.toList)).bind fun args => (T.ofOpt (E.callee g)).bind fun F => bif pureF E g then oneT (pureC F args) σ else call1T (E.byref g) (callT F) args σ
    | .value (.tmp f) => (T.ofOpt (evs tab fr c.argTypes.toList c.args.toList)).bind fun args => (evT tab fr 0 (.tmp f)).bind fun f => call1T false (dynYT E f) args σ
    | _ => opD E fr o σ
  | _ => opD E fr o σ
def tab_slc (tab : Tab) (t : TypeId) : Bool := match tab[t]? with
  | some I => known tab t && (match I.ty with | .slc _ => true | _ => false)
  | none => false
def asV (E : Env) (d : Option Tmp) (v : AV) (K : AV → Option Res) : Option Res :=
  match d with
  | none => K v
  | some d => match E.hint 999999 d with
    | [.is _ u] => bif AV.eqb v u then K u else none
    | _ => K v
theorem asV_some {E : Env} {d : Option Tmp} {v : AV} {K : AV → Option Res} {r : Res} (h : asV E d v K = some r) : K v = some r := by
  unfold asV at h
  split at h
  · exact h
  · split at h
    · rename_i u _
      cases hc : AV.eqb v u with
      | false => rw [hc] at h; simp at h
      | true => rw [hc] at h; rw [AV.eq_of_eqb hc]; exact h
    · exact h
def opK (E : Env) (fr : Frame') (o : Oper) (σ : Store) (K : AV → Store → Option Res) : Option Res := (opT E fr o σ).k fun p => asV E o.dst p.1 fun v => K v p.2
def nilAsk (E : Env) (fr : Frame') (o : Oper) : Option (List D × Bool) :=
  match o.op with
  | .binOp op t x (.const (.slice none 0 0)) _ =>
    match (match op with | .eql => some false | .neq => some true | _ => none) with
    | some neg => match tab_slc E.tab t, ev E.tab fr t x with
      | true, some (.dat (.slc _ ds)) => some (ds, neg)
      | true, some (.fslc _ ds) => some (ds, neg)
      | _, _ => none
    | none => none
  | _ => none
def nilRef (E : Env) (fr : Frame') (o : Oper) : Option (Nat × Bool) :=
  match o.op with
  | .binOp op t x (.const (.slice none 0 0)) _ =>
    match (match op with | .eql => some false | .neq => some true | _ => none) with
    | some neg => match tab_slc E.tab t, ev E.tab fr t x with
      | true, some (.sref _ _ _ _ _ len) => some (len, neg)
      | _, _ => none
    | none => none
  | _ => none
def opN (E : Env) (fr : Frame') (o : Oper) (σ : Store) (K : AV → Store → Option Res) : Option Res :=
  match nilAsk E fr o with
  | some (ds, neg) => bif ds.isEmpty then both (K (aBool true) σ) (K (aBool false) σ) else K (aBool neg) σ
  | none => match nilRef E fr o with
    | some (len, neg) => bif Nat.beq len 0 then none else K (aBool neg) σ
    | none => opK E fr o σ K
def hint1T (base : Nat) (h : Hint) (fr : Frame') (σ : Store) : T (Frame' × Store) :=
  match h with
  | .freeze i => (freezeT (fr.getD i .undef) σ).bind fun r => .leaf (fr.set i r.1, r.2)
  | .ownAt i p => (ownAtT (fr.getD i .undef) p σ).bind fun s => .leaf (fr, s)
  | .frzAt i p => (frzAtT (fr.getD i .undef) p σ).bind fun s => .leaf (fr, s)
  | .vp i => (T.ofOpt (vpOf (fr.getD i .undef) σ)).bind fun r => .leaf (fr.set i r.1, r.2)
  | .own i => (oOwnT (fr.getD i .undef) σ).bind fun r => .leaf (fr.set i r.1, r.2)
  | .kill i => .leaf (fr.set i .undef, σ)
  | .is i v => .chk (AV.eqb (fr.getD i .undef) v) (.leaf (fr.set i v, σ))
  | .same i j => .chk (AV.eqb (fr.getD i .undef) (fr.getD j .undef)) (.leaf (fr.set i (fr.getD j .undef), σ))
  | .cut k => .chk (decide (base ≤ k) && idsBelow k fr && (σ.take k).all (fun B => idsBelow k [B.v])) (.leaf (fr, σ.take k))
def hintsT (base : Nat) (hs : List Hint) (fr : Frame') (σ : Store) : T (Frame' × Store) :=
  match hs with
  | [] => .leaf (fr, σ)
  | h :: hs => (hint1T base h fr σ).bind fun r => hintsT base hs r.1 r.2
theorem hint1T_run {base : Nat} {h : Hint} {fr : Frame'} {σ : Store} {r : Frame' × Store} (hh : (hint1T base h fr σ).run = some r) : hint1 base h fr σ = some r := by
  cases h with
  | freeze i =>
    obtain ⟨q, h1, hh⟩ := T.bind_some hh
    simp only [hint1, freezeT_run h1, Option.bind_some, T.leaf_some hh]
  | ownAt i p =>
    obtain ⟨q, h1, hh⟩ := T.bind_some hh
    simp only [hint1, ownAtT_run h1, Option.map_some, T.leaf_some hh]
  | vp i =>
    obtain ⟨q, h1, hh⟩ := T.bind_some hh
    simp only [hint1, T.of_some h1, Option.map_some, T.leaf_some hh]
  | frzAt i p =>
    obtain ⟨q, h1, hh⟩ := T.bind_some hh
    simp only [hint1, frzAtT_run h1, Option.map_some, T.leaf_some hh]
  | own i =>
    obtain ⟨q, h1, hh⟩ := T.bind_some hh
    simp only [hint1, oOwnT_run h1, Option.bind_some, T.leaf_some hh]
  | kill i => simp only [hint1, T.leaf_some hh]
  | is i v =>
    obtain ⟨h1, hh⟩ := T.chk_some hh
    simp only [hint1, h1, cond_true, T.leaf_some hh]
  | same i j =>
    obtain ⟨h1, hh⟩ := T.chk_some hh
    simp only [hint1, h1, cond_true, T.leaf_some hh]
  | cut k =>
    obtain ⟨h1, hh⟩ := T.chk_some hh
    simp only [hint1, h1, cond_true, T.leaf_some hh]
theorem hintsT_run {base : Nat} : ∀ {hs : List Hint} {fr : Frame'} {σ : Store} {r : Frame' × Store}, (hintsT base hs fr σ).run = some r → hints base hs fr σ = some r
  | [], fr, σ, r, h => by rw [hintsT] at h; rw [hints, T.leaf_some h]
  | x :: hs, fr, σ, r, h => by
    rw [hintsT] at h
    obtain ⟨q, h1, h⟩ := T.bind_some h
    rw [hints, hint1T_run h1, Option.bind_some, hintsT_run h]
def opsK (E : Env) (r : Nat) (all : List Oper) : Nat → List (Nat × Bool) → List Nat → List Oper → Nat → Frame' → Store → (Frame' → Store → Option Res) → Option Res
  | 0, _, _, _, _, _, _, _ => none
  | _ + 1, _, _, [], _, fr, σ, K => K fr σ
  | n + 1, act, out, o :: l, i, fr, σ, K =>
    let run := (hintsT E.base (E.hint r i) fr σ).k fun p => opN E p.1 o p.2 fun v σ => opsK E r all n act out l (i + 1) (setDst p.1 o.dst v) σ K
    match o.guard with
    | none => run
    | some (j, w) => bif inG j w act then run else
      match gdst all j with
      | none => none
      | some d => (asB (fr.getD d .undef)).bind fun b =>
        let k := grpLen j w [] i (o :: l)
        let G := (o :: l).take k
        let R := (o :: l).drop k
        let live := opsLive all R out
        let ws := (opsDst G).filter fun x => inL x live
        bif G.all (fun o => match o.dst with | some x => !Nat.beq x d | none => true) then
          (fun go => cond b (go true) (go false)) fun bv =>
            joinK (fun vs σ => opsK E r all n act out R (i + k) (putF (undF (fr.set d (aBool bv)) (opsDst G)) vs 0 ws) σ K) fun k' =>
              cond (bv == w) (opsK (E.rebase σ.length) r all n ((j, w) :: act) live G i (fr.set d (aBool bv)) σ fun fr σ => k' (getF fr ws) σ) (k' (getF (undF (fr.set d (aBool bv)) (opsDst G)) ws) σ)
        else none
end Go.AX
