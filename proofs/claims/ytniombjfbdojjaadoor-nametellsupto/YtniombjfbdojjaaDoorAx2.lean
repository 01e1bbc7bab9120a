import Derived.Test.YtniombjfbdojjaaDoorAx1
/- AX, part 4b: outcomes as a tree of yes and no, so that what follows can be run below a condition that is not known yet. -/
namespace Go.AX
inductive T (α : Type) where
  | leaf (a : α)
  | fail
  | br (c : Bool) (l r : T α)
def T.bind {α β : Type} : T α → (α → T β) → T β
  | .leaf a, f => f a
  | .fail, _ => .fail
  | .br c l r, f => .br c (l.bind f) (r.bind f)
def T.k {α β : Type} : T α → (α → Option β) → Option β
  | .leaf a, f => f a
  | .fail, _ => none
  | .br c l r, f => cond c (l.k f) (r.k f)
def T.run {α : Type} (t : T α) : Option α := t.k some
def T.ofOpt {α : Type} : Option α → T α
  | some a => .leaf a
  | none => .fail
def T.chk {α : Type} (c : Bool) (t : T α) : T α := .br c t .fail
def T.all {α : Type} (f : α → Bool) : T α → Bool
  | .leaf a => f a
  | .fail => false
  | .br c l r => cond c (l.all f) (r.all f)
section
variable {α β γ : Type}
theorem T.k_eq : ∀ (t : T α) (f : α → Option β), t.k f = t.run.bind f
  | .leaf a, f => rfl
  | .fail, f => rfl
  | .br c l r, f => by
    cases c with
    | true => exact T.k_eq l f
    | false => exact T.k_eq r f
theorem T.k_some {t : T α} {f : α → Option β} {b : β} (h : t.k f = some b) : ∃ a, t.run = some a ∧ f a = some b := by
  rw [T.k_eq] at h
  simpa only [Option.bind_eq_some_iff] using h
theorem T.run_leaf (a : α) : (T.leaf a).run = some a := rfl
theorem T.run_fail : (T.fail : T α).run = none := rfl
theorem T.run_br (c : Bool) (l r : T α) : (T.br c l r).run = cond c l.run r.run := rfl
theorem T.run_chk (c : Bool) (t : T α) : (T.chk c t).run = cond c t.run none := rfl
theorem T.run_ofOpt : ∀ x : Option α, (T.ofOpt x).run = x
  | some _ => rfl
  | none => rfl
theorem T.run_bind : ∀ (t : T α) (f : α → T β), (t.bind f).run = t.run.bind fun a => (f a).run
  | .leaf a, f => rfl
  | .fail, f => rfl
  | .br c l r, f => by
    cases c with
    | true => exact T.run_bind l f
    | false => exact T.run_bind r f
theorem T.all_run {f : α → Bool} : ∀ {t : T α}, t.all f = true → ∃ a, t.run = some a ∧ f a = true
  | .leaf a, h => ⟨a, rfl, h⟩
  | .fail, h => by simp [T.all] at h
  | .br c l r, h => by
    cases c with
    | true => exact T.all_run (t := l) h
    | false => exact T.all_run (t := r) h
theorem T.bind_some {t : T α} {f : α → T β} {b : β} (h : (t.bind f).run = some b) : ∃ a, t.run = some a ∧ (f a).run = some b := by
  rw [T.run_bind] at h
  simpa only [Option.bind_eq_some_iff] using h
theorem T.chk_some {c : Bool} {t : T α} {a : α} (h : (T.chk c t).run = some a) : c = true ∧ t.run = some a := by
  cases c with
  | true => exact ⟨rfl, h⟩
  | false => simp [T.run_chk] at h
theorem T.of_some {x : Option α} {a : α} (h : (T.ofOpt x).run = some a) : x = some a := by rwa [T.run_ofOpt] at h
theorem T.leaf_some {a b : α} (h : (T.leaf a).run = some b) : a = b := by simpa [T.run_leaf] using h
end
end Go.AX

namespace Go.AX
abbrev Fun' := List AV → Store → Option (List AV × Store)
abbrev Res := List AV × Store
abbrev FunT := List AV → Store → T Res
def FunT.run (F : FunT) : Fun' := fun args σ => (F args σ).run
abbrev Disp := FuncId → FunT
def bind2 {α β γ : Type} (x : Option (α × β)) (f : α → β → Option γ) : Option γ := x.bind fun r => f r.1 r.2
def AV.real : AV → Bool
  | .undef | .tup _ => false
  | _ => true
def slcSh : AV → Option Sh
  | .dat (.slc s _) | .fslc s _ | .sref s _ _ _ _ _ => some s
  | _ => none
def isStr : AV → Bool
  | .dat (.str _) => true
  | _ => false
def fitsSlc (tab : Tab) (e : TypeId) (x : AV) : Bool :=
  match slcSh x, tab.sh e with
  | some s, some s' => Sh.eqb s s'
  | _, _ => false
def asI : AV → Option Int
  | .dat (.int _ n) => some n
  | _ => none
def asB : AV → Option Bool
  | .dat (.bool b) => some b
  | _ => none
def aInt (n : Int) : AV := .dat (.int .i64 n)
def aBool (b : Bool) : AV := .dat (.bool b)
def semVal {α : Type} : Sem α → Option α
  | .pure a => some a
  | _ => none
def ofVal : Value → Option AV
  | .int k n => some (.dat (.int k n))
  | .bool b => some (.dat (.bool b))
  | .string s => some (.dat (.str s))
  | _ => none
def catStr (a b : ByteArray) : ByteArray := ⟨a.data ++ b.data⟩
def subStr (s : ByteArray) (l h : Nat) : ByteArray := ⟨((s.data.toList.drop l).take (h - l)).toArray⟩
def LIM : Nat := 2 ^ 45
def oStr (op : BinOp) (a b : ByteArray) : Option AV :=
  match op with
  | .eql => some (.dat (.bool (decide (a.data.toList = b.data.toList))))
  | .neq => some (.dat (.bool (!decide (a.data.toList = b.data.toList))))
  | .add => bif decide (a.size + b.size ≤ LIM) then some (.dat (.str (catStr a b))) else none
  | _ => none
def oBin (op : BinOp) : AV → AV → Option AV
  | .dat (.int k a), .dat (.int k' b) => (semVal (Go.binOp op 0 (.int k a) (.int k' b))).bind ofVal
  | .dat (.str a), .dat (.str b) => oStr op a b
  | _, _ => none
def oUn (op : UnOp) : AV → Option AV
  | .dat (.int k a) => (semVal (Op.unary op (.int k a))).bind ofVal
  | .dat (.bool b) => (semVal (Op.unary op (.bool b))).bind ofVal
  | _ => none
def oMax : AV → AV → Option AV
  | .dat (.int k a), .dat (.int k' b) => (semVal (Builtin.max2 (.int k a) (.int k' b))).bind ofVal
  | _, _ => none
def oMin : AV → AV → Option AV
  | .dat (.int k a), .dat (.int k' b) => (semVal (Builtin.min2 (.int k a) (.int k' b))).bind ofVal
  | _, _ => none
def isNilP : AV → Option Bool
  | .dat .nilp => some true
  | .ptr .. | .dat (.vptr ..) => some false
  | _ => none
def isNilF : AV → Option Bool
  | .dat .nilf => some true
  | .fn .. | .dat (.fn ..) => some false
  | _ => none
def eqNil (a b : Option Bool) : Option Bool :=
  match a, b with
  | some true, some b => some b
  | some false, some true => some false
  | _, _ => none
inductive Kd where
  | int (k : IntKind) | bool | str | agg (l : List Kd) | arr (k : Kd) (n : Nat)
  deriving Inhabited
mutual
def eqv : Kd → D → D → Option Bool
  | .int k, .int j a, .int j' b => bif decide (k = j) && decide (k = j') then some (a == b) else none
  | .bool, .bool a, .bool b => some (a == b)
  | .str, .str a, .str b => some (decide (a.data.toList = b.data.toList))
  | .agg l, .agg xs, .agg ys => eqvL l xs ys
  | .arr k n, .arr _ xs, .arr _ ys => bif Nat.beq xs.length n && Nat.beq ys.length n then eqvA k xs ys else none
  | _, _, _ => none
def eqvL : List Kd → List D → List D → Option Bool
  | [], [], [] => some true
  | k :: l, x :: xs, y :: ys => (eqv k x y).bind fun a => (eqvL l xs ys).bind fun b => some (a && b)
  | _, _, _ => none
def eqvA (k : Kd) : List D → List D → Option Bool
  | [], [] => some true
  | x :: xs, y :: ys => (eqv k x y).bind fun a => (eqvA k xs ys).bind fun b => some (a && b)
  | _, _ => none
end
def oEqv (k : Kd) : AV → AV → Option Bool
  | .dat a, .dat b => eqv k a b
  | _, _ => none
def oNot (neg : Bool) (b : Bool) : AV := .dat (.bool (neg != b))
def oLoad (sh : Sh) (x : AV) (σ : Store) : Option AV :=
  match x with
  | .ptr s id n p => bif Sh.eqb s sh then
      match σ[id]? with
      | some B => bif Nat.beq B.n n && !(B.dyn && p.isEmpty) && posSh B.sh then B.v.nav p else none
      | none => none else none
  | .dat (.vptr s d) => bif Sh.eqb s sh then some (.dat d) else none
  | _ => none
def oStore (sh : Sh) (x v : AV) (σ : Store) : Option Store :=
  match x with
  | .ptr s id n p => bif Sh.eqb s sh && v.real then
      match σ[id]? with
      | some B => bif Nat.beq B.n n && !B.frz && !(B.dyn && p.isEmpty) && posSh B.sh then (B.v.put p v).map fun v' => σ.set id { B with v := v' } else none
      | none => none else none
  | _ => none
def oNilCheck : AV → Option AV
  | .ptr s id n p => some (.ptr s id n p)
  | .dat (.vptr s d) => some (.dat (.vptr s d))
  | .fn (.func g) a b => some (.fn (.func g) a b)
  | .dat (.fn (.func g) a b) => some (.dat (.fn (.func g) a b))
  | _ => none
def oFieldAddr (sh shf : Sh) (f : Nat) : AV → Option AV
  | .ptr s id n p => bif Sh.eqb s sh then some (.ptr shf id n (p ++ [f])) else none
  | .dat (.vptr s (.agg ds)) => bif Sh.eqb s sh then (ds[f]?).map fun d => .dat (.vptr shf d) else none
  | _ => none
def oField (f : Nat) : AV → Option AV
  | .dat (.agg ds) => (ds[f]?).map .dat
  | .agg vs => vs[f]?
  | _ => none
def oIndexAddr (sh : Sh) (x i : AV) : Option AV :=
  (asI i).bind fun k => bif decide (0 ≤ k) then
    match x with
    | .dat (.slc s ds) => bif Sh.eqb s sh then (ds[k.toNat]?).map fun d => .dat (.vptr sh d) else none
    | .fslc s ds => bif Sh.eqb s sh then (ds[k.toNat]?).map fun d => .dat (.vptr sh d) else none
    | .sref s id n p off len => bif Sh.eqb s sh && decide (k < len) then some (.ptr sh id n (p ++ [off + k.toNat])) else none
    | _ => none
  else none
def oIndexAddrA (sh : Sh) (N : Nat) (x i : AV) : Option AV :=
  (asI i).bind fun k => bif decide (0 ≤ k) && decide (k < N) then
    match x with
    | .ptr s id n p => bif Sh.eqb s (.arr sh N) then some (.ptr sh id n (p ++ [k.toNat])) else none
    | .dat (.vptr s (.arr _ ds)) => bif Sh.eqb s (.arr sh N) then (ds[k.toNat]?).map fun d => .dat (.vptr sh d) else none
    | _ => none
  else none
def oIndexS (x i : AV) : Option AV :=
  match x, asI i with
  | .dat (.str s), some k => bif decide (0 ≤ k) then (s.data.toList[k.toNat]?).map fun b => .dat (.int .u8 b.toNat) else none
  | _, _ => none
def oIndexA (x i : AV) : Option AV :=
  match x, asI i with
  | .dat (.arr _ ds), some k => bif decide (0 ≤ k) then (ds[k.toNat]?).map .dat else none
  | _, _ => none
def seg (ds : List D) (off len : Nat) : List D := bif Nat.beq off 0 && Nat.beq len ds.length then ds else (ds.drop off).take len
def bytesD (s : ByteArray) : List D := s.data.toList.map fun b => .int .u8 b.toNat
def elems (x : AV) (σ : Store) : Option (List D) :=
  match x with
  | .dat (.slc _ ds) | .fslc _ ds => some ds
  | .sref _ id n p off len =>
    match σ[id]? with
    | some B => bif Nat.beq B.n n then
        match B.v.nav p with
        | some (.dat (.arr _ ds)) => some (seg ds off len)
        | _ => none else none
    | none => none
  | .dat (.str s) => some (bytesD s)
  | _ => none
def oLen : AV → Option AV
  | .dat (.slc _ ds) | .fslc _ ds => some (aInt ds.length)
  | .sref _ _ _ _ _ len => some (aInt len)
  | .dat (.str s) => some (aInt s.size)
  | _ => none
def bound (y : Option AV) (d : Nat) : Option Nat :=
  match y with
  | none => some d
  | some v => (asI v).bind fun k => bif decide (0 ≤ k) then some k.toNat else none
def oS2A (sh : Sh) (n : Nat) : AV → Option AV
  | .dat (.slc s ds) => bif Sh.eqb s sh && decide (0 < n) && decide (n ≤ ds.length) then some (.dat (.vptr (.arr sh n) (.arr sh (seg ds 0 n)))) else none
  | .fslc s ds => bif Sh.eqb s sh && decide (0 < n) && decide (n ≤ ds.length) then some (.dat (.vptr (.arr sh n) (.arr sh (seg ds 0 n)))) else none
  | _ => none
def oSlice (x : AV) (lo hi : Option AV) (full : Bool) : Option AV :=
  match x with
  | .dat (.slc s ds) => (bound hi ds.length).bind fun h => (bound lo 0).bind fun l => bif decide (l ≤ h) && decide (h ≤ ds.length) then
      some (bif full then .fslc s (seg ds l (h - l)) else .dat (.slc s (seg ds l (h - l)))) else none
  | .fslc s ds => (bound hi ds.length).bind fun h => (bound lo 0).bind fun l => bif decide (l ≤ h) && decide (h ≤ ds.length) then
      some (bif full || hi.isNone then .fslc s (seg ds l (h - l)) else .dat (.slc s (seg ds l (h - l)))) else none
  | .sref s id n p off len => (bound hi len).bind fun h => (bound lo 0).bind fun l => bif decide (l ≤ h) && decide (h ≤ len) then
      some (.sref s id n p (off + l) (h - l)) else none
  | .dat (.str s) => (bound hi s.size).bind fun h => (bound lo 0).bind fun l => bif !full && decide (l ≤ h) && decide (h ≤ s.size) then some (.dat (.str (subStr s l h))) else none
  | _ => none
def oSliceA (sh : Sh) (N : Nat) (x : AV) (lo hi : Option AV) (σ : Store) : Option AV :=
  match x with
  | .ptr s id n p => (bound hi N).bind fun h => (bound lo 0).bind fun l => bif Sh.eqb s (.arr sh N) && decide (l ≤ h) && decide (h ≤ N) then
      match σ[id]? with
      | some B => bif Nat.beq B.n n && !(B.dyn && p.isEmpty) && (B.v.nav p).isSome && posSh B.sh then some (.sref sh id n p l (h - l)) else none
      | none => none
    else none
  | .dat (.vptr s (.arr _ ds)) => (bound hi N).bind fun h => (bound lo 0).bind fun l => bif Sh.eqb s (.arr sh N) && decide (l ≤ h) && decide (h ≤ N) then
      some (.dat (.slc sh (seg ds l (h - l)))) else none
  | _ => none
mutual
def AV.toD : AV → Option D
  | .dat d => some d
  | .fslc s ds => some (.slc s ds)
  | .agg vs => (AV.toDL vs).map .agg
  | .fn f a b => match AV.toDL a, AV.toDL b with
    | some a, some b => some (.fn f a b)
    | _, _ => none
  | .undef | .ptr .. | .sref .. | .tup .. | .hnd .. => none
def AV.toDL : List AV → Option (List D)
  | [] => some []
  | v :: vs => match AV.toD v, AV.toDL vs with
    | some d, some ds => some (d :: ds)
    | _, _ => none
end
def pack (vs : List AV) : AV := match AV.toDL vs with | some ds => .dat (.agg ds) | none => .agg vs
mutual
def freeze : AV → Store → Option (AV × Store)
  | .sref s id n p off len, σ =>
    match σ[id]? with
    | some B => bif Nat.beq B.n n then
        match B.v.nav p with
        | some (.dat (.arr _ ds)) => some (.dat (.slc s (seg ds off len)), bif B.frz then σ else σ.set id { B with frz := true })
        | _ => none else none
    | none => none
  | .fslc s ds, σ => some (.dat (.slc s ds), σ)
  | .agg vs, σ => (freezeL vs σ).map fun r => (pack r.1, r.2)
  | v, σ => some (v, σ)
def freezeL : List AV → Store → Option (List AV × Store)
  | [], σ => some ([], σ)
  | v :: vs, σ => (freeze v σ).bind fun r => (freezeL vs r.2).map fun q => (r.1 :: q.1, q.2)
end
def mkDyn (sh : Sh) (ds : List D) : Blk := { sh := .arr sh 0, dyn := true, frz := false, v := .dat (.arr sh ds) }
def mkVar (v : AV) : Blk := { sh := v.shape, dyn := false, frz := false, v := v }
def fits (sh : Sh) (ds : List D) : Bool := ds.all fun d => Sh.eqb d.shape sh
def oMark (x : AV) (σ : Store) : Option (AV × Store) :=
  match x with
  | .sref s id n p off len => match σ[id]? with
    | some B => bif Nat.beq B.n n && !B.frz && decide (0 < len) then match B.v.nav p with
        | some (.dat (.arr _ ds)) => some (.dat (.slc s (seg ds off len)), σ.set id { B with frz := true })
        | _ => none else none
    | none => none
  | _ => none
def oAppend (sh : Sh) (bytes : Nat) (x : AV) (ys : List D) (σ : Store) : Option (AV × Store) :=
  bif fits sh ys then
    match x with
    | .sref s id n p off len =>
      match σ[id]? with
      | some B => bif Nat.beq B.n n && B.dyn && !B.frz && p.isEmpty && Nat.beq off 0 && Nat.beq len n && Sh.eqb s sh && decide (0 < bytes) && decide ((n + ys.length) * bytes ≤ LIM) then
          match B.v with
          | .dat (.arr _ ds) => some (.sref sh id (n + ys.length) [] 0 (n + ys.length), σ.set id { B with v := .dat (.arr sh (ds ++ ys)) })
          | _ => none else none
      | none => none
    | .fslc s ds => bif Sh.eqb s sh && decide (0 < bytes) && decide ((ds.length + ys.length) * bytes ≤ LIM) then
        match ys with
        | [] => some (.fslc s ds, σ)
        | _ => some (.sref sh σ.length (ds.length + ys.length) [] 0 (ds.length + ys.length), σ ++ [mkDyn sh (ds ++ ys)]) else none
    | .dat (.slc s ds) => bif Sh.eqb s sh then
        match ys with
        | [] => some (.dat (.slc s ds), σ)
        | _ => none else none
    | _ => none
  else none
def zerosOf (J : AV) (y : AV) : Option (List D) :=
  match asI y, J.toD with
  | some n, some zd => bif decide (0 ≤ n) && decide (n ≤ LIM) then some (List.replicate n.toNat zd) else none
  | _, _ => none
def oOwn (x : AV) (σ : Store) : Option (AV × Store) :=
  match x with
  | .fslc s [] => some (.sref s σ.length 0 [] 0 0, σ ++ [mkDyn s []])
  | .sref s id n p off len => some (.sref s id n p off len, σ)
  | _ => none
def oNew (v : AV) (σ : Store) : Option (AV × Store) :=
  bif v.real then some (.ptr v.shape σ.length 0 [], σ ++ [mkVar v]) else none
def oNewSlice (sh : Sh) (ds : List D) (σ : Store) : Option (AV × Store) :=
  bif fits sh ds then some (.sref sh σ.length ds.length [] 0 ds.length, σ ++ [mkDyn sh ds]) else none
def oMake (sh : Sh) (bytes : Nat) (z : AV) (n cap : AV) (σ : Store) : Option (AV × Store) :=
  match asI n, asI cap, z.toD with
  | some n, some c, some d => bif decide (0 ≤ n) && decide (n ≤ c) && decide (c * bytes ≤ LIM) && decide (c ≤ LIM) && Sh.eqb d.shape sh then
      some (.sref sh σ.length n.toNat [] 0 n.toNat, σ ++ [mkDyn sh (List.replicate n.toNat d)]) else none
  | _, _, _ => none
def setAll : List D → List (Nat × D) → Option (List D)
  | ds, [] => some ds
  | ds, (i, d) :: l => bif decide (i < ds.length) then setAll (ds.set i d) l else none
def oCopy (sh : Sh) (x : AV) (ys : List D) (σ : Store) : Option (AV × Store) :=
  match x with
  | .sref s id n p off len =>
    match σ[id]? with
    | some B => bif Nat.beq B.n n && !B.frz && Sh.eqb s sh && fits sh ys then
        match B.v.nav p with
        | some (.dat (.arr s' ds)) =>
          let k := min ys.length len
          let ds' := ds.take off ++ ys.take k ++ ds.drop (off + k)
          bif Nat.beq k 0 then some (aInt 0, σ)
          else bif p.isEmpty && B.dyn then some (aInt k, σ.set id { B with v := .dat (.arr s' ds') })
          else (B.v.put p (.dat (.arr s' ds'))).map fun v' => (aInt k, σ.set id { B with v := v' })
        | _ => none else none
    | none => none
  | _ => none
def oClear (sh : Sh) (zd : D) (x : AV) (σ : Store) : Option (AV × Store) :=
  match x with
  | .sref s id n p off len => (oCopy sh (.sref s id n p off len) (List.replicate len zd) σ).map fun r => (.tup [], r.2)
  | .fslc _ [] => some (.tup [], σ)
  | _ => none
def keyEq : D → D → Bool
  | .str a, .str b => decide (a.data.toList = b.data.toList)
  | .int _ a, .int _ b => a == b
  | _, _ => false
def entK : D → D | .agg [k, _] => k | d => d
def entV : D → Int | .agg [_, .int _ n] => n | _ => 0
def mapHas (k : D) (ds : List D) : Bool := ds.any fun e => keyEq k (entK e)
def mapIdx (k : D) (ds : List D) : Nat := ds.findIdx fun e => keyEq k (entK e)
def mapGet (z : Int) (k : D) (ds : List D) : Int := bif mapHas k ds then entV (ds.getD (mapIdx k ds) .nili) else z
def mapPut (k v : D) (ds : List D) : List D := bif mapHas k ds then ds.set (mapIdx k ds) (.agg [k, v]) else ds ++ [.agg [k, v]]
def keyOk : Ty → D → Bool
  | .str, .str _ => true
  | .int a, .int b _ => decide (a = b)
  | _, _ => false
def entOkD (t : Ty) : D → Bool
  | .agg [k, .int j _] => keyOk t k && decide (j = .i64)
  | _ => false
abbrev mapBlk (ds : List D) : Blk := ⟨mapSh, false, false, .dat (.slc (.agg [.one, .one]) ds)⟩
def mapOf (x : AV) (σ : Store) : Option (Nat × List D) :=
  match x with
  | .hnd sh id => bif Sh.eqb sh mapSh then match σ[id]? with
    | some B => bif Sh.eqb B.sh mapSh && (!B.dyn && !B.frz) then match B.v with | .dat (.slc _ ds) => some (id, ds) | _ => none else none
    | none => none else none
  | _ => none
def mapTy (tab : Tab) (t : TypeId) : Option (Ty × Int) :=
  match tab[t]? with
  | some I => match I.ty with
    | .map k e => bif known tab t && (known tab k && known tab e) then match tab[k]?, tab[e]? with
      | some Ik, some Ie => match Ie.zero with
        | .dat (.int .i64 z) => some (Ik.ty, z)
        | _ => none
      | _, _ => none else none
    | _ => none
  | none => none
def datOf : AV → Option D | .dat d => some d | _ => none
def intOf : AV → Option D | .dat (.int .i64 n) => some (.int .i64 n) | _ => none
def oLook (T : Ty × Int) (x k : AV) (σ : Store) : Option AV :=
  (mapOf x σ).bind fun p => (datOf k).bind fun d => bif keyOk T.1 d && p.2.all (entOkD T.1) then some (.dat (.int .i64 (mapGet T.2 d p.2))) else none
def oMapUpd (T : Ty × Int) (x k v : AV) (σ : Store) : Option Store :=
  (mapOf x σ).bind fun p => (datOf k).bind fun d => (intOf v).bind fun n => bif keyOk T.1 d && p.2.all (entOkD T.1) then some (σ.set p.1 (mapBlk (mapPut d n p.2))) else none
def byteOfD : D → Option UInt8
  | .int .u8 n => some (UInt8.ofNat n.toNat)
  | _ => none
def bytesOf : List D → Option (List UInt8)
  | [] => some []
  | d :: ds => match byteOfD d, bytesOf ds with
    | some b, some l => some (b :: l)
    | _, _ => none
def oToStr (x : AV) (σ : Store) : Option AV :=
  bif isStr x then none else (elems x σ).bind fun ds => (bytesOf ds).map fun l => .dat (.str ⟨l.toArray⟩)
def oToBytes (x : AV) (σ : Store) : Option (AV × Store) :=
  match x with
  | .dat (.str s) => bif decide (s.size ≤ LIM) then oNewSlice .one (bytesD s) σ else none
  | _ => none
def oConvI (k : IntKind) : AV → Option AV
  | .dat (.int _ n) => some (.dat (.int k (k.wrap n)))
  | _ => none
def oExtract (i : Nat) : AV → Option AV
  | .tup vs => vs[i]?
  | _ => none
def oFn (f : Fn) (a b : List AV) : AV :=
  match AV.toDL a, AV.toDL b with
  | some a, some b => .dat (.fn f a b)
  | _, _ => .fn f a b
def realL (vs : List AV) : Bool := vs.all AV.real
mutual
def AV.ids : AV → List Nat
  | .ptr _ id _ _ => [id]
  | .sref _ id _ _ _ _ => [id]
  | .agg vs => AV.idsL vs
  | .fn _ a b => AV.idsL a ++ AV.idsL b
  | .tup vs => AV.idsL vs
  | .hnd _ id => [id]
  | .undef | .dat _ | .fslc _ _ => []
def AV.idsL : List AV → List Nat
  | [] => []
  | v :: vs => AV.ids v ++ AV.idsL vs
end
mutual
def AV.ren (r : Nat → Nat) : AV → AV
  | .ptr s id n p => .ptr s (r id) n p
  | .sref s id n p o l => .sref s (r id) n p o l
  | .agg vs => .agg (AV.renL r vs)
  | .fn f a b => .fn f (AV.renL r a) (AV.renL r b)
  | .tup vs => .tup (AV.renL r vs)
  | .hnd s id => .hnd s (r id)
  | .undef => .undef
  | .dat d => .dat d
  | .fslc s ds => .fslc s ds
def AV.renL (r : Nat → Nat) : List AV → List AV
  | [] => []
  | v :: vs => AV.ren r v :: AV.renL r vs
end
def inL (n : Nat) : List Nat → Bool
  | [] => false
  | m :: l => Nat.beq n m || inL n l
def posOf (n : Nat) : List Nat → Nat
  | [] => 0
  | m :: l => bif Nat.beq n m then 0 else posOf n l + 1
def idsAt (σ : Store) (id : Nat) : List Nat := match σ[id]? with | some B => B.v.ids | none => []
def reach (σ : Store) : Nat → List Nat → List Nat → List Nat
  | 0, _, acc => acc
  | _ + 1, [], acc => acc
  | n + 1, id :: todo, acc => bif inL id acc then reach σ n todo acc else reach σ n (idsAt σ id ++ todo) (acc ++ [id])
def closed (σ : Store) (ids ρ : List Nat) : Bool :=
  ids.all (fun i => inL i ρ) && ρ.all (fun i => decide (i < σ.length) && (idsAt σ i).all fun j => inL j ρ)
def blkRen (r : Nat → Nat) (B : Blk) : Blk := { B with v := B.v.ren r }
def getAll (σ : Store) (r : Nat → Nat) : List Nat → Store
  | [] => []
  | i :: l => match σ[i]? with
    | some B => blkRen r B :: getAll σ r l
    | none => getAll σ r l
def putAll (σ : Store) (r : Nat → Nat) (σ' : Store) : List Nat → Nat → Store
  | [], _ => σ
  | i :: l, k => match σ'[k]? with
    | some B => putAll (σ.set i (blkRen r B)) r σ' l (k + 1)
    | none => putAll σ r σ' l (k + 1)
def backName (ρ : List Nat) (base : Nat) (L : List Nat) (j : Nat) : Nat := match ρ[j]? with | some i => i | none => base + posOf j L
def merge (ρ : List Nat) (σ : Store) (res : List AV) (σ' : Store) : Option (List AV × Store) :=
  let k := ρ.length
  let first := List.range k
  let L := (reach σ' 4096 (first ++ AV.idsL res) []).filter fun j => decide (k ≤ j)
  bif closed σ' (AV.idsL res) (first ++ L) then
    let r := backName ρ σ.length L
    some (AV.renL r res, putAll σ r σ' ρ 0 ++ getAll σ' r L)
  else none
def callS (F : Fun') (args : List AV) (σ : Store) : Option (List AV × Store) :=
  let ids := AV.idsL args
  let ρ := reach σ 4096 ids []
  bif closed σ ids ρ then
    let r := fun i => posOf i ρ
    bind2 (F (AV.renL r args) (getAll σ r ρ)) fun res σ' => merge ρ σ res σ'
  else none
def res1 : List AV → AV
  | [v] => v
  | vs => .tup vs
def dyn (C : Disp) (f : AV) (args : List AV) (σ : Store) : Option (List AV × Store) :=
  match f with
  | .dat (.fn (.func g) a b) => callS (FunT.run (C g)) (a.map .dat ++ args ++ b.map .dat) σ
  | .fn (.func g) a b => callS (FunT.run (C g)) (a ++ args ++ b) σ
  | _ => none
abbrev Frame' := List AV
def constAV (tab : Tab) (t : TypeId) : Value → Option AV
  | .int k n => some (.dat (.int k n))
  | .bool b => some (.dat (.bool b))
  | .string s => some (.dat (.str s))
  | .pointer none => some (.dat .nilp)
  | .nilFunc => some (.dat .nilf)
  | .nilIface => some (.dat .nili)
  | .map none => some (.dat .nilm)
  | .slice none 0 0 => match tab[t]? with
    | some I => match I.ty with
      | .slc e => (tab.sh e).map fun s => .fslc s []
      | _ => none
    | none => none
  | _ => none
def ev (tab : Tab) (fr : Frame') (t : TypeId) : Operand → Option AV
  | .tmp i => some (fr.getD i .undef)
  | .const v => constAV tab t v
  | .func f => some (.dat (.fn (.func f) [] []))
  | .global _ => none
def evs (tab : Tab) (fr : Frame') : List TypeId → List Operand → Option (List AV)
  | t :: ts, x :: xs => (ev tab fr t x).bind fun v => (evs tab fr ts xs).map fun vs => v :: vs
  | [], [] => some []
  | [], x :: xs => (ev tab fr 0 x).bind fun v => (evs tab fr [] xs).map fun vs => v :: vs
  | _ :: _, [] => some []
inductive Hint where
  | freeze (i : Nat) | frzAt (i : Nat) (p : List Nat) | vp (i : Nat) | ownAt (i : Nat) (p : List Nat) | own (i : Nat) | kill (i : Nat) | cut (k : Nat) | is (i : Nat) (v : AV) | same (i j : Nat)
  deriving Inhabited
structure Env where
  tab : Tab
  callee : FuncId → Option FunT
  disp : Disp
  byref : FuncId → Bool
  hint : Nat → Nat → List Hint
  loop : Nat → Option (Frame' → Store → T (Exit × Frame' × Store))
  base : Nat
  yld : Nat → FunT
def one (x : Option AV) (σ : Store) (K : AV → Store → Option Res) : Option Res := x.bind fun v => K v σ
def kdL (g : TypeId → Option Kd) : List (TypeId × Nat) → Option (List Kd)
  | [] => some []
  | f :: fs => match g f.1, kdL g fs with
    | some k, some l => some (k :: l)
    | _, _ => none
def kdOf (tab : Tab) : Nat → TypeId → Option Kd
  | 0, _ => none
  | d + 1, t => match tab[t]? with
    | some I => match I.ty with
      | .int k => some (.int k)
      | .bool => some .bool
      | .str => some .str
      | .arr n e => (kdOf tab d e).map fun k => .arr k n
      | .struct fs => bif I.eqv then (kdL (kdOf tab d) fs).map .agg else none
      | _ => none
    | none => none
def oEq (tab : Tab) (neg : Bool) (t : TypeId) (x y : AV) : Option AV :=
  match tab[t]? with
  | some I => match I.ty with
    | .int _ | .str => oBin (bif neg then .neq else .eql) x y
    | .ptr _ => (eqNil (isNilP x) (isNilP y)).map (oNot neg)
    | .fn => (eqNil (isNilF x) (isNilF y)).map (oNot neg)
    | .bool | .struct _ | .arr .. => bif Sh.eqb x.shape I.sh && Sh.eqb y.shape I.sh then (kdOf tab 20 t).bind fun k => (oEqv k x y).map (oNot neg) else none
    | _ => none
  | none => none
def idsBelow (k : Nat) (vs : List AV) : Bool := (AV.idsL vs).all fun i => decide (i < k)
def frzAt (x : AV) (p : List Nat) (σ : Store) : Option Store :=
  match x with
  | .ptr _ id n q => match σ[id]? with
    | some B => bif Nat.beq B.n n && !B.frz && !B.dyn && posSh B.sh then
        match B.v.nav (q ++ p) with
        | some (.sref s i2 n2 p2 off len) => bif Nat.beq i2 id then none else (freeze (.sref s i2 n2 p2 off len) σ).bind fun r => (B.v.put (q ++ p) r.1).map fun v' => r.2.set id { B with v := v' }
        | some (.fslc s ds) => (B.v.put (q ++ p) (.dat (.slc s ds))).map fun v' => σ.set id { B with v := v' }
        | some _ => some σ
        | none => none
      else none
    | none => none
  | _ => none
def ownAt (x : AV) (p : List Nat) (σ : Store) : Option Store :=
  match x with
  | .ptr _ id n q => match σ[id]? with
    | some B => bif Nat.beq B.n n && !B.frz && !B.dyn && posSh B.sh then
        match B.v.nav (q ++ p) with
        | some (.fslc s []) => (B.v.put (q ++ p) (.sref s σ.length 0 [] 0 0)).map fun v' => (σ ++ [mkDyn s []]).set id { B with v := v' }
        | some _ => some σ
        | none => none
      else none
    | none => none
  | _ => none
def vpOf (x : AV) (σ : Store) : Option (AV × Store) :=
  match x with
  | .ptr s id n p => match σ[id]? with
    | some B => bif Nat.beq B.n n && !B.dyn && posSh B.sh then
        match B.v.nav p with
        | some (.dat d) => bif Sh.eqb d.shape s then some (.dat (.vptr s d), bif B.frz then σ else σ.set id { B with frz := true }) else none
        | _ => none
      else none
    | none => none
  | _ => none
def hint1 (base : Nat) (h : Hint) (fr : Frame') (σ : Store) : Option (Frame' × Store) :=
  match h with
  | .freeze i => (freeze (fr.getD i .undef) σ).bind fun r => some (fr.set i r.1, r.2)
  | .ownAt i p => (ownAt (fr.getD i .undef) p σ).map fun σ => (fr, σ)
  | .frzAt i p => (frzAt (fr.getD i .undef) p σ).map fun σ => (fr, σ)
  | .vp i => (vpOf (fr.getD i .undef) σ).map fun r => (fr.set i r.1, r.2)
  | .own i => (oOwn (fr.getD i .undef) σ).bind fun r => some (fr.set i r.1, r.2)
  | .kill i => some (fr.set i .undef, σ)
  | .is i v => bif AV.eqb (fr.getD i .undef) v then some (fr.set i v, σ) else none
  | .same i j => bif AV.eqb (fr.getD i .undef) (fr.getD j .undef) then some (fr.set i (fr.getD j .undef), σ) else none
  | .cut k => bif decide (base ≤ k) && idsBelow k fr && (σ.take k).all (fun B => idsBelow k [B.v]) then some (fr, σ.take k) else none
def hints (base : Nat) (hs : List Hint) (fr : Frame') (σ : Store) : Option (Frame' × Store) :=
  match hs with
  | [] => some (fr, σ)
  | h :: hs => (hint1 base h fr σ).bind fun r => hints base hs r.1 r.2
def partsAll (vs : List AV) : List (Nat × AV) → Option (List AV)
  | [] => some vs
  | (i, v) :: l => match vs[i]? with
    | some u => bif Sh.eqb u.shape v.shape && v.real then partsAll (vs.set i v) l else none
    | none => none
def AV.parts : AV → Option (List AV)
  | .agg vs => some vs
  | .dat (.agg ds) => some (ds.map .dat)
  | _ => none
def norm1 : AV → AV
  | .fslc s ds => .dat (.slc s ds)
  | v => v
def rawB (E : Env) (t : TypeId) : Bool := !(E.hint 666666 t).isEmpty
def nrm (c : Bool) (v : AV) : AV := bif c then v else norm1 v
def pck (c : Bool) (vs : List AV) : AV := bif c then .agg vs else pack vs
def oAppendF (sh : Sh) (bytes : Nat) (x : AV) (ys : List D) (σ : Store) : Option (AV × Store) :=
  bif fits sh ys then
    match x with
    | .sref s id n p off len =>
      match σ[id]? with
      | some B => bif Nat.beq B.n n && B.dyn && !B.frz && p.isEmpty && Nat.beq off 0 && Nat.beq len n && Sh.eqb s sh && decide (0 < bytes) && decide ((n + ys.length) * bytes ≤ LIM) && decide (0 < n) then
          match B.v with
          | .dat (.arr _ ds) => some (.dat (.slc sh (ds ++ ys)), σ.set id { B with frz := true })
          | _ => none else none
      | none => none
    | _ => none
  else none
def apF (E : Env) (o : Oper) : Bool := match o.dst with | some d => !(E.hint 555555 d).isEmpty | none => false
def apnd (c : Bool) (sh : Sh) (bytes : Nat) (x : AV) (ys : List D) (σ : Store) : Option (AV × Store) := bif c then oAppendF sh bytes x ys σ else oAppend sh bytes x ys σ
def evParts (tab : Tab) (fr : Frame') (ty : Nat → TypeId) : List (Nat × Operand) → Option (List (Nat × AV))
  | [] => some []
  | (i, x) :: l => (ev tab fr (ty i) x).bind fun v => (evParts tab fr ty l).map fun vs => (i, v) :: vs
def fieldTy (fs : List (TypeId × Nat)) (i : Nat) : TypeId := match fs[i]? with | some f => f.1 | none => 0
def freezeP : List (Nat × AV) → Store → Option (List (Nat × D) × Store)
  | [], σ => some ([], σ)
  | (i, v) :: l, σ => (freeze v σ).bind fun r => (AV.toD r.1).bind fun d => (freezeP l r.2).map fun q => ((i, d) :: q.1, q.2)
def call1 (_ : Env) (ref : Bool) (f : List AV → Store → Option (List AV × Store)) (args : List AV) (σ : Store) (K : AV → Store → Option Res) : Option Res :=
  bif realL args then
    bif ref then bind2 (f args σ) fun r σ => K (res1 r) σ
    else bind2 (freezeL args σ) fun args σ => bind2 (f args σ) fun r σ => K (res1 r) σ
  else none
def dynY (E : Env) (f : AV) (args : List AV) (σ : Store) : Option (List AV × Store) :=
  match f with
  | .hnd s i => bif Sh.eqb s loopSh then (E.yld i).run args σ else none
  | f => dyn E.disp f args σ
def pureF (E : Env) (g : FuncId) : Bool := !(E.hint 777777 g).isEmpty
def isDat : AV → Bool
  | .dat _ => true
  | _ => false
def pureC (F : FunT) (args : List AV) : T AV := .chk (args.all isDat) ((F args []).bind fun p => .chk (p.2.isEmpty && (AV.idsL p.1).isEmpty) (.leaf (res1 p.1)))
def opK0 (E : Env) (fr : Frame') (o : Oper) (σ : Store) (K : AV → Store → Option Res) : Option Res :=
  let tab := E.tab
  match o.op with
  | .move x | .assign x => one (ev tab fr o.type x) σ K
  | .pick c a b => (ev tab fr 0 c).bind fun c => (asB c).bind fun c => (ev tab fr o.type a).bind fun a => (ev tab fr o.type b).bind fun b => K (cond c a b) σ
  | .alloc t => match tab[t]? with
    | some I => bif known tab t then bind2 (oNew I.zero σ) K else none
    | none => none
  | .box t x => (ev tab fr t x).bind fun v => match tab[t]? with
    | some I => bif known tab t && Sh.eqb v.shape I.sh then bind2 (oNew v σ) K else none
    | none => none
  | .build t ps => match tab[t]? with
    | some I => match I.ty with
      | .struct fs => bif known tab t then
          I.zero.parts.bind fun zs => (evParts tab fr (fieldTy fs) ps.toList).bind fun ps => (partsAll (zs.map (nrm (rawB E t))) (ps.map fun p => (p.1, nrm (rawB E t) p.2))).bind fun vs => K (pck (rawB E t) vs) σ
          else none
      | .arr _ e => bif known tab t then
          (evParts tab fr (fun _ => e) ps.toList).bind fun ps => bind2 (freezeP ps σ) fun ps σ => match I.zero with
            | .dat (.arr s zs) => bif fits s (ps.map (·.2)) then (setAll zs ps).bind fun ds => K (.dat (.arr s ds)) σ else none
            | _ => none
          else none
      | _ => none
    | none => none
  | .buildSlice t len ps => match tab[t]? with
    | some I => match I.ty with
      | .slc e => bif known tab t then match tab[e]? with
        | some J => (evParts tab fr (fun _ => e) ps.toList).bind fun ps => bind2 (freezeP ps σ) fun ps σ => J.zero.toD.bind fun z =>
            bif decide (len * J.sh.size ≤ 2 ^ 24) && fits J.sh (ps.map (·.2)) then (setAll (List.replicate len z) ps).bind fun ds => bind2 (oNewSlice J.sh ds σ) K else none
        | none => none else none
      | _ => none
    | none => none
  | .makeMap _ none => K (.hnd mapSh σ.length) (σ ++ [mapBlk []])
  | .lookup t x k false => (ev tab fr 0 x).bind fun x => (ev tab fr 0 k).bind fun k => (mapTy tab t).bind fun T => one (oLook T x k σ) σ K
  | .mapUpdate t x k v => (ev tab fr 0 x).bind fun x => (ev tab fr 0 k).bind fun k => (ev tab fr 0 v).bind fun v => (mapTy tab t).bind fun T => (oMapUpd T x k v σ).bind fun σ => K .undef σ
  | .load t x => (ev tab fr 0 x).bind fun x => bif known tab t then (tab.sh t).bind fun s => one (oLoad s x σ) σ K else none
  | .store t x v => (ev tab fr 0 x).bind fun x => (ev tab fr t v).bind fun v => bif known tab t then (tab.sh t).bind fun s => (oStore s x v σ).bind fun σ => K .undef σ else none
  | .nilCheck x => (ev tab fr 0 x).bind fun x => one (oNilCheck x) σ K
  | .binOp op t x y _ => (ev tab fr t x).bind fun x => (ev tab fr t y).bind fun y => match op with
    | .eql => bif known tab t then one (oEq tab false t x y) σ K else none
    | .neq => bif known tab t then one (oEq tab true t x y) σ K else none
    | op => one (oBin op x y) σ K
  | .unOp op _ x => (ev tab fr 0 x).bind fun x => one (oUn op x) σ K
  | .convert src dst x => (ev tab fr src x).bind fun x => bif known tab src && known tab dst then match tab[src]?, tab[dst]? with
    | some I, some J => match I.ty, J.ty with
      | .int _, .int k => one (oConvI k x) σ K
      | .str, .slc e => match tab[e]? with
        | some L => match L.ty with | .int .u8 => bind2 (oToBytes x σ) K | _ => none
        | none => none
      | .slc e, .str => match tab[e]? with
        | some L => match L.ty with | .int .u8 => one (oToStr x σ) σ K | _ => none
        | none => none
      | .slc _, .slc e => bif Nat.beq src dst then match tab[e]? with
        | some L => match L.ty with | .int .u8 => bind2 (oMark x σ) K | _ => none
        | none => none else none
      | .str, .str => bif isStr x then K x σ else none
      | _, _ => none
    | _, _ => none else none
  | .makeFunc f a b => (evs tab fr [] a.toList).bind fun a => (evs tab fr [] b.toList).bind fun b => bif realL a && realL b then K (oFn f a b) σ else none
  | .makeSlice t n c => (ev tab fr 0 n).bind fun n => (ev tab fr 0 c).bind fun c => bif known tab t then match tab[t]? with
    | some I => match I.ty with
      | .slc e => match tab[e]? with
        | some J => bind2 (oMake J.sh J.bytes J.zero n c σ) K
        | none => none
      | _ => none
    | none => none else none
  | .slice t x lo hi mx => (ev tab fr t x).bind fun x =>
      (match lo with | none => some none | some l => (ev tab fr 0 l).map some).bind fun lo =>
      (match hi with | none => some none | some l => (ev tab fr 0 l).map some).bind fun hi =>
      bif known tab t then match tab[t]? with
        | some I => match I.ty, mx with
          | .arr n e, none => (tab.sh e).bind fun s => one (oSliceA s n x lo hi σ) σ K
          | .slc e, none => bif fitsSlc tab e x then one (oSlice x lo hi false) σ K else none
          | .str, none => bif isStr x then one (oSlice x lo hi false) σ K else none
          | .slc e, some m => (ev tab fr 0 m).bind fun m => match hi with
            | some h => (asI h).bind fun a => (asI m).bind fun b => bif fitsSlc tab e x && decide (a = b) then one (oSlice x lo (some h) true) σ K else none
            | none => none
          | _, _ => none
        | none => none else none
  | .fieldAddr t x f => (ev tab fr 0 x).bind fun x => bif known tab t then match tab[t]? with
    | some I => match I.ty, I.sh with
      | .struct _, .agg l => match l[f]? with
        | some s => one (oFieldAddr I.sh s f x) σ K
        | none => none
      | _, _ => none
    | none => none else none
  | .field t x f => (ev tab fr 0 x).bind fun x => bif known tab t then match tab[t]? with
    | some I => match I.ty with
      | .struct _ => bif Sh.eqb x.shape I.sh then one (oField f x) σ K else none
      | _ => none
    | none => none else none
  | .indexAddr t x i => (ev tab fr t x).bind fun x => (ev tab fr 0 i).bind fun i => bif known tab t then match tab[t]? with
    | some I => match I.ty with
      | .slc e => (tab.sh e).bind fun s => one (oIndexAddr s x i) σ K
      | .arr n e => (tab.sh e).bind fun s => one (oIndexAddrA s n x i) σ K
      | _ => none
    | none => none else none
  | .index t x i => (ev tab fr t x).bind fun x => (ev tab fr 0 i).bind fun i => bif known tab t then match tab[t]? with
    | some I => match I.ty with
      | .str => one (oIndexS x i) σ K
      | .arr _ _ => bif Sh.eqb x.shape I.sh then one (oIndexA x i) σ K else none
      | _ => none
    | none => none else none
  | .extract x i => (ev tab fr 0 x).bind fun x => one (oExtract i x) σ K
  | .sliceToArrayPointer t x => (ev tab fr 0 x).bind fun x => bif known tab t then match tab[t]? with
    | some I => match I.ty with
      | .arr n e => (tab.sh e).bind fun s => one (oS2A s n x) σ K
      | _ => none
    | none => none else none
  | .call c => (evs tab fr c.argTypes.toList c.args.toList).bind fun args => match c.callee with
    | .builtin .len => match args, c.argTypes[0]? with
      | [x], some t => bif known tab t then match tab[t]? with
        | some I => match I.ty with
          | .slc _ => bif (slcSh x).isSome then one (oLen x) σ K else none
          | .str => bif isStr x then one (oLen x) σ K else none
          | .arr n _ => K (aInt n) σ
          | .map _ _ => (mapOf x σ).bind fun p => K (aInt p.2.length) σ
          | _ => none
        | none => none else none
      | _, _ => none
    | .builtin .max => match args with | [x, y] => one (oMax x y) σ K | [x, y, z] => (oMax x y).bind fun x => one (oMax x z) σ K | _ => none
    | .builtin .min => match args with | [x, y] => one (oMin x y) σ K | [x, y, z] => (oMin x y).bind fun x => one (oMin x z) σ K | _ => none
    | .builtin .append => match args, c.argTypes[0]?, c.argTypes[1]? with
      | [x, y], some t, some u => bif known tab t && known tab u then match tab[t]?, tab[u]? with
        | some I, some L => match I.ty, L.ty with
          | .slc e, .slc _ => match tab[e]? with | some J => (elems y σ).bind fun ys => bind2 (apnd (apF E o) J.sh J.bytes x ys σ) K | none => none
          | .slc e, .str => match tab[e]? with | some J => (elems y σ).bind fun ys => bind2 (apnd (apF E o) J.sh J.bytes x ys σ) K | none => none
          | .slc e, .int _ => match tab[e]? with | some J => (zerosOf J.zero y).bind fun ys => bind2 (apnd (apF E o) J.sh J.bytes x ys σ) K | none => none
          | _, _ => none
        | _, _ => none else none
      | _, _, _ => none
    | .builtin .copy => match args, c.argTypes[0]? with
      | [x, y], some t => bif known tab t then match tab[t]? with
        | some I => match I.ty with
          | .slc e => match tab[e]? with | some J => (elems y σ).bind fun ys => bind2 (oCopy J.sh x ys σ) K | none => none
          | _ => none
        | none => none else none
      | _, _ => none
    | .builtin .clear => match args, c.argTypes[0]? with
      | [x], some t => bif known tab t then match tab[t]? with
        | some I => match I.ty with
          | .slc e => match tab[e]? with | some J => J.zero.toD.bind fun zd => bind2 (oClear J.sh zd x σ) K | none => none
          | _ => none
        | none => none else none
      | _, _ => none
    | .value (.func g) => (E.callee g).bind fun F => bif pureF E g then one (pureC F args).run σ K else call1 E (E.byref g) (callS (FunT.run F)) args σ K
    | .value f => (ev tab fr 0 f).bind fun f => call1 E false (dynY E f) args σ K
    | _ => none
  | _ => none
def setDst (fr : Frame') (d : Option Tmp) (v : AV) : Frame' := match d with | some d => fr.set d v | none => fr
def ins (x : Nat) (l : List Nat) : List Nat := bif inL x l then l else x :: l
def rm (d : Option Nat) (l : List Nat) : List Nat := match d with | none => l | some d => l.filter fun x => !Nat.beq x d
def opnd (x : Operand) (l : List Nat) : List Nat := match x with | .tmp i => ins i l | _ => l
def opnds (xs : List Operand) (l : List Nat) : List Nat := xs.foldr opnd l
def opnds2 (xs : List (Nat × Operand)) (l : List Nat) : List Nat := xs.foldr (fun p l => opnd p.2 l) l
def opndO (x : Option Operand) (l : List Nat) : List Nat := match x with | some x => opnd x l | none => l
def opLive (o : Op) (l : List Nat) : List Nat :=
  match o with
  | .alloc _ | .ready _ | .waits _ => l
  | .move x | .assign x | .box _ x | .load _ x | .nilCheck x | .unOp _ _ x | .convert _ _ x | .sliceToArrayPointer _ x | .makeInterface _ x
  | .makeChan _ x | .fieldAddr _ x _ | .field _ x _ | .range _ x | .next x _ | .entry x | .typeAssert x _ _ _ | .extract x _ | .panic x | .recv _ x _ => opnd x l
  | .pick c a b => opnd c (opnd a (opnd b l))
  | .build _ ps | .buildSlice _ _ ps => opnds2 ps.toList l
  | .store _ a v | .binOp _ _ a v _ | .makeSlice _ a v | .indexAddr _ a v | .index _ a v | .lookup _ a v _ | .mapEntry _ a v | .send a v => opnd a (opnd v l)
  | .makeFunc _ a b => opnds a.toList (opnds b.toList l)
  | .makeMap _ r => opndO r l
  | .slice _ x a b c => opnd x (opndO a (opndO b (opndO c l)))
  | .mapUpdate _ m k v | .entryStore _ m k v | .insert _ m k v => opnd m (opnd k (opnd v l))
  | .call c | .go c | .defer c => (match c.callee with | .value f => opnd f | .invoke r _ => opnd r | .builtin _ => id) (opnds c.args.toList l)
  | .select cs _ => cs.toList.foldr (fun c l => opnd c.chan (opndO c.send l)) l
def gdst (all : List Oper) (j : Nat) : Option Nat := (all[j]?).bind (·.dst)
def opsLive (all : List Oper) : List Oper → List Nat → List Nat
  | [], l => l
  | o :: os, l =>
    let l := opLive o.op (rm o.dst (opsLive all os l))
    match o.guard with
    | some (j, _) => (match gdst all j with | some d => ins d l | none => l)
    | none => l
def findL (l : List (Nat × List Nat)) (i : Nat) : List Nat := match l with | [] => [] | (j, x) :: l => bif Nat.beq i j then x else findL l i
def exLive (ex : List (Nat × List Nat)) : List Nat := ex.foldr (fun p l => p.2.foldr ins l) []
def codeLive (rt : List Nat) : Code → List (Nat × List Nat) → List Nat → List Nat
  | .region _ ops _, _, out => opsLive ops.toList ops.toList out
  | .seq a b, ex, out => codeLive rt a ex (codeLive rt b ex out)
  | .cond c a b, ex, out => opnd c ((codeLive rt a ex out).foldr ins (codeLive rt b ex out))
  | .block id b, ex, out => codeLive rt b ((id, out) :: ex) out
  | .scope b, ex, out => codeLive rt b ex out
  | .loop b, ex, _ => codeLive rt b ex []
  | .exit id, ex, _ => findL ex id
  | .ret, _, _ => rt
  | .rangeFunc g _ a b, ex, out => opnd g ((codeLive [] a [] (codeLive [] b [] [])).foldr ins (rt.foldr ins (exLive ((1000000, out) :: ex))))
  | _, _, out => out
def codeDst : Code → List Nat → List Nat
  | .region _ ops _, l => ops.toList.foldr (fun o l => match o.dst with | some d => ins d l | none => l) l
  | .seq a b, l | .cond _ a b, l => codeDst a (codeDst b l)
  | .block _ b, l | .loop b, l | .scope b, l => codeDst b l
  | _, l => l
def opsDst (ops : List Oper) : List Nat := ops.foldr (fun o l => match o.dst with | some d => ins d l | none => l) []
def cleanF (l : List Nat) : Nat → Frame' → Frame'
  | _, [] => []
  | i, v :: fr => (bif inL i l then v else .undef) :: cleanF l (i + 1) fr
def getF (fr : Frame') (ws : List Nat) : List AV := ws.map fun i => fr.getD i .undef
def putF (fr : Frame') (vs : List AV) : Nat → List Nat → Frame'
  | _, [] => fr
  | k, i :: ws => putF (fr.set i (vs.getD k .undef)) vs (k + 1) ws
def undF (fr : Frame') : List Nat → Frame'
  | [] => fr
  | i :: ws => undF (fr.set i .undef) ws
def joinK (f : List AV → Store → Option Res) (g : (List AV → Store → Option Res) → Option Res) : Option Res := g f
def grpLen (j : Nat) (w : Bool) : List Nat → Nat → List Oper → Nat
  | _, _, [] => 0
  | Z, i, o :: l => match o.guard with
    | some (j', w') => bif (Nat.beq j' j && (w' == w)) || inL j' Z then grpLen j w (i :: Z) (i + 1) l + 1 else 0
    | none => 0
def inG (j : Nat) (w : Bool) : List (Nat × Bool) → Bool
  | [] => false
  | (j', w') :: l => (Nat.beq j' j && (w' == w)) || inG j w l
def Env.rebase (E : Env) (n : Nat) : Env := ⟨E.tab, E.callee, E.disp, E.byref, E.hint, E.loop, n, E.yld⟩
end Go.AX
