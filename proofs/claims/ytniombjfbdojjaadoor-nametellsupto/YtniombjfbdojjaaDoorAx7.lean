import Derived.Test.YtniombjfbdojjaaDoorAx5
import Derived.Test.YtniombjfbdojjaaDoorAx6
/- AX, part 6: regions whose order is drawn: run as they stand, where what may be read at another time is the same then. -/
namespace Go.AX
def opCls (E : Env) (o : Op) : Nat :=
  match o with
  | .move _ | .assign _ | .sliceToArrayPointer .. | .pick .. | .nilCheck _ | .binOp .. | .unOp .. | .makeFunc .. | .fieldAddr .. | .field .. | .indexAddr .. | .index .. | .extract .. => 0
  | .load .. | .slice .. => 1
  | .build t _ => match E.tab[t]? with
    | some I => match I.ty with | .struct _ => 0 | _ => 2
    | none => 2
  | .convert src dst _ => match E.tab[src]?, E.tab[dst]? with
    | some I, some J => match I.ty, J.ty with
      | .int _, .int _ => 0
      | .slc _, .str => 1
      | _, _ => 2
    | _, _ => 2
  | .call c => match c.callee with
    | .builtin .len => match c.argTypes[0]? with
      | some t => match E.tab[t]? with
        | some I => match I.ty with | .map _ _ => 2 | _ => 0
        | none => 0
      | none => 0
    | .builtin .max | .builtin .min => 0
    | .value (.func g) => bif pureF E g then 0 else 2
    | _ => 2
  | _ => 2
def afts (o : Oper) : List Nat := o.after.toList.filterMap fun e => bif Region.binds .any e then some e.on else none
def ancs : List Oper → List (List Nat) → List (List Nat)
  | [], acc => acc
  | o :: l, acc => ancs l (acc ++ [(afts o).flatMap fun j => j :: acc.getD j []])
def looksL (all : List Oper) (o : Oper) : List Nat := opLive o.op (match o.guard with | some (j, _) => (match gdst all j with | some d => [d] | none => []) | none => [])
def idx {α : Type} : Nat → List α → List (Nat × α)
  | _, [] => []
  | i, x :: l => (i, x) :: idx (i + 1) l
def drawOk (E : Env) (all : List Oper) : Bool :=
  let an := ancs all []
  let ix := idx 0 all
  ix.all fun p =>
    (afts p.2).all (fun j => decide (j < p.1)) &&
    (match p.2.guard with | some (j, _) => inL j (afts p.2) && (gdst all j).isSome | none => true) &&
    ix.all fun q => Nat.beq p.1 q.1 ||
      ((match q.2.dst with
        | some d => !inL d (looksL all p.2) || bif decide (q.1 < p.1) then inL q.1 (afts p.2) else inL p.1 (afts q.2)
        | none => true) &&
       (match p.2.dst, q.2.dst with | some d, some e => !Nat.beq d e | _, _ => true) &&
       (!Nat.beq (opCls E p.2.op) 2 || !Nat.beq (opCls E q.2.op) 2 || bif decide (q.1 < p.1) then inL q.1 (an.getD p.1 []) else inL p.1 (an.getD q.1 [])))
abbrev DLook := Nat × Frame' × Oper × AV
def noRef (E : Env) (fr : Frame') (o : Oper) : Bool :=
  match o.op with
  | .load _ x => (match ev E.tab fr 0 x with | some v => v.ids.isEmpty | none => false)
  | .convert src _ x => (match ev E.tab fr src x with | some v => v.ids.isEmpty | none => false)
  | _ => false
def sameIn (E : Env) (fr : Frame') (o : Oper) (v : AV) (s : Store) : Bool := noRef E fr o || (opT E fr o s).all fun p => AV.eqb v p.1
def drawK (E : Env) (all : List Oper) (an : List (List Nat)) : List Oper → Nat → Frame' → Store → List Nat → List (Nat × Store) → List DLook → (Frame' → Store → Option Res) → Option Res
  | [], _, fr, σ, _, _, _, K => K fr σ
  | o :: l, i, fr, σ, sk, hist, lks, K =>
    let skip := fun fr => drawK E all an l (i + 1) (setDst fr o.dst .undef) σ (i :: sk) hist lks K
    let go := fun fr => match opCls E o.op with
      | 0 => opK E fr o σ fun v _ => drawK E all an l (i + 1) (setDst fr o.dst v) σ sk hist lks K
      | 1 => opK E fr o σ fun v _ =>
          bif hist.all (fun h => inL h.1 (an.getD i []) || sameIn E fr o v h.2) then drawK E all an l (i + 1) (setDst fr o.dst v) σ sk hist ((i, fr, o, v) :: lks) K else none
      | _ => opK E fr o σ fun v σ' =>
          bif lks.all (fun k => inL k.1 (an.getD i []) || sameIn E k.2.1 k.2.2.1 k.2.2.2 σ') then drawK E all an l (i + 1) (setDst fr o.dst v) σ' sk ((i, σ) :: hist) lks K else none
    match o.guard with
    | none => go fr
    | some (j, w) => bif inL j sk then skip fr else
      match gdst all j with
      | none => none
      | some d => (asB (fr.getD d .undef)).bind fun b => cond b
          (bif w then go (fr.set d (aBool true)) else skip (fr.set d (aBool true)))
          (bif w then skip (fr.set d (aBool false)) else go (fr.set d (aBool false)))
end Go.AX

namespace Go.AX
abbrev Kt := Exit → Frame' → Store → Option Res
def maxIds (vs : List AV) : Nat := (AV.idsL vs).foldl (fun a i => max a (i + 1)) 0
def trimN (σ : Store) : Nat → Nat → Nat
  | 0, k => k
  | n + 1, k => trimN σ n (max k (maxIds ((σ.take k).map fun B => B.v)))
def trim (base : Nat) (fr : Frame') (σ : Store) : Store :=
  let k := trimN σ 4 (max base (maxIds fr))
  bif decide (base ≤ k) && idsBelow k fr && (σ.take k).all (fun B => idsBelow k [B.v]) then σ.take k else σ
def loopN (step : Frame' → Store → Kt → Option Res) (base : Nat) (live : List Nat) : Nat → Frame' → Store → Kt → Option Res
  | 0, _, _, _ => none
  | n + 1, fr, σ, K => step (cleanF live 0 fr) (trim base (cleanF live 0 fr) σ) fun e fr σ => match e with
    | .normal => loopN step base live n fr σ K
    | e => K e fr σ
def Code.straight : Code → Bool
  | .region _ _ d => !d
  | .skip => true
  | _ => false
def loopKey : Code → Nat
  | .region id _ _ => id
  | .seq a _ | .cond _ a _ | .block _ a | .loop a | .scope a | .rangeFunc _ _ _ a => loopKey a
  | _ => 0
def Code.isRange : Code → Bool
  | .rangeFunc .. => true
  | _ => false
def ex (E : Env) (rt : List Nat) : Code → List (Nat × List Nat) → List Nat → Frame' → Store → Kt → Option Res
  | .skip, _, _, fr, σ, K => K .normal fr σ
  | .region id ops false, _, out, fr, σ, K => opsK E id ops.toList (ops.toList.length + 1) [] out ops.toList 0 fr σ fun fr σ => K .normal fr σ
  | .region _ ops true, _, _, fr, σ, K => bif drawOk E ops.toList then drawK E ops.toList (ancs ops.toList []) ops.toList 0 fr σ [] [] [] fun fr σ => K .normal fr σ else none
  | .seq a b, exs, out, fr, σ, K =>
    let mid := codeLive rt b exs out
    bif Code.straight a then ex E rt a exs mid fr σ fun e fr σ => match e with
      | .normal => ex E rt b exs out fr σ K
      | e => K e fr σ
    else
      let ds := codeDst a []
      let ws := ds.filter fun x => inL x mid
      joinK (fun vs σ => ex E rt b exs out (putF (undF fr ds) vs 0 ws) σ K) fun k =>
        ex (E.rebase σ.length) rt a exs mid fr σ fun e fr σ => match e with
          | .normal => k (getF fr ws) σ
          | e => K e fr σ
  | .cond c a b, exs, out, fr, σ, K => (ev E.tab fr 0 c).bind fun v => (asB v).bind fun t => cond t (ex E rt a exs out fr σ K) (ex E rt b exs out fr σ K)
  | .block id b, exs, out, fr, σ, K => ex E rt b ((id, out) :: exs) out fr σ fun e fr σ => match e with
      | .exit i => bif Nat.beq i id then K .normal fr σ else K e fr σ
      | e => K e fr σ
  | .loop b, exs, _, fr, σ, K => bif Code.isRange b then none else match E.loop (loopKey b) with
    | some L => (L (cleanF (codeLive rt b exs []) 0 fr) σ).k fun p => K p.1 p.2.1 p.2.2
    | none => match E.hint 888888 (loopKey b) with
      | [.cut n] => loopN (fun fr σ' K => ex (E.rebase σ.length) rt b exs (codeLive rt b exs []) fr σ' K) σ.length (codeLive rt b exs []) n (cleanF (codeLive rt b exs []) 0 fr) σ K
      | _ => none
  | .rangeFunc g ps a b, exs, out, fr, σ, K => match E.loop (loopKey b) with
    | some L => (L (cleanF (codeLive rt (.rangeFunc g ps a b) exs out) 0 fr) σ).k fun p => K p.1 p.2.1 p.2.2
    | none => none
  | .scope b, exs, out, fr, σ, K => ex E rt b exs out fr σ fun e fr σ => match e with
      | .goto _ => none
      | e => K e fr σ
  | .label _, _, _, fr, σ, K => K .normal fr σ
  | .exit id, exs, _, fr, σ, K => K (.exit id) (cleanF (findL exs id) 0 fr) σ
  | .ret, _, _, fr, σ, K => K .ret (cleanF rt 0 fr) σ
  | _, _, _, _, _, _ => none
def resSlots : List ResultVar → List Nat
  | [] => []
  | .tmp t :: l => t :: resSlots l
  | .cell a _ :: l => a :: resSlots l
def resVals (tab : Tab) (fr : Frame') (σ : Store) : List ResultVar → Option (List AV)
  | [] => some []
  | .tmp t :: l => (resVals tab fr σ l).map fun vs => fr.getD t .undef :: vs
  | .cell a t :: l => bif known tab t then (tab.sh t).bind fun s => (oLoad s (fr.getD a .undef) σ).bind fun v => (resVals tab fr σ l).map fun vs => v :: vs else none
def loopsOf (rt : List Nat) : Code → List (Nat × List Nat) → List Nat → List (List Nat × Code × List (Nat × List Nat))
  | .seq a b, exs, out => loopsOf rt a exs (codeLive rt b exs out) ++ loopsOf rt b exs out
  | .cond _ a b, exs, out => loopsOf rt a exs out ++ loopsOf rt b exs out
  | .block id b, exs, out => loopsOf rt b ((id, out) :: exs) out
  | .scope b, exs, out => loopsOf rt b exs out
  | .loop b, exs, _ => (rt, b, exs) :: loopsOf rt b exs (codeLive rt b exs [])
  | .rangeFunc g ps a b, exs, out => (rt, .rangeFunc g ps a b, (1000000, out) :: exs) :: (loopsOf [] a [] (codeLive [] b [] []) ++ loopsOf [] b [] [])
  | _, _, _ => []
def loopStep (E : Env) (rt : List Nat) (b : Code) (exs : List (Nat × List Nat)) : Frame' → Store → Kt → Option Res := fun fr σ K => ex E rt b exs (codeLive rt b exs []) fr σ K
def rngLive (rt : List Nat) (g : Operand) (a b : Code) (exs : List (Nat × List Nat)) : List Nat := opnd g ((codeLive [] a [] (codeLive [] b [] [])).foldr ins (rt.foldr ins (exLive exs)))
def fnOf : AV → Option (FuncId × List AV × List AV)
  | .dat (.fn (.func g) a b) => some (g, a.map .dat, b.map .dat)
  | .fn (.func g) a b => some (g, a, b)
  | _ => none
def rngSet (fr : Frame') : List Nat → List AV → Frame'
  | p :: ps, v :: vs => rngSet (fr.set p v) ps vs
  | _, _ => fr
def ghost (c : Int) : Blk := { sh := loopSh, dyn := false, frz := false, v := .dat (.int .i64 c) }
def setG (σ : Store) (j : Nat) (c : Int) : Store := match σ[j]? with
  | some B => σ.set j { B with v := .dat (.int .i64 c) }
  | none => σ
def gCode (σ : Store) (j : Nat) : Option Int := match σ[j]? with
  | some B => bif Sh.eqb B.sh loopSh && !B.dyn && !B.frz then asI B.v else none
  | none => none
def rndFin (j : Nat) (n : Nat) (go : Bool) (c : Int) (σ : Store) : Option Res := bif (gCode σ j).isSome then some ([.dat (.bool go)], trim n [] (setG σ j c)) else none
def rndRun (E : Env) (ps : List Nat) (a b : Code) (j : Nat) (fr : Frame') (row : List AV) (σ : Store) : Option Res :=
  bif realL row && Nat.beq row.length ps.length && decide (j < σ.length) then
    match gCode σ j with
    | some 0 => ex (E.rebase σ.length) [] a [] (codeLive [] b [] []) (rngSet fr ps row) σ fun e fr1 σ1 => match e with
        | .normal => match gCode σ1 j with
          | some 0 => ex (E.rebase σ.length) [] b [] [] fr1 (setG σ1 j (-1)) fun e _ σ2 => match e with
            | .normal => rndFin j σ.length true 0 σ2
            | .ret => rndFin j σ.length false 1 σ2
            | .exit i => rndFin j σ.length false (2 + (i : Int)) σ2
            | _ => none
          | _ => none
        | _ => none
    | _ => none
  else none
def genFin (rt : List Nat) (exs : List (Nat × List Nat)) (j : Nat) (fr : Frame') (σ : Store) (K : Kt) : Option Res :=
  match gCode σ j with
  | some (.ofNat 0) => K .normal fr (trim j fr (setG σ j (-2)))
  | some (.ofNat 1) => K .ret (cleanF rt 0 fr) (trim j (cleanF rt 0 fr) (setG σ j (-2)))
  | some (.ofNat (i + 2)) => K (.exit i) (cleanF (findL exs i) 0 fr) (trim j (cleanF (findL exs i) 0 fr) (setG σ j (-2)))
  | _ => none
def genRun (E : Env) (rt : List Nat) (exs : List (Nat × List Nat)) (f : Func) (fi ca : List AV) (fr : Frame') (σ : Store) (K : Kt) : Option Res :=
  match f.body with
  | some c =>
    bif f.results.isEmpty && realL (fi ++ ca) && decide ((fi ++ [AV.hnd loopSh σ.length] ++ ca).length ≤ f.ntmps) && idsBelow σ.length fr then
      ex (E.rebase (σ.length + 1)) [] c [] [] ((fi ++ [AV.hnd loopSh σ.length] ++ ca) ++ List.replicate (f.ntmps - (fi ++ [AV.hnd loopSh σ.length] ++ ca).length) .undef) (σ ++ [ghost 0]) fun e _ σ2 => match e with
        | .normal | .ret => genFin rt exs σ.length fr σ2 K
        | _ => none
    else none
  | none => none
def Env.gen (E : Env) (j : Nat) (Y : FunT) (lp : Nat → Option (Frame' → Store → T (Exit × Frame' × Store))) (hs : Nat → Nat → List Hint) : Env :=
  ⟨E.tab, E.callee, E.disp, E.byref, hs, lp, 0, fun i => bif Nat.beq i j then Y else E.yld i⟩
def genLoops (f : Func) : List (List Nat × Code × List (Nat × List Nat)) :=
  match f.body with
  | some c => loopsOf [] c [] []
  | none => []
def rngG : Code → Operand
  | .rangeFunc g _ _ _ => g
  | _ => .tmp 0
def rngPs : Code → List Nat
  | .rangeFunc _ ps _ _ => ps.toList
  | _ => []
def rngA : Code → Code
  | .rangeFunc _ _ a _ => a
  | _ => .skip
def rngB : Code → Code
  | .rangeFunc _ _ _ b => b
  | _ => .skip
def LoopOkN (P : Program) : Nat → Env → List Nat → Code × List (Nat × List Nat) → Prop
  | 0, _, _, (.rangeFunc .., _) => False
  | n + 1, E, rt, (.rangeFunc g ps a b, exs) => ∀ L, E.loop (loopKey b) = some L → ∀ fr σ p, (L fr σ).run = some p → ∀ (K : Kt) r, K p.1 p.2.1 p.2.2 = some r →
      ∃ v gf fi ca f Y lp hs, ev E.tab (cleanF (rngLive rt g a b exs) 0 fr) 0 g = some v ∧ fnOf v = some (gf, fi, ca) ∧ P.funcs[gf]? = some f ∧ (f.name == "runtime.NumGoroutine") = false ∧
        (∀ row σ' q, (Y row σ').run = some q → rndRun E ps.toList a b σ.length (cleanF (rngLive rt g a b exs) 0 fr) row σ' = some q) ∧
        (∀ x ∈ genLoops f, LoopOkN P n (E.gen σ.length Y lp hs) x.1 x.2) ∧
        genRun (E.gen σ.length Y lp hs) rt exs f fi ca (cleanF (rngLive rt g a b exs) 0 fr) σ K = some r
  | _, E, rt, x => ∀ L, E.loop (loopKey x.1) = some L → ∀ fr σ p, (L fr σ).run = some p →
      ∀ (K : Kt) r, K p.1 p.2.1 p.2.2 = some r → ∃ n, loopN (loopStep (E.rebase σ.length) rt x.1 x.2) σ.length (codeLive rt x.1 x.2 []) n fr σ K = some r
theorem LoopOkN.plain {P : Program} {n : Nat} {E : Env} {rt : List Nat} {x : Code × List (Nat × List Nat)} (hx : Code.isRange x.1 = false) : LoopOkN P n E rt x =
    (∀ L, E.loop (loopKey x.1) = some L → ∀ fr σ p, (L fr σ).run = some p →
      ∀ (K : Kt) r, K p.1 p.2.1 p.2.2 = some r → ∃ n, loopN (loopStep (E.rebase σ.length) rt x.1 x.2) σ.length (codeLive rt x.1 x.2 []) n fr σ K = some r) := by
  obtain ⟨c, exs⟩ := x
  cases c <;> first | (simp [Code.isRange] at hx; done) | (cases n <;> rfl)
theorem LoopOkN.rebase {P : Program} {n : Nat} {E : Env} {rt : List Nat} {x : Code × List (Nat × List Nat)} (h : LoopOkN P n E rt x) (k : Nat) : LoopOkN P n (E.rebase k) rt x := by
  cases hx : Code.isRange x.1 with
  | false => rw [LoopOkN.plain hx] at h ⊢; exact h
  | true =>
    obtain ⟨c, exs⟩ := x
    cases c <;> simp [Code.isRange] at hx
    cases n with
    | zero => exact h
    | succ n => exact h
abbrev LoopOk (P : Program) (E : Env) (rt : List Nat) (x : Code × List (Nat × List Nat)) : Prop := LoopOkN P 3 E rt x
def runK (E : Env) (fz : Bool) (f : Func) (args : List AV) (σ : Store) (fin : List AV → Store → Option Res) : Option Res :=
  match f.body with
  | some c => bif realL args && decide (args.length ≤ f.ntmps) then
      ex (E.rebase σ.length) (resSlots f.results.toList) c [] (resSlots f.results.toList) (args ++ List.replicate (f.ntmps - args.length) .undef) σ fun e fr σ => match e with
        | .normal | .ret => (resVals E.tab fr σ f.results.toList).bind fun vs => bif realL vs then (bif fz then (freezeLT vs σ).k fun p => fin p.1 p.2 else fin vs σ) else none
        | _ => none
    else none
  | none => none
def fnLoops (f : Func) : List (List Nat × Code × List (Nat × List Nat)) :=
  match f.body with
  | some c => loopsOf (resSlots f.results.toList) c [] (resSlots f.results.toList)
  | none => []
end Go.AX
