import Derived.Test.YtniombjfbdojjaaDoorAx21
import Derived.KernelRfl
import Derived.IntWalk
import Derived.Below
/- AX, part 26: what is said of functions, one behind the other. -/
namespace Go.AX
abbrev Specs := List (Nat × FunT)
def Specs.get : Specs → Nat → Option FunT
  | [], _ => none
  | (h, F) :: l, g => bif Nat.beq g h then some F else Specs.get l g
def SpecsOk (P : Program) (L : Specs) : Prop := ∀ g F, L.get g = some F → CalOk P g (FunT.run F)
theorem SpecsOk.nil (P : Program) : SpecsOk P [] := fun _ _ h => by simp [Specs.get] at h
theorem SpecsOk.consX {P : Program} {L : Specs} {g : Nat} {F : FunT} (hF : CalOk P g (FunT.run F)) (h : SpecsOk P L) : SpecsOk P ((g, F) :: L) := by
  intro g' F' h'
  simp only [Specs.get] at h'
  cases hg : Nat.beq g' g with
  | true =>
    rw [hg] at h'
    simp only [cond_true, Option.some.injEq] at h'
    subst h'
    rw [Nat.eq_of_beq_eq_true hg]; exact hF
  | false => rw [hg] at h'; exact h g' F' h'
theorem SpecsOk.cons {P : Program} {L : Specs} {g : Nat} {F : FunT} (hF : FunOk P g (FunT.run F)) (h : SpecsOk P L) : SpecsOk P ((g, F) :: L) := .consX hF.x h
abbrev Loops := List (Nat × (Frame' → Store → T (Exit × Frame' × Store)))
def Loops.get : Loops → Nat → Option (Frame' → Store → T (Exit × Frame' × Store))
  | [], _ => none
  | (h, F) :: l, g => bif Nat.beq g h then some F else Loops.get l g
abbrev Hints := List (Nat × Nat × List Hint)
def Hints.get : Hints → Nat → Nat → List Hint
  | [], _, _ => []
  | (r, i, h) :: l, r', i' => bif Nat.beq r r' && Nat.beq i i' then h else Hints.get l r' i'
def envOf (tab : Tab) (L : Specs) (ref : List Nat) (loops : Loops) (hints : Hints) : Env :=
  ⟨tab, Specs.get L, fun g => match Specs.get L g with | some F => F | none => fun _ _ => .fail, fun g => inL g ref, Hints.get hints, Loops.get loops, 0, fun _ _ _ => .fail⟩
structure ProgOk (P : Program) (tab : Tab) : Prop where
  tab : tabOk P tab 0 tab = true
  mixed : P.follows .mixedOrders = true
theorem envOf_ok {P : Program} {tab : Tab} {L : Specs} {ref : List Nat} {loops : Loops} {hints : Hints} (hP : ProgOk P tab) (hL : SpecsOk P L) (bg : Bg) : EnvOk bg P (envOf tab L ref loops hints) := by
  refine ⟨hP.tab, hL, fun g => ?_, hP.mixed, fun i args σ res σ' h => by simp [envOf, T.run_fail] at h⟩
  unfold envOf
  simp only
  cases hg : Specs.get L g with
  | none =>
    intro w S m σ args vals res σ' _ _ h
    simp [FunT.run, T.run_fail] at h
  | some F => exact hL g F hg
def runF (E : Env) (fz : Bool) (f : Func) : Fun' := callKS (runK E fz f)
theorem fun_ok {P : Program} {E : Env} {fz : Bool} {g : Nat} {fn : Func} {F : FunT} (hE : ∀ bg, EnvOk bg P E) (hf : P.funcs[g]? = some fn) (hn : (fn.name == "runtime.NumGoroutine") = false)
    (hlp : ∀ x ∈ fnLoops fn, LoopOk P E x.1 x.2) (h : ∀ args σ r, (F args σ).run = some r → runF E fz fn args σ = some r) : FunOk P g (FunT.run F) := by
  intro w S m σ args vals res σ' hi hv hr
  exact callKS_ok (runK_ok hE hf hn hlp) w S m σ args vals res σ' hi hv (h args σ _ hr)
def lkF : List (Nat × AV) → Nat → AV
  | [], _ => .undef
  | (j, v) :: l, i => bif Nat.beq i j then v else lkF l i
def mkF (n : Nat) (l : List (Nat × AV)) : Frame' := (List.range n).map (lkF l)
theorem lkF_map {live : List Nat} {g : Nat → AV} {i : Nat} : lkF (live.map fun j => (j, g j)) i = bif inL i live then g i else .undef := by
  induction live with
  | nil => rfl
  | cons j l ih =>
    simp only [List.map_cons, lkF, inL]
    cases h : Nat.beq i j with
    | true => rw [Nat.eq_of_beq_eq_true h]; rfl
    | false => simpa using ih
theorem clean_mk {n : Nat} {live : List Nat} {fr : Frame'} (h : fr.length = n) : cleanF live 0 fr = mkF n (live.map fun i => (i, fr.getD i .undef)) := by
  refine List.ext_getElem? fun i => ?_
  unfold mkF
  rcases Nat.lt_or_ge i fr.length with hl | hl
  · rw [cleanF_at live fr 0 i hl, Nat.zero_add, List.getElem?_map, List.getElem?_range (by omega), Option.map_some, lkF_map]
  · rw [List.getElem?_eq_none (by rw [cleanF_length]; exact hl), List.getElem?_eq_none (by simp; omega)]
theorem loopN_clean (step : Frame' → Store → Kt → Option Res) (base : Nat) (live : List Nat) (n : Nat) (fr : Frame') (σ : Store) (K : Kt) : loopN step base live n fr σ K = loopN step base live n (cleanF live 0 fr) σ K := by
  cases n with
  | zero => rfl
  | succ n => simp only [loopN, clean_clean]
def loopAt (f : Func) (i : Nat) : List Nat × Code × List (Nat × List Nat) := (fnLoops f).getD i ([], .skip, [])
theorem loops_one {P : Program} {f : Func} {E : Env} (h : (fnLoops f).length = 1) (h0 : LoopOk P E (loopAt f 0).1 (loopAt f 0).2) : ∀ x ∈ fnLoops f, LoopOk P E x.1 x.2 := by
  unfold loopAt at h0
  match hl : fnLoops f, h with
  | [y], _ =>
    rw [hl] at h0
    intro x hx
    simp only [List.mem_singleton] at hx
    subst hx
    exact h0
theorem loops_none {P : Program} {f : Func} {E : Env} (h : (fnLoops f).isEmpty = true) : ∀ x ∈ fnLoops f, LoopOk P E x.1 x.2 := by
  intro x hx
  rw [List.isEmpty_iff] at h
  rw [h] at hx
  simp at hx
theorem loops_all {P : Program} {f : Func} {E : Env} (n : Nat) (h : (fnLoops f).length = n) (h0 : ∀ i, i < n → LoopOk P E (loopAt f i).1 (loopAt f i).2) : ∀ x ∈ fnLoops f, LoopOk P E x.1 x.2 := by
  intro x hx
  obtain ⟨i, hi, rfl⟩ := List.getElem_of_mem hx
  have := h0 i (by omega)
  unfold loopAt at this
  rw [List.getD_eq_getElem?_getD, List.getElem?_eq_getElem hi] at this
  exact this
def loopRun (E : Env) (f : Func) (i : Nat) (base n : Nat) (fr : Frame') (σ : Store) (K : Kt) : Option Res :=
  loopN (loopStep (E.rebase base) (loopAt f i).1 (loopAt f i).2.1 (loopAt f i).2.2) base (codeLive (loopAt f i).1 (loopAt f i).2.1 (loopAt f i).2.2 []) n fr σ K
def liveAt (f : Func) (i : Nat) : List Nat := codeLive (loopAt f i).1 (loopAt f i).2.1 (loopAt f i).2.2 []
def oneRound (E : Env) (f : Func) (i : Nat) (base : Nat) (fr : Frame') (σ : Store) (K : Kt) : Option Res :=
  loopStep (E.rebase base) (loopAt f i).1 (loopAt f i).2.1 (loopAt f i).2.2 fr σ K
theorem loopRun_step {E : Env} {f : Func} {i base n : Nat} {fr fr' : Frame'} {σ σ' : Store} {K : Kt} (h1 : cleanF (liveAt f i) 0 fr = fr') (h2 : trim base fr' σ = σ') : loopRun E f i base (n + 1) fr σ K = oneRound E f i base fr' σ' fun e fr σ => match e with
    | .normal => loopRun E f i base n fr σ K
    | e => K e fr σ := by
  subst h1 h2; rfl
def rngLiveAt (f : Func) (i : Nat) : List Nat := rngLive (loopAt f i).1 (rngG (loopAt f i).2.1) (rngA (loopAt f i).2.1) (rngB (loopAt f i).2.1) (loopAt f i).2.2
theorem range_ok {P : Program} {k : Nat} {E : Env} {f : Func} {i : Nat} {L : Frame' → Store → T (Exit × Frame' × Store)} {gf : FuncId} {gn : Func} (hx : Code.isRange (loopAt f i).2.1 = true) (hL : E.loop (loopKey (rngB (loopAt f i).2.1)) = some L)
    (hf : P.funcs[gf]? = some gn) (hn : (gn.name == "runtime.NumGoroutine") = false)
    (h : ∀ fr σ p, (L fr σ).run = some p → ∀ (K : Kt) r, K p.1 p.2.1 p.2.2 = some r → ∃ fr' v fi ca Y lp hs, cleanF (rngLiveAt f i) 0 fr = fr' ∧ ev E.tab fr' 0 (rngG (loopAt f i).2.1) = some v ∧ fnOf v = some (gf, fi, ca) ∧
      (∀ row σ' q, (Y row σ').run = some q → rndRun E (rngPs (loopAt f i).2.1) (rngA (loopAt f i).2.1) (rngB (loopAt f i).2.1) σ.length fr' row σ' = some q) ∧
      (∀ x ∈ genLoops gn, LoopOkN P k (E.gen σ.length Y lp hs) x.1 x.2) ∧ genRun (E.gen σ.length Y lp hs) (loopAt f i).1 (loopAt f i).2.2 gn fi ca fr' σ K = some r) : LoopOkN P (k + 1) E (loopAt f i).1 (loopAt f i).2 := by
  unfold rngLiveAt at h
  generalize (loopAt f i).1 = rt at *
  generalize (loopAt f i).2 = x at *
  obtain ⟨c, exs⟩ := x
  cases c with
  | rangeFunc g ps a b =>
    intro L' hL' fr σ p hp K r hr
    have hL : E.loop (loopKey b) = some L := hL
    rw [hL] at hL'
    simp only [Option.some.injEq] at hL'
    subst hL'
    obtain ⟨fr', v, fi, ca, Y, lp, hs, h1, h2, h3, h4, h5, h6⟩ := h fr σ p hp K r hr
    have h1 : cleanF (rngLive rt g a b exs) 0 fr = fr' := h1
    refine ⟨v, gf, fi, ca, gn, Y, lp, hs, ?_, h3, hf, hn, ?_, h5, ?_⟩
    · rw [h1]; exact h2
    · rw [h1]; exact h4
    · rw [h1]; exact h6
  | _ => simp [Code.isRange] at hx
theorem gens_none {P : Program} {k : Nat} {f : Func} {E : Env} (h : (genLoops f).isEmpty = true) : ∀ x ∈ genLoops f, LoopOkN P k E x.1 x.2 := by
  intro x hx
  rw [List.isEmpty_iff] at h
  rw [h] at hx
  simp at hx
theorem gens_all {P : Program} {k : Nat} {f : Func} {E : Env} (n : Nat) (h : (fnLoops f).length = n) (hr : f.results.isEmpty = true) (h0 : ∀ i, i < n → LoopOkN P k E (loopAt f i).1 (loopAt f i).2) : ∀ x ∈ genLoops f, LoopOkN P k E x.1 x.2 := by
  intro x hx
  have he : genLoops f = fnLoops f := by
    unfold genLoops fnLoops
    have : f.results.toList = [] := by simpa using hr
    rw [this]; rfl
  rw [he] at hx
  obtain ⟨i, hi, rfl⟩ := List.getElem_of_mem hx
  have := h0 i (by omega)
  unfold loopAt at this
  rw [List.getD_eq_getElem?_getD, List.getElem?_eq_getElem hi] at this
  exact this
theorem loop_okN {P : Program} {k : Nat} {E : Env} {f : Func} {i : Nat} {L : Frame' → Store → T (Exit × Frame' × Store)} (hx : Code.isRange (loopAt f i).2.1 = false) (hL : E.loop (loopKey (loopAt f i).2.1) = some L)
    (h : ∀ fr σ p, (L fr σ).run = some p → ∀ (K : Kt) r, K p.1 p.2.1 p.2.2 = some r → ∃ n, loopRun E f i σ.length n (cleanF (liveAt f i) 0 fr) σ K = some r) : LoopOkN P k E (loopAt f i).1 (loopAt f i).2 := by
  rw [LoopOkN.plain hx]
  intro L' hL' fr σ p hp K r hr
  rw [hL] at hL'
  simp only [Option.some.injEq] at hL'
  subst hL'
  obtain ⟨n, hn⟩ := h fr σ p hp K r hr
  exact ⟨n, by rw [loopN_clean]; exact hn⟩
theorem loop_ok {P : Program} {E : Env} {f : Func} {i : Nat} {L : Frame' → Store → T (Exit × Frame' × Store)} (hL : E.loop (loopKey (loopAt f i).2.1) = some L)
    (h : ∀ fr σ p, (L fr σ).run = some p → ∀ (K : Kt) r, K p.1 p.2.1 p.2.2 = some r → ∃ n, loopRun E f i σ.length n (cleanF (liveAt f i) 0 fr) σ K = some r) (hx : Code.isRange (loopAt f i).2.1 = false := by kernel_rfl) : LoopOk P E (loopAt f i).1 (loopAt f i).2 := loop_okN hx hL h
end Go.AX

namespace Go.AX
def sqR : Nat → Code → Code
  | 0, c => c
  | n + 1, .seq _ b => sqR n b
  | _, c => c
def sqA : Code → Code
  | .seq a _ => a
  | c => c
def bodyOf (f : Func) : Code := match f.body with
  | some c => c
  | none => .skip
def finK (E : Env) (fz : Bool) (f : Func) (fin : List AV → Store → Option Res) : Kt := fun e fr σ => match e with
  | .normal | .ret => (resVals E.tab fr σ f.results.toList).bind fun vs => bif realL vs then (bif fz then (freezeLT vs σ).k fun p => fin p.1 p.2 else fin vs σ) else none
  | _ => none
def callFin (ρ : List Nat) (σ : Store) : List AV → Store → Option Res := fun res σ' => merge ρ σ res σ'
theorem condC {α : Type} {c : Bool} {x y z : α} (h : x = y) : cond c x z = cond c y z := by rw [h]
theorem condC2 {α : Type} {c : Bool} {x y z : α} (h : x = y) : cond c z x = cond c z y := by rw [h]
theorem condC3 {α : Type} {c : Bool} {x y x' y' : α} (h : x = y) (h' : x' = y') : cond c x x' = cond c y y' := by rw [h, h']
theorem run_start {E : Env} {fz : Bool} {f : Func} {args : List AV} {σ : Store} {ρ : List Nat} {args' : List AV} {σ0 : Store} {rt : List Nat} {fr : Frame'} {n : Nat}
    (h1 : reach σ 4096 (AV.idsL args) [] = ρ) (h2 : closed σ (AV.idsL args) ρ = true) (h3 : AV.renL (fun i => posOf i ρ) args = args') (h4 : getAll σ (fun i => posOf i ρ) ρ = σ0)
    (h5 : (realL args' && decide (args'.length ≤ f.ntmps)) = true) (h6 : resSlots f.results.toList = rt) (h7 : args' ++ List.replicate (f.ntmps - args'.length) .undef = fr) (h8 : σ0.length = n) (h9 : f.body.isSome = true) :
    runF E fz f args σ = ex (E.rebase n) rt (sqR 0 (bodyOf f)) [] rt fr σ0 (finK E fz f (callFin ρ σ)) := by
  unfold runF callKS
  simp only
  rw [h1, h2, cond_true, h3, h4]
  unfold runK bodyOf
  cases hb : f.body with
  | none => rw [hb] at h9; simp at h9
  | some c =>
    simp only
    rw [h5, cond_true, h6, h7, h8]
    rfl
def seqK (E : Env) (rt : List Nat) (b : Code) (out : List Nat) (K : Kt) : Kt := fun e fr σ => match e with
  | .normal => ex E rt b [] out fr σ K
  | e => K e fr σ
def jK (ws : List Nat) (J : List AV → Store → Option Res) (K : Kt) : Kt := fun e fr σ => match e with
  | .normal => J (getF fr ws) σ
  | e => K e fr σ
theorem seg_str {E : Env} {rt : List Nat} {c a b : Code} {mid : List Nat} {fr : Frame'} {σ : Store} {M : Kt → Option Res}
    (hc : c = .seq a b) (hs : Code.straight a = true) (hm : codeLive rt b [] rt = mid) (q : ∀ K, ex E rt a [] mid fr σ K = M K) (K : Kt) :
    ex E rt c [] rt fr σ K = M (seqK E rt b rt K) := by
  subst hc
  rw [ex]
  simp only
  rw [hs, cond_true, hm]
  refine Eq.trans ?_ (q _)
  congr 1
theorem seg_join {E : Env} {rt : List Nat} {c a b : Code} {mid ds ws : List Nat} {fr : Frame'} {σ : Store} {n : Nat} {M : (List AV → Store → Option Res) → Kt → Option Res}
    (hc : c = .seq a b) (hs : Code.straight a = false) (hm : codeLive rt b [] rt = mid) (hd : codeDst a [] = ds) (hw : (ds.filter fun x => inL x mid) = ws) (hn : σ.length = n)
    (q : ∀ J K, ex (E.rebase n) rt a [] mid fr σ (jK ws J K) = M J K) (K : Kt) :
    ex E rt c [] rt fr σ K = M (fun vs σ => ex E rt b [] rt (putF (undF fr ds) vs 0 ws) σ K) K := by
  subst hc
  rw [ex]
  simp only
  rw [hs, cond_false, hm, hd, hw, hn]
  unfold joinK
  refine Eq.trans ?_ (q _ _)
  congr 1
theorem seqK_normal {E : Env} {rt : List Nat} {b : Code} {out : List Nat} {K : Kt} {fr fr' : Frame'} {σ σ' : Store} (h : fr = fr') (h' : σ = σ') : seqK E rt b out K .normal fr σ = ex E rt b [] out fr' σ' K := by subst h h'; rfl
theorem seqK_ret {E : Env} {rt : List Nat} {b : Code} {out : List Nat} {K : Kt} {fr : Frame'} {σ : Store} : seqK E rt b out K .ret fr σ = K .ret fr σ := rfl
theorem ex_same {E : Env} {rt : List Nat} {b : Code} {K : Kt} {fr fr' : Frame'} {σ σ' : Store} (h : fr = fr') (h' : σ = σ') : ex E rt b [] rt fr σ K = ex E rt b [] rt fr' σ' K := by rw [h, h']
end Go.AX

namespace Go.AX
theorem beq_self (n : Nat) : Nat.beq n n = true := Nat.beq_refl n
theorem beq_of_eq {a b : Nat} (h : a = b) : Nat.beq a b = true := by subst h; exact Nat.beq_refl a
theorem seg_full (ds : List D) : seg ds 0 ds.length = ds := by simp [seg]
theorem seg_take (ds : List D) (n : Nat) : seg ds 0 n = ds.take n := by
  unfold seg
  by_cases h : n = ds.length
  · subst h; simp
  · have : Nat.beq n ds.length = false := by
      cases hb : Nat.beq n ds.length with
      | true => exact absurd (Nat.eq_of_beq_eq_true hb) h
      | false => rfl
    simp [this]
theorem seg_drop (ds : List D) (n : Nat) : seg ds n (ds.length - n) = ds.drop n := by
  unfold seg
  cases n with
  | zero => simp
  | succ n =>
    have : Nat.beq (n + 1) 0 = false := rfl
    rw [this]
    simp only [Bool.false_and, cond_false]
    exact List.take_of_length_le (by simp)
theorem fits_one_iff {ds : List D} : fits .one ds = true ↔ ∀ d ∈ ds, d.shape = .one := by
  unfold fits
  simp only [List.all_eq_true]
  exact forall₂_congr fun d _ => ⟨fun h => Sh.eq_of_eqb h, fun h => by rw [h]; rfl⟩
theorem fits_append {s : Sh} {a b : List D} : fits s (a ++ b) = (fits s a && fits s b) := by simp [fits]
theorem fits_bytes (s : ByteArray) : fits .one (bytesD s) = true := by
  rw [fits_one_iff]
  intro d hd
  unfold bytesD at hd
  obtain ⟨b, _, rfl⟩ := List.mem_map.1 hd
  rfl
theorem sub_all (s : ByteArray) : subStr s 0 s.size = s := by
  unfold subStr
  have h : (s.data.toList.drop 0).take (s.size - 0) = s.data.toList := List.take_of_length_le (Nat.le_of_eq rfl)
  rw [h]
theorem sub_size (s : ByteArray) (l h : Nat) (h1 : l ≤ h) (h2 : h ≤ s.size) : (subStr s l h).size = h - l := by
  unfold subStr
  have : s.data.toList.length = s.size := rfl
  show (((s.data.toList.drop l).take (h - l)).toArray).size = _
  simp only [List.size_toArray, List.length_take, List.length_drop]
  omega
theorem trim_self {base : Nat} {fr : Frame'} {σ : Store} (h : σ.length ≤ base) : trim base fr σ = σ := by
  unfold trim
  simp only
  generalize trimN σ 4 (max base (maxIds fr)) = k
  cases hc : decide (base ≤ k) && idsBelow k fr && (σ.take k).all (fun B => idsBelow k [B.v]) with
  | false => rfl
  | true =>
    simp only [Bool.and_eq_true, decide_eq_true_eq] at hc
    exact List.take_of_length_le (by omega)
theorem nthD_mem {l : List D} {i : Nat} (h : i < l.length) : nthD l i ∈ l := List.mem_of_getElem? (nthD_some h)
theorem isBytes_mem {ds : List D} {d : D} (h : isBytes ds = true) (hd : d ∈ ds) : ∃ n, d = .int .u8 n := by
  have := List.all_eq_true.1 h d hd
  cases d <;> simp [D.isI] at this
  exact ⟨_, by rw [this]⟩
theorem cond_cases {α : Type} {c : Bool} {x y z : α} (h1 : c = true → x = z) (h2 : c = false → y = z) : (bif c then x else y) = z := by
  cases hc : c with
  | true => exact h1 hc
  | false => exact h2 hc
end Go.AX

namespace Go.AX
abbrev LOut := Option Nat × Frame' × Store
def outEx : Option Nat → Exit
  | none => .ret
  | some k => .exit k
def OutK (K : Kt) (o : LOut) : Option Res := K (outEx o.1) o.2.1 o.2.2
def LK {α : Type} (K : Kt) (N : α → Option Res) : α ⊕ LOut → Option Res
  | .inl a => N a
  | .inr o => OutK K o
def iterT {α : Type} (step : α → T (α ⊕ LOut)) : Nat → α → T LOut
  | 0, _ => .fail
  | n + 1, a => (step a).bind fun x => match x with
    | .inl a' => iterT step n a'
    | .inr o => .leaf o
theorem T.k_bind {α β γ : Type} : ∀ (t : T α) (f : α → T β) (g : β → Option γ), (t.bind f).k g = t.k fun a => (f a).k g
  | .leaf a, f, g => rfl
  | .fail, f, g => rfl
  | .br c l r, f, g => by
    show cond c ((l.bind f).k g) ((r.bind f).k g) = cond c (l.k fun a => (f a).k g) (r.k fun a => (f a).k g)
    rw [T.k_bind l, T.k_bind r]
theorem T.k_run {α β : Type} {t : T α} {a : α} {g : α → Option β} (h : t.run = some a) : t.k g = g a := by
  rw [T.k_eq, h]; rfl
theorem iter_ok {α : Type} {E : Env} {f : Func} {i base : Nat} {frA : α → Frame'} {st : α → Store} {step : α → T (α ⊕ LOut)}
    (hr : ∀ (a : α) (K : Kt) (N : α → Option Res), (∀ a' fr' σ', cleanF (liveAt f i) 0 fr' = frA a' → trim base (frA a') σ' = st a' → K .normal fr' σ' = N a') →
      oneRound E f i base (frA a) (st a) K = (step a).k (LK K N)) (K : Kt) :
    ∀ (n : Nat) (a : α) (fr : Frame') (σ : Store), cleanF (liveAt f i) 0 fr = frA a → trim base (frA a) σ = st a → loopRun E f i base n fr σ K = (iterT step n a).k (OutK K) := by
  intro n
  induction n with
  | zero => intro a fr σ _ _; rfl
  | succ n ih =>
    intro a fr σ h1 h2
    rw [loopRun_step h1 h2, hr a _ (fun a' => (iterT step n a').k (OutK K)) (fun a' fr' σ' g1 g2 => ih a' fr' σ' g1 g2)]
    show _ = ((step a).bind _).k _
    rw [T.k_bind]
    congr 1
    funext x
    cases x with
    | inl a' => rfl
    | inr o =>
      obtain ⟨e, fr', σ'⟩ := o
      cases e <;> rfl
theorem cong2 {α : Type} {c : Bool} {x x' y y' : α} (h1 : x = x') (h2 : y = y') : (bif c then x else y) = (bif c then x' else y') := by rw [h1, h2]
theorem iter_next {α : Type} {step : α → T (α ⊕ LOut)} {a a' : α} {n : Nat} {o : LOut} (h : (step a).run = some (.inl a')) (h2 : (iterT step n a').run = some o) : (iterT step (n + 1) a).run = some o := by
  show ((step a).bind _).run = _
  rw [T.run_bind, h]; exact h2
theorem iter_out {α : Type} {step : α → T (α ⊕ LOut)} {a : α} {n : Nat} {o : LOut} (h : (step a).run = some (.inr o)) : (iterT step (n + 1) a).run = some o := by
  show ((step a).bind _).run = _
  rw [T.run_bind, h]; rfl
theorem wrap_succ {i : Nat} (h : i < 2 ^ 62) : IntKind.wrap .i64 ((i : Int) + 1) = ((i + 1 : Nat) : Int) := by rw [IntKind.wrap_i64]; omega
theorem iter_find {step : Int → T (Int ⊕ LOut)} {ls : List D} {p : D → Bool} {o : Nat → LOut} {o' : LOut}
    (h : ∀ i, i < ls.length → (step (i : Int)).run = some (bif p (nthD ls i) then .inr (o i) else .inl ((i + 1 : Nat) : Int)))
    (h' : (step (ls.length : Int)).run = some (.inr o')) : ∃ n, (iterT step n 0).run = some (bif ls.any p then o (ls.findIdx p) else o') := by
  have key : ∀ (k i : Nat), i + k = ls.length → (∀ j, j < i → p (nthD ls j) = false) → (iterT step (k + 1) (i : Int)).run = some (bif ls.any p then o (ls.findIdx p) else o') := by
    intro k
    induction k with
    | zero =>
      intro i hi hj
      have e : i = ls.length := by omega
      rw [e, iter_out h']
      have : ls.any p = false := by
        rw [List.any_eq_false]
        intro d hd
        obtain ⟨j, hj', rfl⟩ := List.getElem_of_mem hd
        have := hj j (by omega)
        unfold nthD at this
        rw [List.getD_eq_getElem?_getD, List.getElem?_eq_getElem hj'] at this
        simpa using this
      rw [this]; rfl
    | succ k ih =>
      intro i hi hj
      have hr := h i (by omega)
      cases hp : p (nthD ls i) with
      | true =>
        rw [hp, cond_true] at hr
        rw [iter_out hr]
        have hm : p (ls[i]'(by omega)) = true := by
          unfold nthD at hp
          rw [List.getD_eq_getElem?_getD, List.getElem?_eq_getElem (by omega : i < ls.length)] at hp
          simpa using hp
        have ha : ls.any p = true := List.any_eq_true.2 ⟨_, List.getElem_mem (by omega : i < ls.length), hm⟩
        have hf : ls.findIdx p = i := by
          rw [List.findIdx_eq (by omega : i < ls.length)]
          refine ⟨hm, fun j hji => ?_⟩
          have := hj j hji
          unfold nthD at this
          rw [List.getD_eq_getElem?_getD, List.getElem?_eq_getElem (by omega : j < ls.length)] at this
          simpa using this
        rw [ha, hf]; rfl
      | false =>
        rw [hp, cond_false] at hr
        refine iter_next hr (ih (i + 1) (by omega) fun j hji => ?_)
        rcases Nat.lt_succ_iff_lt_or_eq.1 hji with h1 | rfl
        · exact hj j h1
        · exact hp
  exact ⟨ls.length + 1, key ls.length 0 (by omega) (fun j hj => by omega)⟩
theorem iter_fold {S : Type} {step : Int × S → T ((Int × S) ⊕ LOut)} {ls : List D} {f : S → D → S} {o : S → LOut} (I : Nat → S → Prop)
    (h : ∀ i s, i < ls.length → I i s → (step ((i : Int), s)).run = some (.inl (((i + 1 : Nat) : Int), f s (nthD ls i))) ∧ I (i + 1) (f s (nthD ls i)))
    (h' : ∀ s, I ls.length s → (step ((ls.length : Int), s)).run = some (.inr (o s))) (s0 : S) (h0 : I 0 s0) : ∃ n, (iterT step n (0, s0)).run = some (o (ls.foldl f s0)) := by
  have key : ∀ (k i : Nat) (s : S), i + k = ls.length → I i s → (iterT step (k + 1) ((i : Int), s)).run = some (o ((ls.drop i).foldl f s)) := by
    intro k
    induction k with
    | zero =>
      intro i s hi hI
      have e : i = ls.length := by omega
      subst e
      rw [iter_out (h' s hI), List.drop_length]; rfl
    | succ k ih =>
      intro i s hi hI
      obtain ⟨h1, h2⟩ := h i s (by omega) hI
      rw [drop_cons_nth (by omega : i < ls.length), List.foldl_cons]
      exact iter_next h1 (ih (i + 1) _ (by omega) h2)
  exact ⟨ls.length + 1, by have := key ls.length 0 s0 (by omega) h0; rwa [List.drop_zero] at this⟩
end Go.AX
namespace Go.AX
theorem FunOk.of {P : Program} {g : FuncId} {F G : FunT} (hF : FunOk P g (FunT.run F)) (h : ∀ args σ r, (G args σ).run = some r → (F args σ).run = some r) : FunOk P g (FunT.run G) := by
  intro w S m σ args vals res σ' hi hv hr
  exact hF w S m σ args vals res σ' hi hv (h args σ _ hr)
theorem okE_int_fits {k : IntKind} {ds : List D} (h : ds.all (okE (.int k)) = true) : fits .one ds = true := by
  rw [fits_one_iff]
  intro d hd
  have := List.all_eq_true.1 h d hd
  rw [okE] at this
  cases d <;> simp [D.isI] at this
  rfl
end Go.AX
namespace Go.AX
theorem iter_range {S : Type} {step : Int × S → T ((Int × S) ⊕ LOut)} {n : Nat} {o : LOut} (g : Nat → S)
    (h : ∀ i, i < n → (step ((i : Int), g i)).run = some (.inl (((i + 1 : Nat) : Int), g (i + 1))))
    (h' : (step ((n : Int), g n)).run = some (.inr o)) : ∃ k, (iterT step k (0, g 0)).run = some o := by
  have key : ∀ (k i : Nat), i + k = n → (iterT step (k + 1) ((i : Int), g i)).run = some o := by
    intro k
    induction k with
    | zero => intro i hi; have e : i = n := by omega
              subst e; exact iter_out h'
    | succ k ih => intro i hi; exact iter_next (h i (by omega)) (ih (i + 1) (by omega))
  exact ⟨n + 1, key n 0 (by omega)⟩
theorem iter_any {step : Int → T (Int ⊕ LOut)} {n : Nat} {p : Nat → Bool} {o o' : LOut}
    (h : ∀ i, i < n → (step (i : Int)).run = some (bif p i then .inr o else .inl ((i + 1 : Nat) : Int)))
    (h' : (step (n : Int)).run = some (.inr o')) : ∃ k, (iterT step k 0).run = some (bif (List.range n).any p then o else o') := by
  have key : ∀ (k i : Nat), i + k = n → (iterT step (k + 1) (i : Int)).run = some (bif (List.range' i k).any p then o else o') := by
    intro k
    induction k with
    | zero => intro i hi; have e : i = n := by omega
              subst e; exact iter_out h'
    | succ k ih =>
      intro i hi
      have hr := h i (by omega)
      rw [List.range'_succ, List.any_cons]
      cases hp : p i with
      | true => rw [hp] at hr; exact iter_out hr
      | false => rw [hp] at hr; rw [Bool.false_or]; exact iter_next hr (ih (i + 1) (by omega))
  refine ⟨n + 1, ?_⟩
  rw [List.range_eq_range']
  exact key n 0 (by omega)
theorem ofE_int {k : IntKind} {d : D} (h : okE (.int k) d = true) : D.int k d.getI = d := by
  rw [okE] at h
  cases d <;> simp [D.isI] at h
  subst h; rfl
theorem allE_nth {e : Ek} {ds : List D} {i : Nat} (h : ds.all (okE e) = true) (hi : i < ds.length) : okE e (nthD ds i) = true := List.all_eq_true.1 h _ (nthD_mem hi)
theorem nthD_cons_zero (d : D) (ds : List D) : nthD (d :: ds) 0 = d := rfl
theorem nthD_cons_succ (d : D) (ds : List D) (i : Nat) : nthD (d :: ds) (i + 1) = nthD ds i := rfl
theorem take_succ_nth {ds : List D} {i : Nat} (h : i < ds.length) : ds.take (i + 1) = ds.take i ++ [nthD ds i] := by
  rw [List.take_succ_eq_append_getElem h]
  unfold nthD
  rw [List.getD_eq_getElem?_getD, List.getElem?_eq_getElem h]; rfl
theorem eqbL_range {k : IntKind} : ∀ (a b : List D), a.length = b.length → a.all (okE (.int k)) = true → b.all (okE (.int k)) = true →
    (List.range a.length).any (fun i => D.getI (nthD a i) != D.getI (nthD b i)) = !D.eqbL a b
  | [], [], _, _, _ => rfl
  | x :: a, y :: b, hl, ha, hb => by
    simp only [List.all_cons, Bool.and_eq_true] at ha hb
    have ih := eqbL_range a b (by simpa using hl) ha.2 hb.2
    rw [List.length_cons, List.range_succ_eq_map, List.any_cons, List.any_map]
    have : (List.range a.length).any ((fun i => D.getI (nthD (x :: a) i) != D.getI (nthD (y :: b) i)) ∘ Nat.succ) = (List.range a.length).any fun i => D.getI (nthD a i) != D.getI (nthD b i) := rfl
    rw [this, ih, nthD_cons_zero, nthD_cons_zero, D.eqbL, ← ofE_int ha.1, ← ofE_int hb.1]
    simp only [D.getI, D.eqb, decide_true, Bool.true_and, Bool.not_and]
    congr 1
  | [], _ :: _, hl, _, _ => by simp at hl
  | _ :: _, [], hl, _, _ => by simp at hl
end Go.AX
namespace Go.AX
def T.or {α : Type} : T α → T α → T α
  | .fail, b => b
  | a, _ => a
theorem T.or_run {α : Type} {a b : T α} {p : α} (h : (T.or a b).run = some p) : a.run = some p ∨ b.run = some p := by
  cases a with
  | fail => exact .inr h
  | leaf x => exact .inl h
  | br c l r => exact .inl h
end Go.AX
namespace Go.AX
theorem iter_upto {S : Type} {step : Int × S → T ((Int × S) ⊕ LOut)} {n : Nat} {o o' : LOut} (g : Nat → S) (p : Nat → Bool)
    (h : ∀ i, i < n → (∀ j, j < i → p j = false) → (step ((i : Int), g i)).run = some (bif p i then .inr o else .inl (((i + 1 : Nat) : Int), g (i + 1))))
    (h' : (∀ j, j < n → p j = false) → (step ((n : Int), g n)).run = some (.inr o')) : ∃ k, (iterT step k (0, g 0)).run = some (bif (List.range n).any p then o else o') := by
  have key : ∀ (k i : Nat), i + k = n → (∀ j, j < i → p j = false) → (iterT step (k + 1) ((i : Int), g i)).run = some (bif (List.range' i k).any p then o else o') := by
    intro k
    induction k with
    | zero => intro i hi hp; have e : i = n := by omega
              subst e; exact iter_out (h' hp)
    | succ k ih =>
      intro i hi hp
      have hr := h i (by omega) hp
      rw [List.range'_succ, List.any_cons]
      cases hpi : p i with
      | true => rw [hpi] at hr; exact iter_out hr
      | false =>
        rw [hpi] at hr
        rw [Bool.false_or]
        refine iter_next hr (ih (i + 1) (by omega) fun j hj => ?_)
        rcases Nat.lt_succ_iff_lt_or_eq.1 hj with h1 | rfl
        · exact hp j h1
        · exact hpi
  refine ⟨n + 1, ?_⟩
  rw [List.range_eq_range']
  exact key n 0 (by omega) (fun j hj => by omega)
end Go.AX
namespace Go.AX
theorem iter_first {S : Type} {step : Int × S → T ((Int × S) ⊕ LOut)} {n : Nat} {o : Nat → LOut} {o' : LOut} (g : Nat → S) (p : Nat → Bool)
    (h : ∀ i, i < n → (∀ j, j < i → p j = false) → (step ((i : Int), g i)).run = some (bif p i then .inr (o i) else .inl (((i + 1 : Nat) : Int), g (i + 1))))
    (h' : (∀ j, j < n → p j = false) → (step ((n : Int), g n)).run = some (.inr o')) : ∃ k, (iterT step k (0, g 0)).run = some (bif (List.range n).any p then o ((List.range n).findIdx p) else o') := by
  have key : ∀ (k i : Nat), i + k = n → (∀ j, j < i → p j = false) → (iterT step (k + 1) ((i : Int), g i)).run = some (bif (List.range' i k).any p then o (i + (List.range' i k).findIdx p) else o') := by
    intro k
    induction k with
    | zero => intro i hi hp; have e : i = n := by omega
              subst e; exact iter_out (h' hp)
    | succ k ih =>
      intro i hi hp
      have hr := h i (by omega) hp
      rw [List.range'_succ, List.any_cons, List.findIdx_cons]
      cases hpi : p i with
      | true => rw [hpi] at hr; exact iter_out hr
      | false =>
        rw [hpi] at hr
        rw [Bool.false_or, cond_false]
        have := iter_next hr (ih (i + 1) (by omega) fun j hj => by
          rcases Nat.lt_succ_iff_lt_or_eq.1 hj with h1 | rfl
          · exact hp j h1
          · exact hpi)
        rw [show i + ((List.range' (i + 1) k).findIdx p + 1) = i + 1 + (List.range' (i + 1) k).findIdx p by omega]
        exact this
  refine ⟨n + 1, ?_⟩
  have := key n 0 (by omega) (fun j hj => by omega)
  rw [Nat.zero_add, ← List.range_eq_range'] at this
  exact this
end Go.AX

namespace Go.AX
theorem iter_rangeFrom {S : Type} {step : Int × S → T ((Int × S) ⊕ LOut)} {a n : Nat} {o : LOut} (g : Nat → S) (ha : a ≤ n)
    (h : ∀ i, a ≤ i → i < n → (step ((i : Int), g i)).run = some (.inl (((i + 1 : Nat) : Int), g (i + 1))))
    (h' : (step ((n : Int), g n)).run = some (.inr o)) : ∃ k, (iterT step k ((a : Int), g a)).run = some o := by
  have key : ∀ (k i : Nat), a ≤ i → i + k = n → (iterT step (k + 1) ((i : Int), g i)).run = some o := by
    intro k
    induction k with
    | zero => intro i _ hi; have e : i = n := by omega
              subst e; exact iter_out h'
    | succ k ih => intro i hj hi; exact iter_next (h i hj (by omega)) (ih (i + 1) (by omega) (by omega))
  exact ⟨n - a + 1, key (n - a) a (Nat.le_refl _) (by omega)⟩
theorem iter_countFrom {step : Int → T (Int ⊕ LOut)} {a n : Nat} {o : LOut} (ha : a ≤ n)
    (h : ∀ i : Nat, a ≤ i → i < n → (step (i : Int)).run = some (.inl ((i + 1 : Nat) : Int)))
    (h' : (step (n : Int)).run = some (.inr o)) : ∃ k, (iterT step k (a : Int)).run = some o := by
  have key : ∀ (k i : Nat), a ≤ i → i + k = n → (iterT step (k + 1) (i : Int)).run = some o := by
    intro k
    induction k with
    | zero => intro i _ hi; have e : i = n := by omega
              subst e; exact iter_out h'
    | succ k ih => intro i hj hi; exact iter_next (h i hj (by omega)) (ih (i + 1) (by omega) (by omega))
  exact ⟨n - a + 1, key (n - a) a (Nat.le_refl _) (by omega)⟩
end Go.AX
namespace Go.AX
theorem dec_lt (a b : Int) : decide (a < b) = !decide (b ≤ a) := by
  by_cases h : a < b
  · rw [decide_eq_true h, decide_eq_false (by omega)]; rfl
  · rw [decide_eq_false h, decide_eq_true (by omega)]; rfl
theorem dec_gt (a b : Int) : decide (a > b) = !decide (a ≤ b) := dec_lt b a
theorem dec_ge (a b : Int) : decide (a ≥ b) = decide (b ≤ a) := rfl
theorem beq_dec (a b : Int) : (a == b) = decide (a = b) := by
  by_cases h : a = b
  · subst h; simp
  · rw [decide_eq_false h, beq_eq_false_iff_ne]; exact h
theorem bne_dec (a b : Int) : (a != b) = !decide (a = b) := by rw [bne, beq_dec]
theorem bif_some {α : Type} (c : Bool) (a b : α) : (bif c then some a else some b) = some (bif c then a else b) := by cases c <;> rfl
theorem bool_ext {a b : Bool} (h : a = true ↔ b = true) : a = b := by
  cases a <;> cases b <;> simp_all
end Go.AX
namespace Go.AX
theorem FunOk.or {P : Program} {g : FuncId} {F G : FunT} (hF : FunOk P g (FunT.run F)) (hG : FunOk P g (FunT.run G)) : FunOk P g (FunT.run fun a σ => T.or (F a σ) (G a σ)) := by
  intro w S m σ args vals res σ' hi hv hr
  rcases T.or_run hr with h | h
  · exact hF w S m σ args vals res σ' hi hv h
  · exact hG w S m σ args vals res σ' hi hv h
end Go.AX
namespace Go.AX
theorem okE_int {k : IntKind} {d : D} (h : okE (.int k) d = true) : ∃ n, d = .int k n := by
  rw [okE] at h
  cases d <;> simp [D.isI] at h
  subst h; exact ⟨_, rfl⟩
theorem okE_bool {d : D} (h : okE .bool d = true) : ∃ b, d = .bool b := by
  rw [okE] at h
  cases d <;> simp [D.isB] at h
  exact ⟨_, rfl⟩
theorem okE_str {d : D} (h : okE .str d = true) : ∃ s, d = .str s := by
  rw [okE] at h
  cases d <;> simp [D.isS] at h
  exact ⟨_, rfl⟩
theorem okE_slc {s : Sh} {d : D} (h : okE (.slc s) d = true) : ∃ l, d = .slc s l := by
  rw [okE] at h
  cases d <;> simp [D.isSlc] at h
  rw [Sh.eq_of_eqb h]; exact ⟨_, rfl⟩
theorem okE_arr {s : Sh} {d : D} (h : okE (.arr s) d = true) : ∃ l, d = .arr s l := by
  rw [okE] at h
  cases d <;> simp [D.isArr] at h
  rw [Sh.eq_of_eqb h]; exact ⟨_, rfl⟩
theorem okE_agg1 {e0 : Ek} {d : D} (h : okE (.agg [e0]) d = true) : ∃ a0, d = .agg [a0] ∧ okE e0 a0 = true := by
  cases d with
  | agg l =>
    rw [okE, Bool.and_eq_true] at h
    obtain ⟨h1, h2⟩ := h
    have hl : l.length = 1 := Nat.eq_of_beq_eq_true h1
    match l, hl with
    | [a0], _ =>
      simp only [okEL, Bool.and_true, D.getL] at h2
      exact ⟨a0, rfl, h2⟩
  | _ => simp [okE, D.isAgg] at h
theorem okE_agg2 {e0 e1 : Ek} {d : D} (h : okE (.agg [e0, e1]) d = true) : ∃ a0 a1, d = .agg [a0, a1] ∧ okE e0 a0 = true ∧ okE e1 a1 = true := by
  cases d with
  | agg l =>
    rw [okE, Bool.and_eq_true] at h
    obtain ⟨h1, h2⟩ := h
    have hl : l.length = 2 := Nat.eq_of_beq_eq_true h1
    match l, hl with
    | [a0, a1], _ =>
      simp only [okEL, Bool.and_eq_true, Bool.and_true, D.getL] at h2
      exact ⟨a0, a1, rfl, h2.1, h2.2⟩
  | _ => simp [okE, D.isAgg] at h
theorem okE_agg3 {e0 e1 e2 : Ek} {d : D} (h : okE (.agg [e0, e1, e2]) d = true) : ∃ a0 a1 a2, d = .agg [a0, a1, a2] ∧ okE e0 a0 = true ∧ okE e1 a1 = true ∧ okE e2 a2 = true := by
  cases d with
  | agg l =>
    rw [okE, Bool.and_eq_true] at h
    obtain ⟨h1, h2⟩ := h
    have hl : l.length = 3 := Nat.eq_of_beq_eq_true h1
    match l, hl with
    | [a0, a1, a2], _ =>
      simp only [okEL, Bool.and_eq_true, Bool.and_true, D.getL] at h2
      exact ⟨a0, a1, a2, rfl, h2.1, h2.2.1, h2.2.2⟩
  | _ => simp [okE, D.isAgg] at h
theorem okE_agg4 {e0 e1 e2 e3 : Ek} {d : D} (h : okE (.agg [e0, e1, e2, e3]) d = true) : ∃ a0 a1 a2 a3, d = .agg [a0, a1, a2, a3] ∧ okE e0 a0 = true ∧ okE e1 a1 = true ∧ okE e2 a2 = true ∧ okE e3 a3 = true := by
  cases d with
  | agg l =>
    rw [okE, Bool.and_eq_true] at h
    obtain ⟨h1, h2⟩ := h
    have hl : l.length = 4 := Nat.eq_of_beq_eq_true h1
    match l, hl with
    | [a0, a1, a2, a3], _ =>
      simp only [okEL, Bool.and_eq_true, Bool.and_true, D.getL] at h2
      exact ⟨a0, a1, a2, a3, rfl, h2.1, h2.2.1, h2.2.2.1, h2.2.2.2⟩
  | _ => simp [okE, D.isAgg] at h
theorem okE_agg5 {e0 e1 e2 e3 e4 : Ek} {d : D} (h : okE (.agg [e0, e1, e2, e3, e4]) d = true) : ∃ a0 a1 a2 a3 a4, d = .agg [a0, a1, a2, a3, a4] ∧ okE e0 a0 = true ∧ okE e1 a1 = true ∧ okE e2 a2 = true ∧ okE e3 a3 = true ∧ okE e4 a4 = true := by
  cases d with
  | agg l =>
    rw [okE, Bool.and_eq_true] at h
    obtain ⟨h1, h2⟩ := h
    have hl : l.length = 5 := Nat.eq_of_beq_eq_true h1
    match l, hl with
    | [a0, a1, a2, a3, a4], _ =>
      simp only [okEL, Bool.and_eq_true, Bool.and_true, D.getL] at h2
      exact ⟨a0, a1, a2, a3, a4, rfl, h2.1, h2.2.1, h2.2.2.1, h2.2.2.2.1, h2.2.2.2.2⟩
  | _ => simp [okE, D.isAgg] at h
theorem okE_agg6 {e0 e1 e2 e3 e4 e5 : Ek} {d : D} (h : okE (.agg [e0, e1, e2, e3, e4, e5]) d = true) : ∃ a0 a1 a2 a3 a4 a5, d = .agg [a0, a1, a2, a3, a4, a5] ∧ okE e0 a0 = true ∧ okE e1 a1 = true ∧ okE e2 a2 = true ∧ okE e3 a3 = true ∧ okE e4 a4 = true ∧ okE e5 a5 = true := by
  cases d with
  | agg l =>
    rw [okE, Bool.and_eq_true] at h
    obtain ⟨h1, h2⟩ := h
    have hl : l.length = 6 := Nat.eq_of_beq_eq_true h1
    match l, hl with
    | [a0, a1, a2, a3, a4, a5], _ =>
      simp only [okEL, Bool.and_eq_true, Bool.and_true, D.getL] at h2
      exact ⟨a0, a1, a2, a3, a4, a5, rfl, h2.1, h2.2.1, h2.2.2.1, h2.2.2.2.1, h2.2.2.2.2.1, h2.2.2.2.2.2⟩
  | _ => simp [okE, D.isAgg] at h
theorem okE_agg7 {e0 e1 e2 e3 e4 e5 e6 : Ek} {d : D} (h : okE (.agg [e0, e1, e2, e3, e4, e5, e6]) d = true) : ∃ a0 a1 a2 a3 a4 a5 a6, d = .agg [a0, a1, a2, a3, a4, a5, a6] ∧ okE e0 a0 = true ∧ okE e1 a1 = true ∧ okE e2 a2 = true ∧ okE e3 a3 = true ∧ okE e4 a4 = true ∧ okE e5 a5 = true ∧ okE e6 a6 = true := by
  cases d with
  | agg l =>
    rw [okE, Bool.and_eq_true] at h
    obtain ⟨h1, h2⟩ := h
    have hl : l.length = 7 := Nat.eq_of_beq_eq_true h1
    match l, hl with
    | [a0, a1, a2, a3, a4, a5, a6], _ =>
      simp only [okEL, Bool.and_eq_true, Bool.and_true, D.getL] at h2
      exact ⟨a0, a1, a2, a3, a4, a5, a6, rfl, h2.1, h2.2.1, h2.2.2.1, h2.2.2.2.1, h2.2.2.2.2.1, h2.2.2.2.2.2.1, h2.2.2.2.2.2.2⟩
  | _ => simp [okE, D.isAgg] at h
theorem okE_agg8 {e0 e1 e2 e3 e4 e5 e6 e7 : Ek} {d : D} (h : okE (.agg [e0, e1, e2, e3, e4, e5, e6, e7]) d = true) : ∃ a0 a1 a2 a3 a4 a5 a6 a7, d = .agg [a0, a1, a2, a3, a4, a5, a6, a7] ∧ okE e0 a0 = true ∧ okE e1 a1 = true ∧ okE e2 a2 = true ∧ okE e3 a3 = true ∧ okE e4 a4 = true ∧ okE e5 a5 = true ∧ okE e6 a6 = true ∧ okE e7 a7 = true := by
  cases d with
  | agg l =>
    rw [okE, Bool.and_eq_true] at h
    obtain ⟨h1, h2⟩ := h
    have hl : l.length = 8 := Nat.eq_of_beq_eq_true h1
    match l, hl with
    | [a0, a1, a2, a3, a4, a5, a6, a7], _ =>
      simp only [okEL, Bool.and_eq_true, Bool.and_true, D.getL] at h2
      exact ⟨a0, a1, a2, a3, a4, a5, a6, a7, rfl, h2.1, h2.2.1, h2.2.2.1, h2.2.2.2.1, h2.2.2.2.2.1, h2.2.2.2.2.2.1, h2.2.2.2.2.2.2.1, h2.2.2.2.2.2.2.2⟩
  | _ => simp [okE, D.isAgg] at h
theorem okE_agg9 {e0 e1 e2 e3 e4 e5 e6 e7 e8 : Ek} {d : D} (h : okE (.agg [e0, e1, e2, e3, e4, e5, e6, e7, e8]) d = true) : ∃ a0 a1 a2 a3 a4 a5 a6 a7 a8, d = .agg [a0, a1, a2, a3, a4, a5, a6, a7, a8] ∧ okE e0 a0 = true ∧ okE e1 a1 = true ∧ okE e2 a2 = true ∧ okE e3 a3 = true ∧ okE e4 a4 = true ∧ okE e5 a5 = true ∧ okE e6 a6 = true ∧ okE e7 a7 = true ∧ okE e8 a8 = true := by
  cases d with
  | agg l =>
    rw [okE, Bool.and_eq_true] at h
    obtain ⟨h1, h2⟩ := h
    have hl : l.length = 9 := Nat.eq_of_beq_eq_true h1
    match l, hl with
    | [a0, a1, a2, a3, a4, a5, a6, a7, a8], _ =>
      simp only [okEL, Bool.and_eq_true, Bool.and_true, D.getL] at h2
      exact ⟨a0, a1, a2, a3, a4, a5, a6, a7, a8, rfl, h2.1, h2.2.1, h2.2.2.1, h2.2.2.2.1, h2.2.2.2.2.1, h2.2.2.2.2.2.1, h2.2.2.2.2.2.2.1, h2.2.2.2.2.2.2.2.1, h2.2.2.2.2.2.2.2.2⟩
  | _ => simp [okE, D.isAgg] at h
theorem okE_agg10 {e0 e1 e2 e3 e4 e5 e6 e7 e8 e9 : Ek} {d : D} (h : okE (.agg [e0, e1, e2, e3, e4, e5, e6, e7, e8, e9]) d = true) : ∃ a0 a1 a2 a3 a4 a5 a6 a7 a8 a9, d = .agg [a0, a1, a2, a3, a4, a5, a6, a7, a8, a9] ∧ okE e0 a0 = true ∧ okE e1 a1 = true ∧ okE e2 a2 = true ∧ okE e3 a3 = true ∧ okE e4 a4 = true ∧ okE e5 a5 = true ∧ okE e6 a6 = true ∧ okE e7 a7 = true ∧ okE e8 a8 = true ∧ okE e9 a9 = true := by
  cases d with
  | agg l =>
    rw [okE, Bool.and_eq_true] at h
    obtain ⟨h1, h2⟩ := h
    have hl : l.length = 10 := Nat.eq_of_beq_eq_true h1
    match l, hl with
    | [a0, a1, a2, a3, a4, a5, a6, a7, a8, a9], _ =>
      simp only [okEL, Bool.and_eq_true, Bool.and_true, D.getL] at h2
      exact ⟨a0, a1, a2, a3, a4, a5, a6, a7, a8, a9, rfl, h2.1, h2.2.1, h2.2.2.1, h2.2.2.2.1, h2.2.2.2.2.1, h2.2.2.2.2.2.1, h2.2.2.2.2.2.2.1, h2.2.2.2.2.2.2.2.1, h2.2.2.2.2.2.2.2.2.1, h2.2.2.2.2.2.2.2.2.2⟩
  | _ => simp [okE, D.isAgg] at h
theorem okE_agg11 {e0 e1 e2 e3 e4 e5 e6 e7 e8 e9 e10 : Ek} {d : D} (h : okE (.agg [e0, e1, e2, e3, e4, e5, e6, e7, e8, e9, e10]) d = true) : ∃ a0 a1 a2 a3 a4 a5 a6 a7 a8 a9 a10, d = .agg [a0, a1, a2, a3, a4, a5, a6, a7, a8, a9, a10] ∧ okE e0 a0 = true ∧ okE e1 a1 = true ∧ okE e2 a2 = true ∧ okE e3 a3 = true ∧ okE e4 a4 = true ∧ okE e5 a5 = true ∧ okE e6 a6 = true ∧ okE e7 a7 = true ∧ okE e8 a8 = true ∧ okE e9 a9 = true ∧ okE e10 a10 = true := by
  cases d with
  | agg l =>
    rw [okE, Bool.and_eq_true] at h
    obtain ⟨h1, h2⟩ := h
    have hl : l.length = 11 := Nat.eq_of_beq_eq_true h1
    match l, hl with
    | [a0, a1, a2, a3, a4, a5, a6, a7, a8, a9, a10], _ =>
      simp only [okEL, Bool.and_eq_true, Bool.and_true, D.getL] at h2
      exact ⟨a0, a1, a2, a3, a4, a5, a6, a7, a8, a9, a10, rfl, h2.1, h2.2.1, h2.2.2.1, h2.2.2.2.1, h2.2.2.2.2.1, h2.2.2.2.2.2.1, h2.2.2.2.2.2.2.1, h2.2.2.2.2.2.2.2.1, h2.2.2.2.2.2.2.2.2.1, h2.2.2.2.2.2.2.2.2.2.1, h2.2.2.2.2.2.2.2.2.2.2⟩
  | _ => simp [okE, D.isAgg] at h
theorem okE_agg12 {e0 e1 e2 e3 e4 e5 e6 e7 e8 e9 e10 e11 : Ek} {d : D} (h : okE (.agg [e0, e1, e2, e3, e4, e5, e6, e7, e8, e9, e10, e11]) d = true) : ∃ a0 a1 a2 a3 a4 a5 a6 a7 a8 a9 a10 a11, d = .agg [a0, a1, a2, a3, a4, a5, a6, a7, a8, a9, a10, a11] ∧ okE e0 a0 = true ∧ okE e1 a1 = true ∧ okE e2 a2 = true ∧ okE e3 a3 = true ∧ okE e4 a4 = true ∧ okE e5 a5 = true ∧ okE e6 a6 = true ∧ okE e7 a7 = true ∧ okE e8 a8 = true ∧ okE e9 a9 = true ∧ okE e10 a10 = true ∧ okE e11 a11 = true := by
  cases d with
  | agg l =>
    rw [okE, Bool.and_eq_true] at h
    obtain ⟨h1, h2⟩ := h
    have hl : l.length = 12 := Nat.eq_of_beq_eq_true h1
    match l, hl with
    | [a0, a1, a2, a3, a4, a5, a6, a7, a8, a9, a10, a11], _ =>
      simp only [okEL, Bool.and_eq_true, Bool.and_true, D.getL] at h2
      exact ⟨a0, a1, a2, a3, a4, a5, a6, a7, a8, a9, a10, a11, rfl, h2.1, h2.2.1, h2.2.2.1, h2.2.2.2.1, h2.2.2.2.2.1, h2.2.2.2.2.2.1, h2.2.2.2.2.2.2.1, h2.2.2.2.2.2.2.2.1, h2.2.2.2.2.2.2.2.2.1, h2.2.2.2.2.2.2.2.2.2.1, h2.2.2.2.2.2.2.2.2.2.2.1, h2.2.2.2.2.2.2.2.2.2.2.2⟩
  | _ => simp [okE, D.isAgg] at h
theorem any_eqbL {f : D → D → Bool} : ∀ {a b : List D}, a.length = b.length → (∀ i, i < a.length → f (nthD a i) (nthD b i) = D.eqb (nthD a i) (nthD b i)) →
    ((List.range a.length).any fun i => !f (nthD a i) (nthD b i)) = !D.eqbL a b
  | [], [], _, _ => rfl
  | x :: a, y :: b, hl, h => by
    have ih := any_eqbL (f := f) (a := a) (b := b) (by simpa using hl) (fun i hi => h (i + 1) (by simp; omega))
    rw [List.length_cons, List.range_succ_eq_map, List.any_cons, List.any_map]
    have : (List.range a.length).any ((fun i => !f (nthD (x :: a) i) (nthD (y :: b) i)) ∘ Nat.succ) = (List.range a.length).any fun i => !f (nthD a i) (nthD b i) := rfl
    rw [this, ih, D.eqbL]
    have h0 : f x y = D.eqb x y := h 0 (by simp)
    show (!f x y || _) = _
    rw [h0, Bool.not_and]
  | [], _ :: _, hl, _ => by simp at hl
  | _ :: _, [], hl, _ => by simp at hl
theorem eqbL_iff {a b : List D} : D.eqbL a b = true ↔ a = b := ⟨D.eqL_of_eqb, fun h => by rw [h]; exact D.eqbL_self b⟩
theorem eqb_iff {a b : D} : D.eqb a b = true ↔ a = b := ⟨D.eq_of_eqb, fun h => by rw [h]; exact D.eqb_self b⟩
end Go.AX
namespace Go.AX
theorem iter_findS {S : Type} {step : Int × S → T ((Int × S) ⊕ LOut)} {s : S} {ls : List D} {p : D → Bool} {o : Nat → LOut} {o' : LOut}
    (h : ∀ i, i < ls.length → (step ((i : Int), s)).run = some (bif p (nthD ls i) then .inr (o i) else .inl (((i + 1 : Nat) : Int), s)))
    (h' : (step ((ls.length : Int), s)).run = some (.inr o')) : ∃ n, (iterT step n (0, s)).run = some (bif ls.any p then o (ls.findIdx p) else o') := by
  have key : ∀ (k i : Nat), i + k = ls.length → (∀ j, j < i → p (nthD ls j) = false) → (iterT step (k + 1) ((i : Int), s)).run = some (bif ls.any p then o (ls.findIdx p) else o') := by
    intro k
    induction k with
    | zero =>
      intro i hi hj
      have e : i = ls.length := by omega
      rw [e, iter_out h']
      have : ls.any p = false := by
        rw [List.any_eq_false]
        intro d hd
        obtain ⟨j, hj', rfl⟩ := List.getElem_of_mem hd
        have := hj j (by omega)
        unfold nthD at this
        rw [List.getD_eq_getElem?_getD, List.getElem?_eq_getElem hj'] at this
        simpa using this
      rw [this]; rfl
    | succ k ih =>
      intro i hi hj
      have hr := h i (by omega)
      cases hp : p (nthD ls i) with
      | true =>
        rw [hp, cond_true] at hr
        rw [iter_out hr]
        have hm : p (ls[i]'(by omega)) = true := by
          unfold nthD at hp
          rw [List.getD_eq_getElem?_getD, List.getElem?_eq_getElem (by omega : i < ls.length)] at hp
          simpa using hp
        have ha : ls.any p = true := List.any_eq_true.2 ⟨_, List.getElem_mem (by omega : i < ls.length), hm⟩
        have hf : ls.findIdx p = i := by
          rw [List.findIdx_eq (by omega : i < ls.length)]
          refine ⟨hm, fun j hji => ?_⟩
          have := hj j hji
          unfold nthD at this
          rw [List.getD_eq_getElem?_getD, List.getElem?_eq_getElem (by omega : j < ls.length)] at this
          simpa using this
        rw [ha, hf]; rfl
      | false =>
        rw [hp, cond_false] at hr
        refine iter_next hr (ih (i + 1) (by omega) fun j hji => ?_)
        rcases Nat.lt_succ_iff_lt_or_eq.1 hji with h1 | rfl
        · exact hj j h1
        · exact hp
  exact ⟨ls.length + 1, key ls.length 0 (by omega) (fun j hj => by omega)⟩
end Go.AX
namespace Go.AX
def colTo (p : Nat → Bool) : Nat → List D
  | 0 => []
  | i + 1 => bif p i then colTo p i ++ [D.int .i64 (i : Int)] else colTo p i
theorem colTo_len (p : Nat → Bool) : ∀ i, (colTo p i).length ≤ i
  | 0 => Nat.le_refl _
  | i + 1 => by
    have := colTo_len p i
    unfold colTo
    cases p i with
    | true => rw [cond_true, List.length_append]; exact Nat.succ_le_succ this
    | false => exact Nat.le_succ_of_le this
theorem iter_collect {step : Int × Nat × Nat × List D → T ((Int × Nat × Nat × List D) ⊕ LOut)} {n : Nat} (p : Nat → Bool) {o : List D → LOut}
    (h : ∀ i, i < n → ∀ out : List D, out.length ≤ i → (step ((i : Int), out.length, out.length, out)).run = some (.inl (((i + 1 : Nat) : Int), (bif p i then out.length + 1 else out.length), (bif p i then out.length + 1 else out.length), (bif p i then out ++ [D.int .i64 (i : Int)] else out))))
    (h' : ∀ out : List D, (step ((n : Int), out.length, out.length, out)).run = some (.inr (o out))) : ∃ z, (iterT step z (0, 0, 0, [])).run = some (o (colTo p n)) := by
  refine iter_range (n := n) (fun i => ((colTo p i).length, (colTo p i).length, colTo p i)) (fun i hi => ?_) (h' _)
  rw [h i hi _ (colTo_len p i)]
  have e : colTo p (i + 1) = bif p i then colTo p i ++ [D.int .i64 (i : Int)] else colTo p i := rfl
  simp only [e]
  cases p i with
  | true => simp only [cond_true, List.length_append]; rfl
  | false => rfl
end Go.AX
namespace Go.AX
theorem FunOk.trim {P : Program} {g : FuncId} {F : FunT} (hF : FunOk P g (FunT.run F)) : FunOk P g (FunT.run fun a σ => (F a σ).bind fun r => .leaf (r.1, AX.trim σ.length [res1 r.1] r.2)) := by
  intro w S m σ args vals res σ' hi hv hr
  obtain ⟨r, h1, h2⟩ := T.bind_some hr
  have h2 := T.leaf_some h2
  obtain ⟨rfl, rfl⟩ := Prod.mk.inj h2
  obtain ⟨k1, k2⟩ := hF w S m σ args vals r.1 r.2 hi hv h1
  refine ⟨k1, k2.mono ?_⟩
  rintro e w' ⟨v, S', m', he, hst, hrs⟩
  have hs : Sit0 ⟨0, 0, none, fun _ => none⟩ w S m σ w' S' m' r.2 [res1 r.1] { tmps := #[v], defers := [] } := by
    refine ⟨⟨hst.inv, rfl, fun i => ?_, fun d hd => by simp at hd, List.nodup_nil, ⟨fun l hl => by simp at hl, fun i l R fr hx => by simp at hx, fun i l R fr hx => by simp at hx⟩, Nat.zero_le _, Nat.zero_le _⟩, hst, Nat.zero_le _⟩
    cases i with
    | zero => exact hrs
    | succ i => exact trivial
  obtain ⟨m'', h'⟩ := hs.trim
  exact ⟨v, S', m'', he, h'.st, h'.sit.slot 0⟩
end Go.AX

namespace Go.AX
open Go.RowKit
abbrev all0 (W : World) : Nat → Prop := fun b => ∃ c t f, W.heap[b]? = some (.cells c t f)
theorem inv_start (W : World) : Inv W (all0 W) [] [] :=
  ⟨rfl, fun _ ⟨_, _, _, h⟩ => (Array.getElem?_eq_some_iff.1 h).1, fun b ⟨_, _, _, h⟩ x hx => by rw [h] at hx; simp at hx, fun i j b h => by simp at h, fun i B h => by simp at h⟩
theorem below_of {W W' : World} {S' : Nat → Prop} {m' : List (Option Nat)} {σ' : Store} (h : Stp W (all0 W) [] [] W' S' m' σ') : Below W.heap.size W W' :=
  ⟨h.ext.os, h.ext.tape, h.ext.output, h.ext.size, fun k hk => h.ext.same k hk fun i hi => by simp at hi⟩
theorem rdL_ints {w : World} {S : Nat → Prop} {k : IntKind} : ∀ zs : List Int, RdL w S (zs.map (.int k)) (zs.map (Value.int k))
  | [] => by simp [RdL]
  | z :: zs => by
    rw [List.map_cons, List.map_cons, RdL]
    exact ⟨[.int k z], zs.map (Value.int k), rfl, by rw [Rd], rdL_ints zs⟩
theorem addr_off (a : Addr) (i : Nat) : (a.add i).off = a.off + i := by
  unfold Addr.add
  by_cases h : i = 0
  · rw [if_pos h, h]; rfl
  · rw [if_neg h]
theorem rd_ints {W : World} {k : IntKind} {a : Addr} {len cap : Nat} {zs : List Int} (hl : len ≤ cap) (hz : zs.length = cap) (hc : ∀ i, i < zs.length → W.cell? (a.add i) = some (.int k (zs.getD i 0))) :
    Rd W (all0 W) (.slc .one ((zs.take len).map (.int k))) [.slice (some a) len cap] := by
  have hlen : ((zs.take len).map (D.int k)).length = len := by simp; omega
  rw [Rd]
  refine ⟨some a, cap, by rw [hlen], by omega, ?_, ?_⟩
  · intro d hd
    obtain ⟨z, _, rfl⟩ := List.mem_map.1 hd
    rfl
  · cases len with
    | zero => left; simp
    | succ n =>
      right
      have h0 := hc 0 (by omega)
      have e0 : a.add 0 = a := by simp [Addr.add]
      rw [e0] at h0
      unfold World.cell? at h0
      cases hb : W.heap[a.block]? with
      | none => rw [hb] at h0; simp at h0
      | some bk =>
        cases bk with
        | cells c t f =>
          rw [hb] at h0
          simp only at h0
          cases hs : a.spot with
          | some x => rw [hs] at h0; simp at h0
          | none =>
            have ha : a = ⟨a.block, a.off, none⟩ := by cases a with | mk x y z => exact congrArg _ hs
            have hci : ∀ i, i < zs.length → c[a.off + i]? = some (.int k (zs.getD i 0)) := by
              intro i hi
              have h1 := hc i hi
              unfold World.cell? at h1
              have eb : (a.add i).block = a.block := by unfold Addr.add; split <;> rfl
              have es : (a.add i).spot = none := by unfold Addr.add; split <;> first | exact hs | rfl
              have eo : (a.add i).off = a.off + i := addr_off a i
              rw [eb, hb] at h1
              simp only [es, eo] at h1
              simpa using h1
            have hlast := hci n (by omega)
            have hsz : a.off + (n + 1) ≤ c.size := by
              have := (Array.getElem?_eq_some_iff.1 hlast).1
              omega
            refine ⟨a.block, a.off, (zs.take (n + 1)).map (Value.int k), by rw [← ha], ?_, ?_, rdL_ints _⟩
            · exact ⟨_, _, _, hb⟩
            · unfold row
              rw [hb, hlen]
              have e1 : (n + 1) * Sh.one.size = n + 1 := by simp [Sh.size]
              simp only [e1]
              rw [if_pos hsz]
              congr 1
              refine List.ext_getElem? fun i => ?_
              rw [List.getElem?_take, List.getElem?_map, List.getElem?_take]
              split
              · rename_i hi
                rw [List.getElem?_drop]
                have := hci i (by omega)
                rw [← Array.getElem?_toList] at this
                rw [this, List.getElem?_eq_getElem (show i < zs.length by omega)]
                simp [List.getD_eq_getElem?_getD, List.getElem?_eq_getElem (show i < zs.length by omega)]
              · rfl
        | _ => rw [hb] at h0; simp at h0
theorem rd_nil {W : World} {s : Sh} : Rd W (all0 W) (.slc s []) [.slice none 0 0] := by
  rw [Rd]
  exact ⟨none, 0, rfl, Nat.le_refl _, by simp, .inl rfl⟩
theorem rv_nil {W : World} {T : Nat → Option Ent} : RvVs W (all0 W) T [] [] := by rw [RvVs]
theorem rv_cons {W : World} {T : Nat → Option Ent} {d : D} {u : Value} {vs : List AV} {us : List Value} (h0 : valAgg u = d.aggB) (h1 : Rd W (all0 W) d u.cells.toList) (h : RvVs W (all0 W) T vs us) : RvVs W (all0 W) T (.dat d :: vs) (u :: us) := by
  rw [RvVs]
  exact ⟨u, us, rfl, h0, by rw [Rv]; exact h1, h⟩
theorem calls_true {P : Program} {g : FuncId} {F : Fun'} (hF : FunOk P g F) {W : World} {args : List AV} {vals : Array Value} (hv : RvVs W (all0 W) (tbl [] []) args vals.toList) (h : F args [] = some ([.dat (.bool true)], [])) :
    Calls P g vals W fun e W' => e = .returned (.bool true) ∧ Below W.heap.size W W' := by
  obtain ⟨_, hc⟩ := hF W (all0 W) [] [] args vals.toList _ _ (inv_start W) hv h
  refine hc.mono ?_
  rintro e W' ⟨v, S', m', rfl, hst, hrs⟩
  refine ⟨?_, below_of hst⟩
  have h1 : Rs W' S' (tbl m' []) (.dat (.bool true)) v := hrs
  have := slot_bool h1 rfl
  rw [this]
end Go.AX
