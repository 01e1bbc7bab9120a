import Derived.Test.YtnailhdfopoibaaAx26
import Derived.IntWalk
import Derived.KernelRfl
import Derived.Below
/- AX, part 26: what is said of functions, one behind the other. -/
namespace Go.AX

abbrev Specs := List (Nat × FunT)
def Specs.get : Specs → Nat → Option FunT
  | [], _ => none
  | (h, F) :: l, g => bif Nat.beq g h then some F else Specs.get l g

def SpecsOk (P : Program) (L : Specs) : Prop := ∀ g F, L.get g = some F → FunOk P g (FunT.run F)

theorem SpecsOk.nil (P : Program) : SpecsOk P [] := fun _ _ h => by simp [Specs.get] at h
theorem SpecsOk.cons {P : Program} {L : Specs} {g : Nat} {F : FunT} (hF : FunOk P g (FunT.run F)) (h : SpecsOk P L) : SpecsOk P ((g, F) :: L) := by
  intro g' F' h'
  simp only [Specs.get] at h'
  cases hg : Nat.beq g' g with
  | true =>
    rw [hg] at h'
    simp only [cond_true, Option.some.injEq] at h'
    subst h'
    rw [Nat.eq_of_beq_eq_true hg]; exact hF
  | false => rw [hg] at h'; exact h g' F' h'

abbrev Loops := List (Nat × (Frame' → Store → T (Exit × Frame' × Store)))
def Loops.get : Loops → Nat → Option (Frame' → Store → T (Exit × Frame' × Store))
  | [], _ => none
  | (h, F) :: l, g => bif Nat.beq g h then some F else Loops.get l g

abbrev Hints := List (Nat × Nat × List Hint)
def Hints.get : Hints → Nat → Nat → List Hint
  | [], _, _ => []
  | (r, i, h) :: l, r', i' => bif Nat.beq r r' && Nat.beq i i' then h else Hints.get l r' i'

/-- How a function is run, with what is said of others. -/
def envOf (tab : Tab) (L : Specs) (ref : List Nat) (loops : Loops) (hints : Hints) : Env :=
  ⟨tab, Specs.get L, fun g => match Specs.get L g with | some F => F | none => fun _ _ => .fail, fun g => inL g ref, Hints.get hints, Loops.get loops, 0⟩

structure ProgOk (P : Program) (tab : Tab) : Prop where
  tab : tabOk P tab 0 tab = true
  mixed : P.follows .mixedOrders = true

theorem envOf_ok {P : Program} {tab : Tab} {L : Specs} {ref : List Nat} {loops : Loops} {hints : Hints} (hP : ProgOk P tab) (hL : SpecsOk P L) : EnvOk P (envOf tab L ref loops hints) := by
  refine ⟨hP.tab, hL, fun g => ?_, hP.mixed⟩
  unfold envOf
  simp only
  cases hg : Specs.get L g with
  | none =>
    intro w S m σ args vals res σ' _ _ h
    simp [FunT.run, T.run_fail] at h
  | some F => exact hL g F hg

/-- A function's run, of which only what is reached is kept. -/
def runF (E : Env) (fz : Bool) (f : Func) : Fun' := callKS (runK E fz f)

/-- What is said of a function is so. -/
theorem fun_ok {P : Program} {E : Env} {fz : Bool} {g : Nat} {fn : Func} {F : FunT} (hE : EnvOk P E) (hf : P.funcs[g]? = some fn) (hn : (fn.name == "runtime.NumGoroutine") = false)
    (hlp : ∀ x ∈ fnLoops fn, LoopOk E x.1 x.2) (h : ∀ args σ r, (F args σ).run = some r → runF E fz fn args σ = some r) : FunOk P g (FunT.run F) := by
  intro w S m σ args vals res σ' hi hv hr
  exact callKS_ok (runK_ok hE hf hn hlp) w S m σ args vals res σ' hi hv (h args σ _ hr)

/-! Frames at the head of a loop. -/

def lkF : List (Nat × AV) → Nat → AV
  | [], _ => .undef
  | (j, v) :: l, i => bif Nat.beq i j then v else lkF l i

/-- A frame of n slots, of which some are known. -/
def mkF (n : Nat) (l : List (Nat × AV)) : Frame' := (List.range n).map (lkF l)

theorem lkF_map {live : List Nat} {g : Nat → AV} {i : Nat} : lkF (live.map fun j => (j, g j)) i = bif inL i live then g i else .undef := by
  induction live with
  | nil => rfl
  | cons j l ih =>
    simp only [List.map_cons, lkF, inL]
    cases h : Nat.beq i j with
    | true => rw [Nat.eq_of_beq_eq_true h]; rfl
    | false => simpa using ih

theorem cleanF_at (live : List Nat) : ∀ (fr : Frame') (k i : Nat), i < fr.length → (cleanF live k fr)[i]? = some (bif inL (k + i) live then fr.getD i .undef else .undef)
  | [], k, i, h => absurd h (Nat.not_lt_zero i)
  | v :: fr, k, 0, _ => by simp [cleanF]
  | v :: fr, k, i + 1, h => by
    simp only [cleanF, List.getElem?_cons_succ, List.getD_cons_succ]
    rw [cleanF_at live fr (k + 1) i (by simpa using h)]
    have e : k + 1 + i = k + (i + 1) := by omega
    rw [e]

theorem clean_mk {n : Nat} {live : List Nat} {fr : Frame'} (h : fr.length = n) : cleanF live 0 fr = mkF n (live.map fun i => (i, fr.getD i .undef)) := by
  refine List.ext_getElem? fun i => ?_
  unfold mkF
  rcases Nat.lt_or_ge i fr.length with hl | hl
  · rw [cleanF_at live fr 0 i hl, Nat.zero_add, List.getElem?_map, List.getElem?_range (by omega), Option.map_some, lkF_map]
  · rw [List.getElem?_eq_none (by rw [cleanF_length]; exact hl), List.getElem?_eq_none (by simp; omega)]

theorem clean_clean (live : List Nat) (fr : Frame') : cleanF live 0 (cleanF live 0 fr) = cleanF live 0 fr := by
  refine List.ext_getElem? fun i => ?_
  rcases Nat.lt_or_ge i fr.length with hl | hl
  · have h := cleanF_at live fr 0 i hl
    rw [cleanF_at live _ 0 i (by rw [cleanF_length]; exact hl), h, List.getD_eq_getElem?_getD, h, Option.getD_some]
    cases inL (0 + i) live <;> rfl
  · rw [List.getElem?_eq_none (by rw [cleanF_length, cleanF_length]; exact hl), List.getElem?_eq_none (by rw [cleanF_length]; exact hl)]

theorem loopN_clean (step : Frame' → Store → Kt → Option Res) (base : Nat) (live : List Nat) (n : Nat) (fr : Frame') (σ : Store) (K : Kt) : loopN step base live n fr σ K = loopN step base live n (cleanF live 0 fr) σ K := by
  cases n with
  | zero => rfl
  | succ n => simp only [loopN, clean_clean]

/-- The i-th loop of a function, and where it stands. -/
def loopAt (f : Func) (i : Nat) : List Nat × Code × List (Nat × List Nat) := (fnLoops f).getD i ([], .skip, [])

theorem loops_one {f : Func} {E : Env} (h : (fnLoops f).length = 1) (h0 : LoopOk E (loopAt f 0).1 (loopAt f 0).2) : ∀ x ∈ fnLoops f, LoopOk E x.1 x.2 := by
  unfold loopAt at h0
  match hl : fnLoops f, h with
  | [y], _ =>
    rw [hl] at h0
    intro x hx
    simp only [List.mem_singleton] at hx
    subst hx
    exact h0
theorem loops_none {f : Func} {E : Env} (h : (fnLoops f).isEmpty = true) : ∀ x ∈ fnLoops f, LoopOk E x.1 x.2 := by
  intro x hx
  rw [List.isEmpty_iff] at h
  rw [h] at hx
  simp at hx
theorem loops_all {f : Func} {E : Env} (n : Nat) (h : (fnLoops f).length = n) (h0 : ∀ i, i < n → LoopOk E (loopAt f i).1 (loopAt f i).2) : ∀ x ∈ fnLoops f, LoopOk E x.1 x.2 := by
  intro x hx
  obtain ⟨i, hi, rfl⟩ := List.getElem_of_mem hx
  have := h0 i (by omega)
  unfold loopAt at this
  rw [List.getD_eq_getElem?_getD, List.getElem?_eq_getElem hi] at this
  exact this

/-- One loop of a function with what is around it. -/
def loopRun (E : Env) (f : Func) (i : Nat) (base n : Nat) (fr : Frame') (σ : Store) (K : Kt) : Option Res :=
  loopN (loopStep (E.rebase base) (loopAt f i).1 (loopAt f i).2.1 (loopAt f i).2.2) base (codeLive (loopAt f i).1 (loopAt f i).2.1 (loopAt f i).2.2 []) n fr σ K

def liveAt (f : Func) (i : Nat) : List Nat := codeLive (loopAt f i).1 (loopAt f i).2.1 (loopAt f i).2.2 []

/-- One round, from a clean frame. -/
def oneRound (E : Env) (f : Func) (i : Nat) (base : Nat) (fr : Frame') (σ : Store) (K : Kt) : Option Res :=
  loopStep (E.rebase base) (loopAt f i).1 (loopAt f i).2.1 (loopAt f i).2.2 fr σ K

theorem loopRun_step {E : Env} {f : Func} {i base n : Nat} {fr fr' : Frame'} {σ σ' : Store} {K : Kt} (h1 : cleanF (liveAt f i) 0 fr = fr') (h2 : trim base fr' σ = σ') : loopRun E f i base (n + 1) fr σ K = oneRound E f i base fr' σ' fun e fr σ => match e with
    | .normal => loopRun E f i base n fr σ K
    | e => K e fr σ := by
  subst h1 h2; rfl

/-- What is to be shown of a loop. -/
theorem loop_ok {E : Env} {f : Func} {i : Nat} {L : Frame' → Store → T (Exit × Frame' × Store)} (hL : E.loop (loopKey (loopAt f i).2.1) = some L)
    (h : ∀ fr σ p, (L fr σ).run = some p → ∀ (K : Kt) r, K p.1 p.2.1 p.2.2 = some r → ∃ n, loopRun E f i σ.length n (cleanF (liveAt f i) 0 fr) σ K = some r) : LoopOk E (loopAt f i).1 (loopAt f i).2 := by
  intro L' hL' fr σ p hp K r hr
  rw [hL] at hL'
  simp only [Option.some.injEq] at hL'
  subst hL'
  obtain ⟨n, hn⟩ := h fr σ p hp K r hr
  exact ⟨n, by rw [loopN_clean]; exact hn⟩

end Go.AX

/- AX, part 27: plain facts for proofs of functions. -/
namespace Go.AX

theorem beq_self (n : Nat) : Nat.beq n n = true := Nat.beq_refl n
theorem beq_of_eq {a b : Nat} (h : a = b) : Nat.beq a b = true := by subst h; exact Nat.beq_refl a

theorem seg_full (ds : List D) : seg ds 0 ds.length = ds := by simp [seg]
theorem seg_take (ds : List D) (n : Nat) : seg ds 0 n = ds.take n := by
  unfold seg
  by_cases h : n = ds.length
  · subst h; simp
  · have : Nat.beq n ds.length = false := by
      cases hb : Nat.beq n ds.length with
      | true => exact absurd (Nat.eq_of_beq_eq_true hb) h
      | false => rfl
    simp [this]
theorem seg_drop (ds : List D) (n : Nat) : seg ds n (ds.length - n) = ds.drop n := by
  unfold seg
  cases n with
  | zero => simp
  | succ n =>
    have : Nat.beq (n + 1) 0 = false := rfl
    rw [this]
    simp only [Bool.false_and, cond_false]
    exact List.take_of_length_le (by simp)

theorem fits_one_iff {ds : List D} : fits .one ds = true ↔ ∀ d ∈ ds, d.shape = .one := by
  unfold fits
  simp only [List.all_eq_true]
  exact forall₂_congr fun d _ => ⟨fun h => Sh.eq_of_eqb h, fun h => by rw [h]; rfl⟩

theorem fits_append {s : Sh} {a b : List D} : fits s (a ++ b) = (fits s a && fits s b) := by simp [fits]

theorem fits_bytes (s : ByteArray) : fits .one (bytesD s) = true := by
  rw [fits_one_iff]
  intro d hd
  unfold bytesD at hd
  obtain ⟨b, _, rfl⟩ := List.mem_map.1 hd
  rfl

theorem sub_all (s : ByteArray) : subStr s 0 s.size = s := by
  unfold subStr
  have h : (s.data.toList.drop 0).take (s.size - 0) = s.data.toList := List.take_of_length_le (Nat.le_of_eq rfl)
  rw [h]

theorem sub_size (s : ByteArray) (l h : Nat) (h1 : l ≤ h) (h2 : h ≤ s.size) : (subStr s l h).size = h - l := by
  unfold subStr
  have : s.data.toList.length = s.size := rfl
  show (((s.data.toList.drop l).take (h - l)).toArray).size = _
  simp only [List.size_toArray, List.length_take, List.length_drop]
  omega


theorem trim_self {base : Nat} {fr : Frame'} {σ : Store} (h : σ.length ≤ base) : trim base fr σ = σ := by
  unfold trim
  simp only
  generalize trimN σ 4 (max base (maxIds fr)) = k
  cases hc : decide (base ≤ k) && idsBelow k fr && (σ.take k).all (fun B => idsBelow k [B.v]) with
  | false => rfl
  | true =>
    simp only [Bool.and_eq_true, decide_eq_true_eq] at hc
    exact List.take_of_length_le (by omega)

theorem nthD_mem {l : List D} {i : Nat} (h : i < l.length) : nthD l i ∈ l := List.mem_of_getElem? (nthD_some h)

theorem isBytes_mem {ds : List D} {d : D} (h : isBytes ds = true) (hd : d ∈ ds) : ∃ n, d = .int .u8 n := by
  have := List.all_eq_true.1 h d hd
  cases d <;> simp [D.isI] at this
  exact ⟨_, by rw [this]⟩

end Go.AX

/- AX, part 28: from a law's arguments, as a row reads them, to abstract values; from a step to what a row asks. -/
namespace Go.AX
open Go.RowKit

abbrev all0 (W : World) : Nat → Prop := fun b => b < W.heap.size

theorem inv_start (W : World) : Inv W (all0 W) [] [] :=
  ⟨rfl, fun _ h => h, fun i j b h => by simp at h, fun i B h => by simp at h⟩

theorem below_of {W W' : World} {S' : Nat → Prop} {m' : List (Option Nat)} {σ' : Store} (h : Stp W (all0 W) [] [] W' S' m' σ') : Below W.heap.size W W' :=
  ⟨h.ext.os, h.ext.tape, h.ext.output, h.ext.size, fun k hk => h.ext.same k hk fun i hi => by simp at hi⟩

theorem rdL_ints {w : World} {S : Nat → Prop} {k : IntKind} : ∀ zs : List Int, RdL w S (zs.map (.int k)) (zs.map (Value.int k))
  | [] => by simp [RdL]
  | z :: zs => by
    rw [List.map_cons, List.map_cons, RdL]
    exact ⟨[.int k z], zs.map (Value.int k), rfl, by rw [Rd], rdL_ints zs⟩

theorem addr_off (a : Addr) (i : Nat) : (a.add i).off = a.off + i := by
  unfold Addr.add
  by_cases h : i = 0
  · rw [if_pos h, h]; rfl
  · rw [if_neg h]

theorem rd_ints {W : World} {k : IntKind} {a : Addr} {len cap : Nat} {zs : List Int} (hl : len ≤ cap) (hz : zs.length = cap) (hc : ∀ i, i < zs.length → W.cell? (a.add i) = some (.int k (zs.getD i 0))) :
    Rd W (all0 W) (.slc .one ((zs.take len).map (.int k))) [.slice (some a) len cap] := by
  have hlen : ((zs.take len).map (D.int k)).length = len := by simp; omega
  rw [Rd]
  refine ⟨some a, cap, by rw [hlen], by omega, ?_, ?_⟩
  · intro d hd
    obtain ⟨z, _, rfl⟩ := List.mem_map.1 hd
    rfl
  · cases len with
    | zero => left; simp
    | succ n =>
      right
      have h0 := hc 0 (by omega)
      have e0 : a.add 0 = a := by simp [Addr.add]
      rw [e0] at h0
      unfold World.cell? at h0
      cases hb : W.heap[a.block]? with
      | none => rw [hb] at h0; simp at h0
      | some bk =>
        cases bk with
        | cells c t f =>
          rw [hb] at h0
          simp only at h0
          cases hs : a.spot with
          | some x => rw [hs] at h0; simp at h0
          | none =>
            have ha : a = ⟨a.block, a.off, none⟩ := by cases a with | mk x y z => exact congrArg _ hs
            have hci : ∀ i, i < zs.length → c[a.off + i]? = some (.int k (zs.getD i 0)) := by
              intro i hi
              have h1 := hc i hi
              unfold World.cell? at h1
              have eb : (a.add i).block = a.block := by unfold Addr.add; split <;> rfl
              have es : (a.add i).spot = none := by unfold Addr.add; split <;> first | exact hs | rfl
              have eo : (a.add i).off = a.off + i := addr_off a i
              rw [eb, hb] at h1
              simp only [es, eo] at h1
              simpa using h1
            have hlast := hci n (by omega)
            have hsz : a.off + (n + 1) ≤ c.size := by
              have := (Array.getElem?_eq_some_iff.1 hlast).1
              omega
            refine ⟨a.block, a.off, (zs.take (n + 1)).map (Value.int k), by rw [← ha], ?_, ?_, rdL_ints _⟩
            · rcases Nat.lt_or_ge a.block W.heap.size with h | h
              · exact h
              · simp [Array.getElem?_eq_none h] at hb
            · unfold row
              rw [hb, hlen]
              have e1 : (n + 1) * Sh.one.size = n + 1 := by simp [Sh.size]
              simp only [e1]
              rw [if_pos hsz]
              congr 1
              refine List.ext_getElem? fun i => ?_
              rw [List.getElem?_take, List.getElem?_map, List.getElem?_take]
              split
              · rename_i hi
                rw [List.getElem?_drop]
                have := hci i (by omega)
                rw [← Array.getElem?_toList] at this
                rw [this, List.getElem?_eq_getElem (show i < zs.length by omega)]
                simp [List.getD_eq_getElem?_getD, List.getElem?_eq_getElem (show i < zs.length by omega)]
              · rfl
        | _ => rw [hb] at h0; simp at h0

theorem rd_nil {W : World} {s : Sh} : Rd W (all0 W) (.slc s []) [.slice none 0 0] := by
  rw [Rd]
  exact ⟨none, 0, rfl, Nat.le_refl _, by simp, .inl rfl⟩

theorem rv_nil {W : World} {T : Nat → Option Ent} : RvVs W (all0 W) T [] [] := by rw [RvVs]
theorem rv_cons {W : World} {T : Nat → Option Ent} {d : D} {u : Value} {vs : List AV} {us : List Value} (h0 : valAgg u = d.aggB) (h1 : Rd W (all0 W) d u.cells.toList) (h : RvVs W (all0 W) T vs us) : RvVs W (all0 W) T (.dat d :: vs) (u :: us) := by
  rw [RvVs]
  exact ⟨u, us, rfl, h0, by rw [Rv]; exact h1, h⟩

/-- A law that is true. -/
theorem calls_true {P : Program} {g : FuncId} {F : Fun'} (hF : FunOk P g F) {W : World} {args : List AV} {vals : Array Value} (hv : RvVs W (all0 W) (tbl [] []) args vals.toList) (h : F args [] = some ([.dat (.bool true)], [])) :
    Calls P g vals W fun e W' => e = .returned (.bool true) ∧ Below W.heap.size W W' := by
  obtain ⟨_, hc⟩ := hF W (all0 W) [] [] args vals.toList _ _ (inv_start W) hv h
  refine hc.mono ?_
  rintro e W' ⟨v, S', m', rfl, hst, hrs⟩
  refine ⟨?_, below_of hst⟩
  have h1 : Rs W' S' (tbl m' []) (.dat (.bool true)) v := hrs
  have := slot_bool h1 rfl
  rw [this]

end Go.AX
