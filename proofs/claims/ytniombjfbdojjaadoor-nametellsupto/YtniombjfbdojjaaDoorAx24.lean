import Derived.Test.YtniombjfbdojjaaDoorAx23
import Derived.Carry
import Derived.WideShapes
import Derived.ProofKit
import Derived.OpenShut
import Derived.JoinedCond
import Derived.ShutString
import Derived.ChangeOld
/- AX, part 30: the row of a law whose arguments are plain. -/
namespace Go.AX
open Go.RowKit Go.ChangeShapes Go.WideShapes Go.ChangeAt
section
variable {P : Program} {tab : Tab} {H : Type} {enc : TypeId × Value → H} {W : World}
theorem plain_agg (hP : tabOk P tab 0 tab = true) {n : Nat} {t : TypeId} (ht : plain tab n t = true) {base : Nat} {v : Value} {d : D} (hv : Value.okWide P W .any base t v) (hd : okV tab n t d = true) : valAgg v = d.aggB := by
  have hk := plain_known ht
  cases n with
  | zero => simp [plain] at ht
  | succ n =>
    unfold plain at ht
    unfold okV at hd
    cases hI : tab[t]? with
    | none => rw [hI] at ht; simp at ht
    | some I =>
      rw [hI] at ht hd
      simp only at ht hd
      have hok := tyOk hP hI hk
      obtain ⟨i, u, _, hu, _, _, _, _, hm⟩ := hok.info
      cases hty : I.ty with
      | int k =>
        rw [hty] at hm hd
        have hu' : P.underlying t = some (.int k) := by cases hsh : I.sh <;> rw [hsh] at hm <;> cases u <;> simp_all
        obtain ⟨z, rfl⟩ := okWide_int hu' hv
        cases d <;> simp_all <;> rfl
      | bool =>
        rw [hty] at hm hd
        have hu' : P.underlying t = some .bool := by cases hsh : I.sh <;> rw [hsh] at hm <;> cases u <;> simp_all
        obtain ⟨z, rfl⟩ := okWide_bool hu' hv
        cases d <;> simp_all <;> rfl
      | str =>
        rw [hty] at hm hd
        have hu' : P.underlying t = some .string := by cases hsh : I.sh <;> rw [hsh] at hm <;> cases u <;> simp_all
        obtain ⟨z, rfl⟩ := okWide_string hu' hv
        cases d <;> simp_all <;> rfl
      | slc e =>
        rw [hty] at hm hd
        have hu' : P.underlying t = some (.slice e) := by
          cases hsh : I.sh <;> rw [hsh] at hm <;> cases u <;> simp_all
        obtain ⟨a, len, cap, rfl⟩ := okWide_slice hu' hv
        cases d <;> simp_all <;> rfl
      | struct fs =>
        rw [hty] at hm hd
        obtain ⟨gs, hu'⟩ : ∃ gs, P.underlying t = some (.struct gs) := by
          cases hsh : I.sh <;> rw [hsh] at hm <;> cases u <;> simp_all
        obtain ⟨cs, rfl, _⟩ := okWide_struct hu' hv
        cases d <;> simp_all <;> rfl
      | _ => rw [hty] at ht; simp at ht
def okAll (tab : Tab) (n : Nat) : List TypeId → List D → Bool
  | [], [] => true
  | t :: ts, d :: ds => okV tab n t d && okAll tab n ts ds
  | _, _ => false
theorem opens_all {sp : Nat → Bool} {held : Bool} (hP : tabOk P tab 0 tab = true) (n : Nat) (base : Nat) : ∀ (ts : List TypeId) (vs : List Value) (ds : List (DataW H)) (ps : List MemPlace),
    (∀ t ∈ ts, plain tab n t = true) → (∀ (j : Nat) t v, ts[j]? = some t → vs[j]? = some v → Value.okWide P W .any base t v) → DataW.TrodAll enc P W 0 sp held ts vs ds ps →
    ∃ xs : List D, RvVs W (all0 W) (tbl [] []) (xs.map .dat) vs ∧ okAll tab n ts xs = true ∧ sizeDL xs ≤ bulkWL ds
  | [], vs, ds, ps, _, _, h => by
    obtain ⟨rfl, rfl, rfl⟩ := trodAll_nil h
    exact ⟨[], rv_nil, rfl, Nat.le_refl _⟩
  | t :: ts, vs, ds, ps, hp, hv, h => by
    obtain ⟨v, vs', d, ds', p, q, rfl, rfl, rfl, h0, h1⟩ := trodAll_cons h
    obtain ⟨xs, g1, g2, g3⟩ := opens_all hP n base ts vs' ds' q (fun t ht => hp t (List.mem_cons_of_mem _ ht)) (fun j t v h1 h2 => hv (j + 1) t v (by simpa using h1) (by simpa using h2)) h1
    obtain ⟨fuel, hf⟩ := h0
    have hpt := hp t List.mem_cons_self
    obtain ⟨x, k1, k2, _, k4'⟩ := opens hP n t hpt fuel _ _ hf
    have k4 : sizeD x ≤ bulkW d := k4'
    refine ⟨x :: xs, ?_, ?_, ?_⟩
    · rw [List.map_cons]
      exact rv_cons (plain_agg hP hpt (hv 0 t v rfl rfl) k2) k1 g1
    · unfold okAll; rw [k2, g2]; rfl
    · simp only [sizeDL, bulkWL]; omega
theorem trodAll_below (hl : laidOutB P = true) {W' : World} (hb : Below W.heap.size W W') : ∀ (ts : List TypeId) (vs : List Value) (ds : List (DataW H)) (ps : List MemPlace),
    (∀ t ∈ ts, P.readableRec t = true ∧ t < P.types.size) → DataW.TrodAll enc P W 0 (fun _ => true) true ts vs ds ps →
    DataW.TrodAll enc P W' 0 (fun b => decide (b < W.heap.size)) true ts vs ds ps
  | [], vs, ds, ps, _, h => by
    obtain ⟨rfl, rfl, rfl⟩ := trodAll_nil h
    exact trodAll_mk0
  | t :: ts, vs, ds, ps, hr, h => by
    obtain ⟨v, vs', d, ds', p, q, rfl, rfl, rfl, h0, h1⟩ := trodAll_cons h
    have lt0 : ∀ x ∈ p, x.block < W.heap.size := by obtain ⟨m, hm⟩ := h0; exact DataW.trod_lt m _ _ _ hm
    obtain ⟨r1, r2⟩ := hr t List.mem_cons_self
    exact trodAll_cons_mk (Below.trod hl r1 r2 h0 hb lt0) (trodAll_below hl hb ts vs' ds' q (fun t ht => hr t (List.mem_cons_of_mem _ ht)) h1)
theorem trodAll_length {w : World} {base : Nat} {sp : Nat → Bool} {held : Bool} : ∀ (ts : List TypeId) (vs : List Value) (ds : List (DataW H)) (ps : List MemPlace), DataW.TrodAll enc P w base sp held ts vs ds ps → ds.length = ts.length
  | [], vs, ds, ps, h => by obtain ⟨_, rfl, _⟩ := trodAll_nil h; rfl
  | t :: ts, vs, ds, ps, h => by
    obtain ⟨v, vs', d, ds', p, q, rfl, rfl, rfl, h0, h1⟩ := trodAll_cons h
    simp [trodAll_length ts vs' ds' q h1]
end
theorem law_contract {P : Program} {tab : Tab} {n : Nat} {g : FuncId} {fn : Func} {tb : TypeId} {s : ChangeSpec} {B : Nat}
    (hl : laidOutB P = true) (hP : tabOk P tab 0 tab = true)
    (hpl : fn.params.toList.all (fun t => plain tab n t && P.readableRec t && decide (t < P.types.size)) = true)
    (hvars : s.vars = []) (hres : fn.resultTypes = #[tb]) (htb : P.underlying tb = some .bool)
    {H : Type} {enc : TypeId × Value → H}
    (hspec : ∀ ds : List (DataW H), ds.length = fn.params.toList.length → s.fn H ds = { results := [.lit (.bool true)], args := ds })
    (hlaw : ∀ xs : List D, okAll tab n fn.params.toList xs = true → sizeDL xs ≤ B → ∃ F, FunOk P g F ∧ F (xs.map .dat) [] = some ([.dat (.bool true)], []))
    (W : World) (base : Nat) (args : Array Value) (ds gs : List (DataW H)) (before : List MemPlace)
    (hval : ∀ (j : Nat) t v, fn.params[j]? = some t → args[j]? = some v → Value.okWide P W .any base t v)
    (hW : DataW.Whole enc P fn.params.toList s.vars false W args.toList ds gs before) (hk : bulkWL (ds ++ gs) ≤ B) :
    Calls P g args W fun e W' => ∃ v, e = .returned v ∧ s.post enc P fn false true false false W args v W' := by
  have hW' := hW
  obtain ⟨p, q, hA, hV, rfl, hfz, hnd⟩ := hW
  rw [hvars] at hV
  obtain ⟨rfl, rfl⟩ := trodVars_none hV
  rw [List.append_nil] at hk
  rw [List.all_eq_true] at hpl
  have hpl' : ∀ t ∈ fn.params.toList, plain tab n t = true ∧ P.readableRec t = true ∧ t < P.types.size := fun t ht => by
    have := hpl t ht
    simp only [Bool.and_eq_true, decide_eq_true_eq] at this
    exact ⟨this.1.1, this.1.2, this.2⟩
  obtain ⟨xs, g1, g2, g3⟩ := opens_all hP n base fn.params.toList args.toList ds p (fun t ht => (hpl' t ht).1) (fun j t v h1 h2 => hval j t v (by rw [← Array.getElem?_toList]; exact h1) (by rw [← Array.getElem?_toList]; exact h2)) hA
  obtain ⟨F, hF, hrun⟩ := hlaw xs g2 (by omega)
  refine (calls_true hF g1 hrun).mono fun e W' ⟨he, bel⟩ => ?_
  subst he
  have hs := hspec (ds ++ []) (by rw [List.append_nil]; exact trodAll_length _ _ _ _ hA)
  refine ⟨_, rfl, ds, [], _, [], p, [], hW', ?_, ?_, ?_, bel.frame _, fun h => by cases h⟩
  · rw [hs, hres]
    exact trodAll_mk1 (shut_bool htb _)
  · rw [hs]
    simp only [List.append_nil]
    exact trodAll_below hl bel _ _ _ _ (fun t ht => (hpl' t ht).2) hA
  · rw [hs, hvars]
    rfl
theorem okVL_get {g : TypeId → D → Bool} : ∀ (fs : List (TypeId × Nat)) (l : List D), okVL g fs l = true → l.length = fs.length ∧ ∀ i f, fs[i]? = some f → g f.1 (nthD l i) = true
  | [], [], _ => ⟨rfl, fun i f h => by simp at h⟩
  | f :: fs, d :: ds, h => by
    simp only [okVL, Bool.and_eq_true] at h
    obtain ⟨h1, h2⟩ := okVL_get fs ds h.2
    refine ⟨by simp [h1], fun i g' hg => ?_⟩
    cases i with
    | zero => simp at hg; subst hg; exact h.1
    | succ i => exact h2 i g' (by simpa using hg)
  | [], _ :: _, h => by simp [okVL] at h
  | _ :: _, [], h => by simp [okVL] at h
theorem okEL_of (ds : List D) : ∀ (l : List Ek) (i : Nat), (∀ j k, l[j]? = some k → okE k (nthD ds (i + j)) = true) → okEL l i ds = true
  | [], i, _ => by rw [okEL]
  | k :: l, i, h => by
    have h0 := h 0 k rfl
    rw [Nat.add_zero] at h0
    rw [okEL, h0, okEL_of ds l (i + 1) (fun j k' hj => by have := h (j + 1) k' (by simpa using hj); rwa [show i + 1 + j = i + (j + 1) by omega])]
    rfl
theorem okV_okE {tab : Tab} : ∀ (n m : Nat) (t : TypeId) (d : D), okV tab n t d = true → okE (ekOf tab m t) d = true
  | 0, _, _, _, h => by simp [okV] at h
  | _ + 1, 0, _, _, _ => by unfold ekOf; rw [okE]
  | n + 1, m + 1, t, d, h => by
    unfold okV at h
    unfold ekOf
    cases hI : tab[t]? with
    | none => rw [hI] at h; simp at h
    | some I =>
      rw [hI] at h
      simp only at h ⊢
      cases hty : I.ty with
      | int k =>
        rw [hty] at h
        cases d <;> simp_all [okE, D.isI]
      | bool => rw [hty] at h; cases d <;> simp_all [okE, D.isB]
      | str => rw [hty] at h; cases d <;> simp_all [okE, D.isS]
      | slc e =>
        rw [hty] at h
        cases d with
        | slc s l =>
          simp only [Bool.and_eq_true] at h ⊢
          cases hs : tab.sh e with
          | none => rw [okE]
          | some s' => rw [hs] at h; rw [okE]; exact h.1
        | _ => simp at h
      | struct fs =>
        rw [hty] at h
        cases d with
        | agg l =>
          simp only at h ⊢
          obtain ⟨h1, h2⟩ := okVL_get fs l h
          rw [okE, Bool.and_eq_true]
          refine ⟨?_, okEL_of _ _ _ fun j k hj => ?_⟩
          · simp only [D.isAgg, List.length_map, h1]; simp
          · rw [List.getElem?_map] at hj
            cases hf : fs[j]? with
            | none => rw [hf] at hj; simp at hj
            | some f =>
              rw [hf] at hj
              simp only [Option.map_some, Option.some.injEq] at hj
              subst hj
              rw [Nat.zero_add]
              exact okV_okE n m f.1 _ (h2 j f hf)
        | _ => simp at h
      | _ => rw [hty] at h; cases d <;> simp at h
theorem okAll_cons {tab : Tab} {n : Nat} {t : TypeId} {ts : List TypeId} {xs : List D} (h : okAll tab n (t :: ts) xs = true) : ∃ x xs', xs = x :: xs' ∧ okV tab n t x = true ∧ okAll tab n ts xs' = true := by
  cases xs with
  | nil => simp [okAll] at h
  | cons x xs => unfold okAll at h; rw [Bool.and_eq_true] at h; exact ⟨x, xs, rfl, h.1, h.2⟩
theorem okAll_nil {tab : Tab} {n : Nat} {xs : List D} (h : okAll tab n [] xs = true) : xs = [] := by
  cases xs with
  | nil => rfl
  | cons x xs => simp [okAll] at h
theorem okV_int {tab : Tab} {n : Nat} {t : TypeId} {d : D} {I : TyI} {k : IntKind} (h : okV tab (n + 1) t d = true) (hI : tab[t]? = some I) (hty : I.ty = .int k) : ∃ z, d = .int k z ∧ (Lit.int k z).wf = true := by
  unfold okV at h; rw [hI] at h; simp only [hty] at h
  cases d <;> simp_all
theorem okV_bool {tab : Tab} {n : Nat} {t : TypeId} {d : D} {I : TyI} (h : okV tab (n + 1) t d = true) (hI : tab[t]? = some I) (hty : I.ty = .bool) : ∃ b, d = .bool b := by
  unfold okV at h; rw [hI] at h; simp only [hty] at h
  cases d <;> simp_all
theorem okV_str {tab : Tab} {n : Nat} {t : TypeId} {d : D} {I : TyI} (h : okV tab (n + 1) t d = true) (hI : tab[t]? = some I) (hty : I.ty = .str) : ∃ s, d = .str s := by
  unfold okV at h; rw [hI] at h; simp only [hty] at h
  cases d <;> simp_all
theorem okV_slc {tab : Tab} {n : Nat} {t e : TypeId} {d : D} {I : TyI} {s : Sh} (h : okV tab (n + 1) t d = true) (hI : tab[t]? = some I) (hty : I.ty = .slc e) (hs : tab.sh e = some s) : ∃ l, d = .slc s l ∧ l.all (okV tab n e) = true := by
  unfold okV at h; rw [hI] at h; simp only [hty] at h
  cases d with
  | slc s' l => simp only [hs, Bool.and_eq_true] at h; exact ⟨l, by rw [Sh.eq_of_eqb h.1], h.2⟩
  | _ => simp at h
theorem okV_struct {tab : Tab} {n : Nat} {t : TypeId} {d : D} {I : TyI} {fs : List (TypeId × Nat)} (h : okV tab (n + 1) t d = true) (hI : tab[t]? = some I) (hty : I.ty = .struct fs) : ∃ l, d = .agg l ∧ okVL (okV tab n) fs l = true := by
  unfold okV at h; rw [hI] at h; simp only [hty] at h
  cases d with
  | agg l => exact ⟨l, rfl, h⟩
  | _ => simp at h
theorem okVL_cons {g : TypeId → D → Bool} {f : TypeId × Nat} {fs : List (TypeId × Nat)} {l : List D} (h : okVL g (f :: fs) l = true) : ∃ x l', l = x :: l' ∧ g f.1 x = true ∧ okVL g fs l' = true := by
  cases l with
  | nil => simp [okVL] at h
  | cons x l => simp only [okVL, Bool.and_eq_true] at h; exact ⟨x, l, rfl, h.1, h.2⟩
theorem okVL_nil {g : TypeId → D → Bool} {l : List D} (h : okVL g [] l = true) : l = [] := by
  cases l with
  | nil => rfl
  | cons x l => simp [okVL] at h
end Go.AX
namespace Go.AX
theorem run_funOk {P : Program} {E : Env} {fz : Bool} {g : Nat} {fn : Func} (hE : ∀ bg, EnvOk bg P E) (hf : P.funcs[g]? = some fn) (hn : (fn.name == "runtime.NumGoroutine") = false)
    (hlp : ∀ x ∈ fnLoops fn, LoopOk P E x.1 x.2) : FunOk P g (runF E fz fn) := by
  intro w S m σ args vals res σ' hi hv hr
  exact callKS_ok (runK_ok hE hf hn hlp) w S m σ args vals res σ' hi hv hr
theorem sizeDL_mem {d : D} : ∀ {l : List D}, d ∈ l → sizeD d ≤ sizeDL l
  | x :: l, h => by
    rw [sizeDL]
    rcases List.mem_cons.1 h with rfl | h
    · omega
    · have := sizeDL_mem h; omega
end Go.AX
