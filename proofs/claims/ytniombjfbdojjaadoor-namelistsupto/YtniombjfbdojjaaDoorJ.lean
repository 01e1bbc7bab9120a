/- Seat 03: NameLists is true. -/
import Derived.Test.YtniombjfbdojjaaDoorI
import Derived.Test.YtniombjfbdojjaaDoorAx24
namespace Go.Proofs.YtniombjfbdojjaaDoor
open Go.AX
set_option maxRecDepth 100000
abbrev yL (d : D) : List UInt8 := (D.getS d).data.toList
theorem isVW (v : ByteArray) : isV v = isW v := by
  funext d
  exact decide_eq_decide.2 ⟨fun h => h.symm, fun h => h.symm⟩
theorem index_eq (ls : List D) (v : ByteArray) : index_v0 ls v = rindex_v0 ls v := by unfold index_v0 rindex_v0; rw [isVW]
def keysL (ds : List D) : List (List UInt8) := ds.map fun e => yL (entK e)
theorem ent_form {e : D} (h : entOkD .str e = true) : ∃ s n, e = .agg [.str s, .int .i64 n] := by
  obtain ⟨k, n, rfl, hk⟩ := entOkD_form h
  rcases keyOk_cases hk with ⟨_, s, rfl⟩ | ⟨_, _, h', _⟩
  · exact ⟨_, _, rfl⟩
  · cases h'
theorem getE {ls : List D} {k : Nat} (h : k < ls.length) : ls[k] = nthD ls k := by
  unfold nthD; rw [List.getD_eq_getElem?_getD, List.getElem?_eq_getElem h]; rfl
theorem has_key {ds : List D} (h : ds.all (entOkD .str) = true) (x : ByteArray) : mapHas (.str x) ds = decide (x.data.toList ∈ keysL ds) := by
  induction ds with
  | nil => rfl
  | cons e ds ih =>
    rw [List.all_cons, Bool.and_eq_true] at h
    obtain ⟨s, n, rfl⟩ := ent_form h.1
    have ih := ih h.2
    unfold mapHas at ih ⊢
    rw [List.any_cons, ih]
    show (decide (x.data.toList = s.data.toList) || decide (x.data.toList ∈ keysL ds)) = decide (x.data.toList ∈ s.data.toList :: keysL ds)
    by_cases h1 : x.data.toList = s.data.toList <;> by_cases h2 : x.data.toList ∈ keysL ds <;> simp [h1, h2]
theorem idx_key {ds : List D} (h : ds.all (entOkD .str) = true) {x : ByteArray} (hx : mapHas (.str x) ds = true) : mapIdx (.str x) ds < ds.length ∧ (keysL ds)[mapIdx (.str x) ds]? = some x.data.toList := by
  have hp : mapIdx (.str x) ds < ds.length := by
    unfold mapHas at hx
    exact List.findIdx_lt_length_of_exists (by simpa [List.any_eq_true] using hx)
  refine ⟨hp, ?_⟩
  have he := List.findIdx_getElem (w := (show ds.findIdx (fun e => keyEq (.str x) (entK e)) < ds.length from hp))
  have hm : entOkD .str (ds[mapIdx (.str x) ds]) = true := List.all_eq_true.1 h _ (List.getElem_mem hp)
  obtain ⟨s, n, hs⟩ := ent_form hm
  unfold keysL
  rw [List.getElem?_map, List.getElem?_eq_getElem hp, hs]
  have he : keyEq (.str x) (entK (ds[mapIdx (.str x) ds])) = true := he
  rw [hs] at he
  have he : x.data.toList = s.data.toList := of_decide_eq_true he
  show some s.data.toList = _
  rw [he]
theorem keys_put {ds : List D} (h : ds.all (entOkD .str) = true) (x : ByteArray) (n : Int) : keysL (mapPut (.str x) (.int .i64 n) ds) = if x.data.toList ∈ keysL ds then keysL ds else keysL ds ++ [x.data.toList] := by
  unfold mapPut
  cases hx : mapHas (.str x) ds with
  | true =>
    have hm : x.data.toList ∈ keysL ds := by rw [has_key h] at hx; exact of_decide_eq_true hx
    rw [if_pos hm, cond_true]
    obtain ⟨h1, h2⟩ := idx_key h hx
    unfold keysL at h2 ⊢
    rw [List.map_set]
    refine List.ext_getElem? fun i => ?_
    by_cases hi : mapIdx (.str x) ds = i
    · subst hi
      rw [List.getElem?_set_self (by rw [List.length_map]; exact h1), h2]; rfl
    · rw [List.getElem?_set_ne hi]
  | false =>
    have hm : ¬ x.data.toList ∈ keysL ds := by rw [has_key h] at hx; exact of_decide_eq_false hx
    rw [if_neg hm, cond_false]
    unfold keysL
    rw [List.map_append]; rfl
theorem cnt_keys (ls : List D) (i : Nat) : keysL (cntTo ls (i + 1)) = if yL (nthD ls i) ∈ keysL (cntTo ls i) then keysL (cntTo ls i) else keysL (cntTo ls i) ++ [yL (nthD ls i)] := by
  rw [cntTo]; exact keys_put (cnt_ok ls i) _ _
theorem cnt_mem (ls : List D) (x : List UInt8) : ∀ i, x ∈ keysL (cntTo ls i) ↔ ∃ j, j < i ∧ yL (nthD ls j) = x
  | 0 => ⟨fun h => (by cases h), fun ⟨j, h, _⟩ => absurd h (Nat.not_lt_zero j)⟩
  | i + 1 => by
    have ih := cnt_mem ls x i
    rw [cnt_keys]
    by_cases hm : yL (nthD ls i) ∈ keysL (cntTo ls i)
    · rw [if_pos hm, ih]
      constructor
      · rintro ⟨j, h1, h2⟩; exact ⟨j, by omega, h2⟩
      · rintro ⟨j, h1, h2⟩
        by_cases hj : j = i
        · subst hj
          rw [h2] at hm
          exact ih.1 hm
        · exact ⟨j, by omega, h2⟩
    · rw [if_neg hm, List.mem_append, ih, List.mem_singleton]
      constructor
      · rintro (⟨j, h1, h2⟩ | h)
        · exact ⟨j, by omega, h2⟩
        · exact ⟨i, by omega, h.symm⟩
      · rintro ⟨j, h1, h2⟩
        by_cases hj : j = i
        · subst hj; exact .inr h2.symm
        · exact .inl ⟨j, by omega, h2⟩
theorem keys_len (ds : List D) : (keysL ds).length = ds.length := by unfold keysL; rw [List.length_map]
theorem cnt_len (ls : List D) : ∀ i, (cntTo ls i).length ≤ i ∧ ((cntTo ls i).length = i ↔ ∀ k, k < i → ¬ ∃ j, j < k ∧ yL (nthD ls j) = yL (nthD ls k))
  | 0 => ⟨Nat.le_refl 0, fun _ k hk => absurd hk (Nat.not_lt_zero k), fun _ => rfl⟩
  | i + 1 => by
    obtain ⟨h1, h2⟩ := cnt_len ls i
    have hk := congrArg List.length (cnt_keys ls i)
    rw [keys_len] at hk
    have hm := cnt_mem ls (yL (nthD ls i)) i
    by_cases hx : yL (nthD ls i) ∈ keysL (cntTo ls i)
    · rw [if_pos hx, keys_len] at hk
      refine ⟨by omega, fun h => by omega, fun h => ?_⟩
      exact absurd (hm.1 hx) (h i (by omega))
    · rw [if_neg hx, List.length_append, keys_len, List.length_singleton] at hk
      refine ⟨by omega, fun h k hk2 => ?_, fun h => ?_⟩
      · by_cases hki : k = i
        · subst hki; exact fun h => hx (hm.2 h)
        · exact h2.1 (by omega) k (by omega)
      · rw [hk, h2.2 (fun k hk2 => h k (by omega))]
theorem tw_iff {ls : List D} {i : Nat} (hi : i < ls.length) : twP ls i = true ↔ ∃ j, j < i ∧ yL (nthD ls j) = yL (nthD ls i) := by
  have ha : ls.any (isW (D.getS (nthD ls i))) = true := List.any_eq_true.2 ⟨nthD ls i, nthD_mem hi, decide_eq_true rfl⟩
  have hf := List.findIdx_lt_length_of_exists (p := isW (D.getS (nthD ls i))) (xs := ls) (by simpa [List.any_eq_true] using ha)
  have hle : ls.findIdx (isW (D.getS (nthD ls i))) ≤ i := by
    refine Nat.le_of_not_lt fun h => ?_
    have := List.not_of_lt_findIdx h
    rw [getE hi] at this
    exact absurd (show isW (D.getS (nthD ls i)) (nthD ls i) = true from decide_eq_true rfl) (by rw [this]; exact Bool.false_ne_true)
  have hv : rindex_v0 ls (D.getS (nthD ls i)) = ((ls.findIdx (isW (D.getS (nthD ls i))) : Nat) : Int) := by unfold rindex_v0; rw [ha]; rfl
  unfold twP
  rw [hv]
  constructor
  · intro h
    have hne : ls.findIdx (isW (D.getS (nthD ls i))) ≠ i := fun e => by rw [e] at h; simp at h
    refine ⟨ls.findIdx (isW (D.getS (nthD ls i))), by omega, ?_⟩
    have := List.findIdx_getElem (w := hf)
    rw [getE hf] at this
    exact of_decide_eq_true this
  · rintro ⟨j, h1, h2⟩
    have hjl : j < ls.length := by omega
    have hlt : ls.findIdx (isW (D.getS (nthD ls i))) ≤ j := by
      refine Nat.le_of_not_lt fun h => ?_
      have := List.not_of_lt_findIdx h
      rw [getE hjl] at this
      exact absurd (show isW (D.getS (nthD ls i)) (nthD ls j) = true from decide_eq_true h2) (by rw [this]; exact Bool.false_ne_true)
    have hne : ((ls.findIdx (isW (D.getS (nthD ls i))) : Nat) : Int) ≠ (i : Int) := by omega
    simpa using hne
theorem apart_eq (ls : List D) : apart_v0 ls = rapart_v0 ls := by
  have h := (cnt_len ls ls.length).2
  have h1 : apart_v0 ls = decide ((cntTo ls ls.length).length = ls.length) := by
    unfold apart_v0
    by_cases e : (cntTo ls ls.length).length = ls.length
    · rw [e, decide_eq_true rfl]; simp
    · rw [decide_eq_false e]
      have : ((cntTo ls ls.length).length : Int) ≠ (ls.length : Int) := by omega
      simpa using this
  rw [h1]
  unfold rapart_v0
  cases ha : (List.range ls.length).any (twP ls) with
  | true =>
    obtain ⟨i, hi, ht⟩ := List.any_eq_true.1 ha
    have hi := List.mem_range.1 hi
    rw [decide_eq_false (fun e => h.1 e i hi ((tw_iff hi).1 ht))]; rfl
  | false =>
    rw [List.any_eq_false] at ha
    rw [decide_eq_true (h.2 fun k hk hj => ha k (List.mem_range.2 hk) ((tw_iff hk).2 hj))]; rfl
theorem lists_true {ls : List D} (hl : okSt ls = true) (v : ByteArray) : FunT.run C_nl [.dat (.slc .one ls), .dat (.str v)] [] = some ([.dat (.bool true)], []) := by
  have p : nl_p2 ls v = true := by
    unfold nl_p2 index_pre apart_pre
    rw [hl, index_eq, apart_eq, decide_eq_true rfl]; simp
  unfold FunT.run C_nl
  simp only [T.run_chk, T.run_br, T.run_leaf, p, cond_true]
  cases nl_c1_0 ls <;> rfl
theorem lists_law (xs : List D) (h : okAll tab 8 [25, 9] xs = true) (hs : sizeDL xs ≤ 1048576) : ∃ F, FunOk Tryd.prog 4 F ∧ F (xs.map .dat) [] = some ([.dat (.bool true)], []) := by
  obtain ⟨x0, xs, rfl, h0, h⟩ := okAll_cons h
  obtain ⟨x1, xs, rfl, h1, h⟩ := okAll_cons h
  obtain rfl := okAll_nil h
  obtain ⟨l, rfl, k0⟩ := okV_slc (s := .one) h0 rfl rfl rfl
  obtain ⟨v, rfl⟩ := okV_str h1 rfl rfl
  simp only [sizeDL, sizeD] at hs
  have := length_sizeDL l
  refine ⟨_, cnl_ok, lists_true ?_ v⟩
  rw [okSt, decide_eq_true (show l.length ≤ 1099511627776 by omega), Bool.and_true]
  rw [List.all_eq_true] at k0 ⊢
  intro d hd
  obtain ⟨s, rfl⟩ := okV_str (k0 d hd) rfl rfl
  rfl
end Go.Proofs.YtniombjfbdojjaaDoor
