/- Seat 16: what each deed leaves. -/
import Derived.Test.YtnegedbjcjfndaaQ
namespace Go.Proofs.Ytnegedbjcjfndaa
open Go.AX
set_option maxRecDepth 100000

/-- What may not be of a slot, behind a deed. -/
def badJ (kd : Int) (x y : D) : Bool := (fU x && (fU y && !decide (Array.toList (ByteArray.data (fS x)) = Array.toList (ByteArray.data (fS y))))) || (decide (1 < kd) && !(fU x == fU y))
theorem all_idx {p : D → Bool} {ls : List D} (h : ∀ j, j < ls.length → p (nthD ls j) = true) : ls.all p = true := by
  rw [List.all_eq_true]
  intro d hd
  obtain ⟨j, hj, rfl⟩ := List.getElem_of_mem hd
  have := nthD_some hj
  rw [List.getElem?_eq_getElem hj] at this
  rw [Option.some.inj this]; exact h j hj
theorem rrt_idx {ls : List D} : rrt_v0 ls = true ↔ ∀ j, j < ls.length → badR (nthD ls j) = false := by
  unfold rrt_v0
  rw [Bool.not_eq_true', List.any_eq_false]
  constructor
  · intro h j hj; exact Bool.eq_false_iff.2 (h _ (nthD_mem hj))
  · intro h d hd
    obtain ⟨j, hj, rfl⟩ := List.getElem_of_mem hd
    have e := nthD_some hj
    rw [List.getElem?_eq_getElem hj] at e
    rw [Option.some.inj e, h j hj]; exact Bool.false_ne_true
/-- Behind a deed all is well. -/
structure Well (kd : Int) (now nx : List D) : Prop where
  len : nx.length = now.length
  okI : ∀ j, j < now.length → okI (nthD nx j) = true
  right : ∀ j, j < now.length → badR (nthD nx j) = false
  stay : ∀ j, j < now.length → badJ kd (nthD now j) (nthD nx j) = false
theorem badJ_self (kd : Int) (x : D) : badJ kd x x = false := by
  unfold badJ
  rw [decide_eq_true (rfl : Array.toList (ByteArray.data (fS x)) = _)]
  cases fU x <;> cases decide (1 < kd) <;> rfl
theorem well_set {now : List D} (hI : okIs now = true) (hr : rrt_v0 now = true) {i : Nat} (_hi : i < now.length) {kd : Int} {x : D} (h1 : okI x = true) (h2 : badR x = false) (h3 : badJ kd (nthD now i) x = false) : Well kd now (now.set i x) := by
  have hR := rrt_idx.1 hr
  refine ⟨List.length_set .., fun j hj => ?_, fun j hj => ?_, fun j hj => ?_⟩
  · by_cases e : i = j
    · subst e; rw [nthD_set_self hj]; exact h1
    · rw [nthD_set_ne e]; exact okI_nth hI hj
  · by_cases e : i = j
    · subst e; rw [nthD_set_self hj]; exact h2
    · rw [nthD_set_ne e]; exact hR j hj
  · by_cases e : i = j
    · subst e; rw [nthD_set_self hj]; exact h3
    · rw [nthD_set_ne e]; exact badJ_self _ _
theorem us_set {now : List D} {i : Nat} (hi : i < now.length) (x : D) : usN (now.set i x) = usN now - usI now i + (bif fU x then 1 else 0) := by
  unfold usN
  rw [List.length_set]
  have h := sumR_upd (f := usI (now.set i x)) (g := usI now) (n := now.length) hi (fun j hj => by
    unfold usI
    rw [nthD_set_ne (fun e => hj e.symm)])
  rw [h]
  congr 1
  unfold usI
  rw [nthD_set_self hi]
theorem okI_item {u : Bool} {s : ByteArray} (hs : s.size ≤ 1048576) (k w a b : Int) : okI (itD u s k w a b) = true := by
  obtain ⟨n1, n2⟩ := names_pre hs
  unfold okI
  show (true && (rright_pre s && nright_pre s)) = true
  rw [n1, n2]; rfl
theorem badR_item {u : Bool} {s : ByteArray} {k w a b : Int} (h : wri_v0 u s k w a b = false) : badR (itD u s k w a b) = false := by rw [← bad_one]; exact h
theorem name_right {now : List D} (hE : okEs now = true) (hr : rrt_v0 now = true) {i : Nat} (hi : i < now.length) (hu : fU (nthD now i) = true) : nright_v0 (fS (nthD now i)) = true := by
  have hb := rrt_idx.1 hr i hi
  rw [← bad_is (allE_nth (okEs_spec hE).1 hi)] at hb
  unfold wri_v0 at hb
  rw [hu, cond_true, Bool.or_eq_false_iff] at hb
  simpa using hb.1
theorem okI_name {now : List D} (hI : okIs now = true) {i : Nat} (hi : i < now.length) (u : Bool) (k w a b : Int) : okI (itD u (fS (nthD now i)) k w a b) = true := by
  obtain ⟨g1, g2, g3⟩ := okI_spec (okI_nth hI hi)
  unfold okI
  show (true && (rright_pre (fS (nthD now i)) && nright_pre (fS (nthD now i)))) = true
  rw [g2, g3]; rfl
/-- An item that goes on. -/
theorem badJ_name (kd : Int) {x : D} (hu : fU x = true) (k w a b : Int) : badJ kd x (itD true (fS x) k w a b) = false := by
  unfold badJ
  have e1 : fU (itD true (fS x) k w a b) = true := rfl
  have e2 : fS (itD true (fS x) k w a b) = fS x := rfl
  rw [e1, e2, hu, decide_eq_true (rfl : Array.toList (ByteArray.data (fS x)) = _)]
  cases decide (1 < kd) <;> rfl
theorem mv_well {now : List D} (hI : okIs now = true) (hl : now.length ≤ 1048576) (kd i k1 w1 a1 b1 k2 w2 a2 b2 : Int) :
    (mv_v1 now i k1 w1 a1 b1 k2 w2 a2 b2 ≠ 0 → mv_v0 now i k1 w1 a1 b1 k2 w2 a2 b2 = []) ∧
    (rrt_v0 now = true → mv_v1 now i k1 w1 a1 b1 k2 w2 a2 b2 = 0 → Well kd now (mv_v0 now i k1 w1 a1 b1 k2 w2 a2 b2) ∧ usN (mv_v0 now i k1 w1 a1 b1 k2 w2 a2 b2) = usN now) := by
  have hE := okIs_E hI
  obtain ⟨_, m1, m2⟩ := mv_is hI hl i k1 w1 a1 b1 k2 w2 a2 b2
  rw [m1, m2]
  cases hr : rrt_v0 now with
  | false => exact ⟨fun _ => rfl, fun h => by simp at h⟩
  | true =>
    cases may_v0 k1 w1 a1 b1 with
    | false => exact ⟨fun _ => rfl, fun _ h => by simp at h⟩
    | true =>
      cases hm : may_v0 k2 w2 a2 b2 with
      | false => exact ⟨fun _ => rfl, fun _ h => by simp at h⟩
      | true =>
        cases hh : ihas_v0 now i with
        | false => exact ⟨fun _ => rfl, fun _ h => by simp at h⟩
        | true =>
          obtain ⟨j, rfl, hj, hu⟩ := has_yes hh
          rw [Int.toNat_natCast]
          cases isAt now j k1 w1 a1 b1 with
          | false => exact ⟨fun _ => rfl, fun _ h => by simp at h⟩
          | true =>
            refine ⟨fun h => absurd rfl h, fun _ _ => ⟨?_, ?_⟩⟩
            · refine well_set hI hr hj (okI_name hI hj _ _ _ _ _) (badR_item ?_) (badJ_name kd hu _ _ _ _)
              unfold wri_v0
              rw [name_right hE hr hj hu, hm]; rfl
            · show usN (now.set j _) = _
              rw [us_set hj]
              have e : usI now j = 1 := by unfold usI; rw [hu]; rfl
              rw [e]
              show usN now - 1 + 1 = usN now
              omega
theorem mk_well {now : List D} (hI : okIs now = true) (hl : now.length ≤ 1048576) {s : ByteArray} (hs : s.size ≤ 1048576) (w : Int) :
    (mk_v2 now s w ≠ 0 → mk_v0 now s w = []) ∧ (rrt_v0 now = true → mk_v2 now s w = 0 → Well 0 now (mk_v0 now s w) ∧ usN (mk_v0 now s w) = usN now + 1) := by
  obtain ⟨_, _, e1, _, e3, _⟩ := make_is hI hl hs w
  rw [e1, e3]
  unfold rmake_v0 rmake_v2
  cases hr : rrt_v0 now with
  | false => exact ⟨fun _ => rfl, fun h => by simp at h⟩
  | true =>
    cases hw : rnum_v0 w with
    | false => exact ⟨fun _ => rfl, fun _ h => by simp at h⟩
    | true =>
      cases hn : rright_v0 s with
      | false => exact ⟨fun _ => rfl, fun _ h => by simp at h⟩
      | true =>
        cases hz : now.any freeI with
        | false => exact ⟨fun _ => rfl, fun _ h => by simp at h⟩
        | true =>
          have hi := idx_lt hz
          have hf : fU (nthD now (now.findIdx freeI)) = false := by
            have := findIdx_at hz
            simpa [freeI] using this
          refine ⟨fun h => absurd rfl h, fun _ _ => ⟨?_, ?_⟩⟩
          · refine well_set hI hr hi (okI_item hs _ _ _ _) (badR_item ?_) ?_
            · unfold wri_v0
              rw [names_one, hn, may1, hw]; rfl
            · unfold badJ
              rw [hf]; rfl
          · show usN (now.set (now.findIdx freeI) _) = _
            rw [us_set hi]
            have e : usI now (now.findIdx freeI) = 0 := by unfold usI; rw [hf]; rfl
            rw [e]
            show usN now - 0 + 1 = usN now + 1
            omega
theorem scrap_well {now : List D} (hI : okIs now = true) (hl : now.length ≤ 1048576) (i w : Int) :
    (scrap_v1 now i w ≠ 0 → scrap_v0 now i w = []) ∧ (rrt_v0 now = true → scrap_v1 now i w = 0 → Well 1 now (scrap_v0 now i w) ∧ usN (scrap_v0 now i w) = usN now - 1) := by
  have hE := okIs_E hI
  obtain ⟨_, _, e1, e2, _⟩ := scrap_is hI hl i w
  rw [e1, e2]
  unfold rscrap_v0 rscrap_v1
  cases hr : rrt_v0 now with
  | false => exact ⟨fun _ => rfl, fun h => by simp at h⟩
  | true =>
    cases rnum_v0 w with
    | false => exact ⟨fun _ => rfl, fun _ h => by simp at h⟩
    | true =>
      cases hh : rinh_v0 now i w with
      | false => exact ⟨fun _ => rfl, fun _ h => by simp at h⟩
      | true =>
        have hq := hand_is hE hr i w
        rw [hh] at hq
        have hq2 := hq.symm
        rw [Bool.and_eq_true] at hq2
        obtain ⟨j, rfl, hj, hu⟩ := has_yes hq2.1
        rw [(rset_is hE hl hj false { data := { toList := [] } } 0 0 0 0).1]
        refine ⟨fun h => absurd rfl h, fun _ _ => ⟨?_, ?_⟩⟩
        · refine well_set hI hr hj (okI_item (s := { data := { toList := [] } }) (by show (0 : Nat) ≤ 1048576; omega) _ _ _ _) (badR_item rfl) ?_
          unfold badJ
          rw [hu]; rfl
        · show usN (now.set j _) = _
          rw [us_set hj]
          have e : usI now j = 1 := by unfold usI; rw [hu]; rfl
          rw [e]
          show usN now - 1 + 0 = usN now - 1
          omega
theorem rfr_nth {now : List D} (t w : Int) : ∀ n j, j < now.length → nthD (rfrTo now t w n) j = bif rfrP t (nthD now j) && decide (j < n) then itD true (fS (nthD now j)) 1 w 0 0 else nthD now j
  | 0, j, _ => by rw [decide_eq_false (Nat.not_lt_zero j), Bool.and_false]; rfl
  | n + 1, j, hj => by
    have ih := rfr_nth t w n j hj
    have hlen : ∀ n, (rfrTo now t w n).length = now.length := by
      intro n
      induction n with
      | zero => rfl
      | succ n ih =>
        show (bif rfrP t (nthD now n) then (rfrTo now t w n).set n _ else rfrTo now t w n).length = _
        cases rfrP t (nthD now n) with
        | true => rw [cond_true, List.length_set]; exact ih
        | false => exact ih
    show nthD (bif rfrP t (nthD now n) then (rfrTo now t w n).set n (itD true (fS (nthD now n)) 1 w 0 0) else rfrTo now t w n) j = _
    by_cases e : n = j
    · subst e
      rw [decide_eq_true (Nat.lt_succ_self n), Bool.and_true]
      cases hp : rfrP t (nthD now n) with
      | true => rw [cond_true, cond_true, nthD_set_self (by rw [hlen]; exact hj)]
      | false =>
        rw [cond_false, cond_false, ih, hp]; rfl
    · have ed : decide (j < n + 1) = decide (j < n) := decide_eq_decide.2 (by omega)
      rw [ed, ← ih]
      cases rfrP t (nthD now n) with
      | true => rw [cond_true, nthD_set_ne e]
      | false => rfl
theorem free_well {now : List D} (hI : okIs now = true) (hl : now.length ≤ 1048576) (kd t w : Int) :
    (freE now t w ≠ 0 → freV now t w = []) ∧ (rrt_v0 now = true → freE now t w = 0 → Well kd now (freV now t w) ∧ usN (freV now t w) = usN now) := by
  have hE := okIs_E hI
  obtain ⟨_, e1, e2, _⟩ := free_is hI hl t w
  rw [e1, e2]
  unfold rfree_v0 rfree_v1
  cases hr : rrt_v0 now with
  | false => exact ⟨fun _ => rfl, fun h => by simp at h⟩
  | true =>
    cases rnum_v0 t with
    | false => exact ⟨fun _ => rfl, fun _ h => by simp at h⟩
    | true =>
      cases hw : rnum_v0 w with
      | false => exact ⟨fun _ => rfl, fun _ h => by simp at h⟩
      | true =>
        refine ⟨fun h => absurd rfl h, fun _ _ => ?_⟩
        show Well kd now (rfrTo now t w now.length) ∧ usN (rfrTo now t w now.length) = usN now
        have hlen := (rfrTo_ok hE t w now.length).2
        have hR := rrt_idx.1 hr
        have hx : ∀ j, j < now.length → nthD (rfrTo now t w now.length) j = nthD now j ∨ (fU (nthD now j) = true ∧ nthD (rfrTo now t w now.length) j = itD true (fS (nthD now j)) 1 w 0 0) := by
          intro j hj
          rw [rfr_nth t w _ j hj, decide_eq_true hj, Bool.and_true]
          cases hp : rfrP t (nthD now j) with
          | false => exact .inl rfl
          | true =>
            refine .inr ⟨?_, rfl⟩
            unfold rfrP at hp
            rw [Bool.and_eq_true] at hp
            exact hp.1
        refine ⟨⟨hlen, fun j hj => ?_, fun j hj => ?_, fun j hj => ?_⟩, ?_⟩
        · rcases hx j hj with e | ⟨_, e⟩ <;> rw [e]
          · exact okI_nth hI hj
          · exact okI_name hI hj _ _ _ _ _
        · rcases hx j hj with e | ⟨hu, e⟩ <;> rw [e]
          · exact hR j hj
          · refine badR_item ?_
            unfold wri_v0
            rw [name_right hE hr hj hu, may1, hw]; rfl
        · rcases hx j hj with e | ⟨hu, e⟩ <;> rw [e]
          · exact badJ_self _ _
          · exact badJ_name kd hu _ _ _ _
        · unfold usN
          rw [hlen]
          refine sumR_ext fun j hj => ?_
          unfold usI
          rcases hx j hj with e | ⟨hu, e⟩ <;> rw [e]
          rw [hu]; rfl

/-! A deed. -/
abbrev dK (d : D) : Int := D.getI (nthD (D.getL d) 0)
abbrev dI (d : D) (i : Nat) : Int := D.getI (nthD (D.getL d) i)
abbrev dA (d : D) : Int := D.getI (nthD (D.getL (nthD (D.getL d) 4)) 0)
abbrev dB (d : D) : Int := D.getI (nthD (D.getL (nthD (D.getL d) 4)) 1)
abbrev dS (d : D) : ByteArray := D.getS (nthD (D.getL d) 5)
def nxV (now : List D) (d : D) : List D := dod_v0 now (dK d) (dI d 1) (dI d 2) (dI d 3) (dA d) (dB d) (dS d)
def nxE (now : List D) (d : D) : Int := dod_v1 now (dK d) (dI d 1) (dI d 2) (dI d 3) (dA d) (dB d) (dS d)
def nxP (now : List D) (d : D) : Bool := dod_pre now (dK d) (dI d 1) (dI d 2) (dI d 3) (dA d) (dB d) (dS d)
def more (k : Int) : Int := bif k == 0 then 1 else bif k == 1 then -1 else 0
theorem nx_ok {now : List D} (hI : okIs now = true) (hl : now.length ≤ 1048576) {d : D} (hs : (dS d).size ≤ 1048576) :
    nxP now d = true ∧ (nxE now d ≠ 0 → nxV now d = []) ∧ (rrt_v0 now = true → nxE now d = 0 → Well (dK d) now (nxV now d) ∧ usN (nxV now d) = usN now + more (dK d)) := by
  unfold nxP nxE nxV dod_pre dod_v0 dod_v1 more
  by_cases h0 : dK d = 0
  · have e0 : (dK d == 0) = true := by simpa using h0
    rw [e0, h0]
    obtain ⟨w1, w2⟩ := mk_well hI hl hs (dI d 2)
    exact ⟨(make_is hI hl hs (dI d 2)).1, w1, fun hr h => w2 hr h⟩
  · have e0 : (dK d == 0) = false := by simpa using h0
    rw [e0]
    by_cases h1 : dK d = 1
    · have e1 : (dK d == 1) = true := by simpa using h1
      rw [e1, h1]
      obtain ⟨w1, w2⟩ := scrap_well hI hl (dI d 1) (dI d 2)
      refine ⟨(scrap_is hI hl (dI d 1) (dI d 2)).1, w1, fun hr h => ?_⟩
      obtain ⟨w3, w4⟩ := w2 hr h
      exact ⟨w3, w4⟩
    · have e1 : (dK d == 1) = false := by simpa using h1
      rw [e1]
      have key : ∀ (p : Bool) (v : List D) (e : Int), p = true → ((e ≠ 0 → v = []) ∧ (rrt_v0 now = true → e = 0 → Well (dK d) now v ∧ usN v = usN now)) → p = true ∧ (e ≠ 0 → v = []) ∧ (rrt_v0 now = true → e = 0 → Well (dK d) now v ∧ usN v = usN now + (bif false then 1 else bif false then -1 else 0)) := by
        intro p v e hp h
        refine ⟨hp, h.1, fun hr he => ?_⟩
        obtain ⟨a1, a2⟩ := h.2 hr he
        exact ⟨a1, by rw [a2]; show usN now = usN now + 0; omega⟩
      cases dK d == 2 with
      | true => exact key _ _ _ (by unfold drop_pre; rw [D.eqb_self, (mv_is hI hl (dI d 1) 1 (dI d 2) 0 0 2 0 (dA d) (dB d)).1]; rfl) (mv_well hI hl _ _ _ _ _ _ _ _ _ _)
      | false =>
        cases dK d == 3 with
        | true => exact key _ _ _ (mv_is hI hl (dI d 1) 2 0 (dA d) (dB d) 1 (dI d 2) 0 0).1 (mv_well hI hl _ _ _ _ _ _ _ _ _ _)
        | false =>
          cases dK d == 4 with
          | true => exact key _ _ _ (mv_is hI hl (dI d 1) 1 (dI d 2) 0 0 1 (dI d 3) 0 0).1 (mv_well hI hl _ _ _ _ _ _ _ _ _ _)
          | false =>
            cases dK d == 5 with
            | true => exact key _ _ _ (mv_is hI hl (dI d 1) 1 (dI d 2) 0 0 3 (dI d 3) 0 0).1 (mv_well hI hl _ _ _ _ _ _ _ _ _ _)
            | false => exact key _ _ _ (by show (okIs now && decide (now.length ≤ 1048576)) = true; rw [hI, decide_eq_true hl]; rfl) (free_well hI hl _ _ _)
theorem Well.list {kd : Int} {now nx : List D} (h : Well kd now nx) (hl : now.length ≤ 1048576) : okIs nx = true ∧ rrt_v0 nx = true := by
  refine ⟨?_, rrt_idx.2 fun j hj => h.right j (by rw [← h.len]; exact hj)⟩
  unfold okIs
  rw [all_idx (fun j hj => h.okI j (by rw [← h.len]; exact hj)), decide_eq_true (by rw [h.len]; omega)]; rfl

end Go.Proofs.Ytnegedbjcjfndaa
