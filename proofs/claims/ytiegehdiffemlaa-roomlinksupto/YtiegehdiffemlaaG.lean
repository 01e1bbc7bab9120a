/- Seat 15: RoomTells is true. -/
import Derived.Test.YtiegehdiffemlaaF
import Derived.Test.YtiegehdiffemlaaAx30
namespace Go.Proofs.Ytiegehdiffemlaa
open Go.AX
set_option maxRecDepth 100000

theorem idx_lt {p : D → Bool} {ls : List D} (h : ls.any p = true) : ls.findIdx p < ls.length := List.findIdx_lt_length_of_exists (by simpa [List.any_eq_true] using h)

theorem okM_fits {ls : List D} (h : ls.all (okE ekM) = true) : fits (.agg [.one, .one]) ls = true := by
  unfold fits
  rw [List.all_eq_true] at h ⊢
  intro d hd
  obtain ⟨u, s, rfl⟩ := ekM_form (h d hd)
  rfl
theorem okMs_okEs {ls : List D} (h : okMs ls = true) : okEs ls = true := by
  obtain ⟨h1, h2⟩ := okMs_spec h
  unfold okEs
  rw [decide_eq_true h2, Bool.and_true, List.all_eq_true]
  intro d hd
  exact (okM_spec (List.all_eq_true.1 h1 d hd)).1
theorem wr_bad {d : D} : wrm_v0 (usedD d) (nmD d) = badM d := by
  unfold wrm_v0
  rw [names_one]
  show _ = (!(usedD d == rright_v0 (nmD d)) || !usedD d && !decide (Array.toList (ByteArray.data (nmD d)) = []))
  cases hu : usedD d with
  | true => cases rright_v0 (nmD d) <;> rfl
  | false =>
    cases hr : rright_v0 (nmD d) with
    | false => rfl
    | true =>
      have hne : decide (Array.toList (ByteArray.data (nmD d)) = []) = false := by
        refine decide_eq_false fun h => ?_
        unfold rright_v0 at hr
        have : (nmD d).size = 0 := congrArg List.length h
        rw [this] at hr
        exact absurd hr (by simp)
      rw [hne]; rfl
theorem rms_same (ls : List D) : rmsok_v0 ls = drooms_v0 ls := by
  unfold rmsok_v0 cfm_v0 drooms_v0 im_idx
  have e : (ls.any fun d => wrm_v0 (usedD d) (nmD d)) = ls.any badM := by
    congr 1; funext d; exact wr_bad
  have e2 : (ls.any fun d => wrm_v0 (usedD d) (nmD d)) = true ∨ (ls.any fun d => wrm_v0 (usedD d) (nmD d)) = false := by cases (ls.any fun d => wrm_v0 (usedD d) (nmD d)) <;> simp
  rw [← e]
  rcases e2 with e2 | e2 <;> rw [e2]
  · rw [cond_true, decide_eq_true (by omega)]
  · rfl
theorem imL_ok {ls : List D} (h : okMs ls = true) : im_okL ls = true := by
  obtain ⟨h1, h2⟩ := okMs_spec h
  unfold im_okL
  rw [decide_eq_true h2, Bool.and_true, List.all_eq_true]
  intro d hd
  obtain ⟨g1, g2, g3⟩ := okM_spec (List.all_eq_true.1 h1 d hd)
  have : wrm_pre (usedD d) (nmD d) = true := by unfold wrm_pre; rw [g3, Bool.or_true]
  rw [g1, this]; rfl
theorem jmL_ok {ls : List D} (h : okEs ls = true) (ds : List D) : jm_okL ds ls = true := h

theorem seg_set {ls : List D} (i : Nat) (x : D) : seg (ls.set i x) 0 ls.length = ls.set i x := by
  have := seg_full (ls.set i x)
  rwa [List.length_set] at this

/-- What comes of Add, and that it may be run. -/
theorem add_is {ls : List D} (h : okEs ls = true) (hl : ls.length ≤ 1048576) (s : ByteArray) :
    adm_pre ls true s = true ∧ ofm_pre ls = true ∧ adm_v0 ls true s = (bif ls.any freeM then ls.set (ls.findIdx freeM) (.agg [.bool true, .str s]) else []) ∧
    adm_v1 ls = (bif ls.any freeM then ((ls.findIdx freeM : Nat) : Int) else 0) ∧ adm_v2 ls = bif ls.any freeM then 0 else 8 := by
  obtain ⟨h1, h2⟩ := okEs_spec h
  have hf := okM_fits h1
  have hof : ofm_pre ls = true := by unfold ofm_pre; rw [hf, decide_eq_true (by omega)]; rfl
  have hi : jm_idx ls ls = bif ls.any freeM then ((ls.findIdx freeM : Nat) : Int) else -1 := rfl
  cases hz : ls.any freeM with
  | false =>
    rw [hz, cond_false] at hi
    have e1 : fsm_v1 ls = 8 := by unfold fsm_v1; rw [hi]; rfl
    unfold adm_pre adm_v0 adm_v1 adm_v2
    rw [e1, jmL_ok h]
    exact ⟨rfl, hof, rfl, rfl, rfl⟩
  | true =>
    rw [hz, cond_true] at hi
    have hlt := idx_lt hz
    have d0 : decide (((ls.findIdx freeM : Nat) : Int) < 0) = false := decide_eq_false (by omega)
    have e1 : fsm_v1 ls = 0 := by unfold fsm_v1; rw [hi, d0]; rfl
    have e0 : fsm_v0 ls = ((ls.findIdx freeM : Nat) : Int) := by unfold fsm_v0; rw [hi, d0]; rfl
    have d1 : decide (((ls.findIdx freeM : Nat) : Int) ≥ (ls.length : Int)) = false := decide_eq_false (by omega)
    have d2 : decide ((0 : Int) ≤ ((ls.findIdx freeM : Nat) : Int)) = true := decide_eq_true (by omega)
    have d3 : decide (((ls.findIdx freeM : Nat) : Int) < (ls.length : Int)) = true := decide_eq_true (by omega)
    have hne : ls.isEmpty = false := by cases ls with | nil => simp at hz | cons => rfl
    obtain ⟨u, t, he⟩ := ekM_form (allE_nth h1 hlt)
    have k1 : okS (.agg [.one, .one]) (nthD ls (ls.findIdx freeM)) = true := by rw [he]; rfl
    have k2 : Sh.eqb (.agg [D.shape (nthD (D.getL (nthD ls (ls.findIdx freeM))) 0), D.shape (nthD (D.getL (nthD ls (ls.findIdx freeM))) 1)]) (.agg [.one, .one]) = true := by rw [he]; rfl
    have p0 : ptm_v0 ls ((ls.findIdx freeM : Nat) : Int) true s = ls.set (ls.findIdx freeM) (.agg [.bool true, .str s]) := by
      unfold ptm_v0
      rw [d0, d1, cond_false, cond_false, Int.toNat_natCast, Nat.zero_add, seg_set]
    have p1 : ptm_v1 ls ((ls.findIdx freeM : Nat) : Int) = 0 := by unfold ptm_v1; rw [d0, d1]; rfl
    have pp : ptm_pre ls ((ls.findIdx freeM : Nat) : Int) true s = true := by
      unfold ptm_pre
      simp only [d0, d1, d2, d3, hne, hf, Int.toNat_natCast, Nat.zero_add, decide_eq_true hlt, k1, k2, beq_self, List.length_set, decide_eq_true (show ls.length * 24 ≤ 35184372088832 by omega), Bool.not_false, Bool.and_true, Bool.or_true]
    unfold adm_pre adm_v0 adm_v1 adm_v2
    rw [e0, e1, p0, p1, pp, jmL_ok h]
    exact ⟨rfl, hof, rfl, rfl, rfl⟩

theorem same_self {ls : List D} (h : okEs ls = true) : samem_v0 ls ls = true ∧ samem_pre ls ls = true := by
  unfold samem_v0 samem_pre
  rw [h, D.eqbL_self, beq_self]
  simp
theorem okEs_nil : okEs [] = true := rfl
theorem okEs_set {ls : List D} (h : okEs ls = true) (i : Nat) (b : Bool) (s : ByteArray) : okEs (ls.set i (.agg [.bool b, .str s])) = true := by
  obtain ⟨h1, h2⟩ := okEs_spec h
  unfold okEs
  rw [List.length_set, decide_eq_true h2, Bool.and_true, List.all_eq_true]
  intro d hd
  rcases List.mem_or_eq_of_mem_set hd with hd | rfl
  · exact List.all_eq_true.1 h1 d hd
  · rfl

theorem tells_true {ls : List D} {s : ByteArray} (h : okMs ls = true) (hl : ls.length ≤ 1048576) (hs : s.size ≤ 1048576) : tells_pre ls s = true ∧ tells_v0 ls s = true := by
  have hE := okMs_okEs h
  obtain ⟨h1, h2⟩ := okEs_spec hE
  have hf := okM_fits h1
  obtain ⟨n1, n2⟩ := names_pre hs
  obtain ⟨a0, a1, a2, a3, a4⟩ := add_is hE hl s
  have him := imL_ok h
  have hsame := rms_same ls
  have d0 : dig_v0 ls s = ddig_v0 ls s := by
    unfold dig_v0 ddig_v0
    rw [hsame, names_one, a2]
    cases drooms_v0 ls <;> cases rright_v0 s <;> try rfl
    cases ls with
    | nil => rfl
    | cons d ds =>
      rw [Nat.zero_add, seg_set]; rfl
  have d1 : dig_v1 ls s = ddig_v1 ls s := by
    unfold dig_v1 ddig_v1
    rw [hsame, names_one, a3]
    cases drooms_v0 ls <;> cases rright_v0 s <;> try rfl
    cases ls <;> rfl
  have d2 : dig_v2 ls s = ddig_v2 ls s := by
    unfold dig_v2 ddig_v2
    rw [hsame, names_one, a4]
    cases drooms_v0 ls <;> cases rright_v0 s <;> try rfl
    cases ls <;> rfl
  have e1 : decide ((0 + ls.length) * 24 ≤ 35184372088832) = true := decide_eq_true (by omega)
  have pd : dig_pre ls s = true := by
    unfold dig_pre
    rw [him, n1, a0, a1]; simp
  have pdd : ddig_pre ls s = true := by
    unfold ddig_pre
    rw [h, n2, hf, e1, hE, Nat.zero_add, beq_self, List.length_set, beq_self]; simp
  have okd : okEs (dig_v0 ls s) = true := by
    unfold dig_v0
    rw [a2]
    cases rmsok_v0 ls <;> cases nright_v0 s <;> try exact okEs_nil
    cases ls.any freeM
    · exact okEs_nil
    · exact okEs_set hE _ _ _
  obtain ⟨s1, s2⟩ := same_self okd
  obtain ⟨s3, s4⟩ := same_self hE
  have sn : ls = [] → samem_v0 ls [] = true ∧ samem_pre ls [] = true := by rintro rfl; exact ⟨rfl, rfl⟩
  unfold tells_pre tells_v0
  rw [← d0, ← d1, ← d2, ← hsame, hf, e1, pd, pdd, him, h, s1, s2, Nat.zero_add, seg_full, beq_self, s3, s4]
  cases hls : ls.isEmpty with
  | true =>
    have := sn (by simpa using hls)
    rw [this.1, this.2]; simp
  | false => simp

theorem sizeDL_mem {d : D} : ∀ {l : List D}, d ∈ l → sizeD d ≤ sizeDL l
  | x :: l, h => by
    rw [sizeDL]
    rcases List.mem_cons.1 h with rfl | h
    · omega
    · have := sizeDL_mem h; omega

theorem okM_of {n : Nat} {l : List D} (h : l.all (okV tab (n + 2) 51) = true) (hs : sizeDL l ≤ 1048576) : okMs l = true := by
  have := length_sizeDL l
  unfold okMs
  rw [decide_eq_true (by omega), Bool.and_true, List.all_eq_true]
  intro d hd
  have he : okE ekM d = true := (show ekOf tab 2 51 = ekM by kernel_rfl) ▸ okV_okE (n + 2) 2 51 d (List.all_eq_true.1 h d hd)
  obtain ⟨u, s, rfl⟩ := ekM_form he
  have hz := sizeDL_mem hd
  simp only [sizeD, sizeDL] at hz
  obtain ⟨n1, n2⟩ := names_pre (s := s) (by omega)
  unfold okM
  rw [he]
  show (true && (rright_pre s && nright_pre s)) = true
  rw [n1, n2]; rfl

theorem tells_law (xs : List D) (h : okAll tab 8 [22, 9] xs = true) (hs : sizeDL xs ≤ 1048576) : ∃ F, FunOk Try.prog 3 F ∧ F (xs.map .dat) [] = some ([.dat (.bool true)], []) := by
  obtain ⟨x0, xs, rfl, h0, h⟩ := okAll_cons h
  obtain ⟨x1, xs, rfl, h1, h⟩ := okAll_cons h
  obtain rfl := okAll_nil h
  obtain ⟨l, rfl, k0⟩ := okV_slc (s := .agg [.one, .one]) h0 rfl rfl rfl
  obtain ⟨s, rfl⟩ := okV_str h1 rfl rfl
  simp only [sizeDL, sizeD] at hs
  have := length_sizeDL l
  refine ⟨_, ctells_ok, ?_⟩
  obtain ⟨t1, t2⟩ := tells_true (s := s) (okM_of k0 (by omega)) (by omega) (by omega)
  show (T.chk (tells_pre l s) (.leaf ([AV.dat (D.bool (tells_v0 l s))], []))).run = _
  rw [t1, t2]; rfl
end Go.Proofs.Ytiegehdiffemlaa
