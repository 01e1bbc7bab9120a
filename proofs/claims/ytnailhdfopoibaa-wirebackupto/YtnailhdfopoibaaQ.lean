/- Seat 02: WireBack is true. -/
import Derived.Test.YtnailhdfopoibaaP
import Derived.Test.YtnailhdfopoibaaM
namespace Go.Proofs.Ytnailhdfopoibaa
open Go.AX
set_option maxRecDepth 100000

theorem along_to {ls : List D} (hls : okLP ls = true) (hb : ∀ j, j < few ls → badP (nthD ls j) = false) {t y : List D} (hy : y ++ t = encTo ls (few ls)) : ∀ i, i ≤ few ls → Along t (encFrom ls i (few ls)) (scanTo ls i (mk y))
  | 0, _ => .inr ⟨y, rfl, hy⟩
  | i + 1, hi => by
    have hf : few ls = min ls.length 50 := rfl
    have ih := along_to hls hb hy i (by omega)
    rw [encFrom_cons (by omega) (by omega)] at ih
    rw [scanTo_succ (by omega)]
    exact along_part (okP_mk (encTo_len.allD hls (by omega)) (hb i (by omega))) ih

theorem cut_fault {ls : List D} (hls : okLP ls = true) (hb : ∀ j, j < few ls → badP (nthD ls j) = false) (n : Nat) (hn : n < (encTo ls (few ls)).length) :
    (scanTo ls (few ls) (mk ((encTo ls (few ls)).take n))).fault = 12 := by
  have h := along_to hls hb (List.take_append_drop n (encTo ls (few ls))) (few ls) (Nat.le_refl _)
  rw [encFrom_end] at h
  rcases h with ⟨y, h⟩ | ⟨y, _, h⟩
  · rw [h]; rfl
  · have := (List.append_eq_nil_iff.1 h).2
    have h2 := congrArg List.length this
    rw [List.length_drop] at h2
    simp at h2; omega

theorem okB5_mk {ls y : List D} (hls : okLP ls = true) (hb : anyBad ls = false) (n : Nat) (hy : y = (encTo ls (few ls)).take n) : okB5 ls (encTo ls (few ls)) y = true := by
  unfold okB5
  rw [hls, hb, D.eqbL_self]
  have : (encTo ls (few ls)).take y.length = y := by
    rw [hy, List.length_take]
    rcases Nat.le_total n (encTo ls (few ls)).length with h | h
    · rw [Nat.min_eq_left h]
    · rw [Nat.min_eq_right h, List.take_of_length_le (Nat.le_refl _), List.take_of_length_le h]
  rw [this, D.eqbL_self]; rfl

theorem back_true (ls : List D) (cut : Int) (hls : okLP ls = true) : runF E5 true Try.f5 [.dat (.slc (.agg [.one, .one, .one]) ls), .dat (.int .i64 cut)] [] = some ([.dat (.bool true)], []) := by
  rw [back_run, hls]
  cases hbad : anyBad ls with
  | true => rfl
  | false =>
    have hb : ∀ j, j < few ls → badP (nthD ls j) = false := fun j hj => by
      unfold anyBad at hbad
      rw [List.any_eq_false] at hbad
      have := hbad j (List.mem_range.2 hj)
      simpa using this
    have e2 := okB5_mk (y := encTo ls (few ls)) hls hbad (encTo ls (few ls)).length (by rw [List.take_of_length_le (Nat.le_refl _)])
    by_cases g1 : 0 ≤ cut
    · by_cases g2 : cut < ((encTo ls (few ls)).length : Int)
      · have g3 : cut.toNat < (encTo ls (few ls)).length := by omega
        have e0 : seg (encTo ls (few ls)) 0 (cut.toNat - 0) = (encTo ls (few ls)).take cut.toNat := by rw [Nat.sub_zero, seg_take]
        have e1 := okB5_mk (y := (encTo ls (few ls)).take cut.toNat) hls hbad cut.toNat rfl
        have e3 := cut_fault hls hb cut.toNat g3
        simp only [e0, e1, e3, ge_iff_le, g1, g2, decide_true, decide_false, (show cut.toNat ≤ (encTo ls (few ls)).length by omega), (show ¬ cut < 0 by omega), (show ¬ ((encTo ls (few ls)).length : Int) ≤ cut by omega), cond_true, cond_false, beq_self_eq_true, Bool.and_self]
      · simp only [e2, ge_iff_le, g1, g2, decide_true, decide_false, (show ¬ cut < 0 by omega), (show ((encTo ls (few ls)).length : Int) ≤ cut by omega), cond_true, cond_false, beq_self_eq_true, Bool.and_self, show (true == false) = false from rfl]
    · simp only [e2, ge_iff_le, g1, decide_true, decide_false, (show cut < 0 by omega), cond_true, cond_false, Bool.and_self, show (true == false) = false from rfl, show (false == true) = false from rfl]

theorem back_funOk : FunOk Try.prog 5 (runF E5 true Try.f5) :=
  run_funOk (E := E5) (fz := true) (fn := Try.f5) (envOf_ok progOk Sq_ok) (by kernel_rfl) (by kernel_rfl) back_loops

theorem back_law (xs : List D) (h : okAll tab 8 [44, 3] xs = true) (hs : sizeDL xs ≤ 1048576) : ∃ F, FunOk Try.prog 5 F ∧ F (xs.map .dat) [] = some ([.dat (.bool true)], []) := by
  obtain ⟨x0, xs, rfl, h0, h⟩ := okAll_cons h
  obtain ⟨x1, xs, rfl, h1, h⟩ := okAll_cons h
  obtain rfl := okAll_nil h
  obtain ⟨l, rfl, k0⟩ := okV_slc (s := .agg [.one, .one, .one]) h0 rfl rfl rfl
  obtain ⟨c, rfl, _⟩ := okV_int (k := .i64) h1 rfl rfl
  simp only [sizeDL, sizeD] at hs
  have := length_sizeDL l
  refine ⟨_, back_funOk, back_true l c ?_⟩
  unfold okLP
  rw [decide_eq_true (show l.length ≤ 2 ^ 40 by omega), Bool.and_true, List.all_eq_true]
  intro d hd
  have hv := List.all_eq_true.1 k0 d hd
  have he : okE ekP d = true := (show ekOf tab 2 46 = ekP by kernel_rfl) ▸ okV_okE 7 2 46 d hv
  obtain ⟨fs, rfl, hf⟩ := okV_struct (fs := [(23, 0), (3, 1), (9, 2)]) hv rfl rfl
  obtain ⟨a, fs, rfl, ha, hf⟩ := okVL_cons hf
  obtain ⟨z, rfl, hz⟩ := okV_int (k := .u64) ha rfl rfl
  unfold okPB
  rw [he, Bool.true_and]
  refine decide_eq_true ?_
  show IntKind.wrap .u64 z = z
  simp [Lit.wf, IntKind.min, IntKind.max, IntKind.signed, IntKind.bits] at hz
  rw [IntKind.wrap_u64]; omega

end Go.Proofs.Ytnailhdfopoibaa
