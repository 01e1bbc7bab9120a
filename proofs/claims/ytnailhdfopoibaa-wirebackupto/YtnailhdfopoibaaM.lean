/- Seat 02: WireTakes, of all arguments in their bounds. -/
import Derived.Test.YtnailhdfopoibaaL
import Derived.Test.YtnailhdfopoibaaAx30
namespace Go.Proofs.Ytnailhdfopoibaa
open Go.AX
set_option maxRecDepth 100000

theorem okV_okB {n : Nat} {d : D} (h : okV tab (n + 1) 5 d = true) : okB d = true := by
  obtain ⟨z, rfl, hw⟩ := okV_int (k := .u8) h rfl rfl
  simp [Lit.wf, IntKind.min, IntKind.max, IntKind.signed, IntKind.bits] at hw
  unfold okB
  simp only [Bool.and_eq_true, decide_eq_true_eq]
  omega

theorem all_mono {p q : D → Bool} {l : List D} (hpq : ∀ d, p d = true → q d = true) (h : l.all p = true) : l.all q = true := by
  rw [List.all_eq_true] at h ⊢
  exact fun d hd => hpq d (h d hd)

theorem Sq_ok : SpecsOk Try.prog Sq := .cons alive_ok (.cons numZ_ok (.cons rnumZ_ok Sp_ok))
theorem ek_ask : ekOf tab 2 36 = askE := by kernel_rfl

theorem takes_funOk : FunOk Try.prog 4 (runF E_takes true Try.f4) :=
  run_funOk (E := E_takes) (fz := true) (fn := Try.f4) (envOf_ok progOk Sq_ok) (by kernel_rfl) (by kernel_rfl) takes_loops

theorem takes_law (xs : List D) (h : okAll tab 8 [22, 28] xs = true) (hs : sizeDL xs ≤ 1048576) : ∃ F, FunOk Try.prog 4 F ∧ F (xs.map .dat) [] = some ([.dat (.bool true)], []) := by
  obtain ⟨x0, xs, rfl, h0, h⟩ := okAll_cons h
  obtain ⟨x1, xs, rfl, h1, h⟩ := okAll_cons h
  obtain rfl := okAll_nil h
  obtain ⟨l0, rfl, k0⟩ := okV_slc (s := .one) h0 rfl rfl rfl
  obtain ⟨l1, rfl, k1⟩ := okV_slc (s := shS) h1 rfl rfl rfl
  simp only [sizeDL, sizeD] at hs
  have := length_sizeDL l0
  have := length_sizeDL l1
  refine ⟨_, takes_funOk, ?_⟩
  exact takes_true l0 l1 (all_mono (fun d h => okV_okB h) k0) (by unfold LIM; omega) (all_mono (fun d h => ek_ask ▸ okV_okE 7 2 36 d h) k1) (by unfold LIM; omega)

end Go.Proofs.Ytnailhdfopoibaa
