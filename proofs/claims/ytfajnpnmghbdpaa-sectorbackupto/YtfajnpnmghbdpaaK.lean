/- Seat 08: SectorTells is true. -/
import Derived.Test.YtfajnpnmghbdpaaJ
import Derived.Test.YtfajnpnmghbdpaaAx30
namespace Go.Proofs.Ytfajnpnmghbdpaa
open Go.AX
set_option maxRecDepth 100000

theorem seal_okB {ds : List D} (h : ds.all okB = true) (n : Int) : (sealR n ds).all okB = true := by
  unfold sealR
  cases mayB n && !decide ((ds.length : Int) > 108) with
  | false => rfl
  | true =>
    rw [cond_true]
    unfold sealD headD
    rw [List.all_append, List.all_append, List.all_append, okB_numB, okB_numB, okB_full h]; rfl
theorem seg_okB {ds : List D} (h : ds.all okB = true) (l n : Nat) : (seg ds l n).all okB = true := by
  unfold seg
  rw [List.all_eq_true] at h ⊢
  intro d hd
  cases l with
  | zero =>
    cases hb : Nat.beq n ds.length with
    | true => rw [hb] at hd; exact h d hd
    | false => rw [hb] at hd; exact h d (List.mem_of_mem_drop (List.mem_of_mem_take hd))
  | succ l => exact h d (List.mem_of_mem_drop (List.mem_of_mem_take hd))
theorem open_okB {ds : List D} (h : ds.all okB = true) : (openL ds).all okB = true := by
  unfold openL
  cases openE ds == 0 with
  | false => rfl
  | true => exact seg_okB h 8 108

theorem tells_true (n : Int) (ds bs : List D) (hn : 0 ≤ n) (hw : IntKind.wrap .u64 n = n) (hd : okY ds = true) (hb : okY bs = true) :
    runF (envOf tab Sr [] [] H3) true Try.f3 [.dat (.int .u64 n), .dat (.slc .one ds), .dat (.slc .one bs)] [] = some ([.dat (.bool true)], []) := by
  rw [tells_run]
  have e1 := okB_bytes (seal_okB (okY_spec hd).1 n)
  have e2 := okB_bytes (open_okB (okY_spec hb).1)
  have tt : D.eqb (.bool true) (.bool true) = true := rfl
  simp only [hd, hb, decide_eq_true hn, decide_eq_true hw, e1, e2, beq_self_eq_true, decide_true, tt, Bool.and_self, cond_true]
  cases decide ((ds.length : Int) > 1000) with
  | true => rfl
  | false => cases decide ((bs.length : Int) > 1000) <;> rfl

theorem tells_funOk : FunOk Try.prog 3 (runF (envOf tab Sr [] [] H3) true Try.f3) :=
  run_funOk (E := envOf tab Sr [] [] H3) (fz := true) (fn := Try.f3) (envOf_ok progOk Sr_ok) (by kernel_rfl) (by kernel_rfl) (loops_none (by kernel_rfl))

theorem okV_okB {n : Nat} {d : D} (h : okV tab (n + 1) 5 d = true) : okB d = true := by
  obtain ⟨z, rfl, hw⟩ := okV_int (k := .u8) h rfl rfl
  simp [Lit.wf, IntKind.min, IntKind.max, IntKind.signed, IntKind.bits] at hw
  unfold okB
  simp only [Bool.and_eq_true, decide_eq_true_eq]
  omega
theorem okV_okY {n : Nat} {l : List D} (h : l.all (okV tab (n + 1) 5) = true) (hl : l.length ≤ 2 ^ 40) : okY l = true :=
  okY_of (List.all_eq_true.2 fun d hd => okV_okB (List.all_eq_true.1 h d hd)) hl

theorem tells_law (xs : List D) (h : okAll tab 8 [22, 23, 23] xs = true) (hs : sizeDL xs ≤ 1048576) : ∃ F, FunOk Try.prog 3 F ∧ F (xs.map .dat) [] = some ([.dat (.bool true)], []) := by
  obtain ⟨x0, xs, rfl, h0, h⟩ := okAll_cons h
  obtain ⟨x1, xs, rfl, h1, h⟩ := okAll_cons h
  obtain ⟨x2, xs, rfl, h2, h⟩ := okAll_cons h
  obtain rfl := okAll_nil h
  obtain ⟨n, rfl, hn⟩ := okV_int (k := .u64) h0 rfl rfl
  obtain ⟨l, rfl, k1⟩ := okV_slc (s := .one) h1 rfl rfl rfl
  obtain ⟨b, rfl, k2⟩ := okV_slc (s := .one) h2 rfl rfl rfl
  simp only [sizeDL, sizeD] at hs
  have := length_sizeDL l
  have := length_sizeDL b
  simp [Lit.wf, IntKind.min, IntKind.max, IntKind.signed, IntKind.bits] at hn
  refine ⟨_, tells_funOk, ?_⟩
  exact tells_true n l b (by omega) (by rw [IntKind.wrap_u64]; omega) (okV_okY k1 (by omega)) (okV_okY k2 (by omega))

end Go.Proofs.Ytfajnpnmghbdpaa
