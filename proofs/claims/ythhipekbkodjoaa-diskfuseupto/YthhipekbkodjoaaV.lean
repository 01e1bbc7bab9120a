/- Seat 07: DiskFuse is true. -/
import Derived.Test.YthhipekbkodjoaaU
import Derived.Test.YthhipekbkodjoaaAx31
namespace Go.Proofs.Ythhipekbkodjoaa
open Go.AX
set_option maxRecDepth 100000
theorem new3_ok : OkA 3 0 [] (new_v0 3) := by
  refine ⟨⟨by omega, by omega⟩, Nat.le_refl _, by omega, ?_, ?_, by simp⟩
  · unfold new_v0; rw [List.length_replicate]; rfl
  · intro d hd
    unfold new_v0 at hd
    rw [List.eq_of_mem_replicate hd]
    refine ⟨_, rfl, List.length_replicate, ?_⟩
    unfold isBytes
    rw [List.all_eq_true]
    intro d hd
    rw [List.eq_of_mem_replicate hd]; rfl
theorem fs_true {n : Int} {fl : List D} (h0 : 0 ≤ n) (h1 : n ≤ 255) (hfl : fl.all (okE .bool) = true) : fs_p5 n fl = true ∧ fs_p6 n = true ∧ fs_p7 n fl = true := by
  have hw : IntKind.wrap .i64 n = n := by rw [IntKind.wrap_i64]; omega
  have hf : fuse_v0 3 (-1) n = n := by
    unfold fuse_v0
    show (if (-1 : Int) > n then (-1 : Int) else n) = n
    rw [if_neg (by omega)]
  have hA := fuA_ok (a := ([], new_v0 3, n, false)) (fl := fl) new3_ok (n.toNat + 3) (by omega)
  obtain ⟨c1, _, _, _, c5⟩ := op_crash (ch := []) hA rfl
  unfold fs_p5 fs_p6 fs_p7 fs_w5v0 fs_w5v1
  rw [hw, hf]
  refine ⟨?_, ?_, ?_⟩
  · unfold fuC
    rw [hfl, okAB_iff.2 new3_ok, decide_eq_true h0, decide_eq_true h1, beq_self_eq_true]; rfl
  · rw [bne_self_eq_false]; rfl
  · rw [c1, Bool.true_and]
    unfold flush_pre
    have hW := (op_write c5 (by omega) (fillZ_bytes 1) (-1) 0 false).2.2.2.2.2.2.2
    rw [decide_eq_true rfl, hW.okDk]; rfl
theorem fuse_law (xs : List D) (h : okAll tab 8 [5, 57] xs = true) (_ : sizeDL xs ≤ 1048576) : ∃ F, FunOk Try.prog 6 F ∧ F (xs.map .dat) [] = some ([.dat (.bool true)], []) := by
  obtain ⟨x0, xs, rfl, h0, h⟩ := okAll_cons h
  obtain ⟨x1, xs, rfl, h1, h⟩ := okAll_cons h
  obtain rfl := okAll_nil h
  obtain ⟨n, rfl, hw⟩ := okV_int h0 rfl rfl
  simp [Lit.wf, IntKind.min, IntKind.max, IntKind.signed, IntKind.bits] at hw
  obtain ⟨l, rfl, k1⟩ := okV_slc (s := .one) h1 rfl rfl rfl
  have k2 : l.all (okE .bool) = true := by
    rw [List.all_eq_true] at k1 ⊢
    intro d hd
    obtain ⟨b, rfl⟩ := okV_bool (k1 d hd) rfl rfl
    rfl
  refine ⟨_, cfs_ok, ?_⟩
  obtain ⟨g1, g2, g3⟩ := fs_true (show 0 ≤ n by omega) (by omega) k2
  show T.run (.chk (fs_p5 n l) (.chk (fs_p6 n) (.chk (fs_p7 n l) _))) = _
  rw [g1, g2, g3]
  rfl
end Go.Proofs.Ythhipekbkodjoaa
