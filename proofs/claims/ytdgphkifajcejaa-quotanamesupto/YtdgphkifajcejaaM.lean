/- Seat 06: QuotaNames is true. -/
import Derived.Test.YtdgphkifajcejaaL
import Derived.Test.YtdgphkifajcejaaAx30
namespace Go.Proofs.Ytdgphkifajcejaa
open Go.AX
set_option maxRecDepth 100000

theorem okT_mk {ds : List D} (h1 : ∀ d ∈ ds, okE ekT d = true) (h2 : ds.length ≤ 2 ^ 40) : okT ds = true := by
  unfold okT
  rw [List.all_eq_true.2 h1, decide_eq_true h2]; rfl

theorem names_true (l : List D) (at_ n : Int) (s : ByteArray) (hl : okT l = true) :
    runF E5 true Try.f5 [.dat (.slc (.agg [.one, .one]) l), .dat (.int .i64 at_), .dat (.agg [.str s, .int .i64 n])] [] = some ([.dat (.bool true)], []) := by
  rw [names_run]
  obtain ⟨h1, h2⟩ := okT_spec hl
  have e0 := okT_fits h1
  have e1 : decide (l.length * 24 ≤ 35184372088832) = true := decide_eq_true (by omega)
  have tt : D.eqb (.bool true) (.bool true) = true := rfl
  have ff : D.eqb (.bool false) (.bool false) = true := rfl
  cases hi : inB l at_ with
  | false =>
    have hT : tputL l at_ (.agg [.str s, .int .i64 n]) = [] := by unfold tputL; rw [hi]; rfl
    have hH : thasB l at_ = false := by unfold thasB; rw [hi]; rfl
    simp only [e0, e1, hl, hT, hH, tt, ff, cond_true, cond_false, Bool.and_self, List.length_nil, show ((1 : Int) == 1) = true from rfl, show (((0 : Nat) : Int) == 0) = true from rfl]
    by_cases g1 : at_ < 0
    · simp only [g1, decide_true, cond_true, cond_false, show (true == false) = false from rfl]
    · have g2 : at_ ≥ (l.length : Int) := by
        unfold inB at hi
        rw [decide_eq_true (show 0 ≤ at_ by omega), Bool.true_and] at hi
        have := of_decide_eq_false hi
        omega
      simp only [g1, g2, decide_true, decide_false, cond_true, cond_false, beq_self_eq_true]
  | true =>
    obtain ⟨g1, g2⟩ := inB_spec hi
    have g3 : at_.toNat < l.length := by omega
    have hT : tputL l at_ (.agg [.str s, .int .i64 n]) = l.set at_.toNat (.agg [.str s, .int .i64 n]) := by unfold tputL; rw [hi]; rfl
    have hset : okT (l.set at_.toNat (.agg [.str s, .int .i64 n])) = true := by
      refine okT_mk (fun d hd => ?_) (by rw [List.length_set]; exact h2)
      rcases List.mem_or_eq_of_mem_set hd with hd | rfl
      · exact List.all_eq_true.1 h1 d hd
      · rfl
    have hfit := okT_fits (okT_spec hset).1
    have hnth : nthD (l.set at_.toNat (.agg [.str s, .int .i64 n])) at_.toNat = .agg [.str s, .int .i64 n] := by
      unfold nthD
      rw [List.getD_eq_getElem?_getD, List.getElem?_set_self g3]; rfl
    have hok : okE (.agg [.str, .int .i64]) (D.agg [.str s, .int .i64 n]) = true := rfl
    have hin : inB (l.set at_.toNat (.agg [.str s, .int .i64 n])) at_ = true := by
      unfold inB; rw [List.length_set, decide_eq_true g1, decide_eq_true g2]; rfl
    have hhas : thasB (l.set at_.toNat (.agg [.str s, .int .i64 n])) at_ = !decide (Array.toList (ByteArray.data s) = []) := by
      unfold thasB nameB; rw [hin, hnth]; rfl
    have hs1 : D.eqb (.str s) (.str s) = true := D.eqb_self _
    have hstr : (decide (Array.toList (ByteArray.data (D.getS (nthD (D.getL (D.agg [.str s, .int .i64 n])) 0))) = Array.toList (ByteArray.data s)) && (D.getI (nthD (D.getL (D.agg [.str s, .int .i64 n])) 1) == n && true)) = true := by
      show (decide (Array.toList (ByteArray.data s) = Array.toList (ByteArray.data s)) && (n == n && true)) = true
      rw [decide_eq_true rfl, beq_self_eq_true]; rfl
    rw [hT]
    rw [hnth]
    simp only [e0, e1, hl, hset, hfit, hok, hhas, hs1, hstr, tt, ff, D.eqbL_self, g1, g3, List.length_set, (show ¬ at_ < 0 by omega), (show ¬ at_ ≥ (l.length : Int) by omega), decide_true, decide_false, cond_true, cond_false, Bool.and_self, beq_self_eq_true, bne_self_eq_false]

theorem names_funOk : FunOk Try.prog 5 (runF E5 true Try.f5) :=
  run_funOk (E := E5) (fz := true) (fn := Try.f5) (envOf_ok progOk St_ok) (by kernel_rfl) (by kernel_rfl) (loops_one (by kernel_rfl) (names_loopOk _ rfl))

theorem names_law (xs : List D) (h : okAll tab 8 [41, 3, 43] xs = true) (hs : sizeDL xs ≤ 1048576) : ∃ F, FunOk Try.prog 5 F ∧ F (xs.map .dat) [] = some ([.dat (.bool true)], []) := by
  obtain ⟨x0, xs, rfl, h0, h⟩ := okAll_cons h
  obtain ⟨x1, xs, rfl, h1, h⟩ := okAll_cons h
  obtain ⟨x2, xs, rfl, h2, h⟩ := okAll_cons h
  obtain rfl := okAll_nil h
  obtain ⟨l, rfl, k0⟩ := okV_slc (s := .agg [.one, .one]) h0 rfl rfl rfl
  obtain ⟨i, rfl, _⟩ := okV_int (k := .i64) h1 rfl rfl
  obtain ⟨s, n, rfl⟩ := ekT_form (d := x2) ((show ekOf tab 2 43 = ekT by kernel_rfl) ▸ okV_okE 8 2 43 x2 h2)
  simp only [sizeDL, sizeD] at hs
  have := length_sizeDL l
  refine ⟨_, names_funOk, ?_⟩
  exact names_true l i n s (okT_mk (fun d hd => (show ekOf tab 2 43 = ekT by kernel_rfl) ▸ okV_okE 7 2 43 d (List.all_eq_true.1 k0 d hd)) (by omega))

end Go.Proofs.Ytdgphkifajcejaa
