/- Seat 06: QuotaFills is true. -/
import Derived.Test.YtdgphkifajcejaaJ
import Derived.Test.YtdgphkifajcejaaI
namespace Go.Proofs.Ytdgphkifajcejaa
open Go.AX
set_option maxRecDepth 100000

theorem fills_true (l more : List D) (hl : okL l = true) (hm : okL more = true) : runF E4 true Try.f4 [.dat (.slc .one l), .dat (.slc .one more)] [] = some ([.dat (.bool true)], []) := by
  rw [fills_run]
  cases decide ((l.length : Int) > 200) with
  | true => rfl
  | false =>
    rw [D.eqbL_self, hl, hm]
    cases ha : anyFull l more with
    | true => rfl
    | false =>
      have hI := fillTo_inv (more := more) hl (many3 more) fun j hj => by
        unfold anyFull at ha
        rw [List.any_eq_false] at ha
        have := ha j (List.mem_range.2 hj)
        simpa using this
      rw [show (Prod.snd (fillTo l more (many3 more))).length = l.length from hI.len, beq_self_eq_true]
      rfl

theorem fills_funOk : FunOk Try.prog 4 (runF E4 true Try.f4) :=
  run_funOk (E := E4) (fz := true) (fn := Try.f4) (envOf_ok progOk Sr_ok) (by kernel_rfl) (by kernel_rfl) (loops_one (by kernel_rfl) (fills_loopOk _ rfl))

theorem fills_law (xs : List D) (h : okAll tab 8 [22, 22] xs = true) (hs : sizeDL xs ≤ 1048576) : ∃ F, FunOk Try.prog 4 F ∧ F (xs.map .dat) [] = some ([.dat (.bool true)], []) := by
  obtain ⟨x0, xs, rfl, h0, h⟩ := okAll_cons h
  obtain ⟨x1, xs, rfl, h1, h⟩ := okAll_cons h
  obtain rfl := okAll_nil h
  obtain ⟨l, rfl, k0⟩ := okV_slc (s := .one) h0 rfl rfl rfl
  obtain ⟨m, rfl, k1⟩ := okV_slc (s := .one) h1 rfl rfl rfl
  simp only [sizeDL, sizeD] at hs
  have := length_sizeDL l
  have := length_sizeDL m
  refine ⟨_, fills_funOk, ?_⟩
  exact fills_true l m (okL_mk (fun d hd => okV_okE 7 1 3 d (List.all_eq_true.1 k0 d hd)) (by omega)) (okL_mk (fun d hd => okV_okE 7 1 3 d (List.all_eq_true.1 k1 d hd)) (by omega))

end Go.Proofs.Ytdgphkifajcejaa
