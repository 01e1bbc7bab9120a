/- Seat 06: QuotaTells is true. -/
import Derived.Test.YtdgphkifajcejaaF
import Derived.Test.YtdgphkifajcejaaAx30
namespace Go.Proofs.Ytdgphkifajcejaa
open Go.AX
set_option maxRecDepth 100000

theorem okL_mk {ds : List D} (h1 : ∀ d ∈ ds, okE (.int .i64) d = true) (h2 : ds.length ≤ 2 ^ 40) : okL ds = true := by
  unfold okL
  rw [List.all_eq_true.2 h1, decide_eq_true h2]; rfl
theorem okL_set {ds : List D} (h : okL ds = true) (i : Nat) (x : Int) : okL (ds.set i (.int .i64 x)) = true := by
  obtain ⟨h1, h2⟩ := okL_spec h
  refine okL_mk (fun d hd => ?_) (by rw [List.length_set]; exact h2)
  rcases List.mem_or_eq_of_mem_set hd with hd | rfl
  · exact List.all_eq_true.1 h1 d hd
  · rfl
theorem okL_nil : okL [] = true := rfl
theorem okL_put {ds : List D} (h : okL ds = true) (i x : Int) : okL (putL ds i x) = true := by
  unfold putL
  cases inB ds i with
  | true => exact okL_set h _ _
  | false => rfl
theorem okL_slots {ds : List D} (h : okL ds = true) : okL (slotsTo ds ds.length) = true := by
  obtain ⟨_, h2⟩ := okL_spec h
  refine okL_mk (fun d hd => ?_) (Nat.le_trans (slotsTo_len ds ds.length) h2)
  unfold slotsTo at hd
  obtain ⟨k, _, rfl⟩ := List.mem_map.1 hd
  rfl

theorem tells_true (ds : List D) (i x : Int) (hok : okL ds = true) :
    runF (envOf tab Sr [] [] H3) true Try.f3 [.dat (.slc .one ds), .dat (.int .i64 i), .dat (.int .i64 x)] [] = some ([.dat (.bool true)], []) := by
  rw [tells_run]
  obtain ⟨h1, h2⟩ := okL_spec hok
  have e1 : decide (ds.length * 8 ≤ 35184372088832) = true := decide_eq_true (by omega)
  have hE : firstE ds = (bif ds.any zeroD then 0 else 8) := rfl
  have hI : firstI ds = (bif ds.any zeroD then ((ds.findIdx zeroD : Nat) : Int) else 0) := rfl
  have hA : addL ds x = bif ds.any zeroD then ds.set (ds.findIdx zeroD) (.int .i64 x) else [] := rfl
  have main : ∀ b : Bool, hasB ds i = b → (∀ c : Bool, c = hasB ds i → (false != (b == c)) = true) := by
    intro b hb c hc; subst hb; rw [hc]; cases hasB ds i <;> rfl
  cases hz : ds.any zeroD with
  | true =>
    rw [hz, cond_true] at hE hI hA
    have e2 : addL ds x = putL ds (firstI ds) x := by
      rw [hA, hI]; unfold putL; rw [first_in hz, Int.toNat_natCast]; rfl
    rw [e2]
    simp only [okE_int_fits h1, e1, hok, hE, okL_put hok, okL_slots hok, D.eqbL_self, bne_self_eq_false, beq_self_eq_true, cond_true, cond_false, Bool.and_self, show (true == false) = false from rfl]
    by_cases g1 : 0 ≤ i
    · by_cases g2 : i < ds.length
      · have g3 : i.toNat < ds.length := by omega
        have hh : hasB ds i = (D.getI (nthD ds i.toNat) != 0) := by unfold hasB inB; rw [decide_eq_true g1, decide_eq_true g2]; rfl
        simp only [ge_iff_le, g1, g2, g3, decide_true, List.all_eq_true.1 h1 _ (nthD_mem g3), hh, cond_true, beq_self_eq_true, show (false != true) = true from rfl]
      · have hh : hasB ds i = false := by unfold hasB inB; rw [decide_eq_false g2, Bool.and_false]; rfl
        simp only [ge_iff_le, g1, g2, decide_true, decide_false, hh, cond_true, cond_false, beq_self_eq_true, show (false == true) = false from rfl, show (false != true) = true from rfl]
    · have hh : hasB ds i = false := by unfold hasB inB; rw [decide_eq_false g1]; rfl
      simp only [ge_iff_le, g1, decide_false, hh, cond_true, cond_false, beq_self_eq_true, show (false == true) = false from rfl, show (false != true) = true from rfl]
  | false =>
    rw [hz, cond_false] at hE hI hA
    simp only [okE_int_fits h1, e1, hok, hE, hI, hA, okL_put hok, okL_slots hok, okL_nil, D.eqbL_self, bne_self_eq_false, beq_self_eq_true, cond_true, cond_false, Bool.and_self, show ((8 : Int) == 0) = false from rfl, List.length_nil, show (((0 : Nat) : Int) == 0) = true from rfl]
    by_cases g1 : 0 ≤ i
    · by_cases g2 : i < ds.length
      · have g3 : i.toNat < ds.length := by omega
        have hh : hasB ds i = (D.getI (nthD ds i.toNat) != 0) := by unfold hasB inB; rw [decide_eq_true g1, decide_eq_true g2]; rfl
        simp only [ge_iff_le, g1, g2, g3, decide_true, List.all_eq_true.1 h1 _ (nthD_mem g3), hh, cond_true, beq_self_eq_true, show (false != true) = true from rfl]
      · have hh : hasB ds i = false := by unfold hasB inB; rw [decide_eq_false g2, Bool.and_false]; rfl
        simp only [ge_iff_le, g1, g2, decide_true, decide_false, hh, cond_true, cond_false, beq_self_eq_true, show (false == true) = false from rfl, show (false != true) = true from rfl]
    · have hh : hasB ds i = false := by unfold hasB inB; rw [decide_eq_false g1]; rfl
      simp only [ge_iff_le, g1, decide_false, hh, cond_true, cond_false, beq_self_eq_true, show (false == true) = false from rfl, show (false != true) = true from rfl]

theorem tells_funOk : FunOk Try.prog 3 (runF (envOf tab Sr [] [] H3) true Try.f3) :=
  run_funOk (E := envOf tab Sr [] [] H3) (fz := true) (fn := Try.f3) (envOf_ok progOk Sr_ok) (by kernel_rfl) (by kernel_rfl) (loops_none (by kernel_rfl))

theorem tells_law (xs : List D) (h : okAll tab 8 [22, 3, 3] xs = true) (hs : sizeDL xs ≤ 1048576) : ∃ F, FunOk Try.prog 3 F ∧ F (xs.map .dat) [] = some ([.dat (.bool true)], []) := by
  obtain ⟨x0, xs, rfl, h0, h⟩ := okAll_cons h
  obtain ⟨x1, xs, rfl, h1, h⟩ := okAll_cons h
  obtain ⟨x2, xs, rfl, h2, h⟩ := okAll_cons h
  obtain rfl := okAll_nil h
  obtain ⟨l, rfl, k0⟩ := okV_slc (s := .one) h0 rfl rfl rfl
  obtain ⟨i, rfl, _⟩ := okV_int (k := .i64) h1 rfl rfl
  obtain ⟨x, rfl, _⟩ := okV_int (k := .i64) h2 rfl rfl
  simp only [sizeDL, sizeD] at hs
  have := length_sizeDL l
  refine ⟨_, tells_funOk, ?_⟩
  exact tells_true l i x (okL_mk (fun d hd => okV_okE 7 1 3 d (List.all_eq_true.1 k0 d hd)) (by omega))

end Go.Proofs.Ytdgphkifajcejaa
