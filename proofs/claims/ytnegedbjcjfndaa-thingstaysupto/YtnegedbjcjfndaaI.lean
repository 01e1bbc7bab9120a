/- Seat 16: Free in better words; the fixed calls; ThingTells' run. -/
import Derived.Test.YtnegedbjcjfndaaH
namespace Go.Proofs.Ytnegedbjcjfndaa
open Go.AX
set_option maxRecDepth 100000

theorem iwL_ok {ls : List D} (h : okIs ls = true) : iw_okL ls = true := by
  obtain ⟨h1, h2⟩ := okIs_spec h
  unfold iw_okL
  rw [decide_eq_true h2, Bool.and_true, List.all_eq_true]
  intro d hd
  obtain ⟨g1, g2, g3⟩ := okI_spec (List.all_eq_true.1 h1 d hd)
  have : wri_pre (fU d) (fS d) = true := by unfold wri_pre; rw [g3, Bool.or_true]
  rw [g1, this]; rfl
theorem okPl_col (p : Nat → Bool) (N : Nat) : ∀ n, n ≤ N → okPl N (colTo p n) = true
  | 0, _ => rfl
  | n + 1, h => by
    have ih := okPl_col p N n (by omega)
    unfold colTo
    cases p n with
    | false => exact ih
    | true =>
      unfold okPl at ih ⊢
      rw [cond_true, List.all_append, ih]
      show (true && ((true && (decide (0 ≤ (n : Int)) && decide ((n : Int) < (N : Int)))) && true)) = true
      rw [decide_eq_true (by omega), decide_eq_true (by omega)]; rfl
def freV (ls : List D) (t w : Int) : List D := bif right_v0 ls then bif may_v0 3 t 0 0 then bif may_v0 1 w 0 0 then (slTo ls 3 t 0 0).foldl (frS ls w) ls else [] else [] else []
def freE (ls : List D) (t w : Int) : Int := bif right_v0 ls then bif may_v0 3 t 0 0 then bif may_v0 1 w 0 0 then 0 else 1 else 1 else 1
theorem frS_len (ls : List D) (w : Int) : ∀ (l : List D) (out : List D), (l.foldl (frS ls w) out).length = out.length
  | [], _ => rfl
  | d :: l, out => by rw [List.foldl_cons, frS_len ls w l]; unfold frS; rw [List.length_set]
def C_fre : FunT := fun args σ => match args, σ with
  | [.dat (.slc (.agg [.one, .one, .one, .one, .agg [.one, .one]]) ls), .dat (.int .i64 t), .dat (.int .i64 w)], [] => .chk (okIs ls && decide (ls.length ≤ 1048576)) (.leaf ([.dat (.slc (.agg [.one, .one, .one, .one, .agg [.one, .one]]) (freV ls t w)), .dat (.int .i64 (freE ls t w))], []))
  | _, _ => .fail
theorem cfre_ok : FunOk Try.prog 23 (FunT.run C_fre) := cfree_ok.of (by
  intro args σ r h
  unfold C_fre at h
  split at h
  · rename_i ls t w
    obtain ⟨hc, h'⟩ := T.chk_some h
    rw [← T.leaf_some h']
    simp only [Bool.and_eq_true, decide_eq_true_eq] at hc
    obtain ⟨hI, hN⟩ := hc
    cases ls with
    | nil =>
      show some ([AV.dat (.slc (.agg [.one, .one, .one, .one, .agg [.one, .one]]) []), AV.dat (.int .i64 (free_v0 t w))], []) = _
      have e1 : freV [] t w = [] := by
        unfold freV
        cases right_v0 [] <;> cases may_v0 3 t 0 0 <;> cases may_v0 1 w 0 0 <;> rfl
      have e2 : freE [] t w = free_v0 t w := by
        unfold freE free_v0
        rw [show right_v0 [] = true from rfl]; rfl
      rw [e1, e2]
    | cons d ds =>
      have hE := okIs_E hI
      obtain ⟨h1, h2⟩ := okEs_spec hE
      have hlen : (slTo (d :: ds) 3 t 0 0).length ≤ (d :: ds).length := colTo_len _ _
      have hp : free_1pre d ds t w = true := by
        have hs : slots_pre (d :: ds) 3 t 0 0 = true := by unfold slots_pre; rw [hE, beq_self, decide_eq_true rfl]; rfl
        have hpl : okPl (d :: ds).length (slTo (d :: ds) 3 t 0 0) = true := okPl_col _ _ _ (Nat.le_refl _)
        unfold free_1pre
        simp only [iwL_ok hI, okEs_fits h1, hs, hE, hpl, seg_full, D.eqbL_self, beq_self, frS_len, decide_true, decide_eq_true (show (d :: ds).length * 56 ≤ 35184372088832 by omega), decide_eq_true (show (slTo (d :: ds) 3 t 0 0).length ≤ 1099511627776 by omega), Bool.and_true, Bool.or_true]
      show (T.chk (free_1pre d ds t w) (.leaf ([AV.dat (.slc (.agg [.one, .one, .one, .one, .agg [.one, .one]]) (free_1v0 d ds t w)), AV.dat (.int .i64 (free_1v1 d ds t w))], []))).run = _
      rw [hp]
      have e1 : free_1v0 d ds t w = freV (d :: ds) t w := by
        unfold free_1v0 freV
        have hl2 := frS_len (d :: ds) w (slTo (d :: ds) 3 t 0 0) (d :: ds)
        have hsg : seg (List.foldl (frS (d :: ds) w) (d :: ds) (slTo (d :: ds) 3 t 0 0)) 0 (d :: ds).length = List.foldl (frS (d :: ds) w) (d :: ds) (slTo (d :: ds) 3 t 0 0) := by
          rw [← hl2]; exact seg_full _
        rw [seg_full, hsg]
      rw [e1]; rfl
  · simp [T.run_fail] at h)

abbrev SpT : Specs := [(6, C_right), (8, C_held), (9, C_lying), (10, C_mk), (11, C_rmake), (12, C_same), (13, C_rrt), (14, C_scrap), (15, C_rscrap), (16, C_drop), (17, C_rdrop), (18, C_take), (19, C_rtake), (20, C_pass), (21, C_rgive), (22, C_hold), (23, C_fre), (24, C_rfree), (25, C_inte), (26, C_rhe), (27, C_rly)]
theorem SpT_ok : SpecsOk Try.prog SpT := .cons cright_ok (.cons cheld_ok (.cons clying_ok (.cons cmk_ok (.cons crmake_ok (.cons csame_ok (.cons crrt_ok (.cons cscrap_ok (.cons crscrap_ok (.cons cdrop_ok (.cons crdrop_ok (.cons ctake_ok (.cons crtake_ok (.cons cpass_ok (.cons crgive_ok (.cons chold_ok (.cons cfre_ok (.cons crfree_ok (.cons cinte_ok (.cons crhe_ok (.cons crly_ok (.nil _)))))))))))))))))))))
def C_alive : FunT := fun args σ => match args, σ with
  | [], [] => .leaf ([AV.dat (D.bool true)], [])
  | _, _ => .fail
theorem alive_raw0  : runF (envOf tab SpT [] [] []) true Try.f7 [] [] =some ([AV.dat (D.bool true)], []) := by kernel_rfl
theorem alive_case0  : runF (envOf tab SpT [] [] []) true Try.f7 [] [] = FunT.run C_alive [] [] := (alive_raw0).trans (by
  show _ = some (([AV.dat (D.bool true)], []) : Res)
  rfl
  )
theorem calive_ok : FunOk Try.prog 7 (FunT.run C_alive) := by
  refine fun_ok (E := envOf tab SpT [] [] []) (fz := true) (fn := Try.f7) (envOf_ok progOk SpT_ok) (by kernel_rfl) (by kernel_rfl) (loops_none (by kernel_rfl)) ?_
  intro args σ r h
  unfold C_alive at h
  split at h
  · exact (alive_case0).trans h
  · simp [T.run_fail] at h


end Go.Proofs.Ytnegedbjcjfndaa
