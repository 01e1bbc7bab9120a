/- Seat 03: what is clean of a text. -/
import Derived.Test.YtniombjfbdojjaaDoorB
namespace Go.Proofs.YtniombjfbdojjaaDoor
open Go.AX
set_option maxRecDepth 100000
theorem trimr_raw (s : ByteArray) : runF (envOf tab [(29, C_trb)] [] [] []) true Tryd.f24 [.dat (.str s), .dat (.str ⟨#[32]⟩)] [] =
  (bif decide (Array.toList (ByteArray.data s) = []) then some ([.dat (.str s)], []) else
   (bif okS s then some ([.dat (.str (trimR 32 s))], []) else none)) := by kernel_rfl
def C_trimr : FunT := fun args σ => match args, σ with
  | [.dat (.str s), .dat (.str c)], [] => .chk (D.eqb (.str c) (.str ⟨#[32]⟩) && okS s) (.leaf ([.dat (.str (bif decide (s.data.toList = []) then s else trimR 32 s))], []))
  | _, _ => .fail
theorem ctrimr_ok : FunOk Tryd.prog 24 (FunT.run C_trimr) := by
  refine fun_ok (E := envOf tab [(29, C_trb)] [] [] []) (fz := true) (fn := Tryd.f24) (envOf_ok progOk (.cons ctrb_ok (.nil _))) (by kernel_rfl) (by kernel_rfl) (loops_none (by kernel_rfl)) ?_
  intro args σ r h
  unfold C_trimr at h
  split at h
  · rename_i s c
    obtain ⟨h1, h3⟩ := T.chk_some h
    clear h
    rw [Bool.and_eq_true] at h1
    obtain ⟨h1, h2⟩ := h1
    have hc := D.eq_of_eqb h1
    simp only [D.str.injEq] at hc
    subst hc
    rw [← T.leaf_some h3, trimr_raw, h2]
    cases decide (s.data.toList = []) <;> rfl
  · simp [T.run_fail] at h
end Go.Proofs.YtniombjfbdojjaaDoor
