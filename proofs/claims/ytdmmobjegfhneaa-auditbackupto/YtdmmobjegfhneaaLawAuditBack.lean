/- AuditBack returns true, and leaves what it was handed as it was: for all arguments of bulk at most 1048576. -/
import Derived.Test.YtdmmobjegfhneaaRows
import Derived.Test.YtdmmobjegfhneaaBulk
import Derived.Test.YtdmmobjegfhneaaX
import Derived.Test.YtdmmobjegfhneaaAx24
import Derived.WalkKit
import Derived.ProofKit
import Derived.OpenShut
import Derived.JoinedCond
namespace Go.Proofs.Ytdmmobjegfhneaa.auditBack
open Go.AX
theorem contract (H : Type) (enc : TypeId × Value → H) (W : World) (base : Nat) (args : Array Value) (ds gs : List (DataW H)) (before : List MemPlace)
    (hval : ∀ (j : Nat) t v, Try.f5.params[j]? = some t → args[j]? = some v → Value.okWide Try.prog W .any base t v)
    (hW : DataW.Whole enc Try.prog Try.f5.params.toList Rows.auditBackSpec.vars false W args.toList ds gs before) (hk : Rows.uptoSmall H (ds ++ gs) = true) :
    Calls Try.prog 5 args W fun e W' => ∃ v, e = .returned v ∧ Rows.auditBackSpec.post enc Try.prog Try.f5 false true false false W args v W' :=
  law_contract (tab := tab) (n := 8) (tb := 4) (B := 1048576) laidOut tab_ok (by kernel_rfl) rfl (by kernel_rfl) Try.underlying4
    (fun ds h => by
      have h : ds.length = 3 := h
      match ds, h with
      | [_, _, _], _ => rfl)
    (fun xs hx hs => back_law xs hx hs) W base args ds gs before hval hW (bulk_small hk)
set_option maxRecDepth 100000 in
theorem lifted (os : Os) (started : os.Started) (H : Type) (enc : TypeId × Value → H) (F : Stop.Interp) :
    ReturnsInHanded {} Try.checked os 5 .any ((Rows.OpenSpec.upto Rows.auditBackSpec).pre6 enc Try.prog Try.f5 Rows.auditBackUptoRow.domain false) (((Rows.OpenSpec.upto Rows.auditBackSpec).at F).post enc Try.prog Try.f5 false true false false) := by
  refine returnsInHanded_of_cond (C := Try.checked) (s := Rows.OpenSpec.upto Rows.auditBackSpec) (k := Rows.uptoSmall) rfl own started (by kernel_rfl) Try.func5
    (OpenSpec.witness (enc := enc) (C := Try.checked) (s := Rows.OpenSpec.upto Rows.auditBackSpec) (k := Rows.uptoSmall) rfl false ⟨#[], #[.slice none 0 0, .int .i64 0, .slice none 0 0], []⟩ 8 (by kernel_rfl) (by kernel_rfl) (by kernel_rfl)
      (x := ([.nil, .lit (.int .i64 0), .nil], [], [])) (by kernel_rfl) rfl (by kernel_rfl)) ?_
  intro W base args ds gs before hval hW _ hk _
  exact contract H enc W base args ds gs before hval hW hk
theorem over : Rows.auditBackUptoRow.holds Try.pinned (Rows.OpenSpec.upto Rows.auditBackSpec) :=
  OpenClaim.holds_of_cond 5 Try.f5 rfl rfl rfl rfl rfl rfl rfl ⟨rfl, rfl, rfl, rfl, rfl⟩ rfl rfl rfl rfl rfl (by kernel_rfl) Try.func5 (by kernel_rfl)
    (of_decide_eq_true (by kernel_rfl)) (by unfold Func.isWrapper; first | (rw [if_pos (by decide +kernel)]; kernel_rfl) | (rw [if_neg (by decide +kernel)]; exact ⟨rfl, rfl⟩))
    (fun os started H enc _ F => lifted os started H enc F)
end Go.Proofs.Ytdmmobjegfhneaa.auditBack
namespace Go.Proofs.Ytdmmobjegfhneaa
theorem auditBack_holds : Rows.AuditBackUptoSaid := auditBack.over
#print axioms auditBack_holds
end Go.Proofs.Ytdmmobjegfhneaa
