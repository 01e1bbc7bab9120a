/- ThingTells returns true, and leaves what it was handed as it was: for all arguments of bulk at most 1048576. -/
import Derived.Test.YtnegedbjcjfndaaRows
import Derived.Test.YtnegedbjcjfndaaBulk
import Derived.Test.YtnegedbjcjfndaaM
import Derived.Test.YtnegedbjcjfndaaAx30
import Derived.WalkKit
import Derived.ProofKit
import Derived.OpenShut
import Derived.JoinedCond
namespace Go.Proofs.Ytnegedbjcjfndaa.thingTells
open Go.AX

theorem contract (H : Type) (enc : TypeId × Value → H) (W : World) (base : Nat) (args : Array Value) (ds gs : List (DataW H)) (before : List MemPlace)
    (hval : ∀ (j : Nat) t v, Try.f4.params[j]? = some t → args[j]? = some v → Value.okWide Try.prog W .any base t v)
    (hW : DataW.Whole enc Try.prog Try.f4.params.toList Rows.thingTellsSpec.vars false W args.toList ds gs before) (hk : Rows.uptoSmall H (ds ++ gs) = true) :
    Calls Try.prog 4 args W fun e W' => ∃ v, e = .returned v ∧ Rows.thingTellsSpec.post enc Try.prog Try.f4 false true false false W args v W' :=
  law_contract (tab := tab) (n := 8) (tb := 4) (B := 1048576) laidOut tab_ok (by kernel_rfl) rfl (by kernel_rfl) Try.underlying4
    (fun ds h => by
      have h : ds.length = 6 := h
      match ds, h with
      | [_, _, _, _, _, _], _ => rfl)
    (fun xs hx hs => tells_law xs hx hs) W base args ds gs before hval hW (bulk_small hk)

set_option maxRecDepth 100000 in
theorem lifted (os : Os) (started : os.Started) (H : Type) (enc : TypeId × Value → H) (F : Stop.Interp) :
    ReturnsInHanded {} Try.checked os 4 .any ((Rows.OpenSpec.upto Rows.thingTellsSpec).pre6 enc Try.prog Try.f4 Rows.thingTellsUptoRow.domain false) (((Rows.OpenSpec.upto Rows.thingTellsSpec).at F).post enc Try.prog Try.f4 false true false false) := by
  refine returnsInHanded_of_cond (C := Try.checked) (s := Rows.OpenSpec.upto Rows.thingTellsSpec) (k := Rows.uptoSmall) rfl own started (by kernel_rfl) Try.func4
    (OpenSpec.witness (enc := enc) (C := Try.checked) (s := Rows.OpenSpec.upto Rows.thingTellsSpec) (k := Rows.uptoSmall) rfl false ⟨#[], #[.slice none 0 0, .string ByteArray.empty, .int .i64 0, .int .i64 0, .int .i64 0, .agg #[.int .i64 0, .int .i64 0]], []⟩ 8 (by kernel_rfl) (by kernel_rfl) (by kernel_rfl)
      (x := ([.nil, .lit (.string []), .lit (.int .i64 0), .lit (.int .i64 0), .lit (.int .i64 0), .agg [.lit (.int .i64 0), .lit (.int .i64 0)]], [], [])) (by kernel_rfl) rfl (by kernel_rfl)) ?_
  intro W base args ds gs before hval hW _ hk _
  exact contract H enc W base args ds gs before hval hW hk

theorem over : Rows.thingTellsUptoRow.holds Try.pinned (Rows.OpenSpec.upto Rows.thingTellsSpec) :=
  OpenClaim.holds_of_cond 4 Try.f4 rfl rfl rfl rfl rfl rfl rfl ⟨rfl, rfl, rfl, rfl, rfl⟩ rfl rfl rfl rfl rfl (by kernel_rfl) Try.func4 (by kernel_rfl)
    (of_decide_eq_true (by kernel_rfl)) (by unfold Func.isWrapper; first | (rw [if_pos (by decide +kernel)]; kernel_rfl) | (rw [if_neg (by decide +kernel)]; exact ⟨rfl, rfl⟩))
    (fun os started H enc _ F => lifted os started H enc F)

end Go.Proofs.Ytnegedbjcjfndaa.thingTells
namespace Go.Proofs.Ytnegedbjcjfndaa
/-- The row, for the claim. -/
theorem thingTells_holds : Rows.ThingTellsUptoSaid := thingTells.over
#print axioms thingTells_holds
end Go.Proofs.Ytnegedbjcjfndaa
