/- NameTells returns true, and leaves what it was handed as it was: for all arguments of bulk at most 1048576; the listed package variables tied to the program's text. -/
import Derived.Test.YtniombjfbdojjaaDoorCards
import Derived.Test.YtniombjfbdojjaaDoorTie
import Derived.Test.YtniombjfbdojjaaDoorBulk
import Derived.Test.YtniombjfbdojjaaDoorR
import Derived.Test.YtniombjfbdojjaaDoorAx24
import Derived.WalkKit
import Derived.ProofKit
import Derived.OpenShut
import Derived.Deep.DeepHandedRow
import Derived.Lib.LaidTab
namespace Go.Proofs.YtniombjfbdojjaaDoor.nameTells
open Go.ChangeShapes Go.WideShapes Go.ChangeAt Go.RowKit
open Go.AX
theorem contract (H : Type) (enc : TypeId × Value → H) (W : World) (base : Nat) (args : Array Value) (ds gs : List (DataW H)) (before : List MemPlace)
    (hval : ∀ (j : Nat) t v, Tryd.f3.params[j]? = some t → args[j]? = some v → Value.okWide Tryd.prog W .any base t v)
    (hW : DataW.Whole enc Tryd.prog Tryd.f3.params.toList Rows.nameTellsSpec.vars false W args.toList ds gs before) (hk : Rows.uptoSmall H (ds ++ gs) = true) :
    Calls Tryd.prog 3 args W fun e W' => ∃ v, e = .returned v ∧ Rows.nameTellsSpec.post enc Tryd.prog Tryd.f3 false true false false W args v W' :=
  law_contract (tab := tab) (n := 8) (tb := 4) (B := 1048576) laidOut tab_ok (by kernel_rfl) rfl (by kernel_rfl) Tryd.underlying4
    (fun ds h => by
      have h : ds.length = 1 := h
      match ds, h with
      | [_], _ => rfl)
    (fun xs hx hs => tells_law xs hx hs) W base args ds gs before hval hW (bulk_small hk)
mutual
def vals {H : Type} : DataW H → List Value
  | .lit (.int k n) => [.int k n]
  | .agg l => valsL l
  | _ => []
def valsL {H : Type} : List (DataW H) → List Value
  | [] => []
  | d :: l => vals d ++ valsL l
end
def lay (l : List Value) : Obj → Obj
  | .cells _ t frozen => .cells l.toArray t frozen
  | o => o
noncomputable def laidWorld (os : Os) : World :=
  { World.holding Tryd.prog os ⟨#[], #[], []⟩ with heap := ((World.holding Tryd.prog os ⟨#[], #[], []⟩).heap.modify 0 (lay (vals Rows.laid_unicode_utf8_first))).modify 1 (lay (vals (H := Unit) Rows.laid_unicode_utf8_acceptRanges)) }
theorem laid_met (os : Os) : laidMet Tryd.prog Rows.nameTellsUptoRow.laid ((laidWorld os).forCall (fun _ _ => 0) ⟨#[], #[.string ByteArray.empty], []⟩).memory :=
  laidMet_of_run' 8 (by kernel_rfl) (by kernel_rfl)
theorem reads (os : Os) {H : Type} (enc : TypeId × Value → H) : ∃ places, DataW.whole enc Tryd.prog ((laidWorld os).forCall (fun _ _ => 0) ⟨#[], #[.string ByteArray.empty], []⟩).memory Tryd.f3.params.toList Rows.nameTellsSpec.vars false (#[.string ByteArray.empty] : Array Value).toList 8 = some ([.lit (.string [])], [], places) :=
  ⟨[], by kernel_rfl⟩
set_option maxRecDepth 100000 in
theorem lifted (os : Os) (started : os.Started) (H : Type) (enc : TypeId × Value → H) (F : Stop.Interp) :
    ReturnsInHanded {} Tryd.checked os 3 .any ((Rows.OpenSpec.upto Rows.nameTellsSpec).preRow enc Tryd.prog Tryd.f3 Rows.nameTellsUptoRow.domain false Rows.nameTellsUptoRow.laid) (((Rows.OpenSpec.upto Rows.nameTellsSpec).at F).post enc Tryd.prog Tryd.f3 false true false false) := by
  obtain ⟨places, hx⟩ := reads os enc
  refine returnsInHanded_of_row (C := Tryd.checked) (s := Rows.OpenSpec.upto Rows.nameTellsSpec) own started (by kernel_rfl) Tryd.func3
    (witness_row_at (enc := enc) (C := Tryd.checked) false (laidWorld os) #[.string ByteArray.empty] rfl (by kernel_rfl) (by kernel_rfl) (by kernel_rfl)
      (OpenSpec.preRow_of_cond 8 hx (by kernel_rfl) (fun k hk => by cases hk; kernel_rfl) (by kernel_rfl) (laid_met os))) ?_
  intro W base args ds gs before hval hW _ hcond _ _ _ _
  exact contract H enc W base args ds gs before hval hW (hcond _ rfl)
theorem over : Rows.nameTellsUptoRow.holds Tryd.pinned (Rows.OpenSpec.upto Rows.nameTellsSpec) :=
  OpenClaim.holds_of_cond 3 Tryd.f3 rfl rfl rfl rfl rfl rfl rfl ⟨rfl, rfl, rfl, rfl, rfl⟩ rfl rfl rfl rfl rfl (by kernel_rfl) Tryd.func3 (by kernel_rfl)
    (of_decide_eq_true (by kernel_rfl)) (by unfold Func.isWrapper; first | (rw [if_pos (by decide +kernel)]; kernel_rfl) | (rw [if_neg (by decide +kernel)]; exact ⟨rfl, rfl⟩))
    (fun os started H enc _ F => by rw [OpenClaim.pre_eq_preRow]; exact lifted os started H enc F)
theorem plain (f : FuncId) (fn : Func) (hf : Tryd.pinned.checked.prog.funcNamed "rialto/rialtolaw03.NameTells" = some f) (hfn : Tryd.pinned.checked.prog.funcs[f]? = some fn) :
    false = Tryd.pinned.checked.prog.looks [] ∧ ∀ (j : Nat) t, fn.params[j]? = some t → Tryd.pinned.checked.prog.wantsStandIn t = false := by
  obtain rfl : f = 3 := Option.some.inj ((show Tryd.prog.funcNamed "rialto/rialtolaw03.NameTells" = some 3 by kernel_rfl).symm.trans hf) |>.symm
  obtain rfl : fn = Tryd.f3 := (Option.some.inj (Tryd.func3.symm.trans hfn)).symm
  refine ⟨by kernel_rfl, fun j t ht => ?_⟩
  rw [Tryd.params3] at ht
  have hm := Array.mem_of_getElem? ht
  simp only [List.mem_toArray, List.mem_cons, List.mem_nil_iff, or_false] at hm
  rcases hm with rfl
  · exact (show Tryd.prog.wantsStandIn 9 = false by kernel_rfl)
end Go.Proofs.YtniombjfbdojjaaDoor.nameTells
namespace Go.Proofs.YtniombjfbdojjaaDoor
theorem nameTells_holds : Rows.NameTellsUptoCardSaid :=
  Claim7.holds_tied_plain_at .later [] _ _ _ _ nameTells.over (fun _ h => by cases h) (by kernel_rfl) (fun _ h => by cases h) nameTellsUpto_row_tie rfl ⟨rfl, rfl⟩ (by kernel_rfl) rfl nameTells.plain (by kernel_rfl)
#print axioms nameTells_holds
end Go.Proofs.YtniombjfbdojjaaDoor
