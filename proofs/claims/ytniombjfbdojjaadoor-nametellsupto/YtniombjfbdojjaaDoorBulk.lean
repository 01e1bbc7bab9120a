/- What is told of bulk bounds what is read. -/
import Derived.Test.YtniombjfbdojjaaDoorRows
import Derived.Test.YtniombjfbdojjaaDoorAx24
namespace Go.Proofs.YtniombjfbdojjaaDoor
open Go.AX
mutual
theorem bulk_le {H : Type} : ∀ d : DataW H, bulkW d ≤ Rows.uptoBulk d
  | .lit (.string b) => by simp [bulkW, Rows.uptoBulk]
  | .lit (.int k z) => by simp [bulkW, Rows.uptoBulk]
  | .lit (.bool b) => by simp [bulkW, Rows.uptoBulk]
  | .lit (.float k z) => by simp [bulkW, Rows.uptoBulk]
  | .lit .nil => by simp [bulkW, Rows.uptoBulk]
  | .nil => by simp [bulkW, Rows.uptoBulk]
  | .ptr d => by simp [bulkW, Rows.uptoBulk]
  | .slice l s => by have := bulk_leL l; simp only [bulkW, Rows.uptoBulk]; omega
  | .agg l => by have := bulk_leL l; simp only [bulkW, Rows.uptoBulk]; omega
  | .iface t d => by simp [bulkW, Rows.uptoBulk]
  | .map es => by simp [bulkW, Rows.uptoBulk]
  | .held h => by simp [bulkW, Rows.uptoBulk]
theorem bulk_leL {H : Type} : ∀ l : List (DataW H), bulkWL l ≤ Rows.uptoBulkAll l
  | [] => by simp [bulkWL]
  | d :: l => by have := bulk_le d; have := bulk_leL l; simp only [bulkWL, Rows.uptoBulkAll]; omega
end
theorem bulk_small {H : Type} {l : List (DataW H)} (h : Rows.uptoSmall H l = true) : bulkWL l ≤ 1048576 :=
  Nat.le_trans (bulk_leL l) (of_decide_eq_true h)
theorem own : ownKnob Tryd.prog.godebug = none := by kernel_rfl
theorem laidOut : laidOutB Tryd.prog = true := by kernel_rfl
end Go.Proofs.YtniombjfbdojjaaDoor
