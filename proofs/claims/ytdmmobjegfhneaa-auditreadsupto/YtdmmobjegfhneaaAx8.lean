import Derived.Test.YtdmmobjegfhneaaAx2
import Derived.Lib.Strings
import Derived.Lib.SmallJoins
import Derived.Test.YtdmmobjegfhneaaAx7
/- AX, part 6: the operations are sound, one by one: those that neither read nor write. -/
namespace Go.AX
section
variable {w : World} {S : Nat → Prop} {T : Nat → Option Ent}
theorem Rs.real {v : AV} {u : Value} (h : Rs w S T v u) (hr : v.real = true) : valAgg u = v.aggB ∧ Rv w S T v u.cells.toList := by
  cases v <;> first | exact h | simp [AV.real] at hr
theorem Rs.of {v : AV} {u : Value} (h1 : valAgg u = v.aggB) (h2 : Rv w S T v u.cells.toList) : Rs w S T v u := by
  cases v <;> first | exact ⟨h1, h2⟩ | (simp [Rv] at h2)
theorem cells_one {u : Value} (h : valAgg u = false) : u.cells = #[u] := by
  cases u <;> first | rfl | simp [valAgg] at h
theorem Rs.int {k : IntKind} {n : Int} {u : Value} (h : Rs w S T (.dat (.int k n)) u) : u = .int k n := by
  obtain ⟨h1, h2⟩ := h
  rw [cells_one h1, Rv, Rd] at h2
  simpa using h2
theorem Rs.bool {b : Bool} {u : Value} (h : Rs w S T (.dat (.bool b)) u) : u = .bool b := by
  obtain ⟨h1, h2⟩ := h
  rw [cells_one h1, Rv, Rd] at h2
  simpa using h2
theorem Rs.str {b : ByteArray} {u : Value} (h : Rs w S T (.dat (.str b)) u) : u = .string b := by
  obtain ⟨h1, h2⟩ := h
  rw [cells_one h1, Rv, Rd] at h2
  simpa using h2
theorem Rs.nilp {u : Value} (h : Rs w S T (.dat .nilp) u) : u = .pointer none := by
  obtain ⟨h1, h2⟩ := h
  rw [cells_one h1, Rv, Rd] at h2
  simpa using h2
theorem Rs.nilf {u : Value} (h : Rs w S T (.dat .nilf) u) : u = .nilFunc := by
  obtain ⟨h1, h2⟩ := h
  rw [cells_one h1, Rv, Rd] at h2
  simpa using h2
theorem Rs.nili {u : Value} (h : Rs w S T (.dat .nili) u) : u = .nilIface := by
  obtain ⟨h1, h2⟩ := h
  rw [cells_one h1, Rv, Rd] at h2
  simpa using h2
theorem Rs.nilm {u : Value} (h : Rs w S T (.dat .nilm) u) : u = .map none := by
  obtain ⟨h1, h2⟩ := h
  rw [cells_one h1, Rv, Rd] at h2
  simpa using h2
theorem Rs.of_int (k : IntKind) (n : Int) : Rs w S T (.dat (.int k n)) (.int k n) := ⟨rfl, by rw [Rv, Rd]; rfl⟩
theorem Rs.of_bool (b : Bool) : Rs w S T (.dat (.bool b)) (.bool b) := ⟨rfl, by rw [Rv, Rd]; rfl⟩
theorem Rs.of_str (b : ByteArray) : Rs w S T (.dat (.str b)) (.string b) := ⟨rfl, by rw [Rv, Rd]; rfl⟩
theorem ofVal_sound {u : Value} {v : AV} (h : ofVal u = some v) : Rs w S T v u := by
  unfold ofVal at h
  split at h <;> simp at h <;> subst h
  · exact Rs.of_int ..
  · exact Rs.of_bool ..
  · exact Rs.of_str ..
theorem semVal_run {α : Type} {P : Program} {s : Sem α} {a : α} (h : semVal s = some a) (w : World) : s.run P w = .ok a w := by
  unfold semVal at h
  split at h
  · simp at h; subst h; rfl
  · simp at h
theorem asI_sound {v : AV} {n : Int} {u : Value} (h : asI v = some n) (hr : Rs w S T v u) : ∃ k, v = .dat (.int k n) ∧ u = .int k n := by
  unfold asI at h
  split at h
  · rename_i k n'
    simp only [Option.some.injEq] at h; subst h
    exact ⟨k, rfl, hr.int⟩
  · simp at h
theorem asB_sound {v : AV} {b : Bool} {u : Value} (h : asB v = some b) (hr : Rs w S T v u) : u = .bool b := by
  unfold asB at h
  split at h
  · simp only [Option.some.injEq] at h; subst h
    exact hr.bool
  · simp at h
theorem beqL_decide (a b : List UInt8) : (a == b) = decide (a = b) := by
  by_cases h : a = b
  · simp [h]
  · simp [h]
theorem binOp_int (op : BinOp) (t : TypeId) (k k' : IntKind) (a b : Int) : Go.binOp op t (.int k a) (.int k' b) = Go.binOp op 0 (.int k a) (.int k' b) := by
  cases op <;> rfl
theorem eqGuard_other {P : Program} {op : BinOp} {t : TypeId} {x y : Operand} {a b : Value} (ha : a ≠ .nilIface) (ha' : valAgg a = false) (w : World) : (eqGuard op t x y a b).run P w = .ok () w := by
  unfold eqGuard
  simp only [Sem.run_ite]
  split <;> simp
  all_goals (cases a <;> first | rfl | (exact absurd rfl ha) | (simp [valAgg] at ha'))
theorem oBin_sound {P : Program} {op : BinOp} {t : TypeId} {x y v : AV} {vx vy : Value} (h : oBin op x y = some v) (hx : Rs w S T x vx) (hy : Rs w S T y vy) (X Y : Operand) (w' : World) :
    ∃ vz, (do eqGuard op t X Y vx vy; Go.binOp op t vx vy : Sem Value).run P w' = .ok vz w' ∧ Rs w S T v vz := by
  unfold oBin at h
  split at h
  · rename_i k a k' b
    simp only [Option.bind_eq_some_iff] at h
    obtain ⟨z, hz, hv⟩ := h
    rw [hx.int, hy.int]
    refine ⟨z, ?_, ofVal_sound hv⟩
    rw [Sem.run_bind, eqGuard_other (by simp) rfl]
    simp only [Result.andThen]
    rw [binOp_int]
    exact semVal_run hz w'
  · rename_i a b
    rw [hx.str, hy.str]
    rw [Sem.run_bind, eqGuard_other (by simp) rfl]
    simp only [Result.andThen]
    have hbin : Go.binOp op t (.string a) (.string b) = Op.stringOp op a b := by cases op <;> rfl
    rw [hbin]
    unfold oStr at h
    unfold Op.stringOp
    rw [ByteArray.toList_eq, ByteArray.toList_eq]
    split at h
    · simp only [Option.some.injEq] at h; subst h
      refine ⟨_, rfl, ?_⟩
      rw [beqL_decide]
      exact Rs.of_bool _
    · simp only [Option.some.injEq] at h; subst h
      refine ⟨_, rfl, ?_⟩
      rw [← beqL_decide]
      exact Rs.of_bool _
    · cases hc : decide (a.size + b.size ≤ LIM) with
      | false => rw [hc] at h; simp at h
      | true =>
        rw [hc] at h
        simp only [cond_true, Option.some.injEq] at h
        subst h
        simp only [decide_eq_true_eq] at hc
        refine ⟨.string (a ++ b), ?_, ?_⟩
        · simp only
          rw [if_neg]
          · rfl
          · unfold LIM at hc
            have : IntKind.i64.max = 9223372036854775807 := by decide
            omega
        · have : a ++ b = catStr a b := by
            have h1 := Joins.data_append a b
            unfold catStr
            cases hab : a ++ b with
            | mk d =>
              rw [hab] at h1
              simp only at h1
              congr 1
              rw [← Array.toList_inj, h1]; simp
          rw [this]
          exact Rs.of_str _
    · simp at h
  · simp at h
theorem oUn_sound {P : Program} {op : UnOp} {x v : AV} {vx : Value} (h : oUn op x = some v) (hx : Rs w S T x vx) (w' : World) :
    ∃ vz, (Op.unary op vx).run P w' = .ok vz w' ∧ Rs w S T v vz := by
  unfold oUn at h
  split at h
  · simp only [Option.bind_eq_some_iff] at h
    obtain ⟨z, hz, hv⟩ := h
    rw [hx.int]
    exact ⟨z, semVal_run hz w', ofVal_sound hv⟩
  · simp only [Option.bind_eq_some_iff] at h
    obtain ⟨z, hz, hv⟩ := h
    rw [hx.bool]
    exact ⟨z, semVal_run hz w', ofVal_sound hv⟩
  · simp at h
theorem oMax_sound {P : Program} {x y v : AV} {vx vy : Value} (h : oMax x y = some v) (hx : Rs w S T x vx) (hy : Rs w S T y vy) (w' : World) :
    ∃ vz, (Builtin.max2 vx vy).run P w' = .ok vz w' ∧ Rs w S T v vz := by
  unfold oMax at h
  split at h
  · simp only [Option.bind_eq_some_iff] at h
    obtain ⟨z, hz, hv⟩ := h
    rw [hx.int, hy.int]
    exact ⟨z, semVal_run hz w', ofVal_sound hv⟩
  · simp at h
theorem oMin_sound {P : Program} {x y v : AV} {vx vy : Value} (h : oMin x y = some v) (hx : Rs w S T x vx) (hy : Rs w S T y vy) (w' : World) :
    ∃ vz, (Builtin.min2 vx vy).run P w' = .ok vz w' ∧ Rs w S T v vz := by
  unfold oMin at h
  split at h
  · simp only [Option.bind_eq_some_iff] at h
    obtain ⟨z, hz, hv⟩ := h
    rw [hx.int, hy.int]
    exact ⟨z, semVal_run hz w', ofVal_sound hv⟩
  · simp at h
section
variable {P : Program} {tab : Tab} {t : TypeId} {I : TyI}
theorem TyOk.underlying (h : TyOk P tab t I) : ∃ d, P.underlying t = some d ∧ (∀ w, (Go.underlying t).run P w = .ok d w) := by
  obtain ⟨i, d, h1, h2, _⟩ := h.info
  refine ⟨d, h2, fun w => ?_⟩
  unfold Go.underlying
  simp [Go.program, Sem.run, h2]
theorem underlying_run {d : TypeDesc} (h : P.underlying t = some d) (w : World) : (Go.underlying t).run P w = .ok d w := by
  unfold Go.underlying
  simp [Go.program, Sem.run, h]
theorem typeInfo_run {i : TypeInfo} (h : P.info? t = some i) (w : World) : (Go.typeInfo t).run P w = .ok i w := by
  unfold Go.typeInfo
  simp [Go.program, Sem.run, h]
theorem sizeOf_run {i : TypeInfo} (h : P.info? t = some i) (w : World) : (Go.sizeOf t).run P w = .ok i.size w := by
  unfold Go.sizeOf
  simp [typeInfo_run h, Result.andThen]
theorem zeroValue_run {i : TypeInfo} {z : Value} (h : P.info? t = some i) (hz : i.zero = some z) (w : World) : (Go.zeroValue t).run P w = .ok z w := by
  unfold Go.zeroValue
  simp [Sem.run_bind, typeInfo_run h, Result.andThen, hz]
theorem isAgg_run {d : TypeDesc} (h : P.underlying t = some d) (w : World) : (Go.isAgg t).run P w = .ok (match d with | .struct _ | .array _ _ => true | _ => false) w := by
  unfold Go.isAgg
  simp only [Sem.run_bind, underlying_run h, Result.andThen]
  cases d <;> rfl
def aggSh : Sh → Bool
  | .agg _ | .arr _ _ => true
  | .one => false
theorem TyOk.aggSh {d : TypeDesc} (h : TyOk P tab t I) (hd : P.underlying t = some d) : (match d with | .struct _ | .array _ _ => true | _ => false) = aggSh I.sh := by
  obtain ⟨i, d', h1, h2, _, _, _, _, h3⟩ := h.info
  rw [hd] at h2
  simp only [Option.some.injEq] at h2
  subst h2
  revert h3
  cases I.ty <;> cases d <;> cases I.sh <;> simp [AX.aggSh]
end
theorem D.aggB_shape (d : D) : d.aggB = aggSh d.shape := by cases d <;> simp [D.aggB, D.shape, aggSh]
theorem AV.aggB_shape (v : AV) : v.aggB = aggSh v.shape := by
  cases v <;> simp [AV.aggB, AV.shape, aggSh]
  exact D.aggB_shape _
theorem size_one_of_not_agg {s : Sh} (h : aggSh s = false) : s = .one := by cases s <;> simp [aggSh] at h ⊢
end
end Go.AX
