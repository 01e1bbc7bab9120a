import Derived.Test.YtniombjfbdojjaaDoorAx2
import Derived.Lib.Strings
import Derived.Lib.SmallJoins
import Derived.Test.YtniombjfbdojjaaDoorAx7
/- AX, part 6: the operations are sound, one by one: those that neither read nor write. -/
namespace Go.AX
section
variable {w : World} {S : Nat → Prop} {T : Nat → Option Ent}
theorem Rs.real {v : AV} {u : Value} (h : Rs w S T v u) (hr : v.real = true) : valAgg u = v.aggB ∧ Rv w S T v u.cells.toList := by
  cases v <;> first | exact h | simp [AV.real] at hr
theorem Rs.of {v : AV} {u : Value} (h1 : valAgg u = v.aggB) (h2 : Rv w S T v u.cells.toList) : Rs w S T v u := by
  cases v <;> first | exact ⟨h1, h2⟩ | (simp [Rv] at h2)
theorem cells_one {u : Value} (h : valAgg u = false) : u.cells = #[u] := by
  cases u <;> first | rfl | simp [valAgg] at h
theorem Rs.int {k : IntKind} {n : Int} {u : Value} (h : Rs w S T (.dat (.int k n)) u) : u = .int k n := by
  obtain ⟨h1, h2⟩ := h
  rw [cells_one h1, Rv, Rd] at h2
  simpa using h2
theorem Rs.bool {b : Bool} {u : Value} (h : Rs w S T (.dat (.bool b)) u) : u = .bool b := by
  obtain ⟨h1, h2⟩ := h
  rw [cells_one h1, Rv, Rd] at h2
  simpa using h2
theorem Rs.str {b : ByteArray} {u : Value} (h : Rs w S T (.dat (.str b)) u) : u = .string b := by
  obtain ⟨h1, h2⟩ := h
  rw [cells_one h1, Rv, Rd] at h2
  simpa using h2
theorem Rs.nilp {u : Value} (h : Rs w S T (.dat .nilp) u) : u = .pointer none := by
  obtain ⟨h1, h2⟩ := h
  rw [cells_one h1, Rv, Rd] at h2
  simpa using h2
theorem Rs.nilf {u : Value} (h : Rs w S T (.dat .nilf) u) : u = .nilFunc := by
  obtain ⟨h1, h2⟩ := h
  rw [cells_one h1, Rv, Rd] at h2
  simpa using h2
theorem Rs.nili {u : Value} (h : Rs w S T (.dat .nili) u) : u = .nilIface := by
  obtain ⟨h1, h2⟩ := h
  rw [cells_one h1, Rv, Rd] at h2
  simpa using h2
theorem Rs.nilm {u : Value} (h : Rs w S T (.dat .nilm) u) : u = .map none := by
  obtain ⟨h1, h2⟩ := h
  rw [cells_one h1, Rv, Rd] at h2
  simpa using h2
theorem Rs.of_int (k : IntKind) (n : Int) : Rs w S T (.dat (.int k n)) (.int k n) := ⟨rfl, by rw [Rv, Rd]; rfl⟩
theorem Rs.of_bool (b : Bool) : Rs w S T (.dat (.bool b)) (.bool b) := ⟨rfl, by rw [Rv, Rd]; rfl⟩
theorem Rs.of_str (b : ByteArray) : Rs w S T (.dat (.str b)) (.string b) := ⟨rfl, by rw [Rv, Rd]; rfl⟩
theorem ofVal_sound {u : Value} {v : AV} (h : ofVal u = some v) : Rs w S T v u := by
  unfold ofVal at h
  split at h <;> simp at h <;> subst h
  · exact Rs.of_int ..
  · exact Rs.of_bool ..
  · exact Rs.of_str ..
theorem semVal_run {α : Type} {P : Program} {s : Sem α} {a : α} (h : semVal s = some a) (w : World) : s.run P w = .ok a w := by
  unfold semVal at h
  split at h
  · simp at h; subst h; rfl
  · simp at h
theorem asI_sound {v : AV} {n : Int} {u : Value} (h : asI v = some n) (hr : Rs w S T v u) : ∃ k, v = .dat (.int k n) ∧ u = .int k n := by
  unfold asI at h
  split at h
  · rename_i k n'
    simp only [Option.some.injEq] at h; subst h
    exact ⟨k, rfl, hr.int⟩
  · simp at h
theorem asB_sound {v : AV} {b : Bool} {u : Value} (h : asB v = some b) (hr : Rs w S T v u) : u = .bool b := by
  unfold asB at h
  split at h
  · simp only [Option.some.injEq] at h; subst h
    exact hr.bool
  · simp at h
theorem beqL_decide (a b : List UInt8) : (a == b) = decide (a = b) := by
  by_cases h : a = b
  · simp [h]
  · simp [h]
theorem binOp_int (op : BinOp) (t : TypeId) (k k' : IntKind) (a b : Int) : Go.binOp op t (.int k a) (.int k' b) = Go.binOp op 0 (.int k a) (.int k' b) := by
  cases op <;> rfl
theorem eqGuard_other {P : Program} {op : BinOp} {t : TypeId} {x y : Operand} {a b : Value} (ha : a ≠ .nilIface) (ha' : valAgg a = false) (w : World) : (eqGuard op t x y a b).run P w = .ok () w := by
  unfold eqGuard
  simp only [Sem.run_ite]
  split <;> simp
  all_goals (cases a <;> first | rfl | (exact absurd rfl ha) | (simp [valAgg] at ha'))
theorem oBin_sound {P : Program} {op : BinOp} {t : TypeId} {x y v : AV} {vx vy : Value} (h : oBin op x y = some v) (hx : Rs w S T x vx) (hy : Rs w S T y vy) (X Y : Operand) (w' : World) :
    ∃ vz, (do eqGuard op t X Y vx vy; Go.binOp op t vx vy : Sem Value).run P w' = .ok vz w' ∧ Rs w S T v vz := by
  unfold oBin at h
  split at h
  · rename_i k a k' b
    simp only [Option.bind_eq_some_iff] at h
    obtain ⟨z, hz, hv⟩ := h
    rw [hx.int, hy.int]
    refine ⟨z, ?_, ofVal_sound hv⟩
    rw [Sem.run_bind, eqGuard_other (by simp) rfl]
    simp only [Result.andThen]
    rw [binOp_int]
    exact semVal_run hz w'
  · rename_i a b
    rw [hx.str, hy.str]
    rw [Sem.run_bind, eqGuard_other (by simp) rfl]
    simp only [Result.andThen]
    have hbin : Go.binOp op t (.string a) (.string b) = Op.stringOp op a b := by cases op <;> rfl
    rw [hbin]
    unfold oStr at h
    unfold Op.stringOp
    rw [ByteArray.toList_eq, ByteArray.toList_eq]
    split at h
    · simp only [Option.some.injEq] at h; subst h
      refine ⟨_, rfl, ?_⟩
      rw [beqL_decide]
      exact Rs.of_bool _
    · simp only [Option.some.injEq] at h; subst h
      refine ⟨_, rfl, ?_⟩
      rw [← beqL_decide]
      exact Rs.of_bool _
    · cases hc : decide (a.size + b.size ≤ LIM) with
      | false => rw [hc] at h; simp at h
      | true =>
        rw [hc] at h
        simp only [cond_true, Option.some.injEq] at h
        subst h
        simp only [decide_eq_true_eq] at hc
        refine ⟨.string (a ++ b), ?_, ?_⟩
        · simp only
          rw [if_neg]
          · rfl
          · unfold LIM at hc
            have : IntKind.i64.max = 9223372036854775807 := by decide
            omega
        · have : a ++ b = catStr a b := by
            have h1 := Joins.data_append a b
            unfold catStr
            cases hab : a ++ b with
            | mk d =>
              rw [hab] at h1
              simp only at h1
              congr 1
              rw [← Array.toList_inj, h1]; simp
          rw [this]
          exact Rs.of_str _
    · simp at h
  · simp at h
theorem oUn_sound {P : Program} {op : UnOp} {x v : AV} {vx : Value} (h : oUn op x = some v) (hx : Rs w S T x vx) (w' : World) :
    ∃ vz, (Op.unary op vx).run P w' = .ok vz w' ∧ Rs w S T v vz := by
  unfold oUn at h
  split at h
  · simp only [Option.bind_eq_some_iff] at h
    obtain ⟨z, hz, hv⟩ := h
    rw [hx.int]
    exact ⟨z, semVal_run hz w', ofVal_sound hv⟩
  · simp only [Option.bind_eq_some_iff] at h
    obtain ⟨z, hz, hv⟩ := h
    rw [hx.bool]
    exact ⟨z, semVal_run hz w', ofVal_sound hv⟩
  · simp at h
theorem oMax_sound {P : Program} {x y v : AV} {vx vy : Value} (h : oMax x y = some v) (hx : Rs w S T x vx) (hy : Rs w S T y vy) (w' : World) :
    ∃ vz, (Builtin.max2 vx vy).run P w' = .ok vz w' ∧ Rs w S T v vz := by
  unfold oMax at h
  split at h
  · simp only [Option.bind_eq_some_iff] at h
    obtain ⟨z, hz, hv⟩ := h
    rw [hx.int, hy.int]
    exact ⟨z, semVal_run hz w', ofVal_sound hv⟩
  · simp at h
theorem oMin_sound {P : Program} {x y v : AV} {vx vy : Value} (h : oMin x y = some v) (hx : Rs w S T x vx) (hy : Rs w S T y vy) (w' : World) :
    ∃ vz, (Builtin.min2 vx vy).run P w' = .ok vz w' ∧ Rs w S T v vz := by
  unfold oMin at h
  split at h
  · simp only [Option.bind_eq_some_iff] at h
    obtain ⟨z, hz, hv⟩ := h
    rw [hx.int, hy.int]
    exact ⟨z, semVal_run hz w', ofVal_sound hv⟩
  · simp at h
section
variable {P : Program} {tab : Tab} {t : TypeId} {I : TyI}
theorem TyOk.underlying (h : TyOk P tab t I) : ∃ d, P.underlying t = some d ∧ (∀ w, (Go.underlying t).run P w = .ok d w) := by
  obtain ⟨i, d, h1, h2, _⟩ := h.info
  refine ⟨d, h2, fun w => ?_⟩
  unfold Go.underlying
  simp [Go.program, Sem.run, h2]
theorem underlying_run {d : TypeDesc} (h : P.underlying t = some d) (w : World) : (Go.underlying t).run P w = .ok d w := by
  unfold Go.underlying
  simp [Go.program, Sem.run, h]
theorem typeInfo_run {i : TypeInfo} (h : P.info? t = some i) (w : World) : (Go.typeInfo t).run P w = .ok i w := by
  unfold Go.typeInfo
  simp [Go.program, Sem.run, h]
theorem sizeOf_run {i : TypeInfo} (h : P.info? t = some i) (w : World) : (Go.sizeOf t).run P w = .ok i.size w := by
  unfold Go.sizeOf
  simp [typeInfo_run h, Result.andThen]
theorem zeroValue_run {i : TypeInfo} {z : Value} (h : P.info? t = some i) (hz : i.zero = some z) (w : World) : (Go.zeroValue t).run P w = .ok z w := by
  unfold Go.zeroValue
  simp [Sem.run_bind, typeInfo_run h, Result.andThen, hz]
theorem isAgg_run {d : TypeDesc} (h : P.underlying t = some d) (w : World) : (Go.isAgg t).run P w = .ok (match d with | .struct _ | .array _ _ => true | _ => false) w := by
  unfold Go.isAgg
  simp only [Sem.run_bind, underlying_run h, Result.andThen]
  cases d <;> rfl
def aggSh : Sh → Bool
  | .agg _ | .arr _ _ => true
  | .one => false
theorem TyOk.aggSh {d : TypeDesc} (h : TyOk P tab t I) (hd : P.underlying t = some d) : (match d with | .struct _ | .array _ _ => true | _ => false) = aggSh I.sh := by
  obtain ⟨i, d', h1, h2, _, _, _, _, h3⟩ := h.info
  rw [hd] at h2
  simp only [Option.some.injEq] at h2
  subst h2
  revert h3
  cases I.ty <;> cases d <;> cases I.sh <;> simp [AX.aggSh]
end
theorem D.aggB_shape (d : D) : d.aggB = aggSh d.shape := by cases d <;> simp [D.aggB, D.shape, aggSh]
theorem AV.aggB_shape (v : AV) : v.aggB = aggSh v.shape := by
  cases v <;> simp [AV.aggB, AV.shape, aggSh]
  exact D.aggB_shape _
theorem size_one_of_not_agg {s : Sh} (h : aggSh s = false) : s = .one := by cases s <;> simp [aggSh] at h ⊢
end
end Go.AX

namespace Go.AX
theorem Sh.nav_append : ∀ (p : List Nat) (q : List Nat) (s u : Sh), Sh.nav p s = some u → Sh.nav (p ++ q) s = Sh.nav q u
  | [], q, s, u, h => by simp only [Sh.nav, Option.some.injEq] at h; subst h; rfl
  | k :: p, q, .agg l, u, h => by
    simp only [Sh.nav, List.cons_append] at h ⊢
    cases hk : l[k]? with
    | none => simp [hk] at h
    | some x => simp only [hk, Option.bind_some] at h ⊢; exact Sh.nav_append p q x u h
  | k :: p, q, .arr s n, u, h => by
    simp only [Sh.nav, List.cons_append] at h ⊢
    exact Sh.nav_append p q s u h
  | _ :: _, _, .one, _, h => by simp [Sh.nav] at h
theorem Sh.off_append : ∀ (p : List Nat) (q : List Nat) (s u : Sh) (o : Nat), Sh.nav p s = some u → Sh.off p s = some o → Sh.off (p ++ q) s = (Sh.off q u).map (o + ·)
  | [], q, s, u, o, h, ho => by
    simp only [Sh.nav, Option.some.injEq] at h; subst h
    simp only [Sh.off, Option.some.injEq] at ho; subst ho
    simp
  | k :: p, q, .agg l, u, o, h, ho => by
    simp only [Sh.nav, Sh.off, List.cons_append] at h ho ⊢
    cases hk : l[k]? with
    | none => simp [hk] at h
    | some x =>
      simp only [hk, Option.bind_some, Option.map_eq_some_iff] at h ho ⊢
      obtain ⟨o', ho', rfl⟩ := ho
      rw [Sh.off_append p q x u o' h ho']
      simp only [Option.map_map]
      congr 1
      funext y
      simp [Nat.add_assoc]
  | k :: p, q, .arr s n, u, o, h, ho => by
    simp only [Sh.nav, Sh.off, List.cons_append, Option.map_eq_some_iff] at h ho ⊢
    obtain ⟨o', ho', rfl⟩ := ho
    rw [Sh.off_append p q s u o' h ho']
    simp only [Option.map_map]
    congr 1
    funext y
    simp [Nat.add_assoc]
  | _ :: _, _, .one, _, _, h, _ => by simp [Sh.nav] at h
theorem Sh.off_arr (k : Nat) (p : List Nat) (s : Sh) (n m : Nat) : Sh.off (k :: p) (.arr s n) = Sh.off (k :: p) (.arr s m) := rfl
theorem Sh.nav_arr (k : Nat) (p : List Nat) (s : Sh) (n m : Nat) : Sh.nav (k :: p) (.arr s n) = Sh.nav (k :: p) (.arr s m) := rfl
theorem tbl_get {m : List (Option Nat)} {σ : Store} {id : Nat} {e : Ent} {B : Blk} (h : tbl m σ id = some e) (hB : σ[id]? = some B) : m[id]? = some e.blk ∧ e.sh = B.sh ∧ e.dyn = B.dyn ∧ e.n = B.n := by
  unfold tbl at h
  rw [hB] at h
  cases hm : m[id]? with
  | none => rw [hm] at h; simp at h
  | some ob =>
    rw [hm] at h
    simp only [Option.some.injEq] at h
    subst h
    exact ⟨rfl, rfl, rfl, rfl⟩
theorem row_of {w : World} {b o n : Nat} {c : Array Value} {t : TypeId} {f : Nat × Nat} (h : w.heap[b]? = some (.cells c t f)) (hl : o + n ≤ c.size) : row w b o n = some ((c.toList.drop o).take n) := by
  simp [row, h, hl]
section
variable {P : Program} {tab : Tab} {t : TypeId} {I : TyI} {w : World} {S : Nat → Prop} {T : Nat → Option Ent} {m : List (Option Nat)} {σ : Store}
theorem loadVar_run (hI : TyOk P tab t I) {b o : Nat} {r : List Value} {v : AV} (hr : row w b o I.sh.size = some r) (hv : Rv w S T v r) (hs : v.shape = I.sh) :
    ∃ vz, (loadVar t ⟨b, o, none⟩).run P w = .ok vz w ∧ Rs w S T v vz := by
  obtain ⟨i, d, h1, h2, h3, _⟩ := hI.info
  have ha := hI.aggSh h2
  unfold loadVar
  simp only [Sem.run_bind, isAgg_run h2, Result.andThen, ha, Sem.run_ite]
  cases hg : aggSh I.sh with
  | true =>
    simp only [if_true, sizeOf_run h1, h3, run_loadCells' hr, Sem.run_pure]
    refine ⟨_, rfl, Rs.of ?_ ?_⟩
    · rw [AV.aggB_shape, hs, hg]; rfl
    · exact hv
  | false =>
    have h1' := size_one_of_not_agg hg
    rw [h1'] at hr hs
    have hl := Rv.length hv
    rw [hs] at hl
    simp only [Sh.size] at hl hr
    match r, hl with
    | [x], _ =>
      have hc : w.cell? ⟨b, o, none⟩ = some x := by
        unfold row at hr
        split at hr
        · rename_i c t' f hb
          split at hr
          · rename_i hle
            rw [cell_of_block hb]
            simp only [Option.some.injEq] at hr
            have : c.toList.drop o = c.toList[o]'(by simp; omega) :: c.toList.drop (o + 1) := List.drop_eq_getElem_cons _
            rw [this] at hr
            simp at hr
            rw [Array.getElem?_eq_getElem (by omega), hr]
          · simp at hr
        · simp at hr
      refine ⟨x, by simp [run_load1 hc], ?_⟩
      have h1c := Rv.oneCell hv x (by simp)
      have hva : valAgg x = false := by cases x <;> first | rfl | simp [oneC] at h1c
      refine Rs.of ?_ ?_
      · rw [AV.aggB_shape, hs, hva]; rfl
      · rw [cells_one hva]; exact hv
theorem sureAddr_run {a : Addr} (w : World) : (Instr.sureAddr (.pointer (some a))).run P w = .ok a w := rfl
theorem loadAt_run (hI : TyOk P tab t I) {b o : Nat} {r : List Value} {v : AV} (hr : row w b o I.sh.size = some r) (hv : Rv w S T v r) (hs : v.shape = I.sh) :
    ∃ vz, (Instr.loadAt t (.pointer (some ⟨b, o, none⟩))).run P w = .ok vz w ∧ Rs w S T v vz := by
  unfold Instr.loadAt
  simp only [Sem.run_bind, sureAddr_run, Result.andThen]
  exact loadVar_run hI hr hv hs
theorem ptr_place (hi : Inv w S m σ) {s : Sh} {id : Nat} {p : List Nat} {B : Blk} {u : Value} (hps : posSh B.sh = true) (hB : σ[id]? = some B) (hr : Rs w S (tbl m σ) (.ptr s id B.n p) u) :
    ∃ b o c t f, u = .pointer (some ⟨b, o, none⟩) ∧ m[id]? = some (some b) ∧ w.heap[b]? = some (.cells c t f) ∧ Sh.nav p B.sh = some s ∧ Sh.off p B.sh = some o ∧
      (B.frz = true → S b) ∧ (B.frz = false → ¬ S b ∧ ∀ o, o < c.size → w.frozen? ⟨b, o, none⟩ = false) ∧ (B.dyn = true → DynOk w S c B) ∧ (B.dyn = false → B.v.shape = B.sh ∧ Rv w S (tbl m σ) B.v c.toList) := by
  obtain ⟨h1, h2⟩ := hr
  rw [cells_one h1, Rv] at h2
  obtain ⟨a, e, h3, h4, h5, h6⟩ := h2
  simp only [List.cons.injEq, and_true] at h3
  subst h3
  obtain ⟨g1, g2, g3, g4⟩ := tbl_get h4 hB
  obtain ⟨b, o, k1, k2, k3, k4⟩ := h6 g4
  subst k4
  have hb := hi.blk id B hB
  rw [k1] at g1
  rw [List.getD_eq_getElem?_getD, g1] at hb
  obtain ⟨c, t, f, l1, l2, l3, l4, l5⟩ := BlkOk.cel hb (.inr (.inl hps))
  exact ⟨b, o, c, t, f, rfl, g1, l1, by rw [← g2]; exact k2, by rw [← g2]; exact k3, l2, l3, l4, l5⟩
theorem nav_place {c : Array Value} {B : Blk} {p : List Nat} {v : AV} (hd : B.dyn = true → DynOk w S c B) (hn : B.dyn = false → B.v.shape = B.sh ∧ Rv w S T B.v c.toList)
    (hp : (B.dyn && p.isEmpty) = false) (hv : B.v.nav p = some v) {o : Nat} (ho : Sh.off p B.sh = some o) {s : Sh} (hs : Sh.nav p B.sh = some s) :
    v.shape = s ∧ o + s.size ≤ c.size ∧ Rv w S T v ((c.toList.drop o).take s.size) := by
  cases hdy : B.dyn with
  | false =>
    obtain ⟨h1, h2⟩ := hn hdy
    obtain ⟨o', a1, a2, a3, a4⟩ := AV.nav_spec p h2 hv
    rw [h1] at a1 a2
    rw [ho] at a1; rw [hs] at a2
    simp only [Option.some.injEq] at a1 a2
    subst a1; rw [← a2] at a3 a4
    exact ⟨a2.symm, by simpa using a4, a3⟩
  | true =>
    obtain ⟨s0, ds, h1, h2, h3, h4⟩ := hd hdy
    rw [hdy] at hp
    cases p with
    | nil => simp at hp
    | cons k p =>
      rw [h2] at hv
      have h4' : Rv w S T (.dat (.arr s0 ds)) (c.toList.take (ds.length * s0.size)) := by rw [Rv]; exact h4
      obtain ⟨o', a1, a2, a3, a4⟩ := AV.nav_spec (k :: p) h4' hv
      rw [h1] at ho hs
      rw [AV.shape, D.shape, Sh.off_arr _ _ _ _ 0, ho] at a1
      rw [AV.shape, D.shape, Sh.nav_arr _ _ _ _ 0, hs] at a2
      simp only [Option.some.injEq] at a1 a2
      subst a1; rw [← a2] at a3 a4
      have a4' : o + s.size ≤ ds.length * s0.size := by
        rw [List.length_take] at a4; omega
      refine ⟨a2.symm, by omega, ?_⟩
      rw [List.drop_take, List.take_take, show min s.size (ds.length * s0.size - o) = s.size by omega] at a3
      exact a3
theorem oLoad_sound (hI : TyOk P tab t I) (hi : Inv w S m σ) {x v : AV} {vx : Value} (h : oLoad I.sh x σ = some v) (hx : Rs w S (tbl m σ) x vx) :
    ∃ vz, (Instr.loadAt t vx).run P w = .ok vz w ∧ Rs w S (tbl m σ) v vz := by
  unfold oLoad at h
  split at h
  · rename_i s id n p
    cases he : Sh.eqb s I.sh with
    | false => rw [he] at h; simp at h
    | true =>
      rw [he] at h
      have he := Sh.eq_of_eqb he
      subst he
      simp only [cond_true] at h
      split at h
      · rename_i B hB
        cases hc : (Nat.beq B.n n && !(B.dyn && p.isEmpty) && posSh B.sh) with
        | false => rw [hc] at h; simp at h
        | true =>
          rw [hc] at h
          simp only [cond_true] at h
          simp only [Bool.and_eq_true, Bool.not_eq_true'] at hc
          obtain ⟨⟨hc1, hc2⟩, hps⟩ := hc
          have hn := Nat.eq_of_beq_eq_true hc1
          subst hn
          obtain ⟨b, o, c, t', f, rfl, _, l1, l2, l3, _, _, l4, l5⟩ := ptr_place hi hps hB hx
          obtain ⟨k1, k2, k3⟩ := nav_place l4 l5 hc2 h l3 l2
          exact loadAt_run hI (row_of l1 k2) k3 k1
      · simp at h
  · rename_i s d
    cases he : Sh.eqb s I.sh with
    | false => rw [he] at h; simp at h
    | true =>
      rw [he] at h
      have he := Sh.eq_of_eqb he
      subst he
      simp only [cond_true, Option.some.injEq] at h
      subst h
      obtain ⟨h1, h2⟩ := hx
      rw [cells_one h1, Rv, Rd] at h2
      obtain ⟨b, o, r, h3, h4, h5, h6, h7⟩ := h2
      simp only [List.cons.injEq, and_true] at h3
      subst h3
      exact loadAt_run hI h6 (by rw [Rv]; exact h7) h5
  · simp at h
theorem put_many : ∀ {p : List Nat} {s : Sh} {ds : List D} {x v' : AV}, (p.isEmpty = false) → AV.put p (.dat (.arr s ds)) x = some v' → ∃ ds', v' = .dat (.arr s ds') ∧ ds'.length = ds.length
  | [], _, _, _, _, h, _ => by simp at h
  | k :: p, s, ds, x, v', _, h => by
    simp only [AV.put] at h
    cases hk : ds[k]? with
    | none => simp [hk] at h
    | some y =>
      simp only [hk, Option.bind_some, Option.bind_eq_some_iff] at h
      obtain ⟨y', _, hv⟩ := h
      cases y' with
      | dat d => simp only [Option.some.injEq] at hv; exact ⟨_, hv.symm, by simp⟩
      | _ => simp at hv
theorem put_place (hi : Inv w S m σ) {id b o : Nat} {B : Blk} {c : Array Value} {t : TypeId} {f : Nat × Nat} {p : List Nat} {x v' : AV} {cn : List Value} {s : Sh}
    (hB : σ[id]? = some B) (hm : m[id]? = some (some b)) (hb : w.heap[b]? = some (.cells c t f)) (hf : B.frz = false) (hp : (B.dyn && p.isEmpty) = false)
    (hs : Sh.nav p B.sh = some s) (ho : Sh.off p B.sh = some o) (hd : B.dyn = true → DynOk w S c B) (hn : B.dyn = false → B.v.shape = B.sh ∧ Rv w S (tbl m σ) B.v c.toList)
    (hput : AV.put p B.v x = some v') (hx : Rv w S (tbl m σ) x cn) :
    o + cn.length ≤ c.size ∧ Stp w S m σ (putHeap w b (.cells (splice c.toList o cn).toArray t f)) S m (σ.set id { B with v := v' }) := by
  rcases Bool.eq_false_or_eq_true B.dyn with hdy | hdy
  case inr =>
    obtain ⟨h1, h2⟩ := hn hdy
    obtain ⟨⟨o', a1, a2, a3⟩, b1, b2⟩ := AV.put_spec p hput h2 hx
    rw [h1, ho] at a1
    simp only [Option.some.injEq] at a1; subst a1
    have hlen : o + cn.length ≤ c.size := by simpa using a2
    refine ⟨hlen, hi.write hB hm hb ?_ hf (B' := { B with v := v' }) hf rfl rfl ?_ (fun hq => ?_) (fun _ => ?_)⟩
    · have := splice_length a2; simpa using this
    · simp [Blk.n, hdy]
    · exact absurd hq (by simp [hdy])
    · exact ⟨by rw [← h1]; exact b1, by simpa using a3⟩
  case inl =>
    obtain ⟨s0, ds, h1, h2, h3, h4⟩ := hd hdy
    rw [hdy, Bool.true_and] at hp
    rw [h2] at hput
    obtain ⟨ds', hv', hl'⟩ := put_many hp hput
    subst hv'
    cases p with
    | nil => simp at hp
    | cons k p =>
      have h4' : Rv w S (tbl m σ) (.dat (.arr s0 ds)) (c.toList.take (ds.length * s0.size)) := by rw [Rv]; exact h4
      obtain ⟨⟨o', a1, a2, a3⟩, b1, b2⟩ := AV.put_spec (k :: p) hput h4' hx
      rw [h1] at ho
      rw [AV.shape, D.shape, Sh.off_arr _ _ _ _ 0, ho] at a1
      simp only [Option.some.injEq] at a1; subst a1
      have a2' : o + cn.length ≤ ds.length * s0.size := by
        rw [List.length_take] at a2; omega
      have hsp : (splice c.toList o cn).take (ds.length * s0.size) = splice (c.toList.take (ds.length * s0.size)) o cn := by
        conv => lhs; rw [← List.take_append_drop (ds.length * s0.size) c.toList]
        rw [splice_append_left (by rw [List.length_take]; simp; omega)]
        have : (splice (c.toList.take (ds.length * s0.size)) o cn).length = ds.length * s0.size := by
          rw [splice_length (by rw [List.length_take]; simp; omega), List.length_take]; simp; omega
        exact List.take_left' this
      refine ⟨by omega, hi.write hB hm hb ?_ hf (B' := { B with v := .dat (.arr s0 ds') }) hf rfl rfl ?_ (fun _ => ?_) (fun hq => ?_)⟩
      · have := splice_length (cs := c.toList) (o := o) (cn := cn) (by simp; omega); simpa using this
      · simp only [Blk.n, hdy, cond_true, h2, AV.many, hl', Nat.le_refl]
      · refine ⟨s0, ds', h1, rfl, ?_, ?_⟩
        · have := splice_length (cs := c.toList) (o := o) (cn := cn) (by simp; omega)
          simp only [List.size_toArray, this, hl', Array.length_toList]; exact h3
        · rw [Rv] at a3
          rw [hl', List.toList_toArray, hsp]
          exact a3
      · exact absurd hq (by simp [hdy])
theorem storeVar_run (hI : TyOk P tab t I) {b o : Nat} {c : Array Value} {t' : TypeId} {f : Nat × Nat} {u : Value} (hb : w.heap[b]? = some (.cells c t' f)) (hl : o + u.cells.toList.length ≤ c.size)
    (hf : ∀ o, o < c.size → w.frozen? ⟨b, o, none⟩ = false) (hs : u.cells.size = I.sh.size) (h1 : ∀ x ∈ u.cells.toList, oneC x = true) :
    (storeVar t ⟨b, o, none⟩ u).run P w = .ok () (putHeap w b (.cells (splice c.toList o u.cells.toList).toArray t' f)) := by
  obtain ⟨i, d, k1, k2, k3, _⟩ := hI.info
  unfold storeVar
  simp only [Sem.run_bind, sizeOf_run k1, Result.andThen, k3, hs, ne_eq, not_true_eq_false, if_false]
  have := run_storeCells' (P := P) (b := b) (o := o) (t := t') (f := f) u.cells.toList 0 w c hb (by simpa using hl) hf h1
  simpa using this
theorem oStore_sound (hI : TyOk P tab t I) (hi : Inv w S m σ) {x v : AV} {vx vv : Value} {σ' : Store} (h : oStore I.sh x v σ = some σ') (hx : Rs w S (tbl m σ) x vx) (hv : Rs w S (tbl m σ) v vv) :
    ∃ w', (Instr.storeAt t vx vv).run P w = .ok () w' ∧ Stp w S m σ w' S m σ' := by
  unfold oStore at h
  split at h
  · rename_i s id n p
    cases hc : (Sh.eqb s I.sh && v.real) with
    | false => rw [hc] at h; simp at h
    | true =>
      rw [hc] at h
      simp only [cond_true] at h
      simp only [Bool.and_eq_true] at hc
      have he := Sh.eq_of_eqb hc.1
      subst he
      obtain ⟨hv1, hv2⟩ := hv.real hc.2
      split at h
      · rename_i B hB
        cases hc' : (Nat.beq B.n n && !B.frz && !(B.dyn && p.isEmpty) && posSh B.sh) with
        | false => rw [hc'] at h; simp at h
        | true =>
          rw [hc'] at h
          simp only [cond_true, Option.map_eq_some_iff] at h
          obtain ⟨v', hput, rfl⟩ := h
          simp only [Bool.and_eq_true, Bool.not_eq_true'] at hc'
          obtain ⟨⟨⟨g1, g2⟩, g3⟩, hps⟩ := hc'
          have hn := Nat.eq_of_beq_eq_true g1
          subst hn
          obtain ⟨b, o, c, t', f, rfl, hm, l1, l2, l3, _, l6, l4, l5⟩ := ptr_place hi hps hB hx
          have hsh : v.shape = I.sh := by
            cases hdy : B.dyn with
            | false =>
              obtain ⟨k1, k2⟩ := l5 hdy
              obtain ⟨_, _, q⟩ := AV.put_spec p hput k2 hv2
              rw [k1, l2] at q
              simpa using q.symm
            | true =>
              obtain ⟨s0, ds, k1, k2, k3, k4⟩ := l4 hdy
              rw [k2] at hput
              have k4' : Rv w S (tbl m σ) (.dat (.arr s0 ds)) (c.toList.take (ds.length * s0.size)) := by rw [Rv]; exact k4
              obtain ⟨_, _, q⟩ := AV.put_spec p hput k4' hv2
              cases p with
              | nil => rw [hdy] at g3; simp at g3
              | cons k p =>
                rw [AV.shape, D.shape, Sh.nav_arr _ _ _ _ 0, ← k1, l2] at q
                simpa using q.symm
          obtain ⟨q1, q2⟩ := put_place hi hB hm l1 g2 g3 l2 l3 l4 l5 hput hv2
          refine ⟨_, ?_, q2⟩
          unfold Instr.storeAt
          simp only [Sem.run_bind, sureAddr_run, Result.andThen]
          refine storeVar_run hI l1 q1 (l6 g2).2 ?_ (Rv.oneCell hv2)
          have := Rv.length hv2
          rw [hsh] at this
          simpa using this
      · simp at h
  · simp at h
theorem oNilCheck_sound {x v : AV} {vx : Value} (h : oNilCheck x = some v) (hx : Rs w S T x vx) :
    v = x ∧ ((∃ a, vx = .pointer (some a)) ∨ ∃ g a b, vx = .func (.func g) a b) := by
  unfold oNilCheck at h
  split at h <;> simp at h <;> subst h <;> refine ⟨rfl, ?_⟩
  · obtain ⟨h1, h2⟩ := hx
    rw [cells_one h1, Rv] at h2
    obtain ⟨a, e, h3, _⟩ := h2
    simp only [List.cons.injEq, and_true] at h3
    exact .inl ⟨a, h3⟩
  · obtain ⟨h1, h2⟩ := hx
    rw [cells_one h1, Rv, Rd] at h2
    obtain ⟨b, o, r, h3, _⟩ := h2
    simp only [List.cons.injEq, and_true] at h3
    exact .inl ⟨_, h3⟩
  · obtain ⟨h1, h2⟩ := hx
    rw [cells_one h1, Rv] at h2
    obtain ⟨a, b, h3, _⟩ := h2
    simp only [List.cons.injEq, and_true] at h3
    exact .inr ⟨_, a, b, h3⟩
  · obtain ⟨h1, h2⟩ := hx
    rw [cells_one h1, Rv, Rd] at h2
    obtain ⟨a, b, h3, _⟩ := h2
    simp only [List.cons.injEq, and_true] at h3
    exact .inr ⟨_, a, b, h3⟩
theorem fieldsOk_get : ∀ {fs : List (TypeId × Nat)} {gs : List Field} {l : List Sh} {at_ k : Nat} {s : Sh}, fieldsOk tab fs gs l at_ = true → l[k]? = some s →
    ∃ ft f J, fs[k]? = some (ft, f.offset) ∧ gs[k]? = some f ∧ f.type = ft ∧ f.offset = at_ + Sh.sizeL (l.take k) ∧ s.size ≠ 0 ∧ tab[ft]? = some J ∧ J.sh = s ∧ known tab ft = true
  | [], [], [], _, _, _, _, h => by simp at h
  | (ft, o) :: fs, g :: gs, s' :: l, at_, k, s, h, hk => by
    simp only [fieldsOk, Bool.and_eq_true, decide_eq_true_eq] at h
    obtain ⟨⟨⟨⟨⟨h1, h2⟩, h3⟩, h4⟩, h5⟩, h6⟩ := h
    cases k with
    | zero =>
      simp at hk; subst hk
      split at h5
      · rename_i J hJ
        simp only [Bool.and_eq_true] at h5
        refine ⟨ft, g, J, by simp [h2], by simp, h1, by simp [Sh.sizeL]; omega, h4, hJ, Sh.eq_of_eqb h5.1, ?_⟩
        unfold known; rw [hJ]; exact h5.2
      · simp at h5
    | succ k =>
      simp at hk
      obtain ⟨ft', f', J, a1, a2, a3, a4, a5⟩ := fieldsOk_get h6 hk
      exact ⟨ft', f', J, by simpa using a1, by simpa using a2, a3, by simp [Sh.sizeL, a4]; omega, a5⟩
  | [], [], _ :: _, _, _, _, h, _ => by simp [fieldsOk] at h
  | [], _ :: _, _, _, _, _, h, _ => by simp [fieldsOk] at h
  | _ :: _, [], _, _, _, _, h, _ => by simp [fieldsOk] at h
  | _ :: _, _ :: _, [], _, _, _, h, _ => by simp [fieldsOk] at h
theorem TyOk.struct (hI : TyOk P tab t I) {fs : List (TypeId × Nat)} (h : I.ty = .struct fs) {l : List Sh} (hl : I.sh = .agg l) :
    ∃ gs, P.underlying t = some (.struct gs) ∧ fieldsOk tab fs gs.toList l 0 = true ∧ (I.eqv = true → (gs.toList.all (fun f => f.name != "_") = true ∧ P.stoodInHeld t = false)) := by
  obtain ⟨i, d, h1, h2, _, _, _, _, h3⟩ := hI.info
  rw [h, hl] at h3
  cases d <;> simp only at h3
  exact ⟨_, h2, h3.1, h3.2⟩
theorem TyOk.slice (hI : TyOk P tab t I) {e : TypeId} (h : I.ty = .slc e) : P.underlying t = some (.slice e) ∧ ∃ J, tab[e]? = some J ∧ J.sh.size ≠ 0 ∧ known tab e = true := by
  obtain ⟨i, d, h1, h2, _, _, _, _, h3⟩ := hI.info
  rw [h] at h3
  cases d <;> cases hsh : I.sh <;> rw [hsh] at h3 <;> simp at h3
  obtain ⟨rfl, J, h4, h5, h6⟩ := h3
  exact ⟨h2, J, h4, h5, h6⟩
theorem TyOk.array (hI : TyOk P tab t I) {e n : Nat} (h : I.ty = .arr n e) : P.underlying t = some (.array n e) ∧ ∃ J, tab[e]? = some J ∧ I.sh = .arr J.sh n ∧ J.sh.size ≠ 0 ∧ known tab e = true := by
  obtain ⟨i, d, h1, h2, _, _, _, _, h3⟩ := hI.info
  rw [h] at h3
  cases d <;> cases hsh : I.sh <;> rw [hsh] at h3 <;> simp at h3
  obtain ⟨rfl, rfl, rfl, J, h4, h5, h6, h7⟩ := h3
  exact ⟨h2, J, h4, by rw [h5], h6, h7⟩
theorem fieldPlace_run {f : Field} {i : TypeInfo} (h : P.info? f.type = some i) (hs : i.size ≠ 0) (b o : Nat) (w : World) : (fieldPlace ⟨b, o, none⟩ f).run P w = .ok ⟨b, o + f.offset, none⟩ w := by
  unfold fieldPlace
  simp only [Sem.run_bind, sizeOf_run h, Result.andThen, hs, if_false, Sem.run_pure, addr_add]
theorem oFieldAddr_sound (hP : tabOk P tab 0 tab = true) (hI : TyOk P tab t I) {fs : List (TypeId × Nat)} (hfs : I.ty = .struct fs) {l : List Sh} (hl : I.sh = .agg l) {k : Nat} {s : Sh} (hk : l[k]? = some s)
    {x v : AV} {vx : Value} (h : oFieldAddr I.sh s k x = some v) (hx : Rs w S T x vx) :
    ∃ vz, (Instr.fieldAt t vx k).run P w = .ok vz w ∧ Rs w S T v vz := by
  obtain ⟨gs, hu, hok, _⟩ := hI.struct hfs hl
  obtain ⟨ft, f, J, a1, a2, a3, a4, a5, a6, a7, a8⟩ := fieldsOk_get hok hk
  have hJ := tyOk hP a6 a8
  obtain ⟨i, d, b1, b2, b3, _⟩ := hJ.info
  have hsz : i.size ≠ 0 := by rw [b3, a7]; exact a5
  have hg : gs[k]? = some f := by rw [← Array.getElem?_toList]; exact a2
  have hrun : ∀ b o, (Instr.fieldAt t (.pointer (some ⟨b, o, none⟩)) k).run P w = .ok (.pointer (some ⟨b, o + f.offset, none⟩)) w := by
    intro b o
    unfold Instr.fieldAt
    simp only [Sem.run_bind, underlying_run hu, Result.andThen, hg, sureAddr_run]
    rw [← a3] at b1
    rw [fieldPlace_run b1 hsz]
    rfl
  unfold oFieldAddr at h
  split at h
  · rename_i s' id n p
    cases hc : Sh.eqb s' I.sh with
    | false => rw [hc] at h; simp at h
    | true =>
      rw [hc] at h
      have he := Sh.eq_of_eqb hc
      subst he
      simp only [cond_true, Option.some.injEq] at h
      subst h
      obtain ⟨h1, h2⟩ := hx
      rw [cells_one h1, Rv] at h2
      obtain ⟨a, e, h3, h4, h5, h6⟩ := h2
      simp only [List.cons.injEq, and_true] at h3
      subst h3
      by_cases hn : e.n = n
      · obtain ⟨b, o, k1, k2, k3, rfl⟩ := h6 hn
        refine ⟨_, hrun b o, rfl, ?_⟩
        rw [Rv]
        refine ⟨_, e, rfl, h4, h5, fun _ => ⟨b, _, k1, ?_, ?_, rfl⟩⟩
        · rw [Sh.nav_append p [k] _ _ k2, hl]; simp [Sh.nav, hk]
        · rw [Sh.off_append p [k] _ _ o k2 k3, hl]; simp [Sh.off, hk, a4]
      · -- a stale one: an address of the run's own
        have : ∃ vz, (Instr.fieldAt t (.pointer (some a)) k).run P w = .ok (.pointer (some vz)) w := by
          unfold Instr.fieldAt
          simp only [Sem.run_bind, underlying_run hu, Result.andThen, hg, sureAddr_run]
          unfold fieldPlace
          rw [← a3] at b1
          simp only [Sem.run_bind, sizeOf_run b1, Result.andThen, hsz, if_false, Sem.run_pure]
          exact ⟨_, rfl⟩
        obtain ⟨vz, hz⟩ := this
        refine ⟨_, hz, rfl, ?_⟩
        rw [Rv]
        exact ⟨_, e, rfl, h4, h5, fun hq => absurd hq hn⟩
  · rename_i s' ds
    cases hc : Sh.eqb s' I.sh with
    | false => rw [hc] at h; simp at h
    | true =>
      rw [hc] at h
      have he := Sh.eq_of_eqb hc
      subst he
      simp only [cond_true, Option.map_eq_some_iff] at h
      obtain ⟨d', hd', rfl⟩ := h
      obtain ⟨h1, h2⟩ := hx
      rw [cells_one h1, Rv, Rd] at h2
      obtain ⟨b, o, r, h3, h4, h5, h6, h7⟩ := h2
      simp only [List.cons.injEq, and_true] at h3
      subst h3
      refine ⟨_, hrun b o, rfl, ?_⟩
      rw [hl, D.shape] at h5
      simp only [Sh.agg.injEq] at h5
      rw [Rd] at h7
      obtain ⟨g1, g2⟩ := RdL.get h7 hd'
      have hds : d'.shape = s := by
        have := D.shapeL_get hd'
        rw [h5, hk] at this
        simpa using this.symm
      rw [h5, hds] at g1 g2
      show Rv w S T _ [_]
      rw [Rv, Rd]
      refine ⟨b, _, _, rfl, h4, hds, ?_, g1⟩
      rw [a4, Nat.zero_add]
      unfold row at h6 ⊢
      split at h6
      · rename_i c t' f' hb
        split at h6
        · rename_i hle
          simp only [Option.some.injEq] at h6
          have hlr : r.length = I.sh.size := by rw [← h6]; simp; omega
          rw [hlr] at g2
          rw [if_pos (by omega), ← h6, List.drop_take, List.take_take, List.drop_drop, show min s.size (I.sh.size - Sh.sizeL (l.take k)) = s.size by omega]
        · simp at h6
      · simp at h6
  · simp at h
end
end Go.AX

namespace Go.AX
theorem seg_length {ds : List D} {off len : Nat} (h : off + len ≤ ds.length) : (seg ds off len).length = len := by
  unfold seg
  cases hc : (Nat.beq off 0 && Nat.beq len ds.length) with
  | false => simp; omega
  | true =>
    simp only [Bool.and_eq_true] at hc
    have := Nat.eq_of_beq_eq_true hc.2
    simp [this]
theorem seg_eq {ds : List D} {off len : Nat} : seg ds off len = (ds.drop off).take len := by
  unfold seg
  cases hc : (Nat.beq off 0 && Nat.beq len ds.length) with
  | false => rfl
  | true =>
    simp only [Bool.and_eq_true] at hc
    have h1 := Nat.eq_of_beq_eq_true hc.1
    have h2 := Nat.eq_of_beq_eq_true hc.2
    subst h1; subst h2
    simp
theorem seg_mem {ds : List D} {off len : Nat} {d : D} (h : d ∈ seg ds off len) : d ∈ ds := by
  rw [seg_eq] at h
  exact List.mem_of_mem_drop (List.mem_of_mem_take h)
theorem sizeL_all (sh : Sh) {ds : List D} (h : ∀ d ∈ ds, d.shape = sh) : Sh.sizeL (D.shapeL ds) = ds.length * sh.size := by
  have h1 := sizeL_same sh (D.shapeL ds) ds.length (shapeL_all h) (by rw [D.shapeL_eq]; simp)
  rwa [List.take_of_length_le (by rw [D.shapeL_eq]; simp)] at h1
theorem RdL.seg {w : World} {S : Nat → Prop} {sh : Sh} : ∀ {ds : List D} {cs : List Value} {off len : Nat}, RdL w S ds cs → (∀ d ∈ ds, d.shape = sh) → off + len ≤ ds.length →
    RdL w S ((ds.drop off).take len) ((cs.drop (off * sh.size)).take (len * sh.size))
  | [], cs, off, len, h, _, hl => by
    simp at hl
    simp [hl.1, hl.2, RdL]
  | d :: ds, cs, 0, 0, h, _, _ => by simp [RdL]
  | d :: ds, cs, 0, len + 1, h, hs, hl => by
    rw [RdL] at h
    obtain ⟨c1, c2, rfl, h1, h2⟩ := h
    have hl1 := Rd.length h1
    rw [hs d (List.mem_cons_self ..)] at hl1
    have ih := RdL.seg (off := 0) (len := len) h2 (fun x hx => hs x (List.mem_cons_of_mem _ hx)) (by simp at hl ⊢; omega)
    simp only [List.drop_zero, List.take_succ_cons, Nat.zero_mul] at ih ⊢
    rw [RdL]
    refine ⟨c1, c2.take (len * sh.size), ?_, h1, ih⟩
    rw [Nat.succ_mul, Nat.add_comm, ← hl1, List.take_length_add_append]
  | d :: ds, cs, off + 1, len, h, hs, hl => by
    rw [RdL] at h
    obtain ⟨c1, c2, rfl, h1, h2⟩ := h
    have hl1 := Rd.length h1
    rw [hs d (List.mem_cons_self ..)] at hl1
    have ih := RdL.seg (off := off) (len := len) h2 (fun x hx => hs x (List.mem_cons_of_mem _ hx)) (by simp at hl ⊢; omega)
    have e1 : (c1 ++ c2).drop ((off + 1) * sh.size) = c2.drop (off * sh.size) := by
      rw [Nat.succ_mul, Nat.add_comm (off * sh.size)]
      conv => lhs; rw [← hl1, List.drop_length_add_append]
      rw [hl1]
    rw [List.drop_succ_cons, e1]
    exact ih
theorem row_sub {w : World} {b o n : Nat} {r : List Value} (h : row w b o n = some r) {k l : Nat} (hk : k + l ≤ n) : row w b (o + k) l = some ((r.drop k).take l) := by
  unfold row at h ⊢
  split at h
  · rename_i c t f hb
    split at h
    · rename_i hle
      simp only [Option.some.injEq] at h
      rw [if_pos (by omega), ← h, List.drop_take, List.take_take, List.drop_drop, show min l (n - k) = l by omega]
    · simp at h
  · simp at h
theorem row_length {w : World} {b o n : Nat} {r : List Value} (h : row w b o n = some r) : r.length = n := by
  unfold row at h
  split at h
  · split at h
    · simp only [Option.some.injEq] at h
      rw [← h]; simp; omega
    · simp at h
  · simp at h
def SlcAt (w : World) (S : Nat → Prop) (sh : Sh) (ds : List D) (u : Value) : Prop :=
  ∃ a cap, u = .slice a ds.length cap ∧ ds.length ≤ cap ∧ (∀ d ∈ ds, d.shape = sh) ∧ (ds = [] ∨ ∃ b o r, a = some ⟨b, o, none⟩ ∧ row w b o (ds.length * sh.size) = some r ∧ RdL w S ds r)
section
variable {P : Program} {tab : Tab} {t : TypeId} {I : TyI} {w : World} {S : Nat → Prop} {T : Nat → Option Ent} {m : List (Option Nat)} {σ : Store}
theorem Rs.slc {sh : Sh} {ds : List D} {u : Value} (h : Rs w S T (.dat (.slc sh ds)) u) : ∃ a cap, u = .slice a ds.length cap ∧ ds.length ≤ cap ∧ (∀ d ∈ ds, d.shape = sh) ∧
    (ds = [] ∨ ∃ b o r, a = some ⟨b, o, none⟩ ∧ S b ∧ row w b o (ds.length * sh.size) = some r ∧ RdL w S ds r) := by
  obtain ⟨h1, h2⟩ := h
  rw [cells_one h1, Rv, Rd] at h2
  obtain ⟨a, cap, h3, h4⟩ := h2
  simp only [List.cons.injEq, and_true] at h3
  exact ⟨a, cap, h3, h4⟩
theorem Rs.fslc {sh : Sh} {ds : List D} {u : Value} (h : Rs w S T (.fslc sh ds) u) : Rs w S T (.dat (.slc sh ds)) u ∧ ∃ a n, u = .slice a n n := by
  obtain ⟨h1, h2⟩ := h
  rw [cells_one h1, Rv] at h2
  obtain ⟨h3, a, n, h4⟩ := h2
  simp only [List.cons.injEq, and_true] at h4
  refine ⟨⟨by rw [h1]; rfl, ?_⟩, a, n, h4⟩
  rw [cells_one h1, Rv]; exact h3
theorem Rs.of_slc {sh : Sh} {ds : List D} {a : Option Addr} {cap : Nat} (h1 : ds.length ≤ cap) (h2 : ∀ d ∈ ds, d.shape = sh)
    (h3 : ds = [] ∨ ∃ b o r, a = some ⟨b, o, none⟩ ∧ S b ∧ row w b o (ds.length * sh.size) = some r ∧ RdL w S ds r) : Rs w S T (.dat (.slc sh ds)) (.slice a ds.length cap) :=
  ⟨rfl, by rw [Rv, Rd]; exact ⟨a, cap, rfl, h1, h2, h3⟩⟩
theorem Rs.of_fslc {sh : Sh} {ds : List D} {a : Option Addr} (h2 : ∀ d ∈ ds, d.shape = sh)
    (h3 : ds = [] ∨ ∃ b o r, a = some ⟨b, o, none⟩ ∧ S b ∧ row w b o (ds.length * sh.size) = some r ∧ RdL w S ds r) : Rs w S T (.fslc sh ds) (.slice a ds.length ds.length) :=
  ⟨rfl, by rw [Rv, Rd]; exact ⟨⟨a, ds.length, rfl, Nat.le_refl _, h2, h3⟩, a, _, rfl⟩⟩
theorem Rs.sref {sh : Sh} {id n : Nat} {p : List Nat} {off len : Nat} {u : Value} (h : Rs w S T (.sref sh id n p off len) u) :
    ∃ a cap e, u = .slice a len cap ∧ (len ≤ cap ∧ (len = 0 ∨ a.isSome = true)) ∧ T id = some e ∧ n ≤ e.n ∧ (e.n = n → SrefOk w e sh p off len a cap) := by
  obtain ⟨h1, h2⟩ := h
  rw [cells_one h1, Rv] at h2
  obtain ⟨a, cap, e, h3, h4⟩ := h2
  simp only [List.cons.injEq, and_true] at h3
  exact ⟨a, cap, e, h3, h4⟩
theorem Rs.ptr {sh : Sh} {id n : Nat} {p : List Nat} {u : Value} (h : Rs w S T (.ptr sh id n p) u) :
    ∃ a e, u = .pointer (some a) ∧ T id = some e ∧ n ≤ e.n ∧ (e.n = n → ∃ b o, e.blk = some b ∧ Sh.nav p e.sh = some sh ∧ Sh.off p e.sh = some o ∧ a = ⟨b, o, none⟩) := by
  obtain ⟨h1, h2⟩ := h
  rw [cells_one h1, Rv] at h2
  obtain ⟨a, e, h3, h4⟩ := h2
  simp only [List.cons.injEq, and_true] at h3
  exact ⟨a, e, h3, h4⟩
theorem Rs.vptr {sh : Sh} {d : D} {u : Value} (h : Rs w S T (.dat (.vptr sh d)) u) : ∃ b o r, u = .pointer (some ⟨b, o, none⟩) ∧ S b ∧ d.shape = sh ∧ row w b o sh.size = some r ∧ Rd w S d r := by
  obtain ⟨h1, h2⟩ := h
  rw [cells_one h1, Rv, Rd] at h2
  obtain ⟨b, o, r, h3, h4⟩ := h2
  simp only [List.cons.injEq, and_true] at h3
  exact ⟨b, o, r, h3, h4⟩
theorem indexAt_slice_run {e : TypeId} {i : TypeInfo} (hu : P.underlying t = some (.slice e)) (hi : P.info? e = some i) {a : Addr} {len cap : Nat} {k : IntKind} {n : Int} (h0 : 0 ≤ n) (h1 : n < len) (w : World) :
    (Instr.indexAt t (.slice (some a) len cap) (.int k n)).run P w = .ok (.pointer (some (a.add (n.toNat * i.size)))) w := by
  unfold Instr.indexAt
  simp only [asIntOf, Sem.run_bind, Sem.run_pure, underlying_run hu, Result.andThen, sizeOf_run hi, h0, h1, and_self, if_true]
theorem indexAt_arr_run {e N : Nat} {i : TypeInfo} (hu : P.underlying t = some (.array N e)) (hi : P.info? e = some i) {a : Addr} {k : IntKind} {n : Int} (h0 : 0 ≤ n) (h1 : n < N) (w : World) :
    (Instr.indexAt t (.pointer (some a)) (.int k n)).run P w = .ok (.pointer (some (a.add (n.toNat * i.size)))) w := by
  unfold Instr.indexAt
  simp only [asIntOf, Instr.sureAddr, Sem.run_bind, Sem.run_pure, underlying_run hu, Result.andThen, sizeOf_run hi, h0, h1, and_self, if_true]
theorem TyOk.of_tab {J : TyI} {e : TypeId} (hP : tabOk P tab 0 tab = true) (hJ : tab[e]? = some J) (hk : known tab e = true) : ∃ i, P.info? e = some i ∧ i.size = J.sh.size ∧ i.bytes = J.bytes := by
  obtain ⟨i, d, h1, h2, h3, h4, _⟩ := (tyOk hP hJ hk).info
  exact ⟨i, h1, h3, h4⟩
theorem oIndexAddr_sound (hP : tabOk P tab 0 tab = true) (hI : TyOk P tab t I) {e : TypeId} {J : TyI} (hty : I.ty = .slc e) (hJ : tab[e]? = some J) {x y v : AV} {vx vy : Value}
    (h : oIndexAddr J.sh x y = some v) (hx : Rs w S T x vx) (hy : Rs w S T y vy) :
    ∃ vz, (Instr.indexAt t vx vy).run P w = .ok vz w ∧ Rs w S T v vz := by
  obtain ⟨hu, J', hJ', hsz, hkn⟩ := hI.slice hty
  rw [hJ] at hJ'; simp only [Option.some.injEq] at hJ'; subst hJ'
  obtain ⟨i, b1, b3, _⟩ := TyOk.of_tab hP hJ hkn
  unfold oIndexAddr at h
  simp only [Option.bind_eq_some_iff] at h
  obtain ⟨k, hk, h⟩ := h
  obtain ⟨kk, rfl, rfl⟩ := asI_sound hk hy
  cases h0 : decide (0 ≤ k) with
  | false => rw [h0] at h; simp at h
  | true =>
    rw [h0] at h
    simp only [decide_eq_true_eq] at h0
    simp only [cond_true] at h
    have slcCase : ∀ (s : Sh) (ds : List D), Rs w S T (.dat (.slc s ds)) vx → (bif Sh.eqb s J.sh then (ds[k.toNat]?).map fun d => AV.dat (.vptr J.sh d) else none) = some v →
        ∃ vz, (Instr.indexAt t vx (.int kk k)).run P w = .ok vz w ∧ Rs w S T v vz := by
      intro s ds hr h
      cases hc : Sh.eqb s J.sh with
      | false => rw [hc] at h; simp at h
      | true =>
        rw [hc] at h
        have := Sh.eq_of_eqb hc; subst this
        simp only [cond_true, Option.map_eq_some_iff] at h
        obtain ⟨d, hd, rfl⟩ := h
        obtain ⟨a, cap, rfl, g1, g2, g3⟩ := hr.slc
        have hlt : k.toNat < ds.length := (List.getElem?_eq_some_iff.1 hd).1
        rcases g3 with g3 | ⟨b, o, r, rfl, g4, g5, g6⟩
        · subst g3; simp at hlt
        · refine ⟨_, indexAt_slice_run hu b1 h0 (by omega) w, rfl, ?_⟩
          rw [addr_add]
          show Rv w S T _ [_]
          rw [Rv, Rd]
          obtain ⟨q1, q2⟩ := RdL.get g6 hd
          have hds := g2 d (List.mem_of_getElem? hd)
          rw [sizeL_same J.sh _ k.toNat (shapeL_all g2) (by rw [D.shapeL_eq]; simp; omega), hds] at q1 q2
          refine ⟨b, _, _, rfl, g4, hds, ?_, q1⟩
          rw [b3]
          have hl := row_length g5
          exact row_sub g5 (by rw [hl] at q2; exact q2)
    split at h
    · exact slcCase _ _ hx h
    · exact slcCase _ _ hx.fslc.1 h
    · rename_i s id n p off len
      cases hc : (Sh.eqb s J.sh && decide (k < len)) with
      | false => rw [hc] at h; simp at h
      | true =>
        rw [hc] at h
        simp only [Bool.and_eq_true, decide_eq_true_eq] at hc
        have := Sh.eq_of_eqb hc.1; subst this
        simp only [cond_true, Option.some.injEq] at h
        subst h
        obtain ⟨a, cap, e', rfl, ⟨g0, g1⟩, g2, g3, g4⟩ := hx.sref
        have ha : a.isSome = true := by
          rcases g1 with g1 | g1
          · omega
          · exact g1
        obtain ⟨ad, rfl⟩ := Option.isSome_iff_exists.1 ha
        refine ⟨_, indexAt_slice_run hu b1 h0 (by omega) w, rfl, ?_⟩
        show Rv w S T _ [_]
        rw [Rv]
        refine ⟨_, e', rfl, g2, g3, fun hn => ?_⟩
        obtain ⟨N, k1, k2, k3, k4⟩ := g4 hn
        cases hb : e'.blk with
        | none => rw [hb] at k4; simp only at k4; omega
        | some b =>
          rw [hb] at k4
          obtain ⟨o, c, t', f, l1, l2, l3, l4⟩ := k4
          have had : ad = ⟨b, o + off * J.sh.size, none⟩ := by
            rcases l2 with l2 | l2
            · omega
            · simpa using l2
          subst had
          refine ⟨b, o + (off + k.toNat) * J.sh.size, rfl, ?_, ?_, ?_⟩
          · rw [Sh.nav_append p _ _ _ k1]; rfl
          · rw [Sh.off_append p _ _ _ o k1 l1]; simp [Sh.off]
          · rw [addr_add, b3, Nat.add_mul, Nat.add_assoc]
    · simp at h
theorem oIndexAddrA_sound (hP : tabOk P tab 0 tab = true) (hI : TyOk P tab t I) {e N : Nat} {J : TyI} (hty : I.ty = .arr N e) (hJ : tab[e]? = some J) {x y v : AV} {vx vy : Value}
    (h : oIndexAddrA J.sh N x y = some v) (hx : Rs w S T x vx) (hy : Rs w S T y vy) :
    ∃ vz, (Instr.indexAt t vx vy).run P w = .ok vz w ∧ Rs w S T v vz := by
  obtain ⟨hu, J', hJ', hsh, hsz, hkn⟩ := hI.array hty
  rw [hJ] at hJ'; simp only [Option.some.injEq] at hJ'; subst hJ'
  obtain ⟨i, b1, b3, _⟩ := TyOk.of_tab hP hJ hkn
  unfold oIndexAddrA at h
  simp only [Option.bind_eq_some_iff] at h
  obtain ⟨k, hk, h⟩ := h
  obtain ⟨kk, rfl, rfl⟩ := asI_sound hk hy
  cases h0 : (decide (0 ≤ k) && decide (k < N)) with
  | false => rw [h0] at h; simp at h
  | true =>
    rw [h0] at h
    simp only [Bool.and_eq_true, decide_eq_true_eq] at h0
    simp only [cond_true] at h
    split at h
    · rename_i s id n p
      cases hc : Sh.eqb s (.arr J.sh N) with
      | false => rw [hc] at h; simp at h
      | true =>
        rw [hc] at h
        have := Sh.eq_of_eqb hc; subst this
        simp only [cond_true, Option.some.injEq] at h
        subst h
        obtain ⟨a, e', rfl, g2, g3, g4⟩ := hx.ptr
        refine ⟨_, indexAt_arr_run hu b1 h0.1 h0.2 w, rfl, ?_⟩
        show Rv w S T _ [_]
        rw [Rv]
        refine ⟨_, e', rfl, g2, g3, fun hn => ?_⟩
        obtain ⟨b, o, k1, k2, k3, rfl⟩ := g4 hn
        refine ⟨b, o + k.toNat * J.sh.size, k1, ?_, ?_, ?_⟩
        · rw [Sh.nav_append p _ _ _ k2]; rfl
        · rw [Sh.off_append p _ _ _ o k2 k3]; simp [Sh.off]
        · rw [addr_add, b3]
    · rename_i s s' ds
      cases hc : Sh.eqb s (.arr J.sh N) with
      | false => rw [hc] at h; simp at h
      | true =>
        rw [hc] at h
        have := Sh.eq_of_eqb hc; subst this
        simp only [cond_true, Option.map_eq_some_iff] at h
        obtain ⟨d, hd, rfl⟩ := h
        obtain ⟨b, o, r, rfl, g4, g5, g6, g7⟩ := hx.vptr
        have hlt : k.toNat < ds.length := (List.getElem?_eq_some_iff.1 hd).1
        rw [D.shape] at g5
        simp only [Sh.arr.injEq] at g5
        obtain ⟨rfl, hdl⟩ := g5
        rw [Rd] at g7
        refine ⟨_, indexAt_arr_run hu b1 h0.1 h0.2 w, rfl, ?_⟩
        rw [addr_add]
        show Rv w S T _ [_]
        rw [Rv, Rd]
        obtain ⟨q1, q2⟩ := RdL.get g7.1 hd
        have hds := g7.2 d (List.mem_of_getElem? hd)
        rw [sizeL_same _ _ k.toNat (shapeL_all g7.2) (by rw [D.shapeL_eq]; simp; omega), hds] at q1 q2
        refine ⟨b, _, _, rfl, g4, hds, ?_, q1⟩
        rw [b3]
        have hl := row_length g6
        exact row_sub g6 (by rw [hl] at q2; exact q2)
    · simp at h
theorem seg_all {sh : Sh} {ds : List D} {off len : Nat} (h : ∀ d ∈ ds, d.shape = sh) : ∀ d ∈ seg ds off len, d.shape = sh := fun d hd => h d (seg_mem hd)
theorem seg_row {sh : Sh} {ds : List D} {l n : Nat} {b o : Nat} {r : List Value} (hr : row w b o (ds.length * sh.size) = some r) (hd : RdL w S ds r) (hs : ∀ d ∈ ds, d.shape = sh) (hl : l + n ≤ ds.length) :
    ∃ r', row w b (o + l * sh.size) ((seg ds l n).length * sh.size) = some r' ∧ RdL w S (seg ds l n) r' := by
  refine ⟨_, ?_, by rw [seg_eq]; exact RdL.seg hd hs hl⟩
  rw [seg_length hl]
  refine row_sub hr ?_
  rw [← Nat.add_mul]; exact Nat.mul_le_mul_right _ hl
theorem arr_place (hi : Inv w S m σ) {id : Nat} {B : Blk} {s : Sh} {p : List Nat} {off len : Nat} {a : Option Addr} {cap : Nat} {e : Ent} (hB : σ[id]? = some B) (hT : tbl m σ id = some e) (hn : e.n = B.n)
    (hs : SrefOk w e s p off len a cap) {s' : Sh} {ds : List D} (hv : B.v.nav p = some (.dat (.arr s' ds))) :
    s' = s ∧ off + len ≤ ds.length ∧ (∀ d ∈ ds, d.shape = s) ∧ (len = 0 ∨ ∃ b o r, m[id]? = some (some b) ∧ a = some ⟨b, o + off * s.size, none⟩ ∧ row w b o (ds.length * s.size) = some r ∧ RdL w S ds r ∧ (B.frz = true → S b)) := by
  obtain ⟨g1, g2, g3, g4⟩ := tbl_get hT hB
  obtain ⟨N, k1, k2, k3, k4⟩ := hs
  have hb := hi.blk id B hB
  rw [List.getD_eq_getElem?_getD, g1] at hb
  cases hblk : e.blk with
  | none =>
    rw [hblk] at hb k4
    simp only at k4
    obtain ⟨q1, s0, q2, q3⟩ := hb
    rw [q3] at hv
    cases p with
    | nil =>
      simp only [AV.nav, Option.some.injEq, AV.dat.injEq, D.arr.injEq] at hv
      obtain ⟨rfl, rfl⟩ := hv
      rw [g2, q2] at k1
      simp only [Sh.nav, Option.some.injEq, Sh.arr.injEq] at k1
      rw [g3, q1] at k3
      simp only [List.isEmpty_nil, Bool.and_self, cond_true] at k3
      have : e.n = 0 := by rw [g4, Blk.n, q1, q3]; rfl
      refine ⟨k1.1, by simp; omega, by simp, .inl (by omega)⟩
    | cons k p => simp [AV.nav, D.nav] at hv
  | some b =>
    rw [hblk] at hb k4 g1
    obtain ⟨c, t, f, l1, l2, l3, l4, l5⟩ := BlkOk.cel hb (.inr (.inr ⟨p, s', ds, hv⟩))
    obtain ⟨o, c', t', f', j1, j2, j3, j4⟩ := k4
    by_cases hdp : (B.dyn && p.isEmpty) = true
    · simp only [Bool.and_eq_true, List.isEmpty_iff] at hdp
      obtain ⟨hdy, rfl⟩ := hdp
      obtain ⟨s0, ds0, q1, q2, q3, q4⟩ := l4 hdy
      rw [q2] at hv
      simp only [AV.nav, Option.some.injEq, AV.dat.injEq, D.arr.injEq] at hv
      obtain ⟨rfl, rfl⟩ := hv
      rw [g2, q1] at k1 j1
      simp only [Sh.nav, Option.some.injEq, Sh.arr.injEq] at k1
      simp only [Sh.off, Option.some.injEq] at j1
      obtain ⟨rfl, rfl⟩ := k1
      subst j1
      rw [g3, hdy] at k3
      simp only [List.isEmpty_nil, Bool.and_self, cond_true] at k3
      have hen : e.n = ds0.length := by rw [g4, Blk.n, hdy, q2]; rfl
      rw [Rd] at q4
      refine ⟨rfl, by omega, q4.2, ?_⟩
      by_cases hl : len = 0
      · exact .inl hl
      · refine .inr ⟨b, 0, _, g1, ?_, row_of l1 (by omega), by simpa using q4.1, l2⟩
        rcases j2 with j2 | j2
        · omega
        · exact j2
    · have hdp : (B.dyn && p.isEmpty) = false := by simpa using hdp
      rw [g2] at k1 j1
      obtain ⟨q1, q2, q3⟩ := nav_place (T := tbl m σ) l4 l5 hdp hv j1 k1
      rw [AV.shape, D.shape] at q1
      simp only [Sh.arr.injEq] at q1
      obtain ⟨rfl, rfl⟩ := q1
      rw [g3] at k3
      rw [hdp] at k3
      simp only [cond_false] at k3
      rw [Rv, Rd] at q3
      refine ⟨rfl, k3, q3.2, ?_⟩
      by_cases hl : len = 0
      · exact .inl hl
      · refine .inr ⟨b, o, _, g1, ?_, row_of l1 q2, q3.1, l2⟩
        rcases j2 with j2 | j2
        · omega
        · exact j2
theorem elems_sound (hi : Inv w S m σ) {x : AV} {vx : Value} {ds : List D} (h : elems x σ = some ds) (hx : Rs w S (tbl m σ) x vx) :
    (∃ s, x = .dat (.str s) ∧ ds = bytesD s) ∨ ∃ sh, SlcAt w S sh ds vx ∧ slcSh x = some sh := by
  unfold elems at h
  split at h
  · rename_i s ds'
    simp only [Option.some.injEq] at h; subst h
    obtain ⟨a, cap, h1, h2, h3, h4⟩ := hx.slc
    refine .inr ⟨s, ⟨a, cap, h1, h2, h3, ?_⟩, rfl⟩
    rcases h4 with h4 | ⟨b, o, r, g1, g2, g3, g4⟩
    · exact .inl h4
    · exact .inr ⟨b, o, r, g1, g3, g4⟩
  · rename_i s ds'
    simp only [Option.some.injEq] at h; subst h
    obtain ⟨a, cap, h1, h2, h3, h4⟩ := hx.fslc.1.slc
    refine .inr ⟨s, ⟨a, cap, h1, h2, h3, ?_⟩, rfl⟩
    rcases h4 with h4 | ⟨b, o, r, g1, g2, g3, g4⟩
    · exact .inl h4
    · exact .inr ⟨b, o, r, g1, g3, g4⟩
  · rename_i s id n p off len
    split at h
    · rename_i B hB
      cases hc : Nat.beq B.n n with
      | false => rw [hc] at h; simp at h
      | true =>
        rw [hc] at h
        have := Nat.eq_of_beq_eq_true hc; subst this
        simp only [cond_true] at h
        split at h
        · rename_i s' ds' hv
          simp only [Option.some.injEq] at h; subst h
          obtain ⟨a, cap, e, rfl, ⟨g0, g1⟩, g2, g3, g4⟩ := hx.sref
          obtain ⟨_, _, _, hen⟩ := tbl_get g2 hB
          obtain ⟨rfl, k2, k3, k4⟩ := arr_place hi hB g2 hen (g4 hen) hv
          have hsl := seg_length k2
          refine .inr ⟨s', ⟨a, cap, by rw [hsl], by rw [hsl]; exact g0, fun d hd => k3 d (seg_mem hd), ?_⟩, rfl⟩
          rcases k4 with k4 | ⟨b, o, r, l1, l2, l3, l4, _⟩
          · left; exact List.eq_nil_of_length_eq_zero (by rw [hsl, k4])
          · right
            obtain ⟨r', j1, j2⟩ := seg_row (l := off) (n := len) l3 l4 k3 k2
            exact ⟨b, _, r', l2, j1, j2⟩
        · simp at h
    · simp at h
  · rename_i s
    simp only [Option.some.injEq] at h; subst h
    exact .inl ⟨s, rfl, rfl⟩
  · simp at h
theorem oLen_sound {x v : AV} {vx : Value} (h : oLen x = some v) (hx : Rs w S T x vx) : ∃ n : Nat, v = aInt n ∧ ((∃ a cap, vx = .slice a n cap) ∨ ∃ s, vx = .string s ∧ s.size = n) := by
  unfold oLen at h
  split at h <;> simp at h <;> subst h
  · obtain ⟨a, cap, rfl, _⟩ := hx.slc
    exact ⟨_, rfl, .inl ⟨a, cap, rfl⟩⟩
  · obtain ⟨a, cap, rfl, _⟩ := hx.fslc.1.slc
    exact ⟨_, rfl, .inl ⟨a, cap, rfl⟩⟩
  · obtain ⟨a, cap, e, rfl, _⟩ := hx.sref
    exact ⟨_, rfl, .inl ⟨a, cap, rfl⟩⟩
  · rw [hx.str]
    exact ⟨_, rfl, .inr ⟨_, rfl, rfl⟩⟩
end
end Go.AX
