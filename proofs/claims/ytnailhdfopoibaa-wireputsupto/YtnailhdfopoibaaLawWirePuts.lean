/- WirePuts returns true, and leaves what it was handed as it was: for all arguments of bulk at most 1048576. -/
import Derived.Test.YtnailhdfopoibaaRows
import Derived.Test.YtnailhdfopoibaaH
import Derived.Test.YtnailhdfopoibaaAx27
import Derived.WalkKit
import Derived.ProofKit
import Derived.OpenShut
import Derived.JoinedCond
import Derived.ShutString
import Derived.ChangeOld
namespace Go.Proofs.Ytnailhdfopoibaa.wirePuts
open Go.ChangeShapes Go.WideShapes Go.ChangeAt Go.RowKit Go.AX
open Go.ChangeMaps (open_string shut_string)

theorem own : ownKnob Try.prog.godebug = none := by kernel_rfl
theorem laidOut : laidOutB Try.prog = true := by kernel_rfl

/-- Bytes, in their bounds. -/
def okB : D → Bool
  | .int .u8 n => decide (0 ≤ n) && decide (n ≤ 255)
  | _ => false
theorem okB_back {ds : List D} (h : ds.all okB = true) : bL (byteVs ds) = ds := by
  unfold bL byteVs
  rw [List.map_map]
  conv => rhs; rw [← List.map_id ds]
  refine List.map_congr_left fun d hd => ?_
  have := List.all_eq_true.1 h d hd
  unfold okB at this
  split at this
  · rename_i n
    simp only [Bool.and_eq_true, decide_eq_true_eq] at this
    show D.int .u8 ((UInt8.ofNat n.toNat).toNat : Int) = D.int .u8 n
    rw [UInt8.toNat_ofNat']
    congr 1
    omega
  · simp at this
theorem okB_of {zs : List Int} (h : ∀ n ∈ zs, (Lit.int .u8 n).wf = true) : (zs.map (D.int .u8)).all okB = true := by
  rw [List.all_eq_true]
  intro d hd
  obtain ⟨z, hz, rfl⟩ := List.mem_map.1 hd
  have hw := h z hz
  simp [Lit.wf, IntKind.min, IntKind.max, IntKind.signed, IntKind.bits] at hw
  unfold okB
  simp only [Bool.and_eq_true, decide_eq_true_eq]
  omega

def S_puts : FunT := fun args σ => match args, σ with
  | [.dat (.slc .one ds), .dat (.int .u64 n), .dat (.int .i64 _), .dat (.str _)], [] =>
    .chk (ds.all okB && decide (IntKind.wrap .u64 n = n) && decide (ds.length + 300 ≤ LIM)) (.leaf ([.dat (.bool true)], []))
  | _, _ => .fail

theorem puts_ok : FunOk Try.prog 3 (FunT.run S_puts) := by
  refine fun_ok (E := envOf tab Sq [] [] []) (fz := true) (fn := Try.f3) (envOf_ok progOk (.cons alive_ok (.cons numZ_ok (.cons rnumZ_ok Sp_ok)))) (by kernel_rfl) (by kernel_rfl) (loops_none (by kernel_rfl)) ?_
  intro args σ r h
  unfold S_puts at h
  split at h
  · rename_i ds n k s
    obtain ⟨hc, h'⟩ := T.chk_some h
    rw [← T.leaf_some h']
    simp only [Bool.and_eq_true, decide_eq_true_eq] at hc
    obtain ⟨⟨h1, h2⟩, h3⟩ := hc
    have hb := okB_back h1
    have := puts_true (byteVs ds) n k s h2 (by rw [← bL_length, hb]; exact h3)
    rw [hb] at this
    exact this
  · simp [T.run_fail] at h

theorem bulk_one {H : Type} (d : DataW H) : 1 ≤ Rows.uptoBulk d := by
  cases d with
  | lit l => cases l <;> simp [Rows.uptoBulk]
  | _ => simp [Rows.uptoBulk]
theorem bulk_len {H : Type} : ∀ l : List (DataW H), l.length ≤ Rows.uptoBulkAll l
  | [] => by simp [Rows.uptoBulkAll]
  | x :: r => by have := bulk_one x; have := bulk_len r; simp only [Rows.uptoBulkAll, List.length_cons]; omega

theorem contract (H : Type) (enc : TypeId × Value → H) (W : World) (base : Nat) (args : Array Value) (ds gs : List (DataW H)) (before : List MemPlace)
    (hval : ∀ (j : Nat) t v, Try.f3.params[j]? = some t → args[j]? = some v → Value.okWide Try.prog W .any base t v)
    (hW : DataW.Whole enc Try.prog Try.f3.params.toList Rows.wirePutsSpec.vars false W args.toList ds gs before) (hk : Rows.uptoSmall H (ds ++ gs) = true) :
    Calls Try.prog 3 args W fun e W' => ∃ v, e = .returned v ∧ Rows.wirePutsSpec.post enc Try.prog Try.f3 false true false false W args v W' := by
  have hW' := hW
  obtain ⟨p, q, hA0, hV, rfl, hfz, hnd⟩ := hW
  have hA : DataW.TrodAll enc Try.prog W 0 (fun _ => true) true Try.f3.params.toList args.toList ds p := hA0
  rw [Try.params3] at hA hval
  obtain ⟨v0, vs0, d0, ds0, p0, q0, hargs, rfl, rfl, h0, r0⟩ := trodAll_cons hA
  obtain ⟨v1, vs1, d1, ds1, p1, q1, rfl, rfl, rfl, h1, r1⟩ := trodAll_cons r0
  obtain ⟨v2, vs2, d2, ds2, p2, q2, rfl, rfl, rfl, h2, r2⟩ := trodAll_cons r1
  obtain ⟨v3, vs3, d3, ds3, p3, q3, rfl, rfl, rfl, h3, r3⟩ := trodAll_cons r2
  obtain ⟨rfl, rfl, rfl⟩ := trodAll_nil r3
  obtain rfl : args = #[v0, v1, v2, v3] := by cases args; simp_all
  obtain ⟨rfl, rfl⟩ := trodVars_none hV
  have k0 := h0
  have lt0 : ∀ x ∈ p0, x.block < W.heap.size := by obtain ⟨m, hm⟩ := k0; exact DataW.trod_lt m _ _ _ hm
  obtain ⟨a1, rfl, rfl, rfl, w1⟩ := open_int Try.underlying23 (hval 1 23 v1 rfl rfl) h1
  obtain ⟨a2, rfl, rfl, rfl, w2⟩ := open_int Try.underlying3 (hval 2 3 v2 rfl rfl) h2
  obtain ⟨a3, rfl, rfl, rfl, w3⟩ := open_string Try.underlying9 (hval 3 9 v3 rfl rfl) h3
  -- the slice
  have hb := of_decide_eq_true hk
  obtain ⟨a0, len0, cap0, rfl⟩ := okWide_slice Try.underlying22 (hval 0 22 v0 rfl rfl)
  obtain ⟨zs, hr0, hwz, hlen⟩ : ∃ zs : List Int, Rd W (all0 W) (.slc .one (zs.map (D.int .u8))) [.slice a0 len0 cap0] ∧ (∀ n ∈ zs, (Lit.int .u8 n).wf = true) ∧ zs.length ≤ 1048576 := by
    obtain ⟨fuel, hf⟩ := h0
    rcases open_ints Try.underlying22 Try.underlying5 (by kernel_rfl) hf with ⟨hcs, _⟩ | ⟨x, l, c, zs, hcs, _, hl, hm, hz, hx, hcell, hwz⟩
    · simp [Value.cells] at hcs
      obtain ⟨rfl, rfl, rfl⟩ := hcs
      exact ⟨[], rd_nil, by simp, by simp⟩
    · simp [Value.cells] at hcs
      obtain ⟨rfl, rfl, rfl⟩ := hcs
      simp only [if_true] at hz
      refine ⟨zs.take len0, rd_ints hl hz hcell, fun n hn => hwz n (List.mem_of_mem_take hn), ?_⟩
      have hd := (Prod.mk.inj hx).1
      subst hd
      simp only [List.cons_append, Rows.uptoBulkAll, Rows.uptoBulk] at hb
      have h1 := bulk_len (H := H) (lits .u8 (zs.take len0))
      have h2 : (lits (H := H) .u8 (zs.take len0)).length = (zs.take len0).length := by simp [lits]
      omega
  clear hA0
  simp only [List.append_nil] at hW'
  have hv : RvVs W (all0 W) (tbl [] []) [.dat (.slc .one (zs.map (D.int .u8))), .dat (.int .u64 a1), .dat (.int .i64 a2), .dat (.str a3)] [.slice a0 len0 cap0, .int .u64 a1, .int .i64 a2, .string a3] :=
    rv_cons rfl hr0 (rv_cons rfl (by show Rd _ _ _ [_]; rw [Rd]) (rv_cons rfl (by show Rd _ _ _ [_]; rw [Rd]) (rv_cons rfl (by show Rd _ _ _ [_]; rw [Rd]) rv_nil)))
  have hrun : FunT.run S_puts [.dat (.slc .one (zs.map (D.int .u8))), .dat (.int .u64 a1), .dat (.int .i64 a2), .dat (.str a3)] [] = some ([.dat (.bool true)], []) := by
    have c1 := okB_of hwz
    have c2 : IntKind.wrap .u64 a1 = a1 := by
      simp [Lit.wf, IntKind.min, IntKind.max, IntKind.signed, IntKind.bits] at w1
      rw [IntKind.wrap_u64]; omega
    have c3 : (zs.map (D.int .u8)).length + 300 ≤ LIM := by rw [List.length_map]; unfold LIM; omega
    show (T.chk _ _).run = _
    rw [c1, decide_eq_true c2, decide_eq_true c3]
    rfl
  refine (calls_true puts_ok (vals := #[.slice a0 len0 cap0, .int .u64 a1, .int .i64 a2, .string a3]) hv hrun).mono fun e W' ⟨he, bel⟩ => ?_
  subst he
  exact ⟨_, rfl, _, _, _, [], _, [], hW', trodAll_mk1 (shut_bool Try.underlying4 _), (trodAll_cons_mk (Below.trod laidOut (by kernel_rfl) (of_decide_eq_true (by kernel_rfl)) k0 bel lt0) (trodAll_cons_mk (shut_int Try.underlying23 w1) (trodAll_cons_mk (shut_int Try.underlying3 w2) (trodAll_cons_mk (shut_string Try.underlying9 w3) trodAll_mk0)))), rfl, bel.frame _, fun h => by cases h⟩

set_option maxRecDepth 100000 in
theorem lifted (os : Os) (started : os.Started) (H : Type) (enc : TypeId × Value → H) (F : Stop.Interp) :
    ReturnsInHanded {} Try.checked os 3 .any ((Rows.OpenSpec.upto Rows.wirePutsSpec).pre6 enc Try.prog Try.f3 Rows.wirePutsUptoRow.domain false) (((Rows.OpenSpec.upto Rows.wirePutsSpec).at F).post enc Try.prog Try.f3 false true false false) := by
  refine returnsInHanded_of_cond (C := Try.checked) (s := Rows.OpenSpec.upto Rows.wirePutsSpec) (k := Rows.uptoSmall) rfl own started (by kernel_rfl) Try.func3
    (OpenSpec.witness (enc := enc) (C := Try.checked) (s := Rows.OpenSpec.upto Rows.wirePutsSpec) (k := Rows.uptoSmall) rfl false ⟨#[], #[.slice none 0 0, .int .u64 0, .int .i64 0, .string ByteArray.empty], []⟩ 8 (by kernel_rfl) (by kernel_rfl) (by kernel_rfl)
      (x := ([.nil, .lit (.int .u64 0), .lit (.int .i64 0), .lit (.string [])], [], [])) (by kernel_rfl) rfl (by kernel_rfl)) ?_
  intro W base args ds gs before hval hW _ hk _
  exact contract H enc W base args ds gs before hval hW hk

theorem over : Rows.wirePutsUptoRow.holds Try.pinned (Rows.OpenSpec.upto Rows.wirePutsSpec) :=
  OpenClaim.holds_of_cond 3 Try.f3 rfl rfl rfl rfl rfl rfl rfl ⟨rfl, rfl, rfl, rfl, rfl⟩ rfl rfl rfl rfl rfl (by kernel_rfl) Try.func3 (by kernel_rfl)
    (of_decide_eq_true (by kernel_rfl)) (by unfold Func.isWrapper; first | (rw [if_pos (by decide +kernel)]; kernel_rfl) | (rw [if_neg (by decide +kernel)]; exact ⟨rfl, rfl⟩))
    (fun os started H enc _ F => lifted os started H enc F)

end Go.Proofs.Ytnailhdfopoibaa.wirePuts
namespace Go.Proofs.Ytnailhdfopoibaa
/-- The row, for the claim. -/
theorem wirePuts_holds : Rows.WirePutsUptoSaid := wirePuts.over
#print axioms wirePuts_holds
end Go.Proofs.Ytnailhdfopoibaa