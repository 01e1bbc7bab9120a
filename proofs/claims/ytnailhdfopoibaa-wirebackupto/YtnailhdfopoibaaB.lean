/- Seat 02: Text, and scans. -/
import Derived.Test.YtnailhdfopoibaaA
namespace Go.Proofs.Ytnailhdfopoibaa
open Go.AX
set_option maxRecDepth 100000

/-! A scan: what is left, the fault, whether it was made. -/
structure Sc where
  ds : List D
  f : Int
  b : Bool

abbrev shS : Sh := .agg [.one, .one, .one]
def scanB (s : Sc) : Blk := ⟨shS, false, false, .dat (.agg [.slc .one s.ds, .int .i64 s.f, .bool s.b])⟩
abbrev ptrS : AV := .ptr shS 0 0 []

def Sc.fault (s : Sc) : Int := bif s.b then s.f else 11
def Sc.fine (s : Sc) : Bool := s.fault == 0
def Sc.left (s : Sc) : Int := bif s.fine then s.ds.length else 0
def Sc.endI (s : Sc) : Int := bif decide (s.left > 0) then 13 else s.fault
def Sc.rule (s : Sc) (ok : Bool) (e : Int) : Sc := ⟨s.ds, bif !ok && s.fine then e else s.f, s.b⟩
def pos (n : Int) : Int := if 0 > n then 0 else n
/-- What a scan is behind the check that so much is left. -/
def Sc.short (s : Sc) (n : Int) : Sc := s.rule (decide (pos n ≤ s.left)) 12
def Sc.takes (s : Sc) (n : Int) : List D := bif (s.short n).fine then s.ds.take (pos n).toNat else []
def Sc.took (s : Sc) (n : Int) : Sc := bif (s.short n).fine then ⟨s.ds.drop (pos n).toNat, s.f, s.b⟩ else s.short n

theorem Sc.rule_fine {s : Sc} {ok : Bool} {e : Int} (he : e ≠ 0) (h : (s.rule ok e).fine = true) : ok = true ∧ s.fine = true ∧ s.rule ok e = s := by
  cases ok with
  | true => exact ⟨rfl, h, rfl⟩
  | false =>
    exfalso
    unfold Sc.rule at h
    cases hf : s.fine with
    | false =>
      rw [hf] at h
      simp only [Bool.not_false, Bool.and_false, cond_false] at h
      have : s.fine = true := h
      rw [hf] at this; simp at this
    | true =>
      rw [hf] at h
      simp only [Bool.not_false, Bool.and_self, cond_true] at h
      unfold Sc.fine Sc.fault at h
      cases hb : s.b with
      | true => rw [hb] at h; simp [he] at h
      | false => rw [hb] at h; simp at h

theorem Sc.short_fine {s : Sc} {n : Int} (h : (s.short n).fine = true) : s.fine = true ∧ s.short n = s ∧ (pos n).toNat ≤ s.ds.length := by
  obtain ⟨h1, h2, h3⟩ := Sc.rule_fine (by decide) h
  refine ⟨h2, h3, ?_⟩
  simp only [decide_eq_true_eq] at h1
  unfold Sc.left at h1
  rw [h2, cond_true] at h1
  omega

theorem pos_nonneg (n : Int) : 0 ≤ pos n := by unfold pos; omega

/-! Text -/
def textLen (s : ByteArray) : Nat := min s.size 255
def textD (s : ByteArray) : List D := .int .u8 (textLen s) :: bytesD (subStr s 0 (textLen s))

def S_text : FunT := fun args σ => match args, σ with
  | [.dat (.slc .one ds), .dat (.str s)], [] => .chk (fits .one ds && decide (ds.length + 300 ≤ LIM)) (.leaf ([.dat (.slc .one (ds ++ textD s))], []))
  | _, _ => .fail

theorem text_run (ds : List D) (s : ByteArray) : runF (envOf tab [(6, S_num)] [] [] []) true Try.f7 [.dat (.slc .one ds), .dat (.str s)] [] =
  (bif decide ((0 : Int) ≤ if (255 : Int) < (↑(ByteArray.size s) : Int) then (255 : Int) else (↑(ByteArray.size s) : Int)) then 
   (bif decide (Int.toNat (if (255 : Int) < (↑(ByteArray.size s) : Int) then (255 : Int) else (↑(ByteArray.size s) : Int)) ≤ ByteArray.size s) then 
    (bif fits Sh.one ds && true && decide (List.length ds + (8 : Nat) ≤ (35184372088832 : Nat)) then 
     (bif fits Sh.one (bytesD (subStr s (0 : Nat) (Int.toNat (if (255 : Int) < (↑(ByteArray.size s) : Int) then (255 : Int) else (↑(ByteArray.size s) : Int))))) then 
      (bif Nat.beq (List.length (ds ++ [D.int IntKind.u8 (IntKind.wrap IntKind.u64 (↑(ByteArray.size (subStr s (0 : Nat) (Int.toNat (if (255 : Int) < (↑(ByteArray.size s) : Int) then (255 : Int) else (↑(ByteArray.size s) : Int))))) : Int) / (1 : Int) % (256 : Int))])) (List.length (ds ++ [D.int IntKind.u8 (IntKind.wrap IntKind.u64 (↑(ByteArray.size (subStr s (0 : Nat) (Int.toNat (if (255 : Int) < (↑(ByteArray.size s) : Int) then (255 : Int) else (↑(ByteArray.size s) : Int))))) : Int) / (1 : Int) % (256 : Int))])) && true && true && true && true && Nat.beq (List.length (ds ++ [D.int IntKind.u8 (IntKind.wrap IntKind.u64 (↑(ByteArray.size (subStr s (0 : Nat) (Int.toNat (if (255 : Int) < (↑(ByteArray.size s) : Int) then (255 : Int) else (↑(ByteArray.size s) : Int))))) : Int) / (1 : Int) % (256 : Int))])) (List.length (ds ++ [D.int IntKind.u8 (IntKind.wrap IntKind.u64 (↑(ByteArray.size (subStr s (0 : Nat) (Int.toNat (if (255 : Int) < (↑(ByteArray.size s) : Int) then (255 : Int) else (↑(ByteArray.size s) : Int))))) : Int) / (1 : Int) % (256 : Int))])) && true && true && decide ((List.length (ds ++ [D.int IntKind.u8 (IntKind.wrap IntKind.u64 (↑(ByteArray.size (subStr s (0 : Nat) (Int.toNat (if (255 : Int) < (↑(ByteArray.size s) : Int) then (255 : Int) else (↑(ByteArray.size s) : Int))))) : Int) / (1 : Int) % (256 : Int))]) + List.length (bytesD (subStr s (0 : Nat) (Int.toNat (if (255 : Int) < (↑(ByteArray.size s) : Int) then (255 : Int) else (↑(ByteArray.size s) : Int)))))) * (1 : Nat) ≤ (35184372088832 : Nat)) then 
       (bif Nat.beq (List.length (ds ++ [D.int IntKind.u8 (IntKind.wrap IntKind.u64 (↑(ByteArray.size (subStr s (0 : Nat) (Int.toNat (if (255 : Int) < (↑(ByteArray.size s) : Int) then (255 : Int) else (↑(ByteArray.size s) : Int))))) : Int) / (1 : Int) % (256 : Int))] ++ bytesD (subStr s (0 : Nat) (Int.toNat (if (255 : Int) < (↑(ByteArray.size s) : Int) then (255 : Int) else (↑(ByteArray.size s) : Int)))))) (List.length (ds ++ [D.int IntKind.u8 (IntKind.wrap IntKind.u64 (↑(ByteArray.size (subStr s (0 : Nat) (Int.toNat (if (255 : Int) < (↑(ByteArray.size s) : Int) then (255 : Int) else (↑(ByteArray.size s) : Int))))) : Int) / (1 : Int) % (256 : Int))]) + List.length (bytesD (subStr s (0 : Nat) (Int.toNat (if (255 : Int) < (↑(ByteArray.size s) : Int) then (255 : Int) else (↑(ByteArray.size s) : Int)))))) then some ([AV.dat (D.slc Sh.one (seg (ds ++ [D.int IntKind.u8 (IntKind.wrap IntKind.u64 (↑(ByteArray.size (subStr s (0 : Nat) (Int.toNat (if (255 : Int) < (↑(ByteArray.size s) : Int) then (255 : Int) else (↑(ByteArray.size s) : Int))))) : Int) / (1 : Int) % (256 : Int))] ++ bytesD (subStr s (0 : Nat) (Int.toNat (if (255 : Int) < (↑(ByteArray.size s) : Int) then (255 : Int) else (↑(ByteArray.size s) : Int))))) (0 : Nat) (List.length (ds ++ [D.int IntKind.u8 (IntKind.wrap IntKind.u64 (↑(ByteArray.size (subStr s (0 : Nat) (Int.toNat (if (255 : Int) < (↑(ByteArray.size s) : Int) then (255 : Int) else (↑(ByteArray.size s) : Int))))) : Int) / (1 : Int) % (256 : Int))]) + List.length (bytesD (subStr s (0 : Nat) (Int.toNat (if (255 : Int) < (↑(ByteArray.size s) : Int) then (255 : Int) else (↑(ByteArray.size s) : Int))))))))], []) else none) else none) else none) else none) else none) else none) := by kernel_rfl

theorem text_ok : FunOk Try.prog 7 (FunT.run S_text) := by
  refine fun_ok (E := envOf tab [(6, S_num)] [] [] []) (fz := true) (fn := Try.f7) (envOf_ok progOk (.cons num_ok (.nil _))) (by kernel_rfl) (by kernel_rfl) (loops_none (by kernel_rfl)) ?_
  intro args σ r h
  unfold S_text at h
  split at h
  · rename_i ds s
    obtain ⟨hc, h'⟩ := T.chk_some h
    rw [← T.leaf_some h', text_run]
    simp only [Bool.and_eq_true, decide_eq_true_eq] at hc
    obtain ⟨hf, hl⟩ := hc
    unfold LIM at hl
    have e0 : (if (255 : Int) < (s.size : Int) then (255 : Int) else (s.size : Int)) = (textLen s : Int) := by
      unfold textLen; omega
    have e1 : (textLen s : Int).toNat = textLen s := by omega
    have e2 : textLen s ≤ s.size := by unfold textLen; omega
    have e3 : textLen s ≤ 255 := by unfold textLen; omega
    have e4 : (subStr s 0 (textLen s)).size = textLen s := by rw [sub_size s 0 _ (by omega) e2]; rfl
    have e5 : D.int .u8 (IntKind.wrap .u64 (textLen s : Int) / 1 % 256) = .int .u8 (textLen s : Int) := by
      rw [IntKind.wrap_u64]; congr 1; omega
    rw [e0, e1, e4, e5]
    have c0 : (0 : Int) ≤ (textLen s : Int) := by omega
    have c1 : ds.length + 8 ≤ 35184372088832 := by omega
    have c2 : ((ds ++ [D.int .u8 (textLen s : Int)]).length + (bytesD (subStr s 0 (textLen s))).length) * 1 ≤ 35184372088832 := by
      rw [bytesD_length, e4]; simp; omega
    simp only [c0, e2, hf, c1, c2, fits_bytes, Nat.beq_refl, decide_true, Bool.and_true, cond_true]
    rw [← List.length_append, seg_full]
    simp [textD, Nat.beq_refl]
  · simp [T.run_fail] at h

/-! From -/
def S_from : FunT := fun args σ => match args, σ with
  | [.dat (.slc .one ds)], [] => .leaf ([ptrS], [scanB ⟨ds, 0, true⟩])
  | _, _ => .fail

theorem from_run (ds : List D) : runF (envOf tab [(25, S_own)] [] [] []) false Try.f11 [.dat (.slc .one ds)] [] =some ([AV.ptr (Sh.agg [Sh.one, Sh.one, Sh.one]) (0 : Nat) (0 : Nat) []], [{ sh := Sh.agg [Sh.one, Sh.one, Sh.one], dyn := false, frz := false, v := AV.dat (D.agg [D.slc Sh.one ds, D.int IntKind.i64 (0 : Int), D.bool true]) }]) := by kernel_rfl

theorem from_ok : FunOk Try.prog 11 (FunT.run S_from) := by
  refine fun_ok (E := envOf tab [(25, S_own)] [] [] []) (fz := false) (fn := Try.f11) (envOf_ok progOk (.cons own_ok (.nil _))) (by kernel_rfl) (by kernel_rfl) (loops_none (by kernel_rfl)) ?_
  intro args σ r h
  unfold S_from at h
  split at h
  · rw [← T.leaf_some h, from_run]; rfl
  · simp [T.run_fail] at h

/-! Fault -/
def S_fault : FunT := fun args σ => match args, σ with
  | [.ptr (.agg [.one, .one, .one]) 0 0 []], [⟨.agg [.one, .one, .one], false, false, .dat (.agg [.slc .one ds, .int .i64 f, .bool b])⟩] =>
    .leaf ([.dat (.int .i64 (Sc.fault ⟨ds, f, b⟩))], [scanB ⟨ds, f, b⟩])
  | [.dat .nilp], [] => .leaf ([.dat (.int .i64 11)], [])
  | _, _ => .fail

theorem fault_run (s : Sc) : runF (envOf tab [] [] [] []) true Try.f22 [ptrS] [scanB s] =
  (bif !Sc.b s then some ([AV.dat (D.int IntKind.i64 (11 : Int))], [{ sh := Sh.agg [Sh.one, Sh.one, Sh.one], dyn := false, frz := false, v := AV.dat (D.agg [D.slc Sh.one (Sc.ds s), D.int IntKind.i64 (Sc.f s), D.bool (Sc.b s)]) }]) else some ([AV.dat (D.int IntKind.i64 (Sc.f s))], [{ sh := Sh.agg [Sh.one, Sh.one, Sh.one], dyn := false, frz := false, v := AV.dat (D.agg [D.slc Sh.one (Sc.ds s), D.int IntKind.i64 (Sc.f s), D.bool (Sc.b s)]) }])) := by kernel_rfl
theorem fault_nil  : runF (envOf tab [] [] [] []) true Try.f22 [.dat .nilp] [] =some ([AV.dat (D.int IntKind.i64 (11 : Int))], []) := by kernel_rfl

theorem fault_ok : FunOk Try.prog 22 (FunT.run S_fault) := by
  refine fun_ok (E := envOf tab [] [] [] []) (fz := true) (fn := Try.f22) (envOf_ok progOk (.nil _)) (by kernel_rfl) (by kernel_rfl) (loops_none (by kernel_rfl)) ?_
  intro args σ r h
  unfold S_fault at h
  split at h
  · rename_i ds f b
    rw [← T.leaf_some h]
    have := fault_run ⟨ds, f, b⟩
    refine this.trans ?_
    cases b <;> rfl
  · rw [← T.leaf_some h, fault_nil]
  · simp [T.run_fail] at h

/-! fine -/
def S_fine : FunT := fun args σ => match args, σ with
  | [.ptr (.agg [.one, .one, .one]) 0 0 []], [⟨.agg [.one, .one, .one], false, false, .dat (.agg [.slc .one ds, .int .i64 f, .bool b])⟩] =>
    .leaf ([.dat (.bool (Sc.fine ⟨ds, f, b⟩))], [scanB ⟨ds, f, b⟩])
  | [.dat .nilp], [] => .leaf ([.dat (.bool false)], [])
  | _, _ => .fail

theorem fine_run (s : Sc) : runF (envOf tab [(22, S_fault)] [] [] []) true Try.f28 [ptrS] [scanB s] =some ([AV.dat (D.bool (Sc.fault s == (0 : Int)))], [{ sh := Sh.agg [Sh.one, Sh.one, Sh.one], dyn := false, frz := false, v := AV.dat (D.agg [D.slc Sh.one (Sc.ds s), D.int IntKind.i64 (Sc.f s), D.bool (Sc.b s)]) }]) := by kernel_rfl
theorem fine_nil  : runF (envOf tab [(22, S_fault)] [] [] []) true Try.f28 [.dat .nilp] [] =some ([AV.dat (D.bool false)], []) := by kernel_rfl

theorem fine_ok : FunOk Try.prog 28 (FunT.run S_fine) := by
  refine fun_ok (E := envOf tab [(22, S_fault)] [] [] []) (fz := true) (fn := Try.f28) (envOf_ok progOk (.cons fault_ok (.nil _))) (by kernel_rfl) (by kernel_rfl) (loops_none (by kernel_rfl)) ?_
  intro args σ r h
  unfold S_fine at h
  split at h
  · rename_i ds f b
    rw [← T.leaf_some h]
    exact (fine_run ⟨ds, f, b⟩).trans rfl
  · rw [← T.leaf_some h, fine_nil]
  · simp [T.run_fail] at h

end Go.Proofs.Ytnailhdfopoibaa
