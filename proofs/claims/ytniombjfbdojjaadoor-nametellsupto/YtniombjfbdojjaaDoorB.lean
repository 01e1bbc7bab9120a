/- Seat 03: blanks at both ends of a text. -/
import Derived.Test.YtniombjfbdojjaaDoorA
namespace Go.Proofs.YtniombjfbdojjaaDoor
open Go.AX
set_option maxRecDepth 100000
abbrev mkS (l : List UInt8) : ByteArray := ⟨l.toArray⟩
theorem mkS_toList (s : ByteArray) : mkS s.data.toList = s := by cases s; simp
theorem mkS_size (l : List UInt8) : (mkS l).size = l.length := by simp [ByteArray.size]
abbrev isB (c : Int) (x : UInt8) : Bool := ((x.toNat : Nat) : Int) == c
def trL (c : Int) (l : List UInt8) : List UInt8 := l.dropWhile (isB c)
def trR (c : Int) (l : List UInt8) : List UInt8 := (l.reverse.dropWhile (isB c)).reverse
theorem sub_tail (x : UInt8) (l : List UInt8) : subStr (mkS (x :: l)) 1 (mkS (x :: l)).size = mkS l := by
  rw [mkS_size]; simp [subStr, mkS]
theorem sub_init (x : UInt8) (l : List UInt8) : subStr (mkS (l ++ [x])) 0 l.length = mkS l := by simp [subStr, mkS]
theorem tl_iter (c : Int) : ∀ l : List UInt8, ∃ z, (iterT (tl_step c) z (mkS l)).run = some (some 0, mkF 17 [(0, .dat (.str (mkS (trL c l))))], [])
  | [] => ⟨1, iter_out (by unfold tl_step; rfl)⟩
  | x :: l => by
    have hz : (mkS (x :: l)).size = l.length + 1 := by rw [mkS_size, List.length_cons]
    have hd : (mkS (x :: l)).data.toList.length = l.length + 1 := by simp
    have h0 : strAt (mkS (x :: l)) 0 = x := rfl
    cases hx : isB c x with
    | true =>
      obtain ⟨z, hr⟩ := tl_iter c l
      refine ⟨z + 1, iter_next ?_ (hr.trans ?_)⟩
      · have hsub : subStr (mkS (x :: l)) 1 (l.length + 1) = mkS l := by rw [← hz]; exact sub_tail x l
        unfold tl_step
        simp only [hsub, hd, hz, h0, hx, decide_eq_true (show (0 : Int) < ((l.length + 1 : Nat) : Int) by omega), decide_eq_true (show 0 < l.length + 1 by omega), decide_eq_true (show 1 ≤ l.length + 1 by omega), decide_eq_true (Nat.le_refl (l.length + 1)), Bool.not_true, Bool.false_or, Bool.true_and, T.run_chk, T.run_br, T.run_leaf, cond_true, cond_false]
      · unfold trL; rw [List.dropWhile_cons, hx]; rfl
    | false =>
      refine ⟨1, iter_out ?_⟩
      unfold tl_step trL
      simp only [List.dropWhile_cons, hd, hz, h0, hx, decide_eq_true (show (0 : Int) < ((l.length + 1 : Nat) : Int) by omega), decide_eq_true (show 0 < l.length + 1 by omega), Bool.not_true, Bool.not_false, Bool.false_or, Bool.true_or, Bool.true_and, T.run_chk, T.run_br, T.run_leaf, cond_true]
      rfl
theorem tr_iter (c : Int) : ∀ r : List UInt8, r.length ≤ 1099511627776 → ∃ z, (iterT (tr_step c) z (mkS r.reverse)).run = some (some 0, mkF 23 [(0, .dat (.str (mkS (trR c r.reverse))))], [])
  | [], _ => ⟨1, iter_out (by unfold tr_step; rfl)⟩
  | x :: r, hr => by
    rw [List.length_cons] at hr
    have e : (x :: r).reverse = r.reverse ++ [x] := List.reverse_cons
    rw [e]
    have hz : (mkS (r.reverse ++ [x])).size = r.length + 1 := by rw [mkS_size]; simp
    have hd : (mkS (r.reverse ++ [x])).data.toList.length = r.length + 1 := by simp
    have ht : tr_u0 (mkS (r.reverse ++ [x])) = (r.length : Int) := by
      unfold tr_u0; rw [hz, IntKind.wrap_i64]; omega
    have h0 : tr_u1 (mkS (r.reverse ++ [x])) = x.toNat := by
      unfold tr_u1; rw [ht, Int.toNat_natCast]
      unfold strAt
      rw [show (mkS (r.reverse ++ [x])).data.toList = r.reverse ++ [x] by simp, List.getD_eq_getElem?_getD, List.getElem?_append_right (by simp)]
      simp
    cases hx : isB c x with
    | true =>
      obtain ⟨z, hi⟩ := tr_iter c r (by omega)
      refine ⟨z + 1, iter_next ?_ (hi.trans ?_)⟩
      · have hs : subStr (mkS (r.reverse ++ [x])) 0 r.length = mkS r.reverse := by
          have := sub_init x r.reverse
          rwa [List.length_reverse] at this
        unfold tr_step
        simp only [ht, h0, Int.toNat_natCast, hs, hd, hz, hx, decide_eq_true (show (0 : Int) < ((r.length + 1 : Nat) : Int) by omega), decide_eq_true (show (0 : Int) ≤ (r.length : Int) by omega), decide_eq_true (show r.length < r.length + 1 by omega), decide_eq_true (show r.length ≤ r.length + 1 by omega), Bool.not_true, Bool.false_or, Bool.true_and, T.run_chk, T.run_br, T.run_leaf, cond_true, cond_false]
      · unfold trR; simp only [List.reverse_append, List.reverse_cons, List.reverse_nil, List.nil_append, List.singleton_append, List.reverse_reverse, List.dropWhile_cons, hx, if_true]
    | false =>
      refine ⟨1, iter_out ?_⟩
      unfold tr_step trR
      simp only [ht, h0, Int.toNat_natCast, hd, hz, hx, decide_eq_true (show (0 : Int) < ((r.length + 1 : Nat) : Int) by omega), decide_eq_true (show (0 : Int) ≤ (r.length : Int) by omega), decide_eq_true (show r.length < r.length + 1 by omega), Bool.not_true, Bool.not_false, Bool.false_or, Bool.true_or, Bool.true_and, T.run_chk, T.run_br, T.run_leaf, cond_true, List.reverse_append, List.reverse_cons, List.reverse_nil, List.nil_append, List.singleton_append, List.reverse_reverse, List.dropWhile_cons]
      simp
def trimL (c : Int) (s : ByteArray) : ByteArray := mkS (trL c s.data.toList)
def trimR (c : Int) (s : ByteArray) : ByteArray := mkS (trR c s.data.toList)
abbrev okS (s : ByteArray) : Bool := decide (s.size ≤ 1099511627776)
theorem tl_closed (c : Int) (s : ByteArray) (_ : okS s = true) : ∃ z, (iterT (tl_step c) z s).run = T.run (.leaf (some 0, mkF 17 [(0, .dat (.str (trimL c s)))], [])) := by
  obtain ⟨z, h⟩ := tl_iter c s.data.toList
  rw [mkS_toList] at h; exact ⟨z, h⟩
theorem tr_closed (c : Int) (s : ByteArray) (hc : okS s = true) : ∃ z, (iterT (tr_step c) z s).run = T.run (.leaf (some 0, mkF 23 [(0, .dat (.str (trimR c s)))], [])) := by
  have hc := of_decide_eq_true hc
  have hl : s.data.toList.length ≤ 1099511627776 := by rw [Array.length_toList]; exact hc
  obtain ⟨z, h⟩ := tr_iter c s.data.toList.reverse (by rw [List.length_reverse]; exact hl)
  rw [List.reverse_reverse, mkS_toList] at h; exact ⟨z, h⟩
def L_tl : Frame' → Store → T (Exit × Frame' × Store) := fun fr σ => match fr.getD 0 .undef, fr.getD 1 .undef, σ with
  | AV.dat (D.str s), AV.dat (D.int IntKind.u8 c), [] => .chk (Nat.beq fr.length 17 && (okS s)) (T.bind (.leaf (some 0, mkF 17 [(0, .dat (.str (trimL c s)))], [])) fun o => .leaf (outEx o.1, o.2.1, o.2.2))
  | _, _, _ => .fail
theorem tl_sem (lp : Loops) : ∀ fr σ p, (L_tl fr σ).run = some p → ∀ (K : Kt) r, K p.1 p.2.1 p.2.2 = some r → ∃ n, loopRun (envOf tab [] [] lp []) Tryd.f28 0 σ.length n (cleanF (liveAt Tryd.f28 0) 0 fr) σ K = some r := by
  intro fr σ p h K r hK
  unfold L_tl at h
  split at h
  · rename_i s c g0 g1
    obtain ⟨hc, h'⟩ := T.chk_some h
    rw [Bool.and_eq_true] at hc
    obtain ⟨hl, hc⟩ := hc
    obtain ⟨o, ho, h'⟩ := T.bind_some h'
    have hp := T.leaf_some h'
    subst hp
    obtain ⟨nF, hn⟩ : ∃ nF, (iterT (tl_step c) nF (s)).run = T.run (.leaf (some 0, mkF 17 [(0, .dat (.str (trimL c s)))], [])) := tl_closed c s hc
    rw [ho] at hn
    refine ⟨nF, ?_⟩
    have he : cleanF (liveAt Tryd.f28 0) 0 fr = tl_fr c (s) := tl_enter c _ fr hl g0 g1
    refine (iter_ok (base := 0) (tl_hr lp c) K nF (s) _ _ (by rw [clean_clean]; exact he) (by kernel_rfl)).trans ?_
    rw [T.k_run hn]
    exact hK
  · simp [T.run_fail] at h
theorem tl_loopOk {k : Nat} (lp : Loops) (hk : Loops.get lp 1 = some L_tl) : LoopOkN Tryd.prog k (envOf tab [] [] lp []) (loopAt Tryd.f28 0).1 (loopAt Tryd.f28 0).2 := loop_okN (L := L_tl) (by kernel_rfl) hk (tl_sem lp)
def L_tr : Frame' → Store → T (Exit × Frame' × Store) := fun fr σ => match fr.getD 0 .undef, fr.getD 1 .undef, σ with
  | AV.dat (D.str s), AV.dat (D.int IntKind.u8 c), [] => .chk (Nat.beq fr.length 23 && (okS s)) (T.bind (.leaf (some 0, mkF 23 [(0, .dat (.str (trimR c s)))], [])) fun o => .leaf (outEx o.1, o.2.1, o.2.2))
  | _, _, _ => .fail
theorem tr_sem (lp : Loops) : ∀ fr σ p, (L_tr fr σ).run = some p → ∀ (K : Kt) r, K p.1 p.2.1 p.2.2 = some r → ∃ n, loopRun (envOf tab [] [] lp []) Tryd.f29 0 σ.length n (cleanF (liveAt Tryd.f29 0) 0 fr) σ K = some r := by
  intro fr σ p h K r hK
  unfold L_tr at h
  split at h
  · rename_i s c g0 g1
    obtain ⟨hc, h'⟩ := T.chk_some h
    rw [Bool.and_eq_true] at hc
    obtain ⟨hl, hc⟩ := hc
    obtain ⟨o, ho, h'⟩ := T.bind_some h'
    have hp := T.leaf_some h'
    subst hp
    obtain ⟨nF, hn⟩ : ∃ nF, (iterT (tr_step c) nF (s)).run = T.run (.leaf (some 0, mkF 23 [(0, .dat (.str (trimR c s)))], [])) := tr_closed c s hc
    rw [ho] at hn
    refine ⟨nF, ?_⟩
    have he : cleanF (liveAt Tryd.f29 0) 0 fr = tr_fr c (s) := tr_enter c _ fr hl g0 g1
    refine (iter_ok (base := 0) (tr_hr lp c) K nF (s) _ _ (by rw [clean_clean]; exact he) (by kernel_rfl)).trans ?_
    rw [T.k_run hn]
    exact hK
  · simp [T.run_fail] at h
theorem tr_loopOk {k : Nat} (lp : Loops) (hk : Loops.get lp 1 = some L_tr) : LoopOkN Tryd.prog k (envOf tab [] [] lp []) (loopAt Tryd.f29 0).1 (loopAt Tryd.f29 0).2 := loop_okN (L := L_tr) (by kernel_rfl) hk (tr_sem lp)
def C_tlb : FunT := fun args σ => match args, σ with
  | [AV.dat (D.str s), AV.dat (D.int IntKind.u8 c)], [] => .chk (okS s) (.leaf ([AV.dat (D.str (trimL c s))], []))
  | _, _ => .fail
theorem tlb_raw0 (s : ByteArray) (c : Int) : runF (envOf tab [] [] [(1, L_tl)] []) true Tryd.f28 [.dat (.str s), .dat (.int .u8 c)] [] =
  (bif okS s then some ([.dat (.str (trimL c s))], []) else none) := by kernel_rfl
theorem tlb_case0 (s : ByteArray) (c : Int) : runF (envOf tab [] [] [(1, L_tl)] []) true Tryd.f28 [.dat (.str s), .dat (.int .u8 c)] [] = FunT.run C_tlb [.dat (.str s), .dat (.int .u8 c)] [] := (tlb_raw0 s c).trans (by
  show _ = (cond (okS s) (some (([.dat (.str (trimL c s))], []) : Res)) none)
  generalize (okS s) = z0
  cases z0 with
  | true =>
   rfl
  | false =>
   rfl
  )
theorem ctlb_ok : FunOk Tryd.prog 28 (FunT.run C_tlb) := by
  refine fun_ok (E := envOf tab [] [] [(1, L_tl)] []) (fz := true) (fn := Tryd.f28) (envOf_ok progOk (.nil _)) (by kernel_rfl) (by kernel_rfl) (loops_one (by kernel_rfl) (tl_loopOk _ rfl)) ?_
  intro args σ r h
  unfold C_tlb at h
  split at h
  · exact (tlb_case0 _ _).trans h
  · simp [T.run_fail] at h
def C_trb : FunT := fun args σ => match args, σ with
  | [AV.dat (D.str s), AV.dat (D.int IntKind.u8 c)], [] => .chk (okS s) (.leaf ([AV.dat (D.str (trimR c s))], []))
  | _, _ => .fail
theorem trb_raw0 (s : ByteArray) (c : Int) : runF (envOf tab [] [] [(1, L_tr)] []) true Tryd.f29 [.dat (.str s), .dat (.int .u8 c)] [] =
  (bif okS s then some ([.dat (.str (trimR c s))], []) else none) := by kernel_rfl
theorem trb_case0 (s : ByteArray) (c : Int) : runF (envOf tab [] [] [(1, L_tr)] []) true Tryd.f29 [.dat (.str s), .dat (.int .u8 c)] [] = FunT.run C_trb [.dat (.str s), .dat (.int .u8 c)] [] := (trb_raw0 s c).trans (by
  show _ = (cond (okS s) (some (([.dat (.str (trimR c s))], []) : Res)) none)
  generalize (okS s) = z0
  cases z0 with
  | true =>
   rfl
  | false =>
   rfl
  )
theorem ctrb_ok : FunOk Tryd.prog 29 (FunT.run C_trb) := by
  refine fun_ok (E := envOf tab [] [] [(1, L_tr)] []) (fz := true) (fn := Tryd.f29) (envOf_ok progOk (.nil _)) (by kernel_rfl) (by kernel_rfl) (loops_one (by kernel_rfl) (tr_loopOk _ rfl)) ?_
  intro args σ r h
  unfold C_trb at h
  split at h
  · exact (trb_case0 _ _).trans h
  · simp [T.run_fail] at h
theorem trim_raw (s : ByteArray) : runF (envOf tab [(28, C_tlb), (29, C_trb)] [] [] []) true Tryd.f22 [.dat (.str s), .dat (.str ⟨#[32]⟩)] [] =
  (bif decide (Array.toList (ByteArray.data s) = []) then some ([.dat (.str s)], []) else
   (bif okS s then
    (bif okS (trimR 32 s) then some ([.dat (.str (trimL 32 (trimR 32 s)))], []) else none) else none)) := by kernel_rfl
def trimB (s : ByteArray) : ByteArray := bif decide (s.data.toList = []) then s else trimL 32 (trimR 32 s)
def C_trim : FunT := fun args σ => match args, σ with
  | [.dat (.str s), .dat (.str c)], [] => .chk (D.eqb (.str c) (.str ⟨#[32]⟩) && (decide (s.data.toList = []) || okS s && okS (trimR 32 s))) (.leaf ([.dat (.str (trimB s))], []))
  | _, _ => .fail
theorem ctrim_ok : FunOk Tryd.prog 22 (FunT.run C_trim) := by
  refine fun_ok (E := envOf tab [(28, C_tlb), (29, C_trb)] [] [] []) (fz := true) (fn := Tryd.f22) (envOf_ok progOk (.cons ctlb_ok (.cons ctrb_ok (.nil _)))) (by kernel_rfl) (by kernel_rfl) (loops_none (by kernel_rfl)) ?_
  intro args σ r h
  unfold C_trim at h
  split at h
  · rename_i s c
    obtain ⟨h1, h3⟩ := T.chk_some h
    clear h
    rw [Bool.and_eq_true] at h1
    obtain ⟨h1, h2⟩ := h1
    have hc := D.eq_of_eqb h1
    simp only [D.str.injEq] at hc
    subst hc
    rw [← T.leaf_some h3, trim_raw]
    unfold trimB
    cases hd : decide (s.data.toList = []) with
    | true => rfl
    | false =>
      rw [hd, Bool.false_or, Bool.and_eq_true] at h2
      rw [h2.1, h2.2]; rfl
  · simp [T.run_fail] at h
def text_v0 (s : ByteArray) : Bool := decide (1 ≤ (↑(ByteArray.size s) : Int)) && (decide ((↑(ByteArray.size s) : Int) ≤ 40) && (pall_v0 s && decide (Array.toList (ByteArray.data (trimB s)) = Array.toList (ByteArray.data s))))
def text_pre (s : ByteArray) : Bool := !decide (1 ≤ (↑(ByteArray.size s) : Int)) || (!decide ((↑(ByteArray.size s) : Int) ≤ 40) || pall_pre s && (!pall_v0 s || (decide (Array.toList (ByteArray.data s) = []) || okS s && okS (trimR 32 s))))
def C_text : FunT := fun args σ => match args, σ with
  | [AV.dat (D.str s)], [] => .chk ((text_pre s)) (.leaf ([AV.dat (D.bool (text_v0 s))], []))
  | _, _ => .fail
theorem text_raw0 (s : ByteArray) : runF (envOf tab [(18, C_pall), (22, C_trim)] [] [] []) true Tryd.f9 [.dat (.str s)] [] =
  (bif decide ((↑(ByteArray.size s) : Int) ≥ 1) then
   (bif decide ((↑(ByteArray.size s) : Int) ≤ 40) then
    (bif pall_pre s then
     (bif pall_v0 s then
      (bif decide (Array.toList (ByteArray.data s) = []) || okS s && okS (trimR 32 s) then some ([.dat (.bool (decide (Array.toList (ByteArray.data (trimB s)) = Array.toList (ByteArray.data s))))], []) else none) else some ([.dat (.bool false)], [])) else none) else some ([.dat (.bool false)], [])) else some ([.dat (.bool false)], [])) := by kernel_rfl
theorem text_case0 (s : ByteArray) : runF (envOf tab [(18, C_pall), (22, C_trim)] [] [] []) true Tryd.f9 [.dat (.str s)] [] = FunT.run C_text [.dat (.str s)] [] := (text_raw0 s).trans (by
  show _ = (cond (!decide (1 ≤ (↑(ByteArray.size s) : Int)) || (!decide ((↑(ByteArray.size s) : Int) ≤ 40) || pall_pre s && (!pall_v0 s || (decide (Array.toList (ByteArray.data s) = []) || okS s && okS (trimR 32 s))))) (some (([.dat (.bool (decide (1 ≤ (↑(ByteArray.size s) : Int)) && (decide ((↑(ByteArray.size s) : Int) ≤ 40) && (pall_v0 s && decide (Array.toList (ByteArray.data (trimB s)) = Array.toList (ByteArray.data s))))))], []) : Res)) none)
  generalize (decide (Array.toList (ByteArray.data s) = []) || okS s && okS (trimR 32 s)) = z0
  generalize (decide (1 ≤ (↑(ByteArray.size s) : Int))) = z1
  generalize (decide ((↑(ByteArray.size s) : Int) ≤ 40)) = z2
  generalize (pall_pre s) = z3
  generalize (pall_v0 s) = z4
  cases z1 with
  | true =>
   cases z2 with
   | true =>
    cases z3 with
    | true =>
     cases z4 with
     | true =>
      cases z0 with
      | true =>
       rfl
      | false =>
       rfl
     | false =>
      rfl
    | false =>
     rfl
   | false =>
    rfl
  | false =>
   rfl
  )
theorem ctext_ok : FunOk Tryd.prog 9 (FunT.run C_text) := by
  refine fun_ok (E := envOf tab [(18, C_pall), (22, C_trim)] [] [] []) (fz := true) (fn := Tryd.f9) (envOf_ok progOk (.cons cpall_ok (.cons ctrim_ok (.nil _)))) (by kernel_rfl) (by kernel_rfl) (loops_none (by kernel_rfl)) ?_
  intro args σ r h
  unfold C_text at h
  split at h
  · exact (text_case0 _).trans h
  · simp [T.run_fail] at h
end Go.Proofs.YtniombjfbdojjaaDoor
