/- Seat 03: what is clean, and what is a text, as lists. -/
import Derived.Test.YtniombjfbdojjaaDoorH
namespace Go.Proofs.YtniombjfbdojjaaDoor
open Go.AX
set_option maxRecDepth 100000
theorem trL_suffix (c : Int) (l : List UInt8) : trL c l <:+ l := List.dropWhile_suffix _
theorem trR_prefix (c : Int) (l : List UInt8) : trR c l <+: l := by
  have := List.dropWhile_suffix (isB c) (l := l.reverse)
  unfold trR
  rw [← List.reverse_suffix, List.reverse_reverse]; exact this
theorem trL_head {c : Int} {l : List UInt8} {x : UInt8} {r : List UInt8} (h : trL c l = x :: r) : isB c x = false := by
  have := List.head?_dropWhile_not (isB c) l
  unfold trL at h
  rw [h] at this
  simpa using this
theorem trL_id {c : Int} : ∀ {l : List UInt8}, (∀ x r, l = x :: r → isB c x = false) → trL c l = l
  | [], _ => rfl
  | x :: r, h => by unfold trL; rw [List.dropWhile_cons, h x r rfl]; rfl
theorem trR_idem (c : Int) (l : List UInt8) : trR c (trR c l) = trR c l := by
  have e : trL c (trL c l.reverse) = trL c l.reverse := trL_id fun x r h => trL_head h
  unfold trR
  rw [List.reverse_reverse]
  exact congrArg List.reverse e
theorem trR_of_both {c : Int} {l : List UInt8} (h : trL c (trR c l) = l) : trR c l = l := by
  have h1 := (trL_suffix c (trR c l)).length_le
  have h2 := (trR_prefix c l).length_le
  rw [h] at h1
  exact (trR_prefix c l).eq_of_length (by omega)
def clL (l : List UInt8) : List UInt8 := trR 32 ((trL 32 (trR 32 (l.filter pl))).take 40)
def txB (l : List UInt8) : Bool := decide (1 ≤ l.length) && (decide (l.length ≤ 40) && (l.all pl && decide (trL 32 (trR 32 l) = l)))
theorem txB_iff {l : List UInt8} : txB l = true ↔ 1 ≤ l.length ∧ l.length ≤ 40 ∧ l.all pl = true ∧ trL 32 (trR 32 l) = l := by
  unfold txB
  rw [Bool.and_eq_true, Bool.and_eq_true, Bool.and_eq_true, decide_eq_true_eq, decide_eq_true_eq, decide_eq_true_eq]
theorem clean_text {l : List UInt8} (h : txB l = true) : clL l = l := by
  obtain ⟨_, h2, h3, h4⟩ := txB_iff.1 h
  have hf : l.filter pl = l := List.filter_eq_self.2 (by rw [List.all_eq_true] at h3; exact h3)
  unfold clL
  rw [hf, h4, List.take_of_length_le h2, trR_of_both h4]
theorem clL_all (l : List UInt8) : (clL l).all pl = true := by
  rw [List.all_eq_true]
  intro x hx
  unfold clL at hx
  have h1 := (trR_prefix 32 _).subset hx
  have h2 := List.mem_of_mem_take h1
  have h3 := (trL_suffix 32 _).subset h2
  have h4 := (trR_prefix 32 _).subset h3
  exact (List.mem_filter.1 h4).2
theorem clL_len (l : List UInt8) : (clL l).length ≤ 40 ∧ (clL l).length ≤ l.length := by
  have h1 := (trR_prefix 32 ((trL 32 (trR 32 (l.filter pl))).take 40)).length_le
  have h2 := (trL_suffix 32 (trR 32 (l.filter pl))).length_le
  have h3 := (trR_prefix 32 (l.filter pl)).length_le
  have h4 := List.length_filter_le pl l
  rw [List.length_take] at h1
  unfold clL
  omega
theorem text_clean {l : List UInt8} (h : clL l ≠ []) : txB (clL l) = true := by
  have hl := clL_len l
  refine txB_iff.2 ⟨?_, hl.1, clL_all l, ?_⟩
  · cases hc : clL l with
    | nil => exact absurd hc h
    | cons x r => simp
  · have e1 : trR 32 (clL l) = clL l := by unfold clL; exact trR_idem _ _
    rw [e1]
    refine trL_id fun x r hx => ?_
    have hp : clL l <+: trL 32 (trR 32 (l.filter pl)) := by
      unfold clL
      exact (trR_prefix 32 _).trans (List.take_prefix _ _)
    obtain ⟨q, hq⟩ := hp
    rw [hx] at hq
    exact trL_head hq.symm
theorem clL_twice {l : List UInt8} : clL (clL l) = clL l := by
  cases hc : clL l with
  | nil => rfl
  | cons x r =>
    rw [← hc]
    exact clean_text (text_clean (by rw [hc]; exact List.cons_ne_nil _ _))
theorem tr_none {l : List UInt8} (h : ∀ x ∈ l, isB 32 x = false) : trL 32 (trR 32 l) = l := by
  have e : trR 32 l = l := by
    have : trL 32 l.reverse = l.reverse := trL_id fun x r hx => h x (List.mem_reverse.1 (by rw [hx]; exact List.mem_cons_self))
    unfold trR
    show (trL 32 l.reverse).reverse = l
    rw [this, List.reverse_reverse]
  rw [e]
  exact trL_id fun x r hx => h x (by rw [hx]; exact List.mem_cons_self)
abbrev tl (s : ByteArray) : List UInt8 := s.data.toList
theorem tl_mk (l : List UInt8) : tl (mkS l) = l := rfl
theorem tl_len (s : ByteArray) : (tl s).length = s.size := by rw [Array.length_toList]; rfl
theorem trimB_eq (s : ByteArray) : trimB s = mkS (trL 32 (trR 32 (tl s))) := by
  unfold trimB
  cases hd : decide (s.data.toList = []) with
  | true =>
    have h := of_decide_eq_true hd
    have e : s = mkS [] := by rw [← h]
    subst e; rfl
  | false => rfl
theorem okS_iff {s : ByteArray} : okS s = true ↔ s.size ≤ 1099511627776 := decide_eq_true_iff
theorem out_bytes (s : ByteArray) : byteVs (clean_t0 s) = (tl s).filter pl := by
  have e : clean_t0 s = ((tl s).filter pl).map u8D := by
    unfold clean_t0 clean_t1
    rw [seg_full]
    unfold outS
    rw [List.take_of_length_le (by rw [tl_len]; exact Nat.le_refl _)]
  rw [e]
  unfold byteVs
  rw [List.map_map]
  conv => rhs; rw [← List.map_id ((tl s).filter pl)]
  refine List.map_congr_left fun x _ => ?_
  show UInt8.ofNat (((x.toNat : Nat) : Int).toNat) = x
  rw [Int.toNat_natCast]; simp
theorem out_isBytes (s : ByteArray) : isBytes (clean_t0 s) = true := by
  have e : clean_t0 s = ((tl s).filter pl).map u8D := by
    unfold clean_t0 clean_t1
    rw [seg_full]
    unfold outS
    rw [List.take_of_length_le (by rw [tl_len]; exact Nat.le_refl _)]
  rw [e]
  unfold isBytes
  rw [List.all_map, List.all_eq_true]
  intro x _; rfl
theorem trimR_size (c : Int) (s : ByteArray) : (trimR c s).size ≤ s.size := by
  unfold trimR
  rw [mkS_size, ← tl_len s]
  exact (trR_prefix c _).length_le
theorem clean_is {s : ByteArray} (h : okS s = true) : clean_pre s = true ∧ clean_v0 s = mkS (clL (tl s)) := by
  have hs := okS_iff.1 h
  have hB := out_bytes s
  have hC : clL (tl s) = trR 32 ((trL 32 (trR 32 ((tl s).filter pl))).take 40) := rfl
  have hfl : ((tl s).filter pl).length ≤ s.size := by rw [← tl_len s]; exact List.length_filter_le _ _
  generalize (tl s).filter pl = f at hB hC hfl
  have hT : trimB ⟨⟨byteVs (clean_t0 s)⟩⟩ = mkS (trL 32 (trR 32 f)) := by rw [hB]; exact trimB_eq (mkS f)
  have hyl : (trL 32 (trR 32 f)).length ≤ f.length := Nat.le_trans (trL_suffix 32 _).length_le (trR_prefix 32 _).length_le
  generalize trL 32 (trR 32 f) = y at hT hC hyl
  have hk : Int.toNat (if 40 < ((mkS y).size : Int) then 40 else ((mkS y).size : Int)) = min 40 y.length := by rw [mkS_size]; split <;> omega
  have h0 : (0 : Int) ≤ if 40 < ((mkS y).size : Int) then 40 else ((mkS y).size : Int) := by split <;> omega
  have hsub : subStr (mkS y) 0 (min 40 y.length) = mkS (y.take 40) := by
    unfold subStr
    show mkS ((y.drop 0).take (min 40 y.length - 0)) = _
    rw [List.drop_zero, Nat.sub_zero]
    congr 1
    rw [List.take_eq_take_iff]; omega
  have hok : okS (⟨⟨f⟩⟩ : ByteArray) = true := by
    refine okS_iff.2 ?_
    show (mkS f).size ≤ _
    rw [mkS_size]; omega
  have hok2 : okS (trimR 32 (⟨⟨f⟩⟩ : ByteArray)) = true := okS_iff.2 (Nat.le_trans (trimR_size 32 _) (okS_iff.1 hok))
  have hok3 : okS (mkS (y.take 40)) = true := by
    refine okS_iff.2 ?_
    rw [mkS_size, List.length_take]; omega
  refine ⟨?_, ?_⟩
  · unfold clean_pre
    rw [hT, decide_eq_true h0, hk, hsub, hB, hok, hok2, hok3, h, out_isBytes, Nat.beq_refl, decide_eq_true rfl, mkS_size, decide_eq_true (Nat.min_le_right 40 y.length)]; simp
  · unfold clean_v0
    rw [hT, hk, hsub, hC]
    cases hd : decide (List.take (min 40 y.length - 0) (List.drop 0 (Array.toList (ByteArray.data (mkS y)))) = []) with
    | true =>
      have hd := of_decide_eq_true hd
      have e : y.take 40 = [] := by
        have e2 : y.take 40 = y.take (min 40 y.length) := by rw [List.take_eq_take_iff]; omega
        rw [e2]; exact hd
      rw [cond_true, e]; rfl
    | false => rfl
theorem pall_is (s : ByteArray) : pall_v0 s = (tl s).all pl := by
  have e : (bytesD s).any (fun d => nplain_v0 (D.getI d)) = !(tl s).all pl := by
    rw [List.not_all_eq_any_not]
    unfold bytesD
    rw [List.any_map]; rfl
  unfold pall_v0 cfp_v0 jb_idx
  rw [seg_full, e]
  cases (tl s).all pl with
  | true => rfl
  | false => rw [Bool.not_false, cond_true, decide_eq_true (by omega)]; rfl
theorem bytes_okE (s : ByteArray) : (bytesD s).all (okE (.int .u8)) = true := by
  unfold bytesD
  rw [List.all_map, List.all_eq_true]
  intro x _; rfl
theorem bytes_len (s : ByteArray) : (bytesD s).length = s.size := by
  unfold bytesD
  rw [List.length_map]; exact tl_len s
theorem text_is {s : ByteArray} (h : okS s = true) : text_pre s = true ∧ text_v0 s = txB (tl s) := by
  have hs := okS_iff.1 h
  have hp : pall_pre s = true := by
    unfold pall_pre jb_okL
    rw [seg_full, bytes_okE, okE_int_fits (bytes_okE s), decide_eq_true (show (bytesD s).length ≤ 1099511627776 by rw [bytes_len]; exact hs), Nat.beq_refl, decide_eq_true (by omega)]; rfl
  have h2 : okS (trimR 32 s) = true := okS_iff.2 (Nat.le_trans (trimR_size 32 s) hs)
  refine ⟨?_, ?_⟩
  · unfold text_pre
    rw [hp, h, h2]; simp
  · unfold text_v0 txB
    rw [pall_is, trimB_eq, tl_len]
    have e1 : decide (1 ≤ ((s.size : Nat) : Int)) = decide (1 ≤ s.size) := decide_eq_decide.2 (by omega)
    have e2 : decide (((s.size : Nat) : Int) ≤ 40) = decide (s.size ≤ 40) := decide_eq_decide.2 (by omega)
    rw [e1, e2]
def C_cleanc : FunT := fun args σ => match args, σ with
  | [.dat (.str s)], [] => .chk (okS s) (.leaf ([.dat (.str (mkS (clL (tl s))))], []))
  | _, _ => .fail
theorem ccleanc_ok : FunOk Tryd.prog 11 (FunT.run C_cleanc) := FunOk.of cclean_ok (fun args σ r' h => by
  unfold C_cleanc at h
  split at h
  · rename_i s
    obtain ⟨h1, h⟩ := T.chk_some h
    obtain ⟨g1, g2⟩ := clean_is h1
    rw [← T.leaf_some h]
    show T.run (.chk (clean_pre s) _) = _
    rw [g1, g2]; rfl
  · simp [T.run_fail] at h)
def C_textc : FunT := fun args σ => match args, σ with
  | [.dat (.str s)], [] => .chk (okS s) (.leaf ([.dat (.bool (txB (tl s)))], []))
  | _, _ => .fail
theorem ctextc_ok : FunOk Tryd.prog 9 (FunT.run C_textc) := FunOk.of ctext_ok (fun args σ r' h => by
  unfold C_textc at h
  split at h
  · rename_i s
    obtain ⟨h1, h⟩ := T.chk_some h
    obtain ⟨g1, g2⟩ := text_is h1
    rw [← T.leaf_some h]
    show T.run (.chk (text_pre s) _) = _
    rw [g1, g2]; rfl
  · simp [T.run_fail] at h)
end Go.Proofs.YtniombjfbdojjaaDoor
