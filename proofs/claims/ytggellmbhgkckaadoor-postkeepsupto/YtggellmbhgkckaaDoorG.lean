/- Seat 17: plain facts of letters. -/
import Derived.Test.YtggellmbhgkckaaDoorF
import Derived.Test.YtggellmbhgkckaaDoorAx24
namespace Go.Proofs.YtggellmbhgkckaaDoor
open Go.AX
set_option maxRecDepth 100000
abbrev tM (u : Bool) (la fm to : Int) (s : ByteArray) : D := .agg [.bool u, .int .i64 la, .int .i64 fm, .int .i64 to, .str s]
theorem k23_form {d : D} (h : okE k23 d = true) : ∃ u la fm to s, d = tM u la fm to s := by
  obtain ⟨x0, x1, x2, x3, x4, rfl, h0, h1, h2, h3, h4⟩ := okE_agg5 h
  obtain ⟨u, rfl⟩ := okE_bool h0
  obtain ⟨a, rfl⟩ := okE_int h1
  obtain ⟨b, rfl⟩ := okE_int h2
  obtain ⟨c, rfl⟩ := okE_int h3
  obtain ⟨s, rfl⟩ := okE_str h4
  exact ⟨u, a, b, c, s, rfl⟩
theorem k23_fits {ls : List D} (h : ls.all (okE k23) = true) : fits s23 ls = true := by
  unfold fits
  rw [List.all_eq_true] at h ⊢
  intro d hd
  obtain ⟨u, a, b, c, s, rfl⟩ := k23_form (h d hd)
  rfl
theorem seg_set {ls : List D} (i : Nat) (x : D) : seg (ls.set i x) 0 ls.length = ls.set i x := by
  have := seg_full (ls.set i x)
  rwa [List.length_set] at this
theorem all_set {ls : List D} {p : D → Bool} (h : ls.all p = true) {x : D} (hx : p x = true) (i : Nat) : (ls.set i x).all p = true := by
  rw [List.all_eq_true] at h ⊢
  intro d hd
  rcases List.mem_or_eq_of_mem_set hd with hd | rfl
  · exact h d hd
  · exact hx
def okM (d : D) : Bool := okE k23 d && okS (fS d)
theorem okM_k {ls : List D} (h : ls.all okM = true) : ls.all (okE k23) = true := by
  rw [List.all_eq_true] at h ⊢
  intro d hd
  have := h d hd
  unfold okM at this
  exact ((Bool.and_eq_true _ _).mp this).1
theorem trimR_size (c : Int) (s : ByteArray) : (trimR c s).size ≤ s.size := by
  unfold trimR
  rw [mkS_size, trR, List.length_reverse]
  have := List.IsSuffix.length_le (List.dropWhile_suffix (isB c) (l := s.data.toList.reverse))
  rw [List.length_reverse, Array.length_toList] at this
  exact this
theorem bytes_okE (s : ByteArray) : (bytesD s).all (okE (.int .u8)) = true := by
  rw [List.all_eq_true]
  intro d hd
  unfold bytesD at hd
  obtain ⟨x, _, rfl⟩ := List.mem_map.1 hd
  rfl
theorem bytes_len (s : ByteArray) : (bytesD s).length = s.size := by
  unfold bytesD
  rw [List.length_map, Array.length_toList]; rfl
theorem text_ok {s : ByteArray} (h : okS s = true) : text_pre s = true := by
  have hs := of_decide_eq_true h
  have ht : okS (trimR 32 s) = true := decide_eq_true (Nat.le_trans (trimR_size 32 s) hs)
  have hl : (bytesD s).length ≤ 1099511627776 := by rw [bytes_len]; exact hs
  have hb : (bytesD s).all (okE (.int .u8)) = true := bytes_okE s
  have hn : nall_pre s = true := by
    unfold nall_pre ib_okL
    rw [seg_full, hb, okE_int_fits hb, decide_eq_true hl, Nat.beq_refl, decide_eq_true (by omega)]; rfl
  unfold text_pre
  rw [hn, h, ht]; simp
theorem wr_ok {d : D} (h : okM d = true) : okE k23 d = true ∧ wr_pre (fU d) (fI d 1) (fI d 2) (fI d 3) (fS d) = true := by
  unfold okM at h
  rw [Bool.and_eq_true] at h
  refine ⟨h.1, ?_⟩
  unfold wr_pre
  rw [text_ok h.2]; simp
theorem iof_ok {ls : List D} (h : ls.all (okE k23) = true) (_hl : ls.length ≤ 1048576) : iof_pre ls = true := by
  unfold iof_pre
  rw [k23_fits h, decide_eq_true (by omega)]; rfl
theorem iwL_ok {ls : List D} (h : ls.all okM = true) (_hl : ls.length ≤ 1048576) : iw_okL ls = true := by
  unfold iw_okL
  rw [decide_eq_true (by omega), Bool.and_true]
  rw [List.all_eq_true] at h ⊢
  intro d hd
  obtain ⟨g1, g2⟩ := wr_ok (h d hd)
  rw [g1, g2]; rfl
theorem right_is (ls : List D) : right_v0 ls = !ls.any wrD := by
  unfold right_v0 cfi_v0 iw_idx
  cases ls.any wrD with
  | true => rw [cond_true, decide_eq_true (by omega)]
  | false => rfl
theorem right_set {ls : List D} (h : right_v0 ls = true) {x : D} (hx : wrD x = false) (i : Nat) : right_v0 (ls.set i x) = true := by
  rw [right_is, Bool.not_eq_true', List.any_eq_false] at h ⊢
  intro d hd
  rcases List.mem_or_eq_of_mem_set hd with hd | rfl
  · exact h d hd
  · rw [hx]; exact Bool.false_ne_true
theorem right_mem {ls : List D} (h : right_v0 ls = true) {d : D} (hd : d ∈ ls) : wrD d = false := by
  rw [right_is, Bool.not_eq_true', List.any_eq_false] at h
  simpa using h d hd
def okPl (n : Nat) (is : List D) : Bool := is.all fun d => okE (.int .i64) d && (decide (0 ≤ D.getI d) && decide (D.getI d < (n : Int)))
theorem okPl_col (p : Nat → Bool) (N : Nat) : ∀ n, n ≤ N → okPl N (colTo p n) = true
  | 0, _ => rfl
  | n + 1, h => by
    have ih := okPl_col p N n (by omega)
    unfold colTo
    cases p n with
    | false => exact ih
    | true =>
      unfold okPl at ih ⊢
      rw [cond_true, List.all_append, ih]
      show (true && ((true && (decide (0 ≤ (n : Int)) && decide ((n : Int) < (N : Int)))) && true)) = true
      rw [decide_eq_true (by omega), decide_eq_true (by omega)]; rfl
theorem gett_is {ls : List D} (h1 : ls.all (okE k23) = true) (hl : ls.length ≤ 1048576) {i : Nat} (hi : i < ls.length) : gett_pre ls (i : Int) = true := by
  unfold gett_pre
  rw [iof_ok h1 hl, has_pre h1, Int.toNat_natCast, decide_eq_true hi, allE_nth h1 hi, decide_eq_true (show (0 : Int) ≤ (i : Int) by omega)]; simp
end Go.Proofs.YtggellmbhgkckaaDoor
