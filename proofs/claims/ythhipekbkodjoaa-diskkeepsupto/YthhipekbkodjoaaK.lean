/- Seat 07: plain facts of the disk and the document's. -/
import Derived.Test.YthhipekbkodjoaaH
namespace Go.Proofs.Ythhipekbkodjoaa
open Go.AX
abbrev txS (l : List D) : ByteArray := { data := { toList := byteVs l } }
def tx (l : List D) : D := .str (txS l)
def wTo (w : D) : D := .agg [.int .i64 (wAt w), tx (wWas w)]
def absN (k : Nat) (ws sf : List D) : List D := (List.range (k + sf.length - sf.length)).map fun i : Nat => tx (now_v0 ws sf (i : Int))
theorem absN_eq (k : Nat) (ws sf : List D) : absN k ws sf = (List.range k).map fun i : Nat => tx (now_v0 ws sf (i : Int)) := by unfold absN; rw [Nat.add_sub_cancel]
def absS (sf : List D) : List D := sf.map fun d => tx (D.getL d)
def secOk (d : D) : Prop := ∃ l, d = .arr .one l ∧ l.length = 128 ∧ isBytes l = true
def wtOk (k : Nat) (w : D) : Prop := ∃ n l, w = .agg [.int .i64 n, .arr .one l] ∧ 0 ≤ n ∧ n < (k : Int) ∧ l.length = 128 ∧ isBytes l = true
structure OkA (k j : Nat) (ws sf : List D) : Prop where
  hk : 0 < k ∧ k ≤ 100000
  hj : ws.length ≤ j
  hj2 : j ≤ 1000
  sl : sf.length = k
  so : ∀ d ∈ sf, secOk d
  wo : ∀ w ∈ ws, wtOk k w
theorem nthD_map {f : D → D} {l : List D} {i : Nat} (h : i < l.length) : nthD (l.map f) i = f (nthD l i) := by
  have h1 := nthD_some (l := l.map f) (i := i) (by rw [List.length_map]; exact h)
  rw [List.getElem?_map, nthD_some h] at h1
  exact (Option.some.inj h1).symm
theorem nthD_append_lt {a b : List D} {i : Nat} (h : i < a.length) : nthD (a ++ b) i = nthD a i := by
  unfold nthD
  rw [List.getD_eq_getElem?_getD, List.getD_eq_getElem?_getD, List.getElem?_append_left h]
theorem nthD_append_len (a : List D) (d : D) : nthD (a ++ [d]) a.length = d := by
  unfold nthD
  rw [List.getD_eq_getElem?_getD, List.getElem?_append_right (Nat.le_refl _), Nat.sub_self]; rfl
theorem nthD_set {l : List D} {i j : Nat} {d : D} (h : i < l.length) : nthD (l.set j d) i = bif Nat.beq i j then d else nthD l i := by
  unfold nthD
  rw [List.getD_eq_getElem?_getD, List.getD_eq_getElem?_getD, List.getElem?_set]
  cases hb : Nat.beq i j with
  | true =>
    have := Nat.eq_of_beq_eq_true hb
    subst this
    simp only [if_true, h]; rfl
  | false =>
    have : j ≠ i := fun e => by subst e; rw [Nat.beq_refl] at hb; exact absurd hb (by decide)
    simp only [if_neg this]; rfl
theorem ext_nthD {a b : List D} (h : a.length = b.length) (g : ∀ i, i < a.length → nthD a i = nthD b i) : a = b := by
  refine List.ext_getElem? fun i => ?_
  by_cases hi : i < a.length
  · rw [nthD_some hi, nthD_some (by omega), g i hi]
  · rw [List.getElem?_eq_none (by omega), List.getElem?_eq_none (by omega)]
theorem nthD_rangeMap {f : Nat → D} {k i : Nat} (h : i < k) : nthD ((List.range k).map f) i = f i := by
  have h1 := nthD_some (l := (List.range k).map f) (i := i) (by rw [List.length_map, List.length_range]; exact h)
  rw [List.getElem?_map, List.getElem?_range h] at h1
  exact (Option.some.inj h1).symm
theorem lastP_congr {p q : Nat → Bool} : ∀ {n : Nat}, (∀ i, i < n → p i = q i) → lastP p n = lastP q n
  | 0, _ => rfl
  | n + 1, h => by rw [lastP, lastP, h n (by omega), lastP_congr fun i hi => h i (by omega)]
theorem lastP_lt {p : Nat → Bool} : ∀ {n i : Nat}, lastP p n = some i → i < n ∧ p i = true
  | 0, i, h => by simp [lastP] at h
  | n + 1, i, h => by
    rw [lastP] at h
    cases hp : p n with
    | true =>
      rw [hp, cond_true] at h
      obtain rfl := Option.some.inj h
      exact ⟨by omega, hp⟩
    | false =>
      rw [hp, cond_false] at h
      have := lastP_lt h
      exact ⟨by omega, this.2⟩
theorem now_nil (sf : List D) (n : Int) : now_v0 [] sf n = D.getL (nthD sf n.toNat) := by
  unfold now_v0 hasW
  show (bif (lastP _ 0).isSome then _ else _) = _
  rw [lastP, Nat.zero_add]; rfl
theorem now_append (ws : List D) (w : D) (sf : List D) (n : Int) : now_v0 (ws ++ [w]) sf n = bif wAt w == n then wWas w else now_v0 ws sf n := by
  have hl : lastP (fun j => wAt (nthD (ws ++ [w]) j) == n) ws.length = lastP (fun j => wAt (nthD ws j) == n) ws.length :=
    lastP_congr fun i hi => by rw [nthD_append_lt hi]
  have hh : lastP (fun j => wAt (nthD (ws ++ [w]) j) == n) (ws ++ [w]).length = bif wAt w == n then some ws.length else lastP (fun j => wAt (nthD ws j) == n) ws.length := by
    rw [List.length_append, List.length_singleton, lastP, hl, nthD_append_len]
  unfold now_v0 hasW nowW
  rw [hh]
  cases wAt w == n with
  | true => simp only [cond_true, Option.isSome_some, Option.getD_some, nthD_append_len]
  | false =>
    simp only [cond_false]
    cases hq : lastP (fun j => wAt (nthD ws j) == n) ws.length with
    | none => rfl
    | some i => simp only [Option.isSome_some, cond_true, Option.getD_some, nthD_append_lt (lastP_lt hq).1]
theorem setW_len (sf : List D) (w : D) : (setW sf w).length = sf.length := by unfold setW; rw [List.length_set]
theorem foldW_len (ws : List D) : ∀ sf : List D, (ws.foldl setW sf).length = sf.length := by
  induction ws with
  | nil => intro sf; rfl
  | cons w ws ih => intro sf; rw [List.foldl_cons, ih, setW_len]
theorem snoc_ind {α : Type} {P : List α → Prop} (h0 : P []) (h1 : ∀ l a, P l → P (l ++ [a])) : ∀ l, P l := by
  intro l
  have : ∀ n, ∀ l : List α, l.length = n → P l := by
    intro n
    induction n with
    | zero => intro l hl; rw [List.length_eq_zero_iff.1 hl]; exact h0
    | succ n ih =>
      intro l hl
      have hne : l ≠ [] := fun e => by subst e; simp at hl
      rw [← List.dropLast_concat_getLast hne]
      exact h1 _ _ (ih _ (by rw [List.length_dropLast]; omega))
  exact this _ l rfl
theorem foldW_nth (sf : List D) (k : Nat) (hk : sf.length = k) : ∀ ws : List D, (∀ w ∈ ws, wtOk k w) → ∀ i, i < k → D.getL (nthD (ws.foldl setW sf) i) = now_v0 ws sf (i : Int) := by
  refine snoc_ind ?_ ?_
  · intro _ i hi
    rw [now_nil]; rfl
  · intro ws w ih h i hi
    rw [List.foldl_append, List.foldl_cons, List.foldl_nil, now_append]
    have ihh := ih (fun x hx => h x (by simp [hx])) i hi
    obtain ⟨n, l, rfl, h1, h2, h3, h4⟩ := h w (by simp)
    generalize hS : ws.foldl setW sf = S at *
    have hSl : S.length = k := by rw [← hS, foldW_len, hk]
    unfold setW
    rw [nthD_set (by omega)]
    have e1 : wAt (.agg [.int .i64 n, .arr .one l]) = n := rfl
    have e2 : wWas (.agg [.int .i64 n, .arr .one l]) = l := rfl
    rw [e1, e2]
    have e3 : Nat.beq i n.toNat = (n == (i : Int)) := bool_ext ⟨fun h => by have := Nat.eq_of_beq_eq_true h; rw [beq_iff_eq]; omega, fun h => beq_of_eq (by rw [beq_iff_eq] at h; omega)⟩
    rw [e3]
    cases n == (i : Int) with
    | true => rfl
    | false => exact ihh
theorem foldW_sec {k : Nat} : ∀ (ws sf : List D), (∀ w ∈ ws, wtOk k w) → (∀ d ∈ sf, secOk d) → ∀ d ∈ ws.foldl setW sf, secOk d := by
  intro ws
  induction ws with
  | nil => intro sf _ h; exact h
  | cons w ws ih =>
    intro sf h1 h2
    refine ih _ (fun x hx => h1 x (List.mem_cons_of_mem _ hx)) fun d hd => ?_
    obtain ⟨n, l, rfl, _, _, h3, h4⟩ := h1 w (List.mem_cons_self ..)
    rcases List.mem_or_eq_of_mem_set hd with hd | rfl
    · exact h2 d hd
    · exact ⟨l, rfl, h3, h4⟩
theorem absS_len (sf : List D) : (absS sf).length = sf.length := List.length_map _
theorem absN_len (k : Nat) (ws sf : List D) : (absN k ws sf).length = k := by rw [absN_eq, List.length_map, List.length_range]
theorem abs_flush {k : Nat} {ws sf : List D} (hk : sf.length = k) (h : ∀ w ∈ ws, wtOk k w) : absS (ws.foldl setW sf) = absN k ws sf := by
  refine ext_nthD (by rw [absS_len, foldW_len, absN_len, hk]) fun i hi => ?_
  rw [absS_len, foldW_len, hk] at hi
  simp only [absS, absN_eq]
  rw [nthD_map (by rw [foldW_len, hk]; exact hi), nthD_rangeMap hi, foldW_nth sf k hk ws h i hi]
theorem abs_nil {k : Nat} {sf : List D} (hk : sf.length = k) : absN k [] sf = absS sf := by
  refine ext_nthD (by rw [absN_len, absS_len, hk]) fun i hi => ?_
  rw [absN_len] at hi
  simp only [absS, absN_eq]
  rw [nthD_rangeMap hi, nthD_map (by omega), now_nil, Int.toNat_natCast]
theorem wiTo_nth {l : List D} {n : Int} {s : ByteArray} (hl : ∀ d ∈ l, ∃ t, d = .str t) : ∀ {m i : Nat}, m ≤ l.length → i < m → nthD (wiTo l n s m) i = bif (i : Int) == n then .str s else nthD l i
  | 0, i, _, h => by omega
  | m + 1, i, hm, h => by
    rw [wiTo]
    by_cases hi : i < m
    · rw [nthD_append_lt (by rw [wiTo_length]; exact hi)]
      exact wiTo_nth hl (by omega) hi
    · obtain rfl : i = m := by omega
      have e := nthD_append_len (wiTo l n s i) (bif (i : Int) == n then .str s else .str (D.getS (nthD l i)))
      rw [wiTo_length] at e
      rw [e]
      obtain ⟨t, ht⟩ := hl _ (nthD_mem (show i < l.length by omega))
      rw [ht]; rfl
theorem wiTo_set {l : List D} {n : Int} {s : ByteArray} (hl : ∀ d ∈ l, ∃ t, d = .str t) (h0 : 0 ≤ n) : wiTo l n s l.length = l.set n.toNat (.str s) := by
  refine ext_nthD (by rw [wiTo_length, List.length_set]) fun i hi => ?_
  rw [wiTo_length] at hi
  rw [wiTo_nth hl (Nat.le_refl _) hi, nthD_set hi]
  have e3 : Nat.beq i n.toNat = ((i : Int) == n) := bool_ext ⟨fun h => by have := Nat.eq_of_beq_eq_true h; rw [beq_iff_eq]; omega, fun h => beq_of_eq (by rw [beq_iff_eq] at h; omega)⟩
  rw [e3]
theorem set_self {l : List D} {i : Nat} (_ : i < l.length) : l.set i (nthD l i) = l := by
  refine ext_nthD (by rw [List.length_set]) fun j hj => ?_
  rw [List.length_set] at hj
  rw [nthD_set hj]
  cases hb : Nat.beq j i with
  | true => rw [Nat.eq_of_beq_eq_true hb]; rfl
  | false => rfl
theorem map_set' {f : D → D} (l : List D) (i : Nat) (d : D) : (l.set i d).map f = (l.map f).set i (f d) := List.map_set
theorem tx_size (l : List D) : (txS l).size = l.length := by
  show (byteVs l).length = _
  exact List.length_map _
theorem cat_tx (a b : List D) (n : Nat) : catStr (subStr (txS a) 0 n) (subStr (txS b) n (txS b).size) = txS (a.take n ++ b.drop n) := by
  unfold catStr subStr
  rw [tx_size]
  refine congrArg ByteArray.mk ?_
  rw [← Array.toList_inj]
  simp only [Array.toList_append, byteVs, List.drop_zero, Nat.sub_zero, List.map_append, List.map_take, List.map_drop]
  rw [List.take_of_length_le (i := b.length - n) (by rw [List.length_drop, List.length_map]; exact Nat.le_refl _)]
theorem absS_str (sf : List D) : ∀ d ∈ absS sf, ∃ t, d = .str t := by
  intro d hd
  obtain ⟨x, _, rfl⟩ := List.mem_map.1 hd
  exact ⟨_, rfl⟩
theorem absN_str (k : Nat) (ws sf : List D) : ∀ d ∈ absN k ws sf, ∃ t, d = .str t := by
  intro d hd
  rw [absN_eq] at hd
  obtain ⟨x, _, rfl⟩ := List.mem_map.1 hd
  exact ⟨_, rfl⟩
theorem rcW_eq {k n : Nat} {sf : List D} {w : D} (hk : sf.length = k) (hw : wtOk k w) :
    rcW n (absS sf) (wTo w) = absS (sf.set (wAt w).toNat (.arr .one ((wWas w).take n ++ (D.getL (nthD sf (wAt w).toNat)).drop n))) := by
  obtain ⟨a, l, rfl, h1, h2, h3, h4⟩ := hw
  have ha : a.toNat < sf.length := by omega
  unfold rcW
  have e1 : aAt (wTo (.agg [.int .i64 a, .arr .one l])) = a := rfl
  have e2 : aWas (wTo (.agg [.int .i64 a, .arr .one l])) = txS l := rfl
  have e4 : wAt (.agg [.int .i64 a, .arr .one l]) = a := rfl
  have e5 : wWas (.agg [.int .i64 a, .arr .one l]) = l := rfl
  have e3 : nthD (absS sf) a.toNat = tx (D.getL (nthD sf a.toNat)) := nthD_map ha
  rw [e1, e2, e4, e5, e3, wiTo_set (absS_str sf) h1]
  show _ = List.map _ _
  rw [map_set']
  show (absS sf).set a.toNat (.str (catStr (subStr (txS l) 0 n) (subStr (txS (D.getL (nthD sf a.toNat))) n (txS (D.getL (nthD sf a.toNat))).size))) = _
  rw [cat_tx]; rfl
theorem rcW_zero {k : Nat} {sf : List D} {w : D} (hk : sf.length = k) (hs : ∀ d ∈ sf, secOk d) (hw : wtOk k w) : rcW 0 (absS sf) (wTo w) = absS sf := by
  rw [rcW_eq hk hw]
  obtain ⟨a, l, rfl, h1, h2, h3, h4⟩ := hw
  have ha : a.toNat < sf.length := by omega
  have e4 : wAt (.agg [.int .i64 a, .arr .one l]) = a := rfl
  rw [e4, List.take_zero, List.drop_zero, List.nil_append]
  obtain ⟨m, hm, _⟩ := hs _ (nthD_mem ha)
  have : (.arr .one (D.getL (nthD sf a.toNat)) : D) = nthD sf a.toNat := by rw [hm]; rfl
  rw [this, set_self ha]
theorem isBytes_append {a b : List D} (ha : isBytes a = true) (hb : isBytes b = true) : isBytes (a ++ b) = true := by
  unfold isBytes at *; rw [List.all_append, ha, hb]; rfl
theorem isBytes_take {a : List D} (ha : isBytes a = true) (n : Nat) : isBytes (a.take n) = true := by
  unfold isBytes at *; rw [List.all_eq_true] at *; exact fun d hd => ha d (List.mem_of_mem_take hd)
theorem isBytes_drop {a : List D} (ha : isBytes a = true) (n : Nat) : isBytes (a.drop n) = true := by
  unfold isBytes at *; rw [List.all_eq_true] at *; exact fun d hd => ha d (List.mem_of_mem_drop hd)
theorem trW_sec {k : Nat} {c : Int} {sf : List D} {w : D} (hk : sf.length = k) (hs : ∀ d ∈ sf, secOk d) (hw : wtOk k w) : (trW c sf w).length = k ∧ ∀ d ∈ trW c sf w, secOk d := by
  obtain ⟨a, l, rfl, h1, h2, h3, h4⟩ := hw
  unfold trW
  cases Nat.beq (cut16 c).toNat 0 with
  | true => exact ⟨hk, hs⟩
  | false =>
    rw [cond_false]
    refine ⟨by rw [List.length_set]; exact hk, fun d hd => ?_⟩
    rcases List.mem_or_eq_of_mem_set hd with hd | rfl
    · exact hs d hd
    · have ha : a.toNat < sf.length := by omega
      obtain ⟨m, hm, g1, g2⟩ := hs _ (nthD_mem ha)
      have h5 := cut16_le c
      refine ⟨_, rfl, ?_, ?_⟩
      · show (l.take _ ++ (D.getL (nthD sf a.toNat)).drop _).length = 128
        rw [hm]
        show (l.take _ ++ m.drop _).length = 128
        rw [List.length_append, List.length_take, List.length_drop]; omega
      · show isBytes (l.take _ ++ (D.getL (nthD sf a.toNat)).drop _) = true
        rw [hm]
        exact isBytes_append (isBytes_take h4 _) (isBytes_drop g2 _)
theorem trTo_sec {k : Nat} {ch ws sf : List D} (hk : sf.length = k) (hs : ∀ d ∈ sf, secOk d) (hw : ∀ w ∈ ws, wtOk k w) : ∀ i, i ≤ ws.length → (trTo ch ws sf i).length = k ∧ ∀ d ∈ trTo ch ws sf i, secOk d
  | 0, _ => ⟨hk, hs⟩
  | i + 1, hi => by
    obtain ⟨h1, h2⟩ := trTo_sec (ch := ch) hk hs hw i (by omega)
    exact trW_sec h1 h2 (hw _ (nthD_mem (by omega)))
theorem abs_crash {k : Nat} {ch ws sf : List D} (hk : sf.length = k) (hs : ∀ d ∈ sf, secOk d) (hw : ∀ w ∈ ws, wtOk k w) (hc : ch.all okU8 = true) :
    ∀ i, i ≤ ws.length → rcTo ch (ws.map wTo) (absS sf) i = absS (trTo ch ws sf (min i ch.length))
  | 0, _ => by rw [Nat.zero_min]; rfl
  | i + 1, hi => by
    rw [rcTo, abs_crash hk hs hw hc i (by omega), nthD_map (by omega)]
    have hw' := hw _ (nthD_mem (show i < ws.length by omega))
    by_cases hi2 : i < ch.length
    · rw [show min i ch.length = i by omega, show min (i + 1) ch.length = i + 1 by omega, trTo]
      obtain ⟨h1, h2⟩ := trTo_sec (ch := ch) hk hs hw i (by omega)
      have hu := List.all_eq_true.1 hc _ (nthD_mem hi2)
      simp only [okU8, Bool.and_eq_true, decide_eq_true_eq] at hu
      have hn : rcN ch i = (cut16 (D.getI (nthD ch i))).toNat := by
        unfold rcN cut16
        rw [decide_eq_true hi2, cond_true]
        by_cases h16 : 16 < D.getI (nthD ch i)
        · rw [decide_eq_true h16, cond_true, if_pos (by omega)]; rfl
        · rw [decide_eq_false h16, cond_false, if_neg (by omega)]
      rw [hn]
      unfold trW
      cases hb : Nat.beq (cut16 (D.getI (nthD ch i))).toNat 0 with
      | true => rw [Nat.eq_of_beq_eq_true hb, cond_true]; exact rcW_zero h1 h2 hw'
      | false => rw [cond_false]; exact rcW_eq h1 hw'
    · rw [show min i ch.length = ch.length by omega, show min (i + 1) ch.length = ch.length by omega]
      obtain ⟨h1, h2⟩ := trTo_sec (ch := ch) hk hs hw ch.length (by omega)
      have hn : rcN ch i = 0 := by unfold rcN; rw [decide_eq_false hi2]; rfl
      rw [hn]
      exact rcW_zero h1 h2 hw'
end Go.Proofs.Ythhipekbkodjoaa
