/- Seat 02: the document's numbers and texts. -/
import Derived.Test.YtnailhdfopoibaaE
namespace Go.Proofs.Ytnailhdfopoibaa
open Go.AX
set_option maxRecDepth 100000

/-! the document's Num -/
def rfill (d : Nat) : Nat → Int → List D → List D
  | 0, _, L => L
  | j + 1, n, L => rfill d j (n / 256) (L.set (d + j) (.int .u8 (n % 256)))

theorem rfill_length (d : Nat) : ∀ (j : Nat) (n : Int) (L : List D), (rfill d j n L).length = L.length
  | 0, _, _ => rfl
  | j + 1, n, L => by rw [rfill, rfill_length d j]; simp

def L_rnum : Frame' → Store → T (Exit × Frame' × Store) := fun fr σ => match fr.getD 0 .undef, fr.getD 1 .undef, fr.getD 8 .undef, fr.getD 9 .undef, σ with
  | .dat (.slc .one ds), .dat (.int .u64 n), .sref .one 0 m [] 0 m', .dat (.int .i64 i), [⟨.arr .one 0, true, false, .dat (.arr .one L)⟩] =>
    .chk (Nat.beq fr.length 38 && Nat.beq m L.length && Nat.beq m' L.length && fits .one L && decide (IntKind.wrap .u64 n = n) && decide (i = L.length - 1) && decide (ds.length ≤ L.length) && decide (L.length ≤ LIM))
      (.leaf (.exit 0, mkF 38 [(8, slcOf (rfill ds.length (L.length - ds.length) n L))], [mkDyn .one (rfill ds.length (L.length - ds.length) n L)]))
  | _, _, _, _, _ => .fail

abbrev E_rnum : Env := envOf tab [(27, S_size)] [] [(5, L_rnum)] []

theorem rnum_step (n i : Int) (ds L : List D) (K : Kt) : oneRound E_rnum Try.f9 0 1 (mkF 38 [(0, .dat (.slc .one ds)), (1, .dat (.int .u64 n)), (8, slcOf L), (9, .dat (.int .i64 i))]) [mkDyn .one L] K =
  (bif decide (i ≥ (↑(List.length ds) : Int)) then 
   (bif decide ((0 : Int) ≤ i) then 
    (bif decide (i < (↑(List.length L) : Int)) then 
     (bif Nat.beq (List.length L) (List.length L) && true && true then 
      (bif decide ((0 : Nat) + Int.toNat i < List.length L) then 
       (bif Sh.eqb (AV.shape (AV.dat (nthD L ((0 : Nat) + Int.toNat i)))) Sh.one then K (Exit.normal) (mkF (38 : Nat) [((0 : Nat), AV.dat (D.slc Sh.one ds)), ((1 : Nat), AV.dat (D.int IntKind.u64 (IntKind.wrap IntKind.u64 (Int.tdiv n (256 : Int))))), ((8 : Nat), AV.sref Sh.one (0 : Nat) (List.length L) [] (0 : Nat) (List.length L)), ((9 : Nat), AV.dat (D.int IntKind.i64 (IntKind.wrap IntKind.i64 (i - (1 : Int))))), ((27 : Nat), AV.dat (D.int IntKind.i64 i)), ((28 : Nat), AV.dat (D.int IntKind.i64 (IntKind.wrap IntKind.i64 (i - (1 : Int)))))]) ([{ sh := Sh.arr Sh.one (0 : Nat), dyn := true, frz := false, v := AV.dat (D.arr Sh.one (List.set L ((0 : Nat) + Int.toNat i) (D.int IntKind.u8 (IntKind.wrap IntKind.u8 (Int.tmod n (256 : Int)))))) }]) else none) else none) else none) else none) else none) else K (Exit.exit (0 : Nat)) (mkF (38 : Nat) [((8 : Nat), AV.sref Sh.one (0 : Nat) (List.length L) [] (0 : Nat) (List.length L))]) ([{ sh := Sh.arr Sh.one (0 : Nat), dyn := true, frz := false, v := AV.dat (D.arr Sh.one L) }])) := by kernel_rfl

theorem byteAt_div (n : Int) (j : Nat) : byteAt (n / 256) j = byteAt n (j + 1) := by
  unfold byteAt
  have e : (2 : Int) ^ (8 * (j + 1)) = 256 * 2 ^ (8 * j) := by
    rw [show 8 * (j + 1) = 8 * j + 8 by omega, Int.pow_add, Int.mul_comm]; rfl
  rw [e, Int.ediv_ediv_of_nonneg (by omega)]

theorem numB_last (n : Int) : ∀ j, numB n (j + 1) = numB (n / 256) j ++ [byteAt n 0]
  | 0 => rfl
  | j + 1 => by
    rw [show numB n (j + 1 + 1) = byteAt n (j + 1) :: numB n (j + 1) from rfl, numB_last n j, show numB (n / 256) (j + 1) = byteAt (n / 256) j :: numB (n / 256) j from rfl, byteAt_div]
    rfl

theorem set_mid (ds Z tail : List D) (j : Nat) (x : D) (hz : Z.length = j + 1) : (ds ++ Z ++ tail).set (ds.length + j) x = ds ++ Z.take j ++ (x :: tail) := by
  rw [List.append_assoc, List.append_assoc, List.set_append_right _ _ (by omega)]
  congr 1
  rw [Nat.add_sub_cancel_left, List.set_append_left _ _ (by omega)]
  have : Z.set j x = Z.take j ++ [x] := by
    rw [List.set_eq_take_append_cons_drop, if_pos (by omega), List.drop_eq_nil_of_le (by omega)]
  rw [this]; simp

theorem rfill_eq (ds : List D) : ∀ (j : Nat) (n : Int) (Z tail : List D), Z.length = j → rfill ds.length j n (ds ++ Z ++ tail) = ds ++ numB n j ++ tail
  | 0, n, Z, tail, hz => by
    have : Z = [] := List.length_eq_zero_iff.1 hz
    subst this; rfl
  | j + 1, n, Z, tail, hz => by
    rw [rfill, set_mid ds Z tail j _ hz, rfill_eq ds j (n / 256) (Z.take j) _ (by rw [List.length_take]; omega), numB_last]
    have : byteAt n 0 = .int .u8 (n % 256) := by unfold byteAt; simp
    rw [this]; simp

theorem fits_set {L : List D} {i : Nat} {d : D} (h : fits .one L = true) (hd : d.shape = .one) : fits .one (L.set i d) = true := by
  rw [fits_one_iff] at h ⊢
  intro x hx
  rcases List.mem_or_eq_of_mem_set hx with h1 | h1
  · exact h x h1
  · rw [h1, hd]

theorem rnum_loop (ds : List D) : ∀ (j : Nat) (n : Int) (L : List D) (fr : Frame') (σ : Store) (K : Kt), 0 ≤ n → n < 2 ^ 64 → fits .one L = true → ds.length + j ≤ L.length → L.length ≤ LIM →
    cleanF (liveAt Try.f9 0) 0 fr = mkF 38 [(0, .dat (.slc .one ds)), (1, .dat (.int .u64 n)), (8, slcOf L), (9, .dat (.int .i64 ((ds.length + j : Nat) - 1 : Int)))] →
    trim 1 (mkF 38 [(0, .dat (.slc .one ds)), (1, .dat (.int .u64 n)), (8, slcOf L), (9, .dat (.int .i64 ((ds.length + j : Nat) - 1 : Int)))]) σ = [mkDyn .one L] →
    loopRun E_rnum Try.f9 0 1 (j + 1) fr σ K = K (.exit 0) (mkF 38 [(8, slcOf (rfill ds.length j n L))]) [mkDyn .one (rfill ds.length j n L)] := by
  intro j
  induction j with
  | zero =>
    intro n L fr σ K hn hn' hf hl hL h1 h2
    rw [loopRun_step h1 h2, rnum_step]
    have c0 : decide (((ds.length + 0 : Nat) - 1 : Int) ≥ (ds.length : Int)) = false := by simp; omega
    rw [c0, cond_false]
    rfl
  | succ j ih =>
    intro n L fr σ K hn hn' hf hl hL h1 h2
    rw [loopRun_step h1 h2, rnum_step]
    unfold LIM at hL
    have e0 : (((ds.length + (j + 1) : Nat) : Int) - 1) = ((ds.length + j : Nat) : Int) := by omega
    rw [e0]
    have c0 : decide (((ds.length + j : Nat) : Int) ≥ (ds.length : Int)) = true := decide_eq_true (by omega)
    have c1 : decide ((0 : Int) ≤ ((ds.length + j : Nat) : Int)) = true := by simp; omega
    have c2 : decide (((ds.length + j : Nat) : Int) < (L.length : Int)) = true := by simp; omega
    have c3 : decide (0 + (ds.length + j) < L.length) = true := by simp; omega
    have c4 : Sh.eqb (AV.shape (AV.dat (nthD L (0 + (ds.length + j))))) Sh.one = true := by
      rw [Nat.zero_add]
      have := fits_one_iff.1 hf _ (nthD_mem (show ds.length + j < L.length by omega))
      rw [AV.shape, this]; rfl
    have e1 : IntKind.wrap .u64 (Int.tdiv n 256) = n / 256 := by rw [IntKind.wrap_u64, Int.tdiv_eq_ediv_of_nonneg hn]; omega
    have e2 : IntKind.wrap .i64 (((ds.length + j : Nat) : Int) - 1) = ((ds.length + j : Nat) - 1 : Int) := by rw [IntKind.wrap_i64]; omega
    have e3 : IntKind.wrap .u8 (Int.tmod n 256) = n % 256 := by rw [IntKind.wrap_u8, Int.tmod_eq_emod_of_nonneg hn]; omega
    have c5 : (Nat.beq L.length L.length && true && true) = true := by rw [Nat.beq_refl]; rfl
    rw [c0, c1, c2, Int.toNat_natCast, c3, c4, c5, e1, e2, e3, Nat.zero_add]
    repeat rw [cond_true]
    have hlen : (L.set (ds.length + j) (.int .u8 (n % 256))).length = L.length := List.length_set
    have hs : slcOf (L.set (ds.length + j) (.int .u8 (n % 256))) = AV.sref Sh.one 0 L.length [] 0 L.length := by unfold slcOf; rw [hlen]
    have := ih (n / 256) (L.set (ds.length + j) (.int .u8 (n % 256))) (mkF 38 [(0, .dat (.slc .one ds)), (1, .dat (.int .u64 (n / 256))), (8, slcOf (L.set (ds.length + j) (.int .u8 (n % 256)))), (9, .dat (.int .i64 ((ds.length + j : Nat) - 1 : Int))), (27, .dat (.int .i64 ((ds.length + j : Nat) : Int))), (28, .dat (.int .i64 ((ds.length + j : Nat) - 1 : Int)))])
      [mkDyn .one (L.set (ds.length + j) (.int .u8 (n % 256)))] K (by omega) (by omega) (fits_set hf rfl) (by rw [hlen]; omega) (by rw [hlen]; unfold LIM; omega) (by kernel_rfl) (by kernel_rfl)
    rw [hs] at this
    exact this

theorem rnum_loops : ∀ x ∈ fnLoops Try.f9, LoopOk E_rnum x.1 x.2 := by
  refine loops_one (by kernel_rfl) (loop_ok (L := L_rnum) (by kernel_rfl) ?_)
  intro fr σ p h K r hK
  unfold L_rnum at h
  split at h
  · rename_i ds n m m' i L g0 g1 g8 g9
    obtain ⟨hc, h'⟩ := T.chk_some h
    simp only [Bool.and_eq_true, decide_eq_true_eq] at hc
    obtain ⟨⟨⟨⟨⟨⟨⟨c0, c1⟩, c2⟩, c3⟩, c45⟩, c6⟩, c7⟩, c8⟩ := hc
    rw [IntKind.wrap_u64] at c45
    have c4 : 0 ≤ n := by omega
    have c5 : n < 2 ^ 64 := by omega
    have c0 := Nat.eq_of_beq_eq_true c0
    have c1 := Nat.eq_of_beq_eq_true c1
    have c2 := Nat.eq_of_beq_eq_true c2
    subst c1 c2
    have hp := T.leaf_some h'
    subst hp
    refine ⟨(L.length - ds.length) + 1, ?_⟩
    have ei : i = ((ds.length + (L.length - ds.length) : Nat) - 1 : Int) := by omega
    have hfr : cleanF (liveAt Try.f9 0) 0 fr = mkF 38 [(0, .dat (.slc .one ds)), (1, .dat (.int .u64 n)), (8, slcOf L), (9, .dat (.int .i64 i))] := by
      rw [clean_mk c0, show slcOf L = fr.getD 8 .undef from g8.symm, ← g0, ← g1, ← g9]
      kernel_rfl
    rw [ei] at hfr
    exact (rnum_loop ds (L.length - ds.length) n L _ _ K c4 c5 c3 (by omega) c8 (by rw [clean_clean]; exact hfr) (by kernel_rfl)).trans hK
  · simp [T.run_fail] at h

def S_rnum : FunT := fun args σ => match args, σ with
  | [.dat (.slc .one ds), .dat (.int .u64 n), .dat (.int .i64 k)], [] => .chk (fits .one ds && decide (IntKind.wrap .u64 n = n) && decide (ds.length + 8 ≤ LIM)) (.leaf ([slcOf (ds ++ numB n (fitI k).toNat)], [mkDyn .one (ds ++ numB n (fitI k).toNat)]))
  | _, _ => .fail

theorem rnum_run (n k : Int) (ds : List D) : runF E_rnum false Try.f9 [.dat (.slc .one ds), .dat (.int .u64 n), .dat (.int .i64 k)] [] =
  (bif decide ((0 : Int) ≤ IntKind.wrap IntKind.i64 ((↑(List.length ds) : Int) + fitI k)) && decide (IntKind.wrap IntKind.i64 ((↑(List.length ds) : Int) + fitI k) ≤ IntKind.wrap IntKind.i64 ((↑(List.length ds) : Int) + fitI k)) && decide (IntKind.wrap IntKind.i64 ((↑(List.length ds) : Int) + fitI k) * (1 : Int) ≤ (35184372088832 : Int)) && decide (IntKind.wrap IntKind.i64 ((↑(List.length ds) : Int) + fitI k) ≤ (35184372088832 : Int)) && true then 
   (bif Nat.beq (List.length (List.replicate (Int.toNat (IntKind.wrap IntKind.i64 ((↑(List.length ds) : Int) + fitI k))) (D.int IntKind.u8 (0 : Int)))) (Int.toNat (IntKind.wrap IntKind.i64 ((↑(List.length ds) : Int) + fitI k))) && true && true && fits Sh.one ds then 
    (bif Nat.beq (Int.toNat (IntKind.wrap IntKind.i64 ((↑(List.length ds) : Int) + fitI k))) (List.length ([] ++ List.take (min (List.length ds) (Int.toNat (IntKind.wrap IntKind.i64 ((↑(List.length ds) : Int) + fitI k)))) ds ++ List.drop ((0 : Nat) + min (List.length ds) (Int.toNat (IntKind.wrap IntKind.i64 ((↑(List.length ds) : Int) + fitI k)))) (List.replicate (Int.toNat (IntKind.wrap IntKind.i64 ((↑(List.length ds) : Int) + fitI k))) (D.int IntKind.u8 (0 : Int))))) && Nat.beq (Int.toNat (IntKind.wrap IntKind.i64 ((↑(List.length ds) : Int) + fitI k))) (List.length ([] ++ List.take (min (List.length ds) (Int.toNat (IntKind.wrap IntKind.i64 ((↑(List.length ds) : Int) + fitI k)))) ds ++ List.drop ((0 : Nat) + min (List.length ds) (Int.toNat (IntKind.wrap IntKind.i64 ((↑(List.length ds) : Int) + fitI k)))) (List.replicate (Int.toNat (IntKind.wrap IntKind.i64 ((↑(List.length ds) : Int) + fitI k))) (D.int IntKind.u8 (0 : Int))))) && fits Sh.one ([] ++ List.take (min (List.length ds) (Int.toNat (IntKind.wrap IntKind.i64 ((↑(List.length ds) : Int) + fitI k)))) ds ++ List.drop ((0 : Nat) + min (List.length ds) (Int.toNat (IntKind.wrap IntKind.i64 ((↑(List.length ds) : Int) + fitI k)))) (List.replicate (Int.toNat (IntKind.wrap IntKind.i64 ((↑(List.length ds) : Int) + fitI k))) (D.int IntKind.u8 (0 : Int)))) && decide (IntKind.wrap IntKind.u64 n = n) && decide (IntKind.wrap IntKind.i64 ((↑(Int.toNat (IntKind.wrap IntKind.i64 ((↑(List.length ds) : Int) + fitI k))) : Int) - (1 : Int)) = (↑(List.length ([] ++ List.take (min (List.length ds) (Int.toNat (IntKind.wrap IntKind.i64 ((↑(List.length ds) : Int) + fitI k)))) ds ++ List.drop ((0 : Nat) + min (List.length ds) (Int.toNat (IntKind.wrap IntKind.i64 ((↑(List.length ds) : Int) + fitI k)))) (List.replicate (Int.toNat (IntKind.wrap IntKind.i64 ((↑(List.length ds) : Int) + fitI k))) (D.int IntKind.u8 (0 : Int))))) : Int) - (1 : Int)) && decide (List.length ds ≤ List.length ([] ++ List.take (min (List.length ds) (Int.toNat (IntKind.wrap IntKind.i64 ((↑(List.length ds) : Int) + fitI k)))) ds ++ List.drop ((0 : Nat) + min (List.length ds) (Int.toNat (IntKind.wrap IntKind.i64 ((↑(List.length ds) : Int) + fitI k)))) (List.replicate (Int.toNat (IntKind.wrap IntKind.i64 ((↑(List.length ds) : Int) + fitI k))) (D.int IntKind.u8 (0 : Int))))) && decide (List.length ([] ++ List.take (min (List.length ds) (Int.toNat (IntKind.wrap IntKind.i64 ((↑(List.length ds) : Int) + fitI k)))) ds ++ List.drop ((0 : Nat) + min (List.length ds) (Int.toNat (IntKind.wrap IntKind.i64 ((↑(List.length ds) : Int) + fitI k)))) (List.replicate (Int.toNat (IntKind.wrap IntKind.i64 ((↑(List.length ds) : Int) + fitI k))) (D.int IntKind.u8 (0 : Int)))) ≤ (35184372088832 : Nat)) then some ([AV.sref Sh.one (0 : Nat) (Int.toNat (IntKind.wrap IntKind.i64 ((↑(List.length ds) : Int) + fitI k))) [] (0 : Nat) (Int.toNat (IntKind.wrap IntKind.i64 ((↑(List.length ds) : Int) + fitI k)))], [{ sh := Sh.arr Sh.one (0 : Nat), dyn := true, frz := false, v := AV.dat (D.arr Sh.one (rfill (List.length ds) (List.length ([] ++ List.take (min (List.length ds) (Int.toNat (IntKind.wrap IntKind.i64 ((↑(List.length ds) : Int) + fitI k)))) ds ++ List.drop ((0 : Nat) + min (List.length ds) (Int.toNat (IntKind.wrap IntKind.i64 ((↑(List.length ds) : Int) + fitI k)))) (List.replicate (Int.toNat (IntKind.wrap IntKind.i64 ((↑(List.length ds) : Int) + fitI k))) (D.int IntKind.u8 (0 : Int)))) - List.length ds) n ([] ++ List.take (min (List.length ds) (Int.toNat (IntKind.wrap IntKind.i64 ((↑(List.length ds) : Int) + fitI k)))) ds ++ List.drop ((0 : Nat) + min (List.length ds) (Int.toNat (IntKind.wrap IntKind.i64 ((↑(List.length ds) : Int) + fitI k)))) (List.replicate (Int.toNat (IntKind.wrap IntKind.i64 ((↑(List.length ds) : Int) + fitI k))) (D.int IntKind.u8 (0 : Int)))))) }]) else none) else none) else none) := by kernel_rfl

theorem fits_rep {n : Nat} {d : D} (h : d.shape = .one) : fits .one (List.replicate n d) = true := by
  rw [fits_one_iff]
  intro x hx
  rw [(List.mem_replicate.1 hx).2, h]

theorem rnum_ok : FunOk Try.prog 9 (FunT.run S_rnum) := by
  refine fun_ok (E := E_rnum) (fz := false) (fn := Try.f9) (envOf_ok progOk (.cons size_ok (.nil _))) (by kernel_rfl) (by kernel_rfl) rnum_loops ?_
  intro args σ r h
  unfold S_rnum at h
  split at h
  · rename_i ds n k
    obtain ⟨hc, h'⟩ := T.chk_some h
    rw [← T.leaf_some h', rnum_run]
    simp only [Bool.and_eq_true, decide_eq_true_eq] at hc
    obtain ⟨⟨hf, hw⟩, hl⟩ := hc
    have hn : 0 ≤ n := by rw [IntKind.wrap_u64] at hw; omega
    unfold LIM at hl
    have hk := fitI_in k
    have hkk : fitI k = ((fitI k).toNat : Int) := by omega
    generalize (fitI k).toNat = kk at hkk
    rw [hkk] at hk ⊢
    have hX : IntKind.wrap .i64 ((ds.length : Int) + (kk : Int)) = ((ds.length + kk : Nat) : Int) := by rw [IntKind.wrap_i64]; omega
    have hm : min ds.length (ds.length + kk) = ds.length := by omega
    have hY : IntKind.wrap .i64 (((ds.length + kk : Nat) : Int) - 1) = ((ds.length + kk : Nat) : Int) - 1 := by rw [IntKind.wrap_i64]; omega
    rw [hX, Int.toNat_natCast, hm, hY, List.take_length, Nat.zero_add, List.drop_replicate, Nat.add_sub_cancel_left, List.nil_append]
    have hL : (ds ++ List.replicate kk (D.int .u8 0)).length = ds.length + kk := by simp
    have hF : fits .one (ds ++ List.replicate kk (D.int .u8 0)) = true := by rw [fits_append, hf, fits_rep rfl]; rfl
    have hR : rfill ds.length kk n (ds ++ List.replicate kk (D.int .u8 0)) = ds ++ numB n kk := by
      have := rfill_eq ds kk n (List.replicate kk (D.int .u8 0)) [] (by simp)
      simpa using this
    have c1 : (0 : Int) ≤ ((ds.length + kk : Nat) : Int) := by omega
    have c2 : ((ds.length + kk : Nat) : Int) * 1 ≤ 35184372088832 := by omega
    have c3 : ((ds.length + kk : Nat) : Int) ≤ 35184372088832 := by omega
    have c4 : ds.length ≤ ds.length + kk := by omega
    have c5 : ds.length + kk ≤ 35184372088832 := by omega
    have c7 : ds.length + kk - ds.length = kk := by omega
    simp only [hL, hF, hf, hw, c1, c2, c3, c4, c5, c7, hR, List.length_replicate, Nat.beq_refl, Int.le_refl, decide_true, Bool.and_true, cond_true]
    unfold slcOf
    rw [List.length_append, numB_length]
    rfl
  · simp [T.run_fail] at h

/-! the document's Text -/
def S_rtext : FunT := fun args σ => match args, σ with
  | [.dat (.slc .one ds), .dat (.str s)], [] => .chk (fits .one ds && decide (ds.length + 300 ≤ LIM)) (.leaf ([.dat (.slc .one (ds ++ textD s))], []))
  | _, _ => .fail


theorem rtext_run (ds : List D) (s : ByteArray) : runF (envOf tab [(9, S_rnum)] [] [] []) true Try.f10 [.dat (.slc .one ds), .dat (.str s)] [] =
  (bif decide ((↑(ByteArray.size s) : Int) > (255 : Int)) then 
   (bif decide ((255 : Nat) ≤ ByteArray.size s) then 
    (bif fits Sh.one ds && decide (IntKind.wrap IntKind.u64 (IntKind.wrap IntKind.u64 (↑(ByteArray.size (subStr s (0 : Nat) (255 : Nat))) : Int)) = IntKind.wrap IntKind.u64 (↑(ByteArray.size (subStr s (0 : Nat) (255 : Nat))) : Int)) && decide (List.length ds + (8 : Nat) ≤ (35184372088832 : Nat)) then 
     (bif fits Sh.one (bytesD (subStr s (0 : Nat) (255 : Nat))) then 
      (bif Nat.beq (List.length (ds ++ [D.int IntKind.u8 (IntKind.wrap IntKind.u64 (↑(ByteArray.size (subStr s (0 : Nat) (255 : Nat))) : Int) / (1 : Int) % (256 : Int))])) (List.length (ds ++ [D.int IntKind.u8 (IntKind.wrap IntKind.u64 (↑(ByteArray.size (subStr s (0 : Nat) (255 : Nat))) : Int) / (1 : Int) % (256 : Int))])) && true && true && true && true && Nat.beq (List.length (ds ++ [D.int IntKind.u8 (IntKind.wrap IntKind.u64 (↑(ByteArray.size (subStr s (0 : Nat) (255 : Nat))) : Int) / (1 : Int) % (256 : Int))])) (List.length (ds ++ [D.int IntKind.u8 (IntKind.wrap IntKind.u64 (↑(ByteArray.size (subStr s (0 : Nat) (255 : Nat))) : Int) / (1 : Int) % (256 : Int))])) && true && true && decide ((List.length (ds ++ [D.int IntKind.u8 (IntKind.wrap IntKind.u64 (↑(ByteArray.size (subStr s (0 : Nat) (255 : Nat))) : Int) / (1 : Int) % (256 : Int))]) + List.length (bytesD (subStr s (0 : Nat) (255 : Nat)))) * (1 : Nat) ≤ (35184372088832 : Nat)) then 
       (bif Nat.beq (List.length (ds ++ [D.int IntKind.u8 (IntKind.wrap IntKind.u64 (↑(ByteArray.size (subStr s (0 : Nat) (255 : Nat))) : Int) / (1 : Int) % (256 : Int))] ++ bytesD (subStr s (0 : Nat) (255 : Nat)))) (List.length (ds ++ [D.int IntKind.u8 (IntKind.wrap IntKind.u64 (↑(ByteArray.size (subStr s (0 : Nat) (255 : Nat))) : Int) / (1 : Int) % (256 : Int))]) + List.length (bytesD (subStr s (0 : Nat) (255 : Nat)))) then some ([AV.dat (D.slc Sh.one (seg (ds ++ [D.int IntKind.u8 (IntKind.wrap IntKind.u64 (↑(ByteArray.size (subStr s (0 : Nat) (255 : Nat))) : Int) / (1 : Int) % (256 : Int))] ++ bytesD (subStr s (0 : Nat) (255 : Nat))) (0 : Nat) (List.length (ds ++ [D.int IntKind.u8 (IntKind.wrap IntKind.u64 (↑(ByteArray.size (subStr s (0 : Nat) (255 : Nat))) : Int) / (1 : Int) % (256 : Int))]) + List.length (bytesD (subStr s (0 : Nat) (255 : Nat))))))], []) else none) else none) else none) else none) else none) else 
   (bif fits Sh.one ds && decide (IntKind.wrap IntKind.u64 (IntKind.wrap IntKind.u64 (↑(ByteArray.size s) : Int)) = IntKind.wrap IntKind.u64 (↑(ByteArray.size s) : Int)) && decide (List.length ds + (8 : Nat) ≤ (35184372088832 : Nat)) then 
    (bif fits Sh.one (bytesD s) then 
     (bif Nat.beq (List.length (ds ++ [D.int IntKind.u8 (IntKind.wrap IntKind.u64 (↑(ByteArray.size s) : Int) / (1 : Int) % (256 : Int))])) (List.length (ds ++ [D.int IntKind.u8 (IntKind.wrap IntKind.u64 (↑(ByteArray.size s) : Int) / (1 : Int) % (256 : Int))])) && true && true && true && true && Nat.beq (List.length (ds ++ [D.int IntKind.u8 (IntKind.wrap IntKind.u64 (↑(ByteArray.size s) : Int) / (1 : Int) % (256 : Int))])) (List.length (ds ++ [D.int IntKind.u8 (IntKind.wrap IntKind.u64 (↑(ByteArray.size s) : Int) / (1 : Int) % (256 : Int))])) && true && true && decide ((List.length (ds ++ [D.int IntKind.u8 (IntKind.wrap IntKind.u64 (↑(ByteArray.size s) : Int) / (1 : Int) % (256 : Int))]) + List.length (bytesD s)) * (1 : Nat) ≤ (35184372088832 : Nat)) then 
      (bif Nat.beq (List.length (ds ++ [D.int IntKind.u8 (IntKind.wrap IntKind.u64 (↑(ByteArray.size s) : Int) / (1 : Int) % (256 : Int))] ++ bytesD s)) (List.length (ds ++ [D.int IntKind.u8 (IntKind.wrap IntKind.u64 (↑(ByteArray.size s) : Int) / (1 : Int) % (256 : Int))]) + List.length (bytesD s)) then some ([AV.dat (D.slc Sh.one (seg (ds ++ [D.int IntKind.u8 (IntKind.wrap IntKind.u64 (↑(ByteArray.size s) : Int) / (1 : Int) % (256 : Int))] ++ bytesD s) (0 : Nat) (List.length (ds ++ [D.int IntKind.u8 (IntKind.wrap IntKind.u64 (↑(ByteArray.size s) : Int) / (1 : Int) % (256 : Int))]) + List.length (bytesD s))))], []) else none) else none) else none) else none)) := by kernel_rfl

theorem rtext_ok : FunOk Try.prog 10 (FunT.run S_rtext) := by
  refine fun_ok (E := envOf tab [(9, S_rnum)] [] [] []) (fz := true) (fn := Try.f10) (envOf_ok progOk (.cons rnum_ok (.nil _))) (by kernel_rfl) (by kernel_rfl) (loops_none (by kernel_rfl)) ?_
  intro args σ r h
  unfold S_rtext at h
  split at h
  · rename_i ds s
    obtain ⟨hc, h'⟩ := T.chk_some h
    rw [← T.leaf_some h', rtext_run]
    simp only [Bool.and_eq_true, decide_eq_true_eq] at hc
    obtain ⟨hf, hl⟩ := hc
    unfold LIM at hl
    have c1 : ds.length + 8 ≤ 35184372088832 := by omega
    have key : ∀ t : ByteArray, t.size ≤ 255 → D.int .u8 (IntKind.wrap .u64 (t.size : Int) / 1 % 256) = .int .u8 (t.size : Int) ∧ IntKind.wrap .u64 (IntKind.wrap .u64 (t.size : Int)) = IntKind.wrap .u64 (t.size : Int) ∧
        ((ds ++ [D.int .u8 (t.size : Int)]).length + (bytesD t).length) * 1 ≤ 35184372088832 := by
      intro t ht
      refine ⟨?_, ?_, ?_⟩
      · rw [IntKind.wrap_u64]; congr 1; omega
      · simp only [IntKind.wrap_u64]; omega
      · rw [bytesD_length]; simp; omega
    by_cases hs : (s.size : Int) > 255
    · have e2 : (subStr s 0 255).size = 255 := by rw [sub_size s 0 255 (by omega) (by omega)]
      obtain ⟨k1, k2, k3⟩ := key (subStr s 0 255) (by omega)
      have c2 : 255 ≤ s.size := by omega
      have et : textD s = .int .u8 ((subStr s 0 255).size : Int) :: bytesD (subStr s 0 255) := by
        have : textLen s = 255 := by unfold textLen; omega
        unfold textD; rw [this, e2]
      rw [k1]
      simp only [hs, c1, c2, hf, k2, k3, fits_bytes, Nat.beq_refl, decide_true, Bool.and_true, cond_true]
      rw [← List.length_append, seg_full, Nat.beq_refl, et]
      simp
    · have e2 : subStr s 0 s.size = s := sub_all s
      obtain ⟨k1, k2, k3⟩ := key s (by omega)
      have et : textD s = .int .u8 (s.size : Int) :: bytesD s := by
        have : textLen s = s.size := by unfold textLen; omega
        unfold textD; rw [this, e2]
      rw [k1]
      simp only [hs, c1, hf, k2, k3, fits_bytes, Nat.beq_refl, decide_true, decide_false, Bool.and_true, cond_true, cond_false]
      rw [← List.length_append, seg_full, Nat.beq_refl, et]
      simp
  · simp [T.run_fail] at h

end Go.Proofs.Ytnailhdfopoibaa
