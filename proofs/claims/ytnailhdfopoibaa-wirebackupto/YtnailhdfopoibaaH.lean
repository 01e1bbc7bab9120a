/- Seat 02: the fixed calls, and the laws. -/
import Derived.Test.YtnailhdfopoibaaG
namespace Go.Proofs.Ytnailhdfopoibaa
open Go.AX
set_option maxRecDepth 100000

abbrev Sp : Specs := [(6, S_num), (7, S_text), (11, S_from), (12, S_snum), (14, S_stext), (16, S_take), (18, S_rule), (20, S_left), (22, S_fault), (23, S_end), (9, S_rnum), (10, S_rtext), (13, S_rsnum), (15, S_rstext), (17, S_rtake), (19, S_rrule), (21, S_rleft), (24, S_rend)]

theorem alive_run  : runF (envOf tab Sp [] [] []) true Try.f8 [] [] =some ([AV.dat (D.bool true)], []) := by kernel_rfl

def S_alive : FunT := fun args σ => match args, σ with
  | [], [] => .leaf ([.dat (.bool true)], [])
  | _, _ => .fail

theorem Sp_ok : SpecsOk Try.prog Sp := .cons num_ok (.cons text_ok (.cons from_ok (.cons snum_ok (.cons stext_ok (.cons take_ok (.cons rule_ok (.cons left_ok (.cons fault_ok (.cons end_ok (.cons rnum_ok (.cons rtext_ok (.cons rsnum_ok (.cons rstext_ok (.cons rtake_ok (.cons rrule_ok (.cons rleft_ok (.cons rend_ok (.nil _))))))))))))))))))

theorem alive_ok : FunOk Try.prog 8 (FunT.run S_alive) := by
  refine fun_ok (E := envOf tab Sp [] [] []) (fz := true) (fn := Try.f8) (envOf_ok progOk Sp_ok) (by kernel_rfl) (by kernel_rfl) (loops_none (by kernel_rfl)) ?_
  intro args σ r h
  unfold S_alive at h
  split at h
  · rw [← T.leaf_some h, alive_run]
  · simp [T.run_fail] at h

/-! Num once more, its result as data -/
def S_numZ : FunT := fun args σ => match args, σ with
  | [.dat (.slc .one ds), .dat (.int .u64 n), .dat (.int .i64 k)], [] => .chk (fits .one ds && decide (0 ≤ n) && decide (ds.length + 8 ≤ LIM)) (.leaf ([.dat (.slc .one (ds ++ numB n (fitI k).toNat))], []))
  | _, _ => .fail

theorem numZ_run (n k : Int) (ds : List D) : runF E_num true Try.f6 [.dat (.slc .one ds), .dat (.int .u64 n), .dat (.int .i64 k)] [] =
  (bif fits Sh.one ds then 
   (bif decide (((0 : Nat) + List.length ds) * (1 : Nat) ≤ (35184372088832 : Nat)) then 
    (bif Nat.beq ((0 : Nat) + List.length ds) (List.length ds) && Nat.beq ((0 : Nat) + List.length ds) (List.length ds) && decide ((0 : Int) ≤ n) && decide ((-1 : Int) ≤ IntKind.wrap IntKind.i64 (fitI k - (1 : Int))) && decide (IntKind.wrap IntKind.i64 (fitI k - (1 : Int)) ≤ (7 : Int)) && decide (List.length ds + (8 : Nat) ≤ (35184372088832 : Nat)) then 
     (bif Nat.beq (List.length (ds ++ numB n (Int.toNat (IntKind.wrap IntKind.i64 (fitI k - (1 : Int)) + (1 : Int))))) (List.length (ds ++ numB n (Int.toNat (IntKind.wrap IntKind.i64 (fitI k - (1 : Int)) + (1 : Int))))) then some ([AV.dat (D.slc Sh.one (seg (ds ++ numB n (Int.toNat (IntKind.wrap IntKind.i64 (fitI k - (1 : Int)) + (1 : Int)))) (0 : Nat) (List.length (ds ++ numB n (Int.toNat (IntKind.wrap IntKind.i64 (fitI k - (1 : Int)) + (1 : Int)))))))], []) else none) else none) else none) else none) := by kernel_rfl

theorem numZ_ok : FunOk Try.prog 6 (FunT.run S_numZ) := by
  refine fun_ok (E := E_num) (fz := true) (fn := Try.f6) (envOf_ok progOk S25_26) (by kernel_rfl) (by kernel_rfl) num_loops ?_
  intro args σ r h
  unfold S_numZ at h
  split at h
  · rename_i ds n k
    obtain ⟨hc, h'⟩ := T.chk_some h
    rw [← T.leaf_some h', numZ_run]
    simp only [Bool.and_eq_true, decide_eq_true_eq] at hc
    have hk := fitI_in k
    have e1 : IntKind.wrap .i64 (fitI k - 1) = fitI k - 1 := by rw [IntKind.wrap_i64]; omega
    have e2 : fitI k - 1 + 1 = fitI k := by omega
    have hl := hc.2
    unfold LIM at hl
    rw [e1, e2]
    have c1 : ds.length ≤ 35184372088832 := by omega
    have c2 : -1 ≤ fitI k - 1 := by omega
    have c3 : fitI k - 1 ≤ 7 := by omega
    have c4 : ds.length + 8 ≤ 35184372088832 := by omega
    simp only [seg_full, hc.1.1, hc.1.2, Nat.zero_add, Nat.mul_one, Nat.beq_refl, c1, c2, c3, c4, decide_true, Bool.and_true, cond_true]
  · simp [T.run_fail] at h

def S_rnumZ : FunT := fun args σ => match args, σ with
  | [.dat (.slc .one ds), .dat (.int .u64 n), .dat (.int .i64 k)], [] => .chk (fits .one ds && decide (IntKind.wrap .u64 n = n) && decide (ds.length + 8 ≤ LIM)) (.leaf ([.dat (.slc .one (ds ++ numB n (fitI k).toNat))], []))
  | _, _ => .fail

theorem rnumZ_run (n k : Int) (ds : List D) : runF E_rnum true Try.f9 [.dat (.slc .one ds), .dat (.int .u64 n), .dat (.int .i64 k)] [] =
  (bif decide ((0 : Int) ≤ IntKind.wrap IntKind.i64 ((↑(List.length ds) : Int) + fitI k)) && decide (IntKind.wrap IntKind.i64 ((↑(List.length ds) : Int) + fitI k) ≤ IntKind.wrap IntKind.i64 ((↑(List.length ds) : Int) + fitI k)) && decide (IntKind.wrap IntKind.i64 ((↑(List.length ds) : Int) + fitI k) * (1 : Int) ≤ (35184372088832 : Int)) && decide (IntKind.wrap IntKind.i64 ((↑(List.length ds) : Int) + fitI k) ≤ (35184372088832 : Int)) && true then 
   (bif Nat.beq (List.length (List.replicate (Int.toNat (IntKind.wrap IntKind.i64 ((↑(List.length ds) : Int) + fitI k))) (D.int IntKind.u8 (0 : Int)))) (Int.toNat (IntKind.wrap IntKind.i64 ((↑(List.length ds) : Int) + fitI k))) && true && true && fits Sh.one ds then 
    (bif Nat.beq (Int.toNat (IntKind.wrap IntKind.i64 ((↑(List.length ds) : Int) + fitI k))) (List.length ([] ++ List.take (min (List.length ds) (Int.toNat (IntKind.wrap IntKind.i64 ((↑(List.length ds) : Int) + fitI k)))) ds ++ List.drop ((0 : Nat) + min (List.length ds) (Int.toNat (IntKind.wrap IntKind.i64 ((↑(List.length ds) : Int) + fitI k)))) (List.replicate (Int.toNat (IntKind.wrap IntKind.i64 ((↑(List.length ds) : Int) + fitI k))) (D.int IntKind.u8 (0 : Int))))) && Nat.beq (Int.toNat (IntKind.wrap IntKind.i64 ((↑(List.length ds) : Int) + fitI k))) (List.length ([] ++ List.take (min (List.length ds) (Int.toNat (IntKind.wrap IntKind.i64 ((↑(List.length ds) : Int) + fitI k)))) ds ++ List.drop ((0 : Nat) + min (List.length ds) (Int.toNat (IntKind.wrap IntKind.i64 ((↑(List.length ds) : Int) + fitI k)))) (List.replicate (Int.toNat (IntKind.wrap IntKind.i64 ((↑(List.length ds) : Int) + fitI k))) (D.int IntKind.u8 (0 : Int))))) && fits Sh.one ([] ++ List.take (min (List.length ds) (Int.toNat (IntKind.wrap IntKind.i64 ((↑(List.length ds) : Int) + fitI k)))) ds ++ List.drop ((0 : Nat) + min (List.length ds) (Int.toNat (IntKind.wrap IntKind.i64 ((↑(List.length ds) : Int) + fitI k)))) (List.replicate (Int.toNat (IntKind.wrap IntKind.i64 ((↑(List.length ds) : Int) + fitI k))) (D.int IntKind.u8 (0 : Int)))) && decide (IntKind.wrap IntKind.u64 n = n) && decide (IntKind.wrap IntKind.i64 ((↑(Int.toNat (IntKind.wrap IntKind.i64 ((↑(List.length ds) : Int) + fitI k))) : Int) - (1 : Int)) = (↑(List.length ([] ++ List.take (min (List.length ds) (Int.toNat (IntKind.wrap IntKind.i64 ((↑(List.length ds) : Int) + fitI k)))) ds ++ List.drop ((0 : Nat) + min (List.length ds) (Int.toNat (IntKind.wrap IntKind.i64 ((↑(List.length ds) : Int) + fitI k)))) (List.replicate (Int.toNat (IntKind.wrap IntKind.i64 ((↑(List.length ds) : Int) + fitI k))) (D.int IntKind.u8 (0 : Int))))) : Int) - (1 : Int)) && decide (List.length ds ≤ List.length ([] ++ List.take (min (List.length ds) (Int.toNat (IntKind.wrap IntKind.i64 ((↑(List.length ds) : Int) + fitI k)))) ds ++ List.drop ((0 : Nat) + min (List.length ds) (Int.toNat (IntKind.wrap IntKind.i64 ((↑(List.length ds) : Int) + fitI k)))) (List.replicate (Int.toNat (IntKind.wrap IntKind.i64 ((↑(List.length ds) : Int) + fitI k))) (D.int IntKind.u8 (0 : Int))))) && decide (List.length ([] ++ List.take (min (List.length ds) (Int.toNat (IntKind.wrap IntKind.i64 ((↑(List.length ds) : Int) + fitI k)))) ds ++ List.drop ((0 : Nat) + min (List.length ds) (Int.toNat (IntKind.wrap IntKind.i64 ((↑(List.length ds) : Int) + fitI k)))) (List.replicate (Int.toNat (IntKind.wrap IntKind.i64 ((↑(List.length ds) : Int) + fitI k))) (D.int IntKind.u8 (0 : Int)))) ≤ (35184372088832 : Nat)) then 
     (bif Nat.beq (List.length (rfill (List.length ds) (List.length ([] ++ List.take (min (List.length ds) (Int.toNat (IntKind.wrap IntKind.i64 ((↑(List.length ds) : Int) + fitI k)))) ds ++ List.drop ((0 : Nat) + min (List.length ds) (Int.toNat (IntKind.wrap IntKind.i64 ((↑(List.length ds) : Int) + fitI k)))) (List.replicate (Int.toNat (IntKind.wrap IntKind.i64 ((↑(List.length ds) : Int) + fitI k))) (D.int IntKind.u8 (0 : Int)))) - List.length ds) n ([] ++ List.take (min (List.length ds) (Int.toNat (IntKind.wrap IntKind.i64 ((↑(List.length ds) : Int) + fitI k)))) ds ++ List.drop ((0 : Nat) + min (List.length ds) (Int.toNat (IntKind.wrap IntKind.i64 ((↑(List.length ds) : Int) + fitI k)))) (List.replicate (Int.toNat (IntKind.wrap IntKind.i64 ((↑(List.length ds) : Int) + fitI k))) (D.int IntKind.u8 (0 : Int)))))) (Int.toNat (IntKind.wrap IntKind.i64 ((↑(List.length ds) : Int) + fitI k))) then some ([AV.dat (D.slc Sh.one (seg (rfill (List.length ds) (List.length ([] ++ List.take (min (List.length ds) (Int.toNat (IntKind.wrap IntKind.i64 ((↑(List.length ds) : Int) + fitI k)))) ds ++ List.drop ((0 : Nat) + min (List.length ds) (Int.toNat (IntKind.wrap IntKind.i64 ((↑(List.length ds) : Int) + fitI k)))) (List.replicate (Int.toNat (IntKind.wrap IntKind.i64 ((↑(List.length ds) : Int) + fitI k))) (D.int IntKind.u8 (0 : Int)))) - List.length ds) n ([] ++ List.take (min (List.length ds) (Int.toNat (IntKind.wrap IntKind.i64 ((↑(List.length ds) : Int) + fitI k)))) ds ++ List.drop ((0 : Nat) + min (List.length ds) (Int.toNat (IntKind.wrap IntKind.i64 ((↑(List.length ds) : Int) + fitI k)))) (List.replicate (Int.toNat (IntKind.wrap IntKind.i64 ((↑(List.length ds) : Int) + fitI k))) (D.int IntKind.u8 (0 : Int))))) (0 : Nat) (Int.toNat (IntKind.wrap IntKind.i64 ((↑(List.length ds) : Int) + fitI k)))))], []) else none) else none) else none) else none) := by kernel_rfl

theorem rnumZ_ok : FunOk Try.prog 9 (FunT.run S_rnumZ) := by
  refine fun_ok (E := E_rnum) (fz := true) (fn := Try.f9) (envOf_ok progOk (.cons size_ok (.nil _))) (by kernel_rfl) (by kernel_rfl) rnum_loops ?_
  intro args σ r h
  unfold S_rnumZ at h
  split at h
  · rename_i ds n k
    obtain ⟨hc, h'⟩ := T.chk_some h
    rw [← T.leaf_some h', rnumZ_run]
    simp only [Bool.and_eq_true, decide_eq_true_eq] at hc
    obtain ⟨⟨hf, hw⟩, hl⟩ := hc
    have hn : 0 ≤ n := by rw [IntKind.wrap_u64] at hw; omega
    unfold LIM at hl
    have hk := fitI_in k
    have hkk : fitI k = ((fitI k).toNat : Int) := by omega
    generalize (fitI k).toNat = kk at hkk
    rw [hkk] at hk ⊢
    have hX : IntKind.wrap .i64 ((ds.length : Int) + (kk : Int)) = ((ds.length + kk : Nat) : Int) := by rw [IntKind.wrap_i64]; omega
    have hm : min ds.length (ds.length + kk) = ds.length := by omega
    have hY : IntKind.wrap .i64 (((ds.length + kk : Nat) : Int) - 1) = ((ds.length + kk : Nat) : Int) - 1 := by rw [IntKind.wrap_i64]; omega
    rw [hX, Int.toNat_natCast, hm, hY, List.take_length, Nat.zero_add, List.drop_replicate, Nat.add_sub_cancel_left, List.nil_append]
    have hL : (ds ++ List.replicate kk (D.int .u8 0)).length = ds.length + kk := by simp
    have hF : fits .one (ds ++ List.replicate kk (D.int .u8 0)) = true := by rw [fits_append, hf, fits_rep rfl]; rfl
    have hR : rfill ds.length kk n (ds ++ List.replicate kk (D.int .u8 0)) = ds ++ numB n kk := by
      have := rfill_eq ds kk n (List.replicate kk (D.int .u8 0)) [] (by simp)
      simpa using this
    have c1 : (0 : Int) ≤ ((ds.length + kk : Nat) : Int) := by omega
    have c2 : ((ds.length + kk : Nat) : Int) * 1 ≤ 35184372088832 := by omega
    have c3 : ((ds.length + kk : Nat) : Int) ≤ 35184372088832 := by omega
    have c4 : ds.length ≤ ds.length + kk := by omega
    have c5 : ds.length + kk ≤ 35184372088832 := by omega
    have c7 : ds.length + kk - ds.length = kk := by omega
    simp only [hL, hF, hf, hw, c1, c2, c3, c4, c5, c7, hR, List.length_replicate, Nat.beq_refl, Int.le_refl, decide_true, Bool.and_true, cond_true]
    rw [show ds.length + kk = (ds ++ numB n kk).length by rw [List.length_append, numB_length], seg_full, Nat.beq_refl]
    rfl
  · simp [T.run_fail] at h

abbrev Sq : Specs := (8, S_alive) :: (6, S_numZ) :: (9, S_rnumZ) :: Sp
theorem puts_run (ds : List D) (n k : Int) (s : ByteArray) : runF (envOf tab Sq [] [] []) true Try.f3 [.dat (.slc .one ds), .dat (.int .u64 n), .dat (.int .i64 k), .dat (.str s)] [] =
  (bif isBytes ds then 
   (bif fits Sh.one ds && decide ((0 : Int) ≤ n) && decide (List.length ds + (8 : Nat) ≤ (35184372088832 : Nat)) then 
    (bif fits Sh.one ds && decide (List.length ds + (300 : Nat) ≤ (35184372088832 : Nat)) then 
     (bif isBytes (ds ++ numB n (Int.toNat (fitI k))) then 
      (bif decide (ByteArray.size { data := { toList := byteVs ds } } ≤ (35184372088832 : Nat)) then 
       (bif fits Sh.one (bytesD { data := { toList := byteVs ds } }) then 
        (bif Nat.beq (List.length (bytesD { data := { toList := byteVs ds } })) (List.length (bytesD { data := { toList := byteVs ds } })) then 
         (bif fits Sh.one (seg (bytesD { data := { toList := byteVs ds } }) (0 : Nat) (List.length (bytesD { data := { toList := byteVs ds } }))) && decide (IntKind.wrap IntKind.u64 n = n) && decide (List.length (seg (bytesD { data := { toList := byteVs ds } }) (0 : Nat) (List.length (bytesD { data := { toList := byteVs ds } }))) + (8 : Nat) ≤ (35184372088832 : Nat)) then 
          (bif isBytes (seg (bytesD { data := { toList := byteVs ds } }) (0 : Nat) (List.length (bytesD { data := { toList := byteVs ds } })) ++ numB n (Int.toNat (fitI k))) then 
           (bif decide (byteVs (ds ++ numB n (Int.toNat (fitI k))) = byteVs (seg (bytesD { data := { toList := byteVs ds } }) (0 : Nat) (List.length (bytesD { data := { toList := byteVs ds } })) ++ numB n (Int.toNat (fitI k)))) then 
            (bif isBytes (ds ++ D.int IntKind.u8 (↑(textLen s) : Int) :: bytesD (subStr s (0 : Nat) (textLen s))) then 
             (bif decide (ByteArray.size { data := { toList := byteVs ds } } ≤ (35184372088832 : Nat)) then 
              (bif fits Sh.one (bytesD { data := { toList := byteVs ds } }) then 
               (bif Nat.beq (List.length (bytesD { data := { toList := byteVs ds } })) (List.length (bytesD { data := { toList := byteVs ds } })) then 
                (bif fits Sh.one (seg (bytesD { data := { toList := byteVs ds } }) (0 : Nat) (List.length (bytesD { data := { toList := byteVs ds } }))) && decide (List.length (seg (bytesD { data := { toList := byteVs ds } }) (0 : Nat) (List.length (bytesD { data := { toList := byteVs ds } }))) + (300 : Nat) ≤ (35184372088832 : Nat)) then 
                 (bif isBytes (seg (bytesD { data := { toList := byteVs ds } }) (0 : Nat) (List.length (bytesD { data := { toList := byteVs ds } })) ++ D.int IntKind.u8 (↑(textLen s) : Int) :: bytesD (subStr s (0 : Nat) (textLen s))) then 
                  (bif decide (byteVs (ds ++ D.int IntKind.u8 (↑(textLen s) : Int) :: bytesD (subStr s (0 : Nat) (textLen s))) = byteVs (seg (bytesD { data := { toList := byteVs ds } }) (0 : Nat) (List.length (bytesD { data := { toList := byteVs ds } })) ++ D.int IntKind.u8 (↑(textLen s) : Int) :: bytesD (subStr s (0 : Nat) (textLen s)))) then 
                   (bif isBytes ds then some ([AV.dat (D.bool (decide (byteVs ds = byteVs ds)))], []) else none) else some ([AV.dat (D.bool false)], [])) else none) else none) else none) else none) else none) else none) else some ([AV.dat (D.bool false)], [])) else none) else none) else none) else none) else none) else none) else none) else none) else none) := by kernel_rfl

/-- Bytes as data. -/
def bL (bs : List UInt8) : List D := bs.map fun b => .int .u8 b.toNat

theorem bL_isBytes (bs : List UInt8) : isBytes (bL bs) = true := by
  unfold isBytes bL
  rw [List.all_eq_true]
  intro d hd
  obtain ⟨b, _, rfl⟩ := List.mem_map.1 hd
  rfl
theorem byteVs_bL (bs : List UInt8) : byteVs (bL bs) = bs := by
  unfold byteVs bL
  rw [List.map_map]
  have : (byteV ∘ fun b : UInt8 => D.int .u8 b.toNat) = id := by
    funext b
    show UInt8.ofNat ((b.toNat : Int)).toNat = b
    rw [Int.toNat_natCast, UInt8.ofNat_toNat]
  rw [this, List.map_id]
theorem bytesD_bL (bs : List UInt8) : bytesD ⟨bs.toArray⟩ = bL bs := rfl
theorem bL_length (bs : List UInt8) : (bL bs).length = bs.length := by simp [bL]
theorem isBytes_append {a b : List D} (ha : isBytes a = true) (hb : isBytes b = true) : isBytes (a ++ b) = true := by
  unfold isBytes at *
  rw [List.all_append, ha, hb]; rfl
theorem isBytes_numB (n : Int) : ∀ k, isBytes (numB n k) = true
  | 0 => rfl
  | k + 1 => by
    have := isBytes_numB n k
    unfold isBytes at this ⊢
    rw [numB, List.all_cons, this]
    rfl
theorem isBytes_bytesD (s : ByteArray) : isBytes (bytesD s) = true := bL_isBytes s.data.toList
theorem isBytes_textD (s : ByteArray) : isBytes (textD s) = true := by
  have := isBytes_bytesD (subStr s 0 (textLen s))
  unfold isBytes textD at *
  rw [List.all_cons, this]
  rfl

theorem puts_true (bs : List UInt8) (n k : Int) (s : ByteArray) (hn : IntKind.wrap .u64 n = n) (hl : bs.length + 300 ≤ LIM) :
    runF (envOf tab Sq [] [] []) true Try.f3 [.dat (.slc .one (bL bs)), .dat (.int .u64 n), .dat (.int .i64 k), .dat (.str s)] [] = some ([.dat (.bool true)], []) := by
  rw [puts_run]
  have h0 : 0 ≤ n := by rw [IntKind.wrap_u64] at hn; omega
  unfold LIM at hl
  have hb := bL_isBytes bs
  have hf := isBytes_fits hb
  have hlen := bL_length bs
  have e1 : byteVs (bL bs) = bs := byteVs_bL bs
  have e2 : bytesD ⟨⟨bs⟩⟩ = bL bs := rfl
  have e3 : (ByteArray.size ⟨⟨bs⟩⟩) = bs.length := rfl
  have e4 : D.int .u8 (textLen s : Int) :: bytesD (subStr s 0 (textLen s)) = textD s := rfl
  have c1 : bs.length + 8 ≤ 35184372088832 := by omega
  have c2 : bs.length + 300 ≤ 35184372088832 := by omega
  have c3 : bs.length ≤ 35184372088832 := by omega
  have c4 := isBytes_append hb (isBytes_numB n (fitI k).toNat)
  have c5 := isBytes_append hb (isBytes_textD s)
  rw [e1, e2, e3, e4, seg_full, hlen]
  simp only [hb, hf, h0, hn, c1, c2, c3, c4, c5, Nat.beq_refl, decide_true, Bool.and_true, cond_true]

end Go.Proofs.Ytnailhdfopoibaa
