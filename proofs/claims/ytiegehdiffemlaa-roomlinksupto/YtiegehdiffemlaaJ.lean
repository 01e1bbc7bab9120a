/- Seat 15: RoomLinks. -/
import Derived.Test.YtiegehdiffemlaaH
import Derived.Test.YtiegehdiffemlaaI
namespace Go.Proofs.Ytiegehdiffemlaa
open Go.AX
set_option maxRecDepth 100000

abbrev dFA (x : D) : Int := D.getI (nthD (D.getL (nthD (D.getL x) (0 : Nat))) (0 : Nat))
abbrev dFB (x : D) : Int := D.getI (nthD (D.getL (nthD (D.getL x) (0 : Nat))) (1 : Nat))
abbrev dTA (x : D) : Int := D.getI (nthD (D.getL (nthD (D.getL x) (1 : Nat))) (0 : Nat))
abbrev dTB (x : D) : Int := D.getI (nthD (D.getL (nthD (D.getL x) (1 : Nat))) (1 : Nat))
abbrev dDR (x : D) : Int := D.getI (nthD (D.getL x) (2 : Nat))
abbrev dLK (x : D) : Bool := D.getB (nthD (D.getL x) (3 : Nat))
abbrev ekDeed : Ek := .agg [.agg [.int .i64, .int .i64], .agg [.int .i64, .int .i64], .int .i64, .bool]

/-- A deed. -/
def deed (s : List D × Int) (x : D) : List D × Int :=
  bif dLK x then bif link_v2 s.1 (dFA x) (dFB x) (dTA x) (dTB x) (dDR x) == 0 then (link_v0 s.1 (dFA x) (dFB x) (dTA x) (dTB x) (dDR x), s.2 + 1) else s
  else bif close_v1 s.1 (dFA x) (dFB x) (dDR x) == 0 then (close_v0 s.1 (dFA x) (dFB x) (dDR x), s.2 - 1) else s
structure Inv5 (N : Nat) (s : List D × Int) : Prop where
  good : Good s.1
  len : s.1.length = N
  many : s.2 = (manyU s.1 : Nat)

/-- What a deed does, and what the statement asks of it. -/
theorem deed_link {N : Nat} (hN : N ≤ 1048576) {s : List D × Int} (h : Inv5 N s) (a b x y d : Int) :
    link_pre s.1 a b x y d = true ∧ find_pre s.1 a b d = true ∧
    (link_v2 s.1 a b x y d = 1 ∨ (link_v2 s.1 a b x y d = 4 ∧ find_v2 s.1 a b d = true) ∨ (link_v2 s.1 a b x y d = 8 ∧ s.2 = (s.1.length : Int)) ∨
     (link_v2 s.1 a b x y d = 0 ∧ find_v2 s.1 a b d = false ∧ ∃ f : Nat, f < s.1.length ∧ link_v1 s.1 a b x y d = (f : Int) ∧ usedD (nthD s.1 f) = false ∧ okE ekX (nthD s.1 f) = true ∧
       (∀ nx, nx = link_v0 s.1 a b x y d → find_pre nx a b d = true ∧ find_v2 nx a b d = true ∧ find_v0 nx a b d = x ∧ find_v1 nx a b d = y ∧ Inv5 N (nx, s.2 + 1)))) := by
  obtain ⟨g, hl, hm⟩ := h
  obtain ⟨l0, l1⟩ := link_ways g (by omega) a b x y d
  obtain ⟨f0, f1, f2⟩ := find_is g.ok a b d
  refine ⟨l0, f0, ?_⟩
  rcases l1 with l1 | ⟨l1, l2⟩ | ⟨l1, l2⟩ | ⟨l1, l2, r1, r2, r3, l3, l4, l5⟩
  · exact .inl l1
  · exact .inr (.inl ⟨l1, f1.trans l2⟩)
  · exact .inr (.inr (.inl ⟨l1, by rw [hm, many_full l2]⟩))
  · obtain ⟨k1, k2, k3⟩ := find_spec l3
    have hu : usedD (nthD s.1 (s.1.findIdx freeX)) = false := by simpa using k2
    refine .inr (.inr (.inr ⟨l1, f1.trans l2, s.1.findIdx freeX, k1, l4, hu, allE_nth (okX_spec g.ok).1 k1, ?_⟩))
    intro nx hnx
    rw [l5] at hnx
    subst hnx
    have g' := good_link g k1 hu r1 r2 r3 l2
    obtain ⟨q0, q1, q2⟩ := find_is g'.ok a b d
    have hlen : (s.1.set (s.1.findIdx freeX) (exD true a b x y d)).length = s.1.length := List.length_set
    have hat : nthD (s.1.set (s.1.findIdx freeX) (exD true a b x y d)) (s.1.findIdx freeX) = exD true a b x y d := by rw [nthD_set' k1, if_pos rfl]
    have hkey : keyP a b d (exD true a b x y d) = true := key_iff.2 ⟨rfl, rfl, rfl, rfl⟩
    have hany : (s.1.set (s.1.findIdx freeX) (exD true a b x y d)).any (keyP a b d) = true := any_nth.2 ⟨s.1.findIdx freeX, by omega, by rw [hat]; exact hkey⟩
    have hidx : (s.1.set (s.1.findIdx freeX) (exD true a b x y d)).findIdx (keyP a b d) = s.1.findIdx freeX := by
      refine (find_nth (by omega)).2 ⟨by rw [hat]; exact hkey, fun j hj => ?_⟩
      rw [nthD_set' k1, if_neg (by omega)]
      cases hq : keyP a b d (nthD s.1 j) with
      | false => rfl
      | true => rw [any_nth.2 ⟨j, by omega, hq⟩] at l2; exact absurd l2 (by decide)
    obtain ⟨q3, q4⟩ := q2 hany
    rw [hidx, hat] at q3 q4
    refine ⟨q0, q1.trans hany, q3, q4, ⟨g', by rw [← hl]; exact hlen, ?_⟩⟩
    have hms := many_set k1 (exD true a b x y d)
    rw [hu] at hms
    have e1 : usedD (exD true a b x y d) = true := rfl
    rw [e1] at hms
    simp only [Bool.false_eq_true, if_false, if_true, Nat.add_zero] at hms
    show s.2 + 1 = _
    rw [hms, hm]; push_cast; rfl
theorem deed_close {N : Nat} (hN : N ≤ 1048576) {s : List D × Int} (h : Inv5 N s) (a b d : Int) :
    close_pre s.1 a b d = true ∧ find_pre s.1 a b d = true ∧
    ((close_v1 s.1 a b d = 3 ∧ find_v2 s.1 a b d = false) ∨ (close_v1 s.1 a b d = 0 ∧ find_v2 s.1 a b d = true ∧ Inv5 N (close_v0 s.1 a b d, s.2 - 1))) := by
  obtain ⟨g, hl, hm⟩ := h
  obtain ⟨l0, l1⟩ := close_ways g (by omega) a b d
  obtain ⟨f0, f1, _⟩ := find_is g.ok a b d
  refine ⟨l0, f0, ?_⟩
  rcases l1 with ⟨l1, l2⟩ | ⟨l1, l2, l3⟩
  · exact .inl ⟨l1, f1.trans l2⟩
  · obtain ⟨k1, k2, k3⟩ := find_spec l2
    refine .inr ⟨l1, f1.trans l2, ?_⟩
    rw [l3]
    refine ⟨good_close g k1, by rw [← hl]; exact List.length_set, ?_⟩
    have hms := many_set k1 (exD false 0 0 0 0 0)
    rw [(key_iff.1 k2).1] at hms
    have e1 : usedD (exD false 0 0 0 0 0) = false := rfl
    rw [e1] at hms
    simp only [Bool.false_eq_true, if_false, if_true, Nat.add_zero] at hms
    show s.2 - 1 = _
    rw [hm, ← hms]; push_cast; omega

theorem manyI {N : Nat} (hN : N ≤ 1048576) {s : List D × Int} (h : Inv5 N s) : 0 ≤ s.2 ∧ s.2 ≤ 1048576 := by
  have := many_le s.1
  have := h.len
  have := h.many
  omega

theorem lnk_closed (many : Int) (ds now : List D) (hc : (ds.all (okE ekDeed) && D.eqbL now (List.replicate now.length (exD false 0 0 0 0 0)) && decide (now.length ≤ 1048576)) = true) :
    ∃ z, (iterT (lnk_step many ds) z (0, now, 0)).run = T.run (.leaf (some 0, mkF 159 [(0, .dat (.int .u8 many)), (5, .dat (.slc (.agg [.one, .agg [.one, .one], .agg [.one, .one], .one]) ((ds.take 60).foldl deed (now, 0)).1))], [])) := by
  simp only [Bool.and_eq_true, decide_eq_true_eq] at hc
  obtain ⟨⟨h1, h2⟩, hN⟩ := hc
  have h2 := D.eqL_of_eqb h2
  have hrep : ∀ i, i < now.length → nthD now i = exD false 0 0 0 0 0 := by
    intro i hi
    rw [h2]
    unfold nthD
    rw [List.getD_eq_getElem?_getD, List.getElem?_replicate, if_pos hi]; rfl
  have h0 : Inv5 now.length (now, 0) := by
    refine ⟨⟨?_, fun i hi => by rw [hrep i hi]; rfl, fun i hi hu => by rw [hrep i hi] at hu; exact absurd hu (by decide)⟩, rfl, ?_⟩
    · unfold okX
      show (now.all _ && decide (now.length ≤ _)) = true
      rw [decide_eq_true (by omega), Bool.and_true, List.all_eq_true]
      intro d hd
      rw [h2] at hd
      rw [List.eq_of_mem_replicate hd]; rfl
    · show (0 : Int) = ((manyU now : Nat) : Int)
      have : manyU now = 0 := by
        unfold manyU
        rw [List.filter_eq_nil_iff.2]
        · rfl
        · intro d hd
          rw [h2] at hd
          rw [List.eq_of_mem_replicate hd]; decide
      rw [this]; rfl
  refine iter_fold (ls := ds.take 60) (f := deed) (o := fun s => (some 0, mkF 159 [(0, .dat (.int .u8 many)), (5, .dat (.slc (.agg [.one, .agg [.one, .one], .agg [.one, .one], .one]) s.1))], [])) (fun _ s => Inv5 now.length s) (fun i s hi hs => ?_) (fun s hs => ?_) (now, 0) h0
  · rw [List.length_take] at hi
    have hi1 : i < ds.length := by omega
    have hi2 : i < 60 := by omega
    have hx : nthD (ds.take 60) i = nthD ds i := by
      unfold nthD
      rw [List.getD_eq_getElem?_getD, List.getD_eq_getElem?_getD, List.getElem?_take_of_lt hi2]
    rw [hx]
    have hok := allE_nth h1 hi1
    obtain ⟨now', opn⟩ := s
    have hb := manyI hN hs
    have w1 : IntKind.wrap .i64 (opn + 1) = opn + 1 := by rw [IntKind.wrap_i64]; have := hb.1; have := hb.2; simp only at *; omega
    have w2 : IntKind.wrap .i64 (opn - 1) = opn - 1 := by rw [IntKind.wrap_i64]; have := hb.1; have := hb.2; simp only at *; omega
    have e1 : decide ((i : Int) < (ds.length : Int)) = true := decide_eq_true (by omega)
    have e2 : decide ((i : Int) < 60) = true := decide_eq_true (by omega)
    have e3 : decide ((0 : Int) ≤ (i : Int)) = true := decide_eq_true (by omega)
    unfold lnk_step deed dFA dFB dTA dTB dDR dLK
    simp only [e1, e2, e3, w1, w2, Int.toNat_natCast, decide_eq_true hi1, hok, wrap_succ (show i < 2 ^ 62 by omega), Bool.not_true, Bool.false_or, Bool.true_and]
    obtain ⟨fa, hfa⟩ : ∃ z, D.getI (nthD (D.getL (nthD (D.getL (nthD ds i)) 0)) 0) = z := ⟨_, rfl⟩
    obtain ⟨fb, hfb⟩ : ∃ z, D.getI (nthD (D.getL (nthD (D.getL (nthD ds i)) 0)) 1) = z := ⟨_, rfl⟩
    obtain ⟨ta, hta⟩ : ∃ z, D.getI (nthD (D.getL (nthD (D.getL (nthD ds i)) 1)) 0) = z := ⟨_, rfl⟩
    obtain ⟨tb, htb⟩ : ∃ z, D.getI (nthD (D.getL (nthD (D.getL (nthD ds i)) 1)) 1) = z := ⟨_, rfl⟩
    obtain ⟨dr, hdr⟩ : ∃ z, D.getI (nthD (D.getL (nthD ds i)) 2) = z := ⟨_, rfl⟩
    obtain ⟨lk, hlk⟩ : ∃ z, D.getB (nthD (D.getL (nthD ds i)) 3) = z := ⟨_, rfl⟩
    simp only [hfa, hfb, hta, htb, hdr, hlk]
    clear hfa hfb hta htb hdr hlk
    cases lk with
    | true =>
      obtain ⟨p1, p2, p3⟩ := deed_link hN hs fa fb ta tb dr
      simp only at p1 p2 p3
      rcases p3 with p3 | ⟨p3, p4⟩ | ⟨p3, p4⟩ | ⟨p3, p4, f, p5, p6, p7, p8, p9⟩
      · simp only [p1, p2, p3, cond_true, cond_false, show ((1 : Int) == 8) = false from rfl, show ((1 : Int) == 4) = false from rfl, show ((1 : Int) == 1) = true from rfl, show ((1 : Int) == 0) = false from rfl, Bool.true_and, Bool.true_or, T.run_chk, T.run_br, T.run_leaf]
        exact ⟨by trivial, hs⟩
      · simp only [p1, p2, p3, p4, cond_true, cond_false, show ((4 : Int) == 8) = false from rfl, show ((4 : Int) == 4) = true from rfl, show ((4 : Int) == 0) = false from rfl, Bool.true_and, Bool.true_or, T.run_chk, T.run_br, T.run_leaf]
        exact ⟨by trivial, hs⟩
      · simp only [p1, p2, p3, p4, cond_true, cond_false, beq_self_eq_true, show ((8 : Int) == 0) = false from rfl, Bool.true_and, Bool.true_or, T.run_chk, T.run_br, T.run_leaf]
        exact ⟨by trivial, by rw [← p4]; exact hs⟩
      · obtain ⟨q1, q2, q3, q4, q5⟩ := p9 _ rfl
        have c1 : decide (((f : Nat) : Int) < 0) = false := decide_eq_false (by omega)
        have c2 : decide ((now'.length : Int) ≤ ((f : Nat) : Int)) = false := decide_eq_false (by omega)
        have c3 : decide ((0 : Int) ≤ ((f : Nat) : Int)) = true := decide_eq_true (by omega)
        have p7' : D.getB (nthD (D.getL (nthD now' f)) 0) = false := p7
        simp only [p1, p2, p3, p4, p6, p7', p8, q1, q2, q3, q4, c1, c2, c3, Int.toNat_natCast, decide_eq_true p5, cond_true, cond_false, beq_self_eq_true, bne_self_eq_false, show ((0 : Int) == 8) = false from rfl, show ((0 : Int) == 4) = false from rfl, show ((0 : Int) == 1) = false from rfl, Bool.not_false, Bool.false_or, Bool.and_true, T.run_chk, T.run_br, T.run_leaf]
        exact ⟨by trivial, q5⟩
    | false =>
      obtain ⟨p1, p2, p3⟩ := deed_close hN hs fa fb dr
      simp only at p1 p2 p3
      rcases p3 with ⟨p3, p4⟩ | ⟨p3, p4, p5⟩
      · simp only [p1, p2, p3, p4, cond_true, cond_false, bne_self_eq_false, show ((3 : Int) == 0) = false from rfl, beq_self_eq_true, Bool.not_false, Bool.true_and, Bool.false_or, Bool.or_true, T.run_chk, T.run_br, T.run_leaf]
        exact ⟨by trivial, hs⟩
      · simp only [p1, p2, p3, p4, cond_true, cond_false, show ((0 : Int) == 0) = true from rfl, beq_self_eq_true, Bool.true_and, Bool.true_or, T.run_chk, T.run_br, T.run_leaf]
        exact ⟨by trivial, p5⟩
  · have hl : (decide (((ds.take 60).length : Int) < (ds.length : Int)) && decide (((ds.take 60).length : Int) < 60)) = false := by
      rw [List.length_take]
      by_cases h : ds.length ≤ 60
      · rw [Nat.min_eq_right h, decide_eq_false (by omega)]; rfl
      · rw [Nat.min_eq_left (by omega)]; simp
    unfold lnk_step
    generalize ((ds.take 60).length : Int) = z at hl ⊢
    cases a1 : decide (z < (ds.length : Int)) with
    | false => simp only [a1]; rfl
    | true =>
      rw [a1, Bool.true_and] at hl
      simp only [a1, hl]; rfl

def L_lnk : Frame' → Store → T (Exit × Frame' × Store) := fun fr σ => match fr.getD 0 .undef, fr.getD 1 .undef, fr.getD 5 .undef, fr.getD 6 .undef, fr.getD 7 .undef, σ with
  | AV.dat (D.int IntKind.u8 many), AV.dat (D.slc (Sh.agg [Sh.agg [Sh.one, Sh.one], Sh.agg [Sh.one, Sh.one], Sh.one, Sh.one]) ds), AV.dat (D.slc (Sh.agg [Sh.one, Sh.agg [Sh.one, Sh.one], Sh.agg [Sh.one, Sh.one], Sh.one]) now), AV.dat (D.int IntKind.i64 0), AV.dat (D.int IntKind.i64 0), [] => .chk (Nat.beq fr.length 159 && (ds.all (okE ekDeed) && D.eqbL now (List.replicate now.length (exD false 0 0 0 0 0)) && decide (now.length ≤ 1048576))) (T.bind (.leaf (some 0, mkF 159 [(0, .dat (.int .u8 many)), (5, .dat (.slc (.agg [.one, .agg [.one, .one], .agg [.one, .one], .one]) ((ds.take 60).foldl deed (now, 0)).1))], [])) fun o => .leaf (outEx o.1, o.2.1, o.2.2))
  | _, _, _, _, _, _ => .fail
theorem lnk_sem (lp : Loops) : ∀ fr σ p, (L_lnk fr σ).run = some p → ∀ (K : Kt) r, K p.1 p.2.1 p.2.2 = some r → ∃ n, loopRun (envOf tab SpH [] lp HL) Try.f4 0 σ.length n (cleanF (liveAt Try.f4 0) 0 fr) σ K = some r := by
  intro fr σ p h K r hK
  unfold L_lnk at h
  split at h
  · rename_i many ds now g0 g1 g5 g6 g7
    obtain ⟨hc, h'⟩ := T.chk_some h
    rw [Bool.and_eq_true] at hc
    obtain ⟨hl, hc⟩ := hc
    obtain ⟨o, ho, h'⟩ := T.bind_some h'
    have hp := T.leaf_some h'
    subst hp
    obtain ⟨nF, hn⟩ : ∃ nF, (iterT (lnk_step many ds) nF ((0, now, 0))).run = T.run (.leaf (some 0, mkF 159 [(0, .dat (.int .u8 many)), (5, .dat (.slc (.agg [.one, .agg [.one, .one], .agg [.one, .one], .one]) ((ds.take 60).foldl deed (now, 0)).1))], [])) := lnk_closed many ds now hc
    rw [ho] at hn
    refine ⟨nF, ?_⟩
    have he : cleanF (liveAt Try.f4 0) 0 fr = lnk_fr many ds ((0, now, 0)) := lnk_enter many ds _ _ _ fr hl g0 g1 g5 g6 g7
    refine (iter_ok (base := 0) (lnk_hr lp many ds) K nF ((0, now, 0)) _ _ (by rw [clean_clean]; exact he) (by kernel_rfl)).trans ?_
    rw [T.k_run hn]
    exact hK
  · simp [T.run_fail] at h
theorem lnk_loopOk (lp : Loops) (hk : Loops.get lp 4 = some L_lnk) : LoopOk (envOf tab SpH [] lp HL) (loopAt Try.f4 0).1 (loopAt Try.f4 0).2 := loop_ok (L := L_lnk) hk (lnk_sem lp)

def deeds (ds now : List D) : List D := ((ds.take 60).foldl deed (now, 0)).1

end Go.Proofs.Ytiegehdiffemlaa
