/- Seat 15: RoomLinks is true. -/
import Derived.Test.YtiegehdiffemlaaK
import Derived.Test.YtiegehdiffemlaaAx30
namespace Go.Proofs.Ytiegehdiffemlaa
open Go.AX
set_option maxRecDepth 100000

theorem deed_inv {N : Nat} (hN : N ≤ 1048576) {s : List D × Int} (h : Inv5 N s) (x : D) : Inv5 N (deed s x) := by
  unfold deed
  cases dLK x with
  | true =>
    obtain ⟨_, _, p⟩ := deed_link hN h (dFA x) (dFB x) (dTA x) (dTB x) (dDR x)
    rcases p with p | ⟨p, _⟩ | ⟨p, _⟩ | ⟨p, _, f, _, _, _, _, q⟩
    · rw [p]; exact h
    · rw [p]; exact h
    · rw [p]; exact h
    · rw [p]; exact (q _ rfl).2.2.2.2
  | false =>
    obtain ⟨_, _, p⟩ := deed_close hN h (dFA x) (dFB x) (dDR x)
    rcases p with ⟨p, _⟩ | ⟨p, _, q⟩
    · rw [p]; exact h
    · rw [p]; exact q
theorem deeds_inv {N : Nat} (hN : N ≤ 1048576) : ∀ (l : List D) {s : List D × Int}, Inv5 N s → Inv5 N (l.foldl deed s)
  | [], _, h => h
  | x :: l, _, h => deeds_inv hN l (deed_inv hN h x)

theorem new_inv (n : Nat) (hn : n ≤ 1048576) : Inv5 n (List.replicate n (exD false 0 0 0 0 0), 0) := by
  have hrep : ∀ i, i < n → nthD (List.replicate n (exD false 0 0 0 0 0)) i = exD false 0 0 0 0 0 := by
    intro i hi
    unfold nthD
    rw [List.getD_eq_getElem?_getD, List.getElem?_replicate, if_pos hi]; rfl
  refine ⟨⟨?_, fun i hi => ?_, fun i hi hu => ?_⟩, List.length_replicate, ?_⟩
  · unfold okX
    rw [List.length_replicate, decide_eq_true (by omega), Bool.and_true, List.all_eq_true]
    intro d hd
    rw [List.eq_of_mem_replicate hd]; rfl
  · rw [List.length_replicate] at hi
    rw [hrep i hi]; rfl
  · rw [List.length_replicate] at hi
    rw [hrep i hi] at hu; exact absurd hu (by decide)
  · show (0 : Int) = ((manyU _ : Nat) : Int)
    have : manyU (List.replicate n (exD false 0 0 0 0 0)) = 0 := by
      unfold manyU
      rw [List.filter_eq_nil_iff.2]
      · rfl
      · intro d hd
        rw [List.eq_of_mem_replicate hd]; decide
    rw [this]; rfl

theorem links_true {many : Int} {ds : List D} (h0 : 0 ≤ many) (h1 : many < 256) (hd : ds.all (okE ekDeed) = true) : links_pre many ds = true ∧ links_v0 many ds = true := by
  obtain ⟨n, hn, hn13⟩ : ∃ n : Nat, Int.tmod (IntKind.wrap .i64 many) 13 = (n : Int) ∧ n < 13 := by
    have : IntKind.wrap .i64 many = many := by rw [IntKind.wrap_i64]; omega
    rw [this, Int.tmod_eq_emod_of_nonneg h0]
    exact ⟨(many % 13).toNat, by omega, by omega⟩
  have hi := new_inv n (by omega)
  have hfin := deeds_inv (N := n) (by omega) (ds.take 60) hi
  have hlen : (List.replicate n (exD false 0 0 0 0 0)).length = n := List.length_replicate
  have hseg : seg (List.replicate n (exD false 0 0 0 0 0)) 0 n = List.replicate n (exD false 0 0 0 0 0) := by
    have := seg_full (List.replicate n (exD false 0 0 0 0 0))
    rwa [hlen] at this
  have hg := exok_good hfin.good
  have hgp : exok_pre (Prod.fst (List.foldl deed (List.replicate n (exD false 0 0 0 0 0), 0) (List.take 60 ds))) = true := by
    unfold exok_pre; rw [hfin.good.ok, D.eqbL_self, decide_eq_true rfl]; rfl
  unfold links_pre links_v0
  rw [hn, Int.toNat_natCast]
  rw [show (D.agg [D.bool false, D.agg [D.int IntKind.i64 (0 : Int), D.int IntKind.i64 (0 : Int)], D.agg [D.int IntKind.i64 (0 : Int), D.int IntKind.i64 (0 : Int)], D.int IntKind.i64 (0 : Int)]) = exD false 0 0 0 0 0 from rfl]
  rw [hseg, hlen, hg, hgp, hfin.len, hd, D.eqbL_self, beq_self]
  simp
  omega

theorem links_law (xs : List D) (h : okAll tab 8 [5, 30] xs = true) (hs : sizeDL xs ≤ 1048576) : ∃ F, FunOk Try.prog 4 F ∧ F (xs.map .dat) [] = some ([.dat (.bool true)], []) := by
  obtain ⟨x0, xs, rfl, h0, h⟩ := okAll_cons h
  obtain ⟨x1, xs, rfl, h1, h⟩ := okAll_cons h
  obtain rfl := okAll_nil h
  obtain ⟨m, rfl, hm⟩ := okV_int (k := .u8) h0 rfl rfl
  obtain ⟨l, rfl, k0⟩ := okV_slc (s := .agg [.agg [.one, .one], .agg [.one, .one], .one, .one]) h1 rfl rfl rfl
  simp [Lit.wf, IntKind.min, IntKind.max, IntKind.signed, IntKind.bits] at hm
  refine ⟨_, clinks_ok, ?_⟩
  obtain ⟨t1, t2⟩ := links_true (many := m) (ds := l) (by omega) (by omega) (List.all_eq_true.2 fun d hd => (show ekOf tab 3 35 = ekDeed by kernel_rfl) ▸ okV_okE 7 3 35 d (List.all_eq_true.1 k0 d hd))
  show (T.chk (links_pre m l) (.leaf ([AV.dat (D.bool (links_v0 m l))], []))).run = _
  rw [t1, t2]; rfl
end Go.Proofs.Ytiegehdiffemlaa
