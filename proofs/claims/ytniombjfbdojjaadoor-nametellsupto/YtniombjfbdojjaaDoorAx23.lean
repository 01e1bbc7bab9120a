import Derived.Test.YtniombjfbdojjaaDoorAx22
import Derived.ChangeArms
/- AX, part 29: what a row reads at a plain type, as data. -/
namespace Go.AX
open Go.RowKit
mutual
def sizeD : D → Nat
  | .str s => s.size + 1
  | .agg l => sizeDL l + 1
  | .arr _ l => sizeDL l + 1
  | .slc _ l => sizeDL l + 1
  | _ => 1
def sizeDL : List D → Nat
  | [] => 0
  | d :: l => sizeD d + sizeDL l
end
mutual
def bulkW {H : Type} : DataW H → Nat
  | .lit (.string bytes) => bytes.length + 1
  | .slice elems _ => bulkWL elems + 1
  | .agg parts => bulkWL parts + 1
  | _ => 1
def bulkWL {H : Type} : List (DataW H) → Nat
  | [] => 0
  | d :: l => bulkW d + bulkWL l
end
theorem sizeD_pos : ∀ d : D, 1 ≤ sizeD d := by
  intro d
  cases d <;> simp [sizeD]
theorem length_sizeDL : ∀ l : List D, l.length ≤ sizeDL l
  | [] => by simp [sizeDL]
  | d :: l => by have := sizeD_pos d; have := length_sizeDL l; simp only [sizeDL, List.length_cons]; omega
theorem sizeDL_append : ∀ (a b : List D), sizeDL (a ++ b) = sizeDL a + sizeDL b
  | [], b => by simp [sizeDL]
  | d :: a, b => by simp only [List.cons_append, sizeDL, sizeDL_append a b]; omega
theorem bulkWL_append {H : Type} : ∀ (a b : List (DataW H)), bulkWL (a ++ b) = bulkWL a + bulkWL b
  | [], b => by simp [bulkWL]
  | d :: a, b => by simp only [List.cons_append, bulkWL, bulkWL_append a b]; omega
def plain (tab : Tab) : Nat → TypeId → Bool
  | 0, _ => false
  | n + 1, t => match tab[t]? with
    | some I => match I.ty with
      | .int _ | .bool | .str => true
      | .slc e => plain tab n e
      | .struct fs => fs.all fun f => plain tab n f.1
      | _ => false
    | none => false
def okVL (g : TypeId → D → Bool) : List (TypeId × Nat) → List D → Bool
  | [], [] => true
  | f :: fs, d :: ds => g f.1 d && okVL g fs ds
  | _, _ => false
def okV (tab : Tab) : Nat → TypeId → D → Bool
  | 0, _, _ => false
  | n + 1, t, x => match tab[t]? with
    | some I => match I.ty, x with
      | .int k, .int k' z => decide (k' = k) && (Lit.int k z).wf
      | .bool, .bool _ => true
      | .str, .str _ => true
      | .slc e, .slc s l => (match tab.sh e with | some s' => Sh.eqb s s' | none => false) && l.all (okV tab n e)
      | .struct fs, .agg l => okVL (okV tab n) fs l
      | _, _ => false
    | none => false
theorem add_add (a : Addr) (m i : Nat) : (a.add m).add i = a.add (m + i) := by
  unfold Addr.add
  by_cases hm : m = 0
  · subst hm; simp
  · by_cases hi : i = 0
    · subst hi; simp [hm]
    · simp [hm, hi]; omega
theorem row_of_cells {W : World} {a : Addr} {n : Nat} {flat : List Value} (hn : 0 < n) (hl : flat.length = n) (h : ∀ j, j < n → W.cell? (a.add j) = flat[j]?) :
    ∃ b o, a = ⟨b, o, none⟩ ∧ all0 W b ∧ row W b o n = some flat := by
  have h0 := h 0 hn
  have e0 : a.add 0 = a := by simp [Addr.add]
  rw [e0, List.getElem?_eq_getElem (by omega)] at h0
  unfold World.cell? at h0
  cases hb : W.heap[a.block]? with
  | none => rw [hb] at h0; simp at h0
  | some bk =>
    cases bk with
    | cells c t f =>
      rw [hb] at h0
      simp only at h0
      cases hs : a.spot with
      | some x => rw [hs] at h0; simp at h0
      | none =>
        have ha : a = ⟨a.block, a.off, none⟩ := by cases a with | mk x y z => exact congrArg _ hs
        have hci : ∀ i, i < n → c[a.off + i]? = flat[i]? := by
          intro i hi
          have h1 := h i hi
          unfold World.cell? at h1
          have eb : (a.add i).block = a.block := by unfold Addr.add; split <;> rfl
          have es : (a.add i).spot = none := by unfold Addr.add; split <;> first | exact hs | rfl
          rw [eb, hb] at h1
          simp only [es, addr_off] at h1
          simpa using h1
        have hlast := hci (n - 1) (by omega)
        rw [List.getElem?_eq_getElem (by omega)] at hlast
        have hsz : a.off + n ≤ c.size := by
          have := (Array.getElem?_eq_some_iff.1 hlast).1
          omega
        refine ⟨a.block, a.off, ha, ?_, ?_⟩
        · exact ⟨_, _, _, hb⟩
        · unfold row
          rw [hb]
          simp only
          rw [if_pos hsz]
          congr 1
          refine List.ext_getElem? fun i => ?_
          rw [List.getElem?_take]
          split
          · rename_i hi
            rw [List.getElem?_drop, Array.getElem?_toList, hci i hi]
          · rename_i hi
            rw [List.getElem?_eq_none (by omega)]
    | _ => rw [hb] at h0; simp at h0
theorem rdL_snoc {w : World} {S : Nat → Prop} : ∀ {vs : List D} {cs : List Value} {v : D} {r : List Value}, RdL w S vs cs → Rd w S v r → RdL w S (vs ++ [v]) (cs ++ r)
  | [], cs, v, r, h, k => by
    rw [RdL] at h; subst h
    rw [List.nil_append, List.nil_append, RdL]
    exact ⟨r, [], by simp, k, by simp [RdL]⟩
  | d :: vs, cs, v, r, h, k => by
    rw [RdL] at h
    obtain ⟨c1, c2, rfl, h1, h2⟩ := h
    rw [List.cons_append, RdL]
    exact ⟨c1, c2 ++ r, by simp, h1, rdL_snoc h2 k⟩
theorem cellsOf_eq {P : Program} {tab : Tab} {t : TypeId} {I : TyI} (h : TyOk P tab t I) : P.cellsOf t = I.sh.size := by
  obtain ⟨i, d, h1, _, h2, _⟩ := h.info
  unfold Program.cellsOf
  rw [h1]
  exact h2
theorem plain_known {tab : Tab} {n : Nat} {t : TypeId} (h : plain tab n t = true) : known tab t = true := by
  cases n with
  | zero => simp [plain] at h
  | succ n =>
    unfold plain at h
    unfold known
    cases ht : tab[t]? with
    | none => rw [ht] at h; simp at h
    | some I =>
      rw [ht] at h
      simp only at h ⊢
      cases hty : I.ty <;> rw [hty] at h <;> simp_all
section
variable {P : Program} {tab : Tab} {H : Type} {enc : TypeId × Value → H} {W : World} {sp : Nat → Bool} {held : Bool}
def Opens (P : Program) (tab : Tab) (H : Type) (enc : TypeId × Value → H) (W : World) (sp : Nat → Bool) (held : Bool) (n : Nat) (t : TypeId) : Prop :=
  ∀ (fuel : Nat) (cs : List Value) (x : DataW H × List MemPlace), DataW.trod enc P W 0 sp held fuel t cs = some x →
    ∃ v : D, Rd W (all0 W) v cs ∧ okV tab n t v = true ∧ (∀ I, tab[t]? = some I → v.shape = I.sh) ∧ sizeD v ≤ bulkW x.1
theorem opens_fields {n : Nat} {cs : List Value} {xs : List (DataW H × List MemPlace)} {m : Nat} (hP : tabOk P tab 0 tab = true) : ∀ (fs : List (TypeId × Nat)) (gs : List Field) (l : List Sh) (at_ k : Nat),
    fieldsOk tab fs gs l at_ = true → (∀ f ∈ fs, plain tab n f.1 = true ∧ Opens P tab H enc W sp held n f.1) → (∀ (i : Nat) (f : Field), gs[i]? = some f → DataW.trod enc P W 0 sp held m f.type ((cs.drop f.offset).take (P.cellsOf f.type)) = xs[k + i]?) →
    xs.length = k + gs.length → cs.length = at_ + Sh.sizeL l →
    ∃ vs : List D, RdL W (all0 W) vs (cs.drop at_) ∧ okVL (okV tab n) fs vs = true ∧ D.shapeL vs = l ∧ sizeDL vs ≤ bulkWL ((xs.drop k).map (·.1))
  | [], [], [], at_, k, _, _, _, hx, hl => by
    refine ⟨[], ?_, rfl, rfl, by simp [sizeDL]⟩
    rw [RdL]
    exact List.drop_eq_nil_of_le (by simp [Sh.sizeL] at hl; omega)
  | (t, o) :: fs, g :: gs, s :: l, at_, k, hf, hp, hr, hx, hl => by
    simp only [fieldsOk, Bool.and_eq_true, decide_eq_true_eq] at hf
    obtain ⟨⟨⟨⟨⟨e1, e2⟩, e3⟩, e4⟩, e5⟩, e6⟩ := hf
    obtain ⟨hpl, hop⟩ := hp (t, o) List.mem_cons_self
    have h0 := hr 0 g rfl
    rw [Nat.add_zero] at h0
    simp only [List.length_cons] at hx
    have hk : k < xs.length := by omega
    rw [List.getElem?_eq_getElem hk, e1] at h0
    split at e5
    · rename_i I hI
      simp only [Bool.and_eq_true] at e5
      have hsh := Sh.eq_of_eqb e5.1
      have hc : P.cellsOf t = s.size := by rw [cellsOf_eq (tyOk hP hI (plain_known hpl)), hsh]
      obtain ⟨v, h1, h2, h3, h4⟩ := hop _ _ _ h0
      rw [hc, e2, e3] at h1
      obtain ⟨vs, g1, g2, g3, g4⟩ := opens_fields hP fs gs l (at_ + s.size) (k + 1) e6 (fun f hf => hp f (List.mem_cons_of_mem _ hf)) (fun i f hf => by
        have := hr (i + 1) f (by simpa using hf)
        rw [this]; congr 1; omega) (by omega) (by simp only [Sh.sizeL] at hl; omega)
      refine ⟨v :: vs, ?_, ?_, ?_, ?_⟩
      · rw [RdL]
        refine ⟨(cs.drop at_).take s.size, cs.drop (at_ + s.size), ?_, h1, g1⟩
        rw [← List.drop_drop, List.take_append_drop]
      · rw [okVL, h2, g2]; rfl
      · rw [D.shapeL, h3 I hI, hsh, g3]
      · rw [List.drop_eq_getElem_cons hk, List.map_cons, sizeDL, bulkWL]
        omega
    · simp at e5
  | [], _ :: _, _, _, _, hf, _, _, _, _ => by simp [fieldsOk] at hf
  | [], [], _ :: _, _, _, hf, _, _, _, _ => by simp [fieldsOk] at hf
  | _ :: _, [], _, _, _, hf, _, _, _, _ => by simp [fieldsOk] at hf
  | _ :: _, _ :: _, [], _, _, hf, _, _, _, _ => by simp [fieldsOk] at hf
theorem opens_elems {n m c : Nat} {e : TypeId} {a : Addr} {elems : List (DataW H × List MemPlace)} {J : TyI} (hJ : tab[e]? = some J) (hcs : J.sh.size = c) (ho : Opens P tab H enc W sp held n e)
    (hr : ∀ i, i < elems.length → (W.cells? 0 (a.add (i * c)) c).bind (DataW.trod enc P W 0 sp held m e) = elems[i]?) : ∀ k, k ≤ elems.length →
    ∃ (vs : List D) (flat : List Value), vs.length = k ∧ flat.length = k * c ∧ RdL W (all0 W) vs flat ∧ (∀ j, j < k * c → W.cell? (a.add j) = flat[j]?) ∧ vs.all (okV tab n e) = true ∧ (∀ v ∈ vs, v.shape = J.sh) ∧ sizeDL vs ≤ bulkWL ((elems.take k).map (·.1))
  | 0, _ => ⟨[], [], rfl, by simp, by simp [RdL], fun j hj => by simp at hj, rfl, by simp, by simp [sizeDL]⟩
  | k + 1, hk => by
    obtain ⟨vs, flat, h1, h2, h3, h4, h5, h6, h7⟩ := opens_elems hJ hcs ho hr k (by omega)
    have hrk := hr k (by omega)
    rw [List.getElem?_eq_getElem (by omega)] at hrk
    simp only [Option.bind_eq_some_iff] at hrk
    obtain ⟨r, hc, ht⟩ := hrk
    obtain ⟨v, g1, g2, g3, g4⟩ := ho _ _ _ ht
    have hlr : r.length = c := by rw [Rd.length g1, g3 J hJ, hcs]
    have hcell : ∀ i, i < c → W.cell? (a.add (k * c + i)) = r[i]? := by
      intro i hi
      unfold World.cells? at hc
      rw [if_pos (Nat.zero_le _)] at hc
      have := mapM_some_get hc i i (by simp [hi])
      rw [add_add] at this
      exact this
    refine ⟨vs ++ [v], flat ++ r, by simp [h1], by rw [List.length_append, h2, hlr, Nat.succ_mul], rdL_snoc h3 g1, ?_, ?_, ?_, ?_⟩
    · intro j hj
      rw [Nat.succ_mul] at hj
      rcases Nat.lt_or_ge j (k * c) with h | h
      · rw [List.getElem?_append_left (by omega), h4 j h]
      · rw [List.getElem?_append_right (by omega), h2]
        have := hcell (j - k * c) (by omega)
        rw [← this]
        congr 2
        omega
    · rw [List.all_append, h5]; simp [g2]
    · intro u hu
      rcases List.mem_append.1 hu with hu | hu
      · exact h6 u hu
      · rw [List.mem_singleton.1 hu]; exact g3 J hJ
    · rw [sizeDL_append, List.take_succ_eq_append_getElem (by omega), List.map_append, bulkWL_append]
      simp only [sizeDL, List.map_cons, List.map_nil, bulkWL]
      omega
theorem opens (hP : tabOk P tab 0 tab = true) : ∀ (n : Nat) (t : TypeId), plain tab n t = true → Opens P tab H enc W sp held n t
  | 0, t, h => by simp [plain] at h
  | n + 1, t, hp => by
    have hk := plain_known hp
    intro fuel cs x hx
    unfold plain at hp
    cases ht : tab[t]? with
    | none => rw [ht] at hp; simp at hp
    | some I =>
      rw [ht] at hp
      simp only at hp
      have hok := tyOk hP ht hk
      obtain ⟨i, d, _, hu, _, _, _, _, hm⟩ := hok.info
      have shp : ∀ v : D, v.shape = I.sh → ∀ J, some I = some J → v.shape = J.sh := fun v hv J hJ => by
        simp only [Option.some.injEq] at hJ; subst hJ; exact hv
      cases hty : I.ty with
      | int k =>
        obtain ⟨hsh, hu'⟩ : I.sh = .one ∧ P.underlying t = some (.int k) := by
          rw [hty] at hm
          cases hsh : I.sh <;> rw [hsh] at hm <;> cases d <;> simp_all
        obtain ⟨z, rfl, rfl, hw⟩ := DataW.trod_int hu' hx
        refine ⟨.int k z, by rw [Rd], ?_, shp _ (by rw [hsh]; rfl), by simp [sizeD, bulkW]⟩
        unfold okV; rw [ht]; simp [hty, hw]
      | bool =>
        obtain ⟨hsh, hu'⟩ : I.sh = .one ∧ P.underlying t = some .bool := by
          rw [hty] at hm
          cases hsh : I.sh <;> rw [hsh] at hm <;> cases d <;> simp_all
        obtain ⟨b, rfl, rfl⟩ := DataW.trod_bool hu' hx
        refine ⟨.bool b, by rw [Rd], ?_, shp _ (by rw [hsh]; rfl), by simp [sizeD, bulkW]⟩
        unfold okV; rw [ht]; simp [hty]
      | str =>
        obtain ⟨hsh, hu'⟩ : I.sh = .one ∧ P.underlying t = some .string := by
          rw [hty] at hm
          cases hsh : I.sh <;> rw [hsh] at hm <;> cases d <;> simp_all
        obtain ⟨s, rfl, rfl, hw⟩ := DataW.trod_string hu' hx
        refine ⟨.str s, by rw [Rd], ?_, shp _ (by rw [hsh]; rfl), ?_⟩
        · unfold okV; rw [ht]; simp [hty]
        · simp only [sizeD, bulkW]
          exact Nat.le_refl _
      | slc e =>
        rw [hty] at hp
        simp only at hp
        obtain ⟨hsh, hu', J, hJ, hJs, hJk⟩ : I.sh = .one ∧ P.underlying t = some (.slice e) ∧ ∃ J, tab[e]? = some J ∧ J.sh.size ≠ 0 ∧ known tab e = true := by
          rw [hty] at hm
          cases hsh : I.sh <;> rw [hsh] at hm <;> cases d <;> simp_all
          obtain ⟨h1, h2⟩ := hm
          rw [← h1]; exact h2
        have hce : P.cellsOf e = J.sh.size := cellsOf_eq (tyOk hP hJ hJk)
        have okv : ∀ vs : List D, vs.all (okV tab n e) = true → okV tab (n + 1) t (.slc J.sh vs) = true := by
          intro vs hvs
          unfold okV; rw [ht]
          simp only [hty]
          unfold Tab.sh
          rw [hJ]
          simp [Sh.eqb_self, hvs]
        rcases DataW.trod_slice hu' hx with ⟨rfl, rfl⟩ | ⟨a, len, cap, el, rest, m, rfl, rfl, rfl, hb, hl, hm', hlen, hel, _, _⟩
        · exact ⟨.slc J.sh [], rd_nil, okv [] rfl, shp _ (by rw [hsh]; rfl), by simp [sizeD, sizeDL, bulkW]⟩
        · rw [hce] at hel
          obtain ⟨vs, flat, h1, h2, h3, h4, h5, h6, h7⟩ := opens_elems hJ rfl (opens hP n e hp) (fun i hi => hel i (by omega)) el.length (Nat.le_refl _)
          refine ⟨.slc J.sh vs, ?_, okv vs h5, shp _ (by rw [hsh]; rfl), ?_⟩
          · rw [Rd]
            refine ⟨some a, cap, by rw [h1, hlen], by omega, h6, ?_⟩
            cases hz : vs with
            | nil => left; rfl
            | cons v0 vs0 =>
              right
              have hpos : 0 < el.length * J.sh.size := by
                have : 0 < el.length := by rw [← h1, hz]; simp
                exact Nat.mul_pos this (by omega)
              obtain ⟨b, o, ha, hb', hr⟩ := row_of_cells hpos h2 h4
              refine ⟨b, o, flat, by rw [ha], hb', ?_, by rw [← hz]; exact h3⟩
              rw [← hz, h1]; exact hr
          · rw [List.take_length] at h7
            simp only [sizeD, bulkW]
            omega
      | struct fs =>
        rw [hty] at hp
        simp only at hp
        obtain ⟨l, gs, hsh, hu', hf⟩ : ∃ l gs, I.sh = .agg l ∧ P.underlying t = some (.struct gs) ∧ fieldsOk tab fs gs.toList l 0 = true := by
          rw [hty] at hm
          cases hsh : I.sh <;> rw [hsh] at hm <;> cases d <;> simp_all
        obtain ⟨xs, m, rfl, rfl, hcl, hxl, hfs⟩ := DataW.trod_struct hu' hx
        have hct := cellsOf_eq hok
        rw [hsh, Sh.size] at hct
        rw [List.all_eq_true] at hp
        obtain ⟨vs, g1, g2, g3, g4⟩ := opens_fields (n := n) (cs := cs) (xs := xs) (m := m) hP fs gs.toList l 0 0 hf (fun f hf => ⟨hp f hf, opens hP n f.1 (hp f hf)⟩) (fun i f hf => by
          have := hfs i f (by rw [← Array.getElem?_toList]; exact hf)
          rw [this]; congr 1; omega) (by rw [hxl]; simp) (by omega)
        rw [List.drop_zero] at g1 g4
        refine ⟨.agg vs, by rw [Rd]; exact g1, ?_, shp _ (by rw [hsh, D.shape, g3]), ?_⟩
        · unfold okV; rw [ht]; simp only [hty]; exact g2
        · simp only [sizeD, bulkW]; omega
      | _ => rw [hty] at hp; simp at hp
end
end Go.AX
