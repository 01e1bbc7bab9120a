import Derived.Test.YtniombjfbdojjaaDoorAx19
import Derived.Test.YtniombjfbdojjaaDoorAx7
/- AX, part 24b: what loops over functions do to a world. -/
namespace Go.AX
variable {P : Program} {w : World} {S : Nat → Prop} {m : List (Option Nat)} {σ : Store}
theorem cleanF_at (live : List Nat) : ∀ (fr : Frame') (k i : Nat), i < fr.length → (cleanF live k fr)[i]? = some (bif inL (k + i) live then fr.getD i .undef else .undef)
  | [], k, i, h => absurd h (Nat.not_lt_zero i)
  | v :: fr, k, 0, _ => by simp [cleanF]
  | v :: fr, k, i + 1, h => by
    simp only [cleanF, List.getElem?_cons_succ, List.getD_cons_succ]
    rw [cleanF_at live fr (k + 1) i (by simpa using h)]
    have e : k + 1 + i = k + (i + 1) := by omega
    rw [e]
theorem clean_clean (live : List Nat) (fr : Frame') : cleanF live 0 (cleanF live 0 fr) = cleanF live 0 fr := by
  refine List.ext_getElem? fun i => ?_
  rcases Nat.lt_or_ge i fr.length with hl | hl
  · have h := cleanF_at live fr 0 i hl
    rw [cleanF_at live _ 0 i (by rw [cleanF_length]; exact hl), h, List.getD_eq_getElem?_getD, h, Option.getD_some]
    cases inL (0 + i) live <;> rfl
  · rw [List.getElem?_eq_none (by rw [cleanF_length, cleanF_length]; exact hl), List.getElem?_eq_none (by rw [cleanF_length]; exact hl)]
theorem Inv.atLoop (h : Inv w S m σ) {j l : Nat} {B : Blk} {r : Loop} (hB : σ[j]? = some B) (hm : m[j]? = some (some l)) (hr : w.heap[l]? = some (.loop r)) :
    B.dyn = false ∧ (B.frz = false → ¬ S l) ∧ B.sh = loopSh ∧ ∃ c, jcode r.state r.pending = some c ∧ B.v = .dat (.int .i64 c) := by
  have hBk := h.blk j B hB
  rw [List.getD_eq_getElem?_getD, hm] at hBk
  rcases hBk with ⟨_, _, _, g, _⟩ | ⟨h1, _, h3, ⟨g1, r', c, g, g2, g3⟩ | ⟨_, _, _, g, _⟩⟩
  · rw [hr] at g; simp at g
  · rw [hr] at g
    simp only [Option.some.injEq, Obj.loop.injEq] at g
    subst g
    exact ⟨h1, h3, g1, c, g2, g3⟩
  · rw [hr] at g; simp at g
theorem Inv.obj (h : Inv w S m σ) {j l : Nat} {B : Blk} {r r' : Loop} {c' : Int} (hB : σ[j]? = some B) (hm : m[j]? = some (some l)) (hr : w.heap[l]? = some (.loop r)) (hfx : loopFix r' = loopFix r)
    (hc : jcode r'.state r'.pending = some c') (hf : B.frz = false) : Stp w S m σ (putHeap w l (.loop r')) S m (σ.set j { B with v := .dat (.int .i64 c') }) := by
  obtain ⟨hd, hnS, hsh, _⟩ := h.atLoop hB hm hr
  have hnS := hnS hf
  have hid := (List.getElem?_eq_some_iff.1 hB).1
  have hl : l < w.heap.size := (Array.getElem?_eq_some_iff.1 hr).1
  have k : Kp w S (putHeap w l (.loop r')) S := by
    refine ⟨fun _ h => h, fun b hb => putHeap_other (fun e => hnS (e ▸ hb)), fun b c1 t1 f1 h1 => ⟨c1, t1, f1, ?_, rfl⟩, fun b q hq => ?_⟩
    · rw [putHeap_other (fun e => by rw [e, hr] at h1; simp at h1)]; exact h1
    · by_cases e : b = l
      · subst e
        rw [hr] at hq
        simp only [Option.some.injEq, Obj.loop.injEq] at hq
        subst hq
        exact ⟨r', putHeap_self hl, hfx⟩
      · exact ⟨q, by rw [putHeap_other e]; exact hq, rfl⟩
  have x : TExt (tbl m σ) (tbl m (σ.set j { B with v := .dat (.int .i64 c') })) := by
    intro i e he
    by_cases hj : i = j
    · subst hj
      obtain ⟨ob, B', g1, g2, rfl⟩ := tbl_inv he
      rw [hB] at g2
      simp only [Option.some.injEq] at g2
      subst g2
      refine ⟨⟨ob, B.sh, B.dyn, B.n⟩, ?_, rfl, rfl, Nat.le_refl _, fun _ => rfl⟩
      rw [tbl_some g1 (List.getElem?_set_self hid)]
      simp [Blk.n, hd]
    · refine ⟨e, ?_, rfl, rfl, Nat.le_refl _, fun _ => rfl⟩
      unfold tbl at he ⊢
      rw [List.getElem?_set_ne (fun h => hj h.symm)]
      exact he
  refine ⟨⟨by simp [h.len], fun b hb => by have := h.sdom b hb; simp [putHeap]; omega, fun b hb y => by rw [k.same b hb]; exact h.scel b hb y, h.inj, fun i Bi hBi => ?_⟩,
    ⟨k, rfl, rfl, rfl, by simp [putHeap], fun b _ hno => putHeap_other (fun e => hno j (e ▸ hm)), fun _ h => .inl h, fun _ _ h => .inl h⟩, x⟩
  by_cases e : i = j
  · subst e
    rw [List.getElem?_set_self hid] at hBi
    simp only [Option.some.injEq] at hBi
    subst hBi
    rw [List.getD_eq_getElem?_getD, hm]
    exact .inr ⟨hd, fun hq => by rw [hf] at hq; simp at hq, fun _ => hnS, .inl ⟨hsh, r', c', putHeap_self hl, hc, rfl⟩⟩
  · rw [List.getElem?_set_ne (fun h => e h.symm)] at hBi
    refine (h.blk i Bi hBi).mono k x (fun b hb => putHeap_other ?_) (fun _ _ hs => hs)
    rintro rfl
    exact e (h.inj i j b (gD_some hb) hm)
theorem Inv.push (h : Inv w S m σ) (o : Obj) : Stp w S m σ { w with heap := w.heap.push o } S m σ := by
  have k := Kp.push h o
  refine ⟨⟨h.len, fun b hb => by have := h.sdom b hb; simp; omega, fun b hb x => by rw [k.same b hb]; exact h.scel b hb x, h.inj, fun i B hB => ?_⟩,
    ⟨k, rfl, rfl, rfl, by simp, fun b hb _ => push_old hb, fun _ h => .inl h, fun _ _ h => .inl h⟩, TExt.refl _⟩
  exact (h.blk i B hB).mono k (TExt.refl _) (fun b hb => push_old (h.hlt (gD_some hb))) (fun _ _ hs => hs)
theorem Inv.newLoop (h : Inv w S m σ) {r : Loop} (hr : r.state = .ready) (hp : r.pending = none) : Stp w S m σ { w with heap := w.heap.push (.loop r) } S (m ++ [some w.heap.size]) (σ ++ [ghost 0]) := by
  have k := Kp.push h (.loop r)
  have x := TExt.append h.len (some w.heap.size) (ghost 0)
  have hm : ∀ (i : Nat) b, (m ++ [some w.heap.size])[i]? = some (some b) → m[i]? = some (some b) ∨ (b = w.heap.size ∧ i = m.length) := by
    intro i b hi
    rcases Nat.lt_or_ge i m.length with hl | hl
    · rw [List.getElem?_append_left hl] at hi; exact .inl hi
    · rw [List.getElem?_append_right hl] at hi
      cases hq : i - m.length with
      | zero => rw [hq] at hi; simp at hi; exact .inr ⟨hi.symm, by omega⟩
      | succ q => rw [hq] at hi; simp at hi
  refine ⟨⟨by simp [h.len], fun b hb => by have := h.sdom b hb; simp; omega, fun b hb y => by rw [k.same b hb]; exact h.scel b hb y, ?_, fun i B hB => ?_⟩,
    ⟨k, rfl, rfl, rfl, by simp, fun b hb _ => push_old hb, fun _ h => .inl h, fun i b hi => ?_⟩, x⟩
  · intro i j b hi hj
    rcases hm i b hi with h1 | ⟨h1, h1'⟩ <;> rcases hm j b hj with h2 | ⟨h2, h2'⟩
    · exact h.inj i j b h1 h2
    · have := h.hlt h1; omega
    · have := h.hlt h2; omega
    · omega
  · rcases Nat.lt_or_ge i σ.length with hl | hl
    · rw [List.getElem?_append_left hl] at hB
      have hg : (m ++ [some w.heap.size]).getD i none = m.getD i none := by
        rw [List.getD_eq_getElem?_getD, List.getD_eq_getElem?_getD, List.getElem?_append_left (by rw [h.len]; exact hl)]
      rw [hg]
      exact (h.blk i B hB).mono k x (fun b hb => push_old (h.hlt (gD_some hb))) (fun _ _ hs => hs)
    · have hi : i = σ.length := by
        have := (List.getElem?_eq_some_iff.1 hB).1
        simp at this; omega
      subst hi
      rw [List.getElem?_append_right (Nat.le_refl _)] at hB
      simp at hB
      subst hB
      have hg : (m ++ [some w.heap.size]).getD σ.length none = some w.heap.size := by
        rw [List.getD_eq_getElem?_getD, List.getElem?_append_right (by rw [h.len]; exact Nat.le_refl _)]
        simp [h.len]
      rw [hg]
      exact .inr ⟨rfl, fun hq => by simp [ghost] at hq, fun _ hs => by have := h.sdom _ hs; omega, .inl ⟨rfl, r, 0, by simp, by rw [hr, hp]; rfl, rfl⟩⟩
  · rcases hm i b hi with h1 | ⟨h1, _⟩
    · exact .inl h1
    · exact .inr (by omega)
theorem run_getLoop {P : Program} {w : World} {l : Nat} {r : Loop} (h : w.heap[l]? = some (.loop r)) : (Instr.getLoop l).run P w = .ok r w := by
  simp [Instr.getLoop, Sem.run_bind, getObj, Sem.run, h, Result.andThen]
theorem run_setLoop {P : Program} {w : World} {l : Nat} {r : Loop} (o : Obj) (h : w.heap[l]? = some (.loop r)) : (setObj l o).run P w = .ok () (putHeap w l o) := by simp [setObj, Sem.run, h, putHeap]
theorem yield_run {P : Program} {w : World} {l : Nat} {r : Loop} {args : Array Value} (h : w.heap[l]? = some (.loop r)) (hs : args.size = r.params.size) :
    (Instr.yield l args).run P w = .ok (.round l r.fn ((r.params.zip args).foldl (fun tmps (t, a) => tmps.setIfInBounds t a) r.tmps) r.assign r.body) w := by
  simp [Instr.yield, Sem.run_bind, run_getLoop h, Result.andThen, hs]
theorem begin_run {P : Program} {w : World} {l : Nat} {r : Loop} (h : w.heap[l]? = some (.loop r)) (hr : r.state = .ready) : (Instr.beginRound l).run P w = .ok () (putHeap w l (.loop { r with state := .busy })) := by
  simp [Instr.beginRound, Sem.run_bind, run_getLoop h, run_setLoop _ h, Result.andThen, hr]
theorem end_run {P : Program} {w : World} {l : Nat} {r : Loop} (j : Option Code) (h : w.heap[l]? = some (.loop r)) :
    (Instr.endRound l j).run P w = .ok (.bool j.isNone) (putHeap w l (.loop { r with state := if j.isNone then .ready else .done, pending := j })) := by
  simp [Instr.endRound, Sem.run_bind, run_getLoop h, run_setLoop _ h, Result.andThen]
theorem over_run {P : Program} {w : World} {l : Nat} {r : Loop} (h : w.heap[l]? = some (.loop r)) (hb : r.state ≠ .busy) : (Instr.endLoop l).run P w = .ok r.pending (putHeap w l (.loop { r with state := .exhausted })) := by
  simp [Instr.endLoop, Sem.run_bind, run_getLoop h, run_setLoop _ h, Result.andThen, hb]
theorem take_run {P : Program} {w : World} {D : Nat} (h : w.heap[D]? = some (.deferred (some []))) : (Instr.takeDeferred D).run P w = .ok [] (putHeap w D (.deferred none)) := by
  simp [Instr.takeDeferred, Sem.run_bind, getObj, setObj, Sem.run, h, Result.andThen, putHeap]
theorem Inv.took {w' : World} {S' : Nat → Prop} {m' : List (Option Nat)} {σ' : Store} (h : Stp w S m σ w' S' m' σ') {D : Nat} {x y : Option (List Deferred)} (hD : w'.heap[D]? = some (.deferred x)) (hn : w.heap.size ≤ D) :
    Stp w S m σ (putHeap w' D (.deferred y)) S' m' σ' ∧ Kp w' S' (putHeap w' D (.deferred y)) S' := by
  have k : Kp w' S' (putHeap w' D (.deferred y)) S' := by
    refine ⟨fun _ h => h, fun b hb => putHeap_other ?_, fun b c t f hb => ⟨c, t, f, ?_, rfl⟩, fun b r hb => ⟨r, ?_, rfl⟩⟩
    · rintro rfl; exact h.inv.scel b hb _ hD
    · rw [putHeap_other (fun e => by rw [e, hD] at hb; simp at hb)]; exact hb
    · rw [putHeap_other (fun e => by rw [e, hD] at hb; simp at hb)]; exact hb
  refine ⟨⟨⟨h.inv.len, fun b hb => by have := h.inv.sdom b hb; simp [putHeap]; omega, fun b hb z => by rw [k.same b hb]; exact h.inv.scel b hb z, h.inv.inj, fun i B hB => ?_⟩,
    ⟨h.ext.kp.trans k, h.ext.os, h.ext.tape, h.ext.output, by have := h.ext.size; simp [putHeap]; omega, fun b hb hno => ?_, h.ext.snew, h.ext.mnew⟩, h.tx⟩, k⟩
  · refine (h.inv.blk i B hB).mono k (TExt.refl _) (fun b hb => putHeap_other ?_) (fun _ _ hs => hs)
    rintro rfl
    have := h.inv.blk i B hB
    rw [hb] at this
    exact BlkOk.nodef this hD
  · rw [putHeap_other (by omega)]; exact h.ext.same b hb hno
theorem took_all {nb : Nat} : ∀ {ds : List Deferred} {w' : World} {S' : Nat → Prop} {m' : List (Option Nat)} {σ' : Store}, Stp w S m σ w' S' m' σ' → ds.Nodup → (∀ d ∈ ds, MarkOk nb w' d) → w.heap.size ≤ nb →
    ∃ w'', Took P ds w' w'' ∧ Stp w S m σ w'' S' m' σ' ∧ Kp w' S' w'' S'
  | [], w', S', _, _, h, _, _, _ => ⟨w', .nil _, h, Kp.refl _ _⟩
  | d :: ds, w', S', m', σ', h, hn, hd, hb => by
    obtain ⟨D, rfl, h1, h2⟩ := hd d (List.mem_cons_self ..)
    obtain ⟨s1, k1⟩ := Inv.took (y := none) h h2 (Nat.le_trans hb h1)
    have hn := List.nodup_cons.1 hn
    obtain ⟨w'', t, s2, k2⟩ := took_all (nb := nb) s1 hn.2 (fun d' hd' => by
      obtain ⟨D', rfl, g1, g2⟩ := hd d' (List.mem_cons_of_mem _ hd')
      refine ⟨D', rfl, g1, ?_⟩
      rw [putHeap_other (fun e => hn.1 (by rw [← e]; exact hd'))]; exact g2) hb
    exact ⟨w'', .cons (take_run h2) t, s2, k1.trans k2⟩
end Go.AX
