import Derived.Orders
import Derived.Below
/- AX, part 1: shapes, data, abstract values, the store; what they say of a world's cells; how that is kept. -/
namespace Go.AX
inductive Sh where
  | one
  | agg (l : List Sh)
  | arr (s : Sh) (n : Nat)
  deriving Inhabited
mutual
def Sh.size : Sh → Nat
  | .one => 1
  | .agg l => Sh.sizeL l
  | .arr s n => n * s.size
def Sh.sizeL : List Sh → Nat
  | [] => 0
  | s :: l => s.size + Sh.sizeL l
end
mutual
def Sh.eqb : Sh → Sh → Bool
  | .one, .one => true
  | .agg l, .agg l' => Sh.eqbL l l'
  | .arr s n, .arr s' n' => Sh.eqb s s' && Nat.beq n n'
  | _, _ => false
def Sh.eqbL : List Sh → List Sh → Bool
  | [], [] => true
  | s :: l, s' :: l' => Sh.eqb s s' && Sh.eqbL l l'
  | _, _ => false
end
mutual
theorem Sh.eq_of_eqb : ∀ {a b : Sh}, Sh.eqb a b = true → a = b
  | .one, .one, _ => rfl
  | .agg l, .agg l', h => by rw [Sh.eqb] at h; rw [Sh.eqL_of_eqb h]
  | .arr s n, .arr s' n', h => by
    simp only [Sh.eqb, Bool.and_eq_true] at h
    rw [Sh.eq_of_eqb h.1, Nat.eq_of_beq_eq_true h.2]
  | .one, .agg _, h => by simp [Sh.eqb] at h
  | .one, .arr _ _, h => by simp [Sh.eqb] at h
  | .agg _, .one, h => by simp [Sh.eqb] at h
  | .agg _, .arr _ _, h => by simp [Sh.eqb] at h
  | .arr _ _, .one, h => by simp [Sh.eqb] at h
  | .arr _ _, .agg _, h => by simp [Sh.eqb] at h
theorem Sh.eqL_of_eqb : ∀ {a b : List Sh}, Sh.eqbL a b = true → a = b
  | [], [], _ => rfl
  | s :: l, s' :: l', h => by
    simp only [Sh.eqbL, Bool.and_eq_true] at h
    rw [Sh.eq_of_eqb h.1, Sh.eqL_of_eqb h.2]
  | [], _ :: _, h => by simp [Sh.eqbL] at h
  | _ :: _, [], h => by simp [Sh.eqbL] at h
end
mutual
theorem Sh.eqb_self : ∀ (a : Sh), Sh.eqb a a = true
  | .one => rfl
  | .agg l => by rw [Sh.eqb]; exact Sh.eqbL_self l
  | .arr s n => by simp [Sh.eqb, Sh.eqb_self s]
theorem Sh.eqbL_self : ∀ (a : List Sh), Sh.eqbL a a = true
  | [] => rfl
  | s :: l => by simp [Sh.eqbL, Sh.eqb_self s, Sh.eqbL_self l]
end
def Sh.off : List Nat → Sh → Option Nat
  | [], _ => some 0
  | k :: p, .agg l => (l[k]?).bind fun s => (Sh.off p s).map (Sh.sizeL (l.take k) + ·)
  | k :: p, .arr s _ => (Sh.off p s).map (k * s.size + ·)
  | _ :: _, .one => none
def Sh.nav : List Nat → Sh → Option Sh
  | [], s => some s
  | k :: p, .agg l => (l[k]?).bind (Sh.nav p)
  | _ :: p, .arr s _ => Sh.nav p s
  | _ :: _, .one => none
inductive D where
  | int (k : IntKind) (n : Int)
  | bool (b : Bool)
  | str (s : ByteArray)
  | nilp | nilf | nili | nilm
  | agg (ds : List D)
  | arr (sh : Sh) (ds : List D)
  | slc (sh : Sh) (ds : List D)
  | vptr (sh : Sh) (d : D)
  | fn (f : Fn) (first cap : List D)
  | ifc (t : TypeId) (d : D)
  deriving Inhabited
mutual
def D.shape : D → Sh
  | .agg ds => .agg (D.shapeL ds)
  | .arr sh ds => .arr sh ds.length
  | .int .. | .bool .. | .str .. | .nilp | .nilf | .nili | .nilm | .slc .. | .vptr .. | .fn .. | .ifc .. => .one
def D.shapeL : List D → List Sh
  | [] => []
  | d :: ds => d.shape :: D.shapeL ds
end
theorem D.shapeL_eq (ds : List D) : D.shapeL ds = ds.map D.shape := by
  induction ds with
  | nil => rfl
  | cons d ds ih => simp [D.shapeL, ih]
def D.aggB : D → Bool
  | .agg _ | .arr _ _ => true
  | _ => false
def valAgg : Value → Bool
  | .agg _ => true
  | _ => false
def D.nav : List Nat → D → Option D
  | [], d => some d
  | k :: p, .agg ds => (ds[k]?).bind (D.nav p)
  | k :: p, .arr _ ds => (ds[k]?).bind (D.nav p)
  | _ :: _, _ => none
def D.put : List Nat → D → D → Option D
  | [], old, v => if Sh.eqb old.shape v.shape then some v else none
  | k :: p, .agg ds, v => (ds[k]?).bind fun u => (D.put p u v).map fun u' => .agg (ds.set k u')
  | k :: p, .arr sh ds, v => (ds[k]?).bind fun u => (D.put p u v).map fun u' => .arr sh (ds.set k u')
  | _ :: _, _, _ => none
inductive AV where
  | undef
  | dat (d : D)
  | fslc (sh : Sh) (ds : List D)
  | ptr (sh : Sh) (id n : Nat) (path : List Nat)
  | sref (sh : Sh) (id n : Nat) (path : List Nat) (off len : Nat)
  | agg (vs : List AV)
  | fn (f : Fn) (first cap : List AV)
  | tup (vs : List AV)
  | hnd (sh : Sh) (id : Nat)
  deriving Inhabited
abbrev loopSh : Sh := .arr (.agg []) 1
abbrev mapSh : Sh := .arr (.agg []) 2
def hndVal (sh : Sh) (l : Nat) : Value := bif Sh.eqb sh mapSh then .map (some l) else .func (.yield l) #[] #[]
def posSh : Sh → Bool
  | .arr (.agg []) _ | .agg [] => false
  | _ => true
def loopFix (r : Loop) : Loop := { r with state := .ready, pending := none }
mutual
def AV.shape : AV → Sh
  | .dat d => d.shape
  | .agg vs => .agg (AV.shapeL vs)
  | .undef | .fslc .. | .ptr .. | .sref .. | .fn .. | .tup .. | .hnd .. => .one
def AV.shapeL : List AV → List Sh
  | [] => []
  | v :: vs => v.shape :: AV.shapeL vs
end
theorem AV.shapeL_eq (vs : List AV) : AV.shapeL vs = vs.map AV.shape := by
  induction vs with
  | nil => rfl
  | cons d ds ih => simp [AV.shapeL, ih]
def AV.aggB : AV → Bool
  | .agg _ => true
  | .dat d => d.aggB
  | _ => false
def AV.nav : List Nat → AV → Option AV
  | [], v => some v
  | k :: p, .agg vs => (vs[k]?).bind (AV.nav p)
  | k :: p, .dat d => (D.nav (k :: p) d).map .dat
  | _ :: _, _ => none
def AV.put : List Nat → AV → AV → Option AV
  | [], old, v => if Sh.eqb old.shape v.shape then some v else none
  | k :: p, .agg vs, v => (vs[k]?).bind fun u => (AV.put p u v).map fun u' => .agg (vs.set k u')
  | k :: p, .dat (.agg ds), v => (ds[k]?).bind fun u => (AV.put p (.dat u) v).map fun
      | .dat d' => .dat (.agg (ds.set k d'))
      | u' => .agg ((ds.map .dat).set k u')
  | k :: p, .dat (.arr sh ds), v => (ds[k]?).bind fun u => (AV.put p (.dat u) v).bind fun
      | .dat d' => some (.dat (.arr sh (ds.set k d')))
      | _ => none
  | _ :: _, _, _ => none
structure Blk where
  sh : Sh
  dyn : Bool
  frz : Bool
  v : AV
  deriving Inhabited
def AV.many : AV → Nat
  | .dat (.arr _ ds) => ds.length
  | _ => 0
def Blk.n (B : Blk) : Nat := bif B.dyn then B.v.many else 0
abbrev Store := List Blk
def row (w : World) (b o n : Nat) : Option (List Value) :=
  match w.heap[b]? with
  | some (.cells c _ _) => if o + n ≤ c.size then some ((c.toList.drop o).take n) else none
  | _ => none
mutual
def Rd (w : World) (S : Nat → Prop) : D → List Value → Prop
  | .int k n, cs => cs = [.int k n]
  | .bool b, cs => cs = [.bool b]
  | .str s, cs => cs = [.string s]
  | .nilp, cs => cs = [.pointer none]
  | .nilf, cs => cs = [.nilFunc]
  | .nili, cs => cs = [.nilIface]
  | .nilm, cs => cs = [.map none]
  | .agg ds, cs => RdL w S ds cs
  | .arr sh ds, cs => RdL w S ds cs ∧ ∀ d ∈ ds, d.shape = sh
  | .slc sh ds, cs => ∃ a cap, cs = [.slice a ds.length cap] ∧ ds.length ≤ cap ∧ (∀ d ∈ ds, d.shape = sh) ∧
      (ds = [] ∨ ∃ b o r, a = some ⟨b, o, none⟩ ∧ S b ∧ row w b o (ds.length * sh.size) = some r ∧ RdL w S ds r)
  | .vptr sh d, cs => ∃ b o r, cs = [.pointer (some ⟨b, o, none⟩)] ∧ S b ∧ d.shape = sh ∧ row w b o sh.size = some r ∧ Rd w S d r
  | .fn f fi ca, cs => ∃ fi' ca', cs = [.func f fi' ca'] ∧ RdVs w S fi fi'.toList ∧ RdVs w S ca ca'.toList
  | .ifc t d, cs => ∃ v, cs = [.iface t v] ∧ valAgg v = d.aggB ∧ Rd w S d v.cells.toList
def RdL (w : World) (S : Nat → Prop) : List D → List Value → Prop
  | [], cs => cs = []
  | d :: ds, cs => ∃ c1 c2, cs = c1 ++ c2 ∧ Rd w S d c1 ∧ RdL w S ds c2
def RdVs (w : World) (S : Nat → Prop) : List D → List Value → Prop
  | [], vs => vs = []
  | d :: ds, vs => ∃ v vs', vs = v :: vs' ∧ valAgg v = d.aggB ∧ Rd w S d v.cells.toList ∧ RdVs w S ds vs'
end
structure Ent where
  blk : Option Nat
  sh : Sh
  dyn : Bool
  n : Nat
def SrefOk (w : World) (e : Ent) (sh : Sh) (p : List Nat) (off len : Nat) (a : Option Addr) (cap : Nat) : Prop :=
  ∃ N, Sh.nav p e.sh = some (.arr sh N) ∧ len ≤ cap ∧ off + len ≤ (bif e.dyn && p.isEmpty then e.n else N) ∧
    match e.blk with
    | none => cap = 0
    | some b => ∃ o c t f, Sh.off p e.sh = some o ∧ (cap = 0 ∨ a = some ⟨b, o + off * sh.size, none⟩) ∧
        w.heap[b]? = some (.cells c t f) ∧ o + (off + cap) * sh.size ≤ c.size
mutual
def Rv (w : World) (S : Nat → Prop) (T : Nat → Option Ent) : AV → List Value → Prop
  | .undef, _ => False
  | .dat d, cs => Rd w S d cs
  | .fslc sh ds, cs => Rd w S (.slc sh ds) cs ∧ ∃ a n, cs = [.slice a n n]
  | .ptr sh id n p, cs => ∃ a e, cs = [.pointer (some a)] ∧ T id = some e ∧ n ≤ e.n ∧ (e.n = n →
      ∃ b o, e.blk = some b ∧ Sh.nav p e.sh = some sh ∧ Sh.off p e.sh = some o ∧ a = ⟨b, o, none⟩)
  | .sref sh id n p off len, cs => ∃ a cap e, cs = [.slice a len cap] ∧ (len ≤ cap ∧ (len = 0 ∨ a.isSome = true)) ∧ T id = some e ∧ n ≤ e.n ∧ (e.n = n → SrefOk w e sh p off len a cap)
  | .agg vs, cs => RvL w S T vs cs
  | .fn f fi ca, cs => ∃ fi' ca', cs = [.func f fi' ca'] ∧ RvVs w S T fi fi'.toList ∧ RvVs w S T ca ca'.toList
  | .tup _, _ => False
  | .hnd sh id, cs => ∃ l e, cs = [hndVal sh l] ∧ T id = some e ∧ (e.n = 0 → e.blk = some l ∧ e.sh = sh)
def RvL (w : World) (S : Nat → Prop) (T : Nat → Option Ent) : List AV → List Value → Prop
  | [], cs => cs = []
  | d :: ds, cs => ∃ c1 c2, cs = c1 ++ c2 ∧ Rv w S T d c1 ∧ RvL w S T ds c2
def RvVs (w : World) (S : Nat → Prop) (T : Nat → Option Ent) : List AV → List Value → Prop
  | [], vs => vs = []
  | d :: ds, vs => ∃ v vs', vs = v :: vs' ∧ valAgg v = d.aggB ∧ Rv w S T d v.cells.toList ∧ RvVs w S T ds vs'
end
def Rs (w : World) (S : Nat → Prop) (T : Nat → Option Ent) : AV → Value → Prop
  | .undef, _ => True
  | .tup vs, v => ∃ l, v = .tuple l ∧ RvVs w S T vs l.toList
  | x, v => valAgg v = x.aggB ∧ Rv w S T x v.cells.toList
mutual
theorem Rd.length {w : World} {S : Nat → Prop} : ∀ {d : D} {cs : List Value}, Rd w S d cs → cs.length = d.shape.size
  | .int .., cs, h => by simp [Rd] at h; simp [h, D.shape, Sh.size]
  | .bool .., cs, h => by simp [Rd] at h; simp [h, D.shape, Sh.size]
  | .str .., cs, h => by simp [Rd] at h; simp [h, D.shape, Sh.size]
  | .nilp, cs, h => by simp [Rd] at h; simp [h, D.shape, Sh.size]
  | .nilf, cs, h => by simp [Rd] at h; simp [h, D.shape, Sh.size]
  | .nili, cs, h => by simp [Rd] at h; simp [h, D.shape, Sh.size]
  | .nilm, cs, h => by simp [Rd] at h; simp [h, D.shape, Sh.size]
  | .agg ds, cs, h => by
    rw [Rd] at h; rw [D.shape, Sh.size]; exact RdL.length h
  | .arr sh ds, cs, h => by
    rw [Rd] at h; rw [RdL.length h.1, D.shape, Sh.size]
    have := h.2
    clear h
    induction ds with
    | nil => simp [D.shapeL, Sh.sizeL]
    | cons d ds ih =>
      simp only [D.shapeL, Sh.sizeL, List.length_cons]
      rw [ih (fun x hx => this x (List.mem_cons_of_mem _ hx)), this d (List.mem_cons_self ..), Nat.succ_mul, Nat.add_comm]
  | .slc .., cs, h => by rw [Rd] at h; obtain ⟨a, cap, rfl, _⟩ := h; simp [D.shape, Sh.size]
  | .vptr .., cs, h => by rw [Rd] at h; obtain ⟨b, o, r, rfl, _⟩ := h; simp [D.shape, Sh.size]
  | .fn .., cs, h => by rw [Rd] at h; obtain ⟨_, _, rfl, _⟩ := h; simp [D.shape, Sh.size]
  | .ifc .., cs, h => by rw [Rd] at h; obtain ⟨_, rfl, _⟩ := h; simp [D.shape, Sh.size]
theorem RdL.length {w : World} {S : Nat → Prop} : ∀ {ds : List D} {cs : List Value}, RdL w S ds cs → cs.length = Sh.sizeL (D.shapeL ds)
  | [], cs, h => by simp [RdL] at h; simp [h, D.shapeL, Sh.sizeL]
  | d :: ds, cs, h => by
    rw [RdL] at h
    obtain ⟨c1, c2, rfl, h1, h2⟩ := h
    rw [List.length_append, Rd.length h1, RdL.length h2, D.shapeL, Sh.sizeL]
end
mutual
theorem Rv.length {w : World} {S : Nat → Prop} {T : Nat → Option Ent} : ∀ {v : AV} {cs : List Value}, Rv w S T v cs → cs.length = v.shape.size
  | .undef, cs, h => by simp [Rv] at h
  | .dat d, cs, h => by rw [Rv] at h; rw [AV.shape]; exact Rd.length h
  | .fslc .., cs, h => by rw [Rv] at h; obtain ⟨_, a, n, rfl⟩ := h; simp [AV.shape, Sh.size]
  | .ptr .., cs, h => by rw [Rv] at h; obtain ⟨_, _, rfl, _⟩ := h; simp [AV.shape, Sh.size]
  | .sref .., cs, h => by rw [Rv] at h; obtain ⟨_, _, _, rfl, _⟩ := h; simp [AV.shape, Sh.size]
  | .agg vs, cs, h => by rw [Rv] at h; rw [AV.shape, Sh.size]; exact RvL.length h
  | .fn .., cs, h => by rw [Rv] at h; obtain ⟨_, _, rfl, _⟩ := h; simp [AV.shape, Sh.size]
  | .tup .., cs, h => by simp [Rv] at h
  | .hnd .., cs, h => by rw [Rv] at h; obtain ⟨_, _, rfl, _⟩ := h; simp [AV.shape, Sh.size]
theorem RvL.length {w : World} {S : Nat → Prop} {T : Nat → Option Ent} : ∀ {ds : List AV} {cs : List Value}, RvL w S T ds cs → cs.length = Sh.sizeL (AV.shapeL ds)
  | [], cs, h => by simp [RvL] at h; simp [h, AV.shapeL, Sh.sizeL]
  | d :: ds, cs, h => by
    rw [RvL] at h
    obtain ⟨c1, c2, rfl, h1, h2⟩ := h
    rw [List.length_append, Rv.length h1, RvL.length h2, AV.shapeL, Sh.sizeL]
end
structure Kp (w : World) (S : Nat → Prop) (w' : World) (S' : Nat → Prop) : Prop where
  sub : ∀ b, S b → S' b
  same : ∀ b, S b → w'.heap[b]? = w.heap[b]?
  size : ∀ (b : Nat) (c : Array Value) (t : TypeId) (f : Nat × Nat), w.heap[b]? = some (.cells c t f) → ∃ c' t' f', w'.heap[b]? = some (.cells c' t' f') ∧ c'.size = c.size
  loops : ∀ (b : Nat) (r : Loop), w.heap[b]? = some (.loop r) → ∃ r', w'.heap[b]? = some (.loop r') ∧ loopFix r' = loopFix r
theorem Kp.refl (w : World) (S : Nat → Prop) : Kp w S w S := ⟨fun _ h => h, fun _ _ => rfl, fun _ c t f h => ⟨c, t, f, h, rfl⟩, fun _ r h => ⟨r, h, rfl⟩⟩
theorem Kp.trans {w w' w'' : World} {S S' S'' : Nat → Prop} (h : Kp w S w' S') (k : Kp w' S' w'' S'') : Kp w S w'' S'' :=
  ⟨fun b hb => k.sub b (h.sub b hb), fun b hb => (k.same b (h.sub b hb)).trans (h.same b hb), fun b c t f hb => by
    obtain ⟨c', t', f', h1, h2⟩ := h.size b c t f hb
    obtain ⟨c'', t'', f'', h3, h4⟩ := k.size b c' t' f' h1
    exact ⟨c'', t'', f'', h3, h4.trans h2⟩, fun b r hb => by
    obtain ⟨r', h1, h2⟩ := h.loops b r hb
    obtain ⟨r'', h3, h4⟩ := k.loops b r' h1
    exact ⟨r'', h3, h4.trans h2⟩⟩
theorem row_same {w w' : World} {b o n : Nat} (h : w'.heap[b]? = w.heap[b]?) : row w' b o n = row w b o n := by
  simp only [row, h]
mutual
theorem Rd.mono {w w' : World} {S S' : Nat → Prop} (k : Kp w S w' S') : ∀ {d : D} {cs : List Value}, Rd w S d cs → Rd w' S' d cs
  | .int .., cs, h => by simpa [Rd] using h
  | .bool .., cs, h => by simpa [Rd] using h
  | .str .., cs, h => by simpa [Rd] using h
  | .nilp, cs, h => by simpa [Rd] using h
  | .nilf, cs, h => by simpa [Rd] using h
  | .nili, cs, h => by simpa [Rd] using h
  | .nilm, cs, h => by simpa [Rd] using h
  | .agg ds, cs, h => by rw [Rd] at h ⊢; exact RdL.mono k h
  | .arr sh ds, cs, h => by rw [Rd] at h ⊢; exact ⟨RdL.mono k h.1, h.2⟩
  | .slc sh ds, cs, h => by
    rw [Rd] at h ⊢
    obtain ⟨a, cap, h1, h2, h3, h4⟩ := h
    refine ⟨a, cap, h1, h2, h3, ?_⟩
    rcases h4 with h4 | ⟨b, o, r, h5, h6, h7, h8⟩
    · exact .inl h4
    · exact .inr ⟨b, o, r, h5, k.sub b h6, by rw [row_same (k.same b h6)]; exact h7, RdL.mono k h8⟩
  | .vptr sh d, cs, h => by
    rw [Rd] at h ⊢
    obtain ⟨b, o, r, h1, h2, h3, h4, h5⟩ := h
    exact ⟨b, o, r, h1, k.sub b h2, h3, by rw [row_same (k.same b h2)]; exact h4, Rd.mono k h5⟩
  | .fn f fi ca, cs, h => by
    rw [Rd] at h ⊢
    obtain ⟨fi', ca', h1, h2, h3⟩ := h
    exact ⟨fi', ca', h1, RdVs.mono k h2, RdVs.mono k h3⟩
  | .ifc t d, cs, h => by
    rw [Rd] at h ⊢
    obtain ⟨v, h1, h2, h3⟩ := h
    exact ⟨v, h1, h2, Rd.mono k h3⟩
theorem RdL.mono {w w' : World} {S S' : Nat → Prop} (k : Kp w S w' S') : ∀ {ds : List D} {cs : List Value}, RdL w S ds cs → RdL w' S' ds cs
  | [], cs, h => by simpa [RdL] using h
  | d :: ds, cs, h => by
    rw [RdL] at h ⊢
    obtain ⟨c1, c2, h1, h2, h3⟩ := h
    exact ⟨c1, c2, h1, Rd.mono k h2, RdL.mono k h3⟩
theorem RdVs.mono {w w' : World} {S S' : Nat → Prop} (k : Kp w S w' S') : ∀ {ds : List D} {vs : List Value}, RdVs w S ds vs → RdVs w' S' ds vs
  | [], cs, h => by simpa [RdVs] using h
  | d :: ds, cs, h => by
    rw [RdVs] at h ⊢
    obtain ⟨v, vs', h1, h2, h3, h4⟩ := h
    exact ⟨v, vs', h1, h2, Rd.mono k h3, RdVs.mono k h4⟩
end
def TExt (T T' : Nat → Option Ent) : Prop := ∀ id e, T id = some e → ∃ e', T' id = some e' ∧ e'.sh = e.sh ∧ e'.dyn = e.dyn ∧ e.n ≤ e'.n ∧ (e'.n = e.n → e'.blk = e.blk)
theorem TExt.refl (T : Nat → Option Ent) : TExt T T := fun _ e h => ⟨e, h, rfl, rfl, Nat.le_refl _, fun _ => rfl⟩
theorem TExt.trans {T T' T'' : Nat → Option Ent} (h : TExt T T') (k : TExt T' T'') : TExt T T'' := by
  intro id e he
  obtain ⟨e', h1, h2, h3, h4, h5⟩ := h id e he
  obtain ⟨e'', k1, k2, k3, k4, k5⟩ := k id e' h1
  exact ⟨e'', k1, k2.trans h2, k3.trans h3, Nat.le_trans h4 k4, fun hn => (k5 (by omega)).trans (h5 (by omega))⟩
theorem SrefOk.mono {w w' : World} {S S' : Nat → Prop} (k : Kp w S w' S') {e e' : Ent} (h1 : e'.sh = e.sh) (h2 : e'.dyn = e.dyn) (h3 : e'.n = e.n) (h4 : e'.blk = e.blk)
    {sh : Sh} {p : List Nat} {off len : Nat} {a : Option Addr} {cap : Nat} (h : SrefOk w e sh p off len a cap) : SrefOk w' e' sh p off len a cap := by
  obtain ⟨N, a1, a2, a3, a4⟩ := h
  refine ⟨N, by rw [h1]; exact a1, a2, by rw [h2, h3]; exact a3, ?_⟩
  rw [h4]
  cases hb : e.blk with
  | none => rw [hb] at a4; exact a4
  | some b =>
    rw [hb] at a4
    obtain ⟨o, c, t, f, b1, b2, b3, b4⟩ := a4
    obtain ⟨c', t', f', c1, c2⟩ := k.size b c t f b3
    exact ⟨o, c', t', f', by rw [h1]; exact b1, b2, c1, by rw [c2]; exact b4⟩
mutual
theorem Rv.mono {w w' : World} {S S' : Nat → Prop} {T T' : Nat → Option Ent} (k : Kp w S w' S') (x : TExt T T') :
    ∀ {v : AV} {cs : List Value}, Rv w S T v cs → Rv w' S' T' v cs
  | .undef, cs, h => by simp [Rv] at h
  | .dat d, cs, h => by rw [Rv] at h ⊢; exact Rd.mono k h
  | .fslc sh ds, cs, h => by rw [Rv] at h ⊢; exact ⟨Rd.mono k h.1, h.2⟩
  | .ptr sh id n p, cs, h => by
    rw [Rv] at h ⊢
    obtain ⟨a, e, h1, h2, h3, h4⟩ := h
    obtain ⟨e', k1, k2, k3, k4, k5⟩ := x id e h2
    refine ⟨a, e', h1, k1, by omega, fun hn => ?_⟩
    obtain ⟨b, o, g1, g2, g3, g4⟩ := h4 (by omega)
    exact ⟨b, o, by rw [k5 (by omega)]; exact g1, by rw [k2]; exact g2, by rw [k2]; exact g3, g4⟩
  | .sref sh id n p off len, cs, h => by
    rw [Rv] at h ⊢
    obtain ⟨a, cap, e, h1, h0, h2, h3, h4⟩ := h
    obtain ⟨e', k1, k2, k3, k4, k5⟩ := x id e h2
    exact ⟨a, cap, e', h1, h0, k1, by omega, fun hn => (h4 (by omega)).mono k k2 k3 (by omega) (k5 (by omega))⟩
  | .agg vs, cs, h => by rw [Rv] at h ⊢; exact RvL.mono k x h
  | .fn f fi ca, cs, h => by
    rw [Rv] at h ⊢
    obtain ⟨fi', ca', h1, h2, h3⟩ := h
    exact ⟨fi', ca', h1, RvVs.mono k x h2, RvVs.mono k x h3⟩
  | .tup _, cs, h => by simp [Rv] at h
  | .hnd sh id, cs, h => by
    rw [Rv] at h ⊢
    obtain ⟨l, e, h1, h2, h3⟩ := h
    obtain ⟨e', k1, k2, k3, k4, k5⟩ := x id e h2
    refine ⟨l, e', h1, k1, fun hn => ?_⟩
    obtain ⟨g1, g2⟩ := h3 (by omega)
    exact ⟨(k5 (by omega)).trans g1, k2.trans g2⟩
theorem RvL.mono {w w' : World} {S S' : Nat → Prop} {T T' : Nat → Option Ent} (k : Kp w S w' S') (x : TExt T T') :
    ∀ {ds : List AV} {cs : List Value}, RvL w S T ds cs → RvL w' S' T' ds cs
  | [], cs, h => by simpa [RvL] using h
  | d :: ds, cs, h => by
    rw [RvL] at h ⊢
    obtain ⟨c1, c2, h1, h2, h3⟩ := h
    exact ⟨c1, c2, h1, Rv.mono k x h2, RvL.mono k x h3⟩
theorem RvVs.mono {w w' : World} {S S' : Nat → Prop} {T T' : Nat → Option Ent} (k : Kp w S w' S') (x : TExt T T') :
    ∀ {ds : List AV} {vs : List Value}, RvVs w S T ds vs → RvVs w' S' T' ds vs
  | [], cs, h => by simpa [RvVs] using h
  | d :: ds, cs, h => by
    rw [RvVs] at h ⊢
    obtain ⟨v, vs', h1, h2, h3, h4⟩ := h
    exact ⟨v, vs', h1, h2, Rv.mono k x h3, RvVs.mono k x h4⟩
end
theorem Rs.mono {w w' : World} {S S' : Nat → Prop} {T T' : Nat → Option Ent} (k : Kp w S w' S') (x : TExt T T') {v : AV} {u : Value} (h : Rs w S T v u) : Rs w' S' T' v u := by
  cases v with
  | undef => trivial
  | tup vs => obtain ⟨l, h1, h2⟩ := h; exact ⟨l, h1, RvVs.mono k x h2⟩
  | _ => exact ⟨h.1, Rv.mono k x h.2⟩
end Go.AX

namespace Go.AX
def splice (cs : List Value) (o : Nat) (cn : List Value) : List Value := cs.take o ++ cn ++ cs.drop (o + cn.length)
theorem splice_length {cs cn : List Value} {o : Nat} (h : o + cn.length ≤ cs.length) : (splice cs o cn).length = cs.length := by
  simp [splice]; omega
theorem splice_append_left {c1 c2 cn : List Value} {o : Nat} (h : o + cn.length ≤ c1.length) : splice (c1 ++ c2) o cn = splice c1 o cn ++ c2 := by
  simp only [splice]
  rw [List.take_append_of_le_length (by omega), List.drop_append_of_le_length (by omega)]
  simp
theorem splice_append_right {c1 c2 cn : List Value} {o : Nat} : splice (c1 ++ c2) (c1.length + o) cn = c1 ++ splice c2 o cn := by
  simp only [splice]
  rw [List.take_length_add_append, Nat.add_assoc, List.drop_length_add_append]
  simp
theorem drop_take_append_left {c1 c2 : List Value} {o n : Nat} (h : o + n ≤ c1.length) : ((c1 ++ c2).drop o).take n = (c1.drop o).take n := by
  rw [List.drop_append_of_le_length (by omega), List.take_append_of_le_length (by simp; omega)]
theorem drop_take_append_right {c1 c2 : List Value} {o n : Nat} : ((c1 ++ c2).drop (c1.length + o)).take n = (c2.drop o).take n := by
  rw [List.drop_length_add_append]
theorem RdL.get {w : World} {S : Nat → Prop} : ∀ {ds : List D} {cs : List Value} {k : Nat} {d : D}, RdL w S ds cs → ds[k]? = some d →
    Rd w S d ((cs.drop (Sh.sizeL ((D.shapeL ds).take k))).take d.shape.size) ∧ Sh.sizeL ((D.shapeL ds).take k) + d.shape.size ≤ cs.length
  | [], cs, k, d, _, hk => by simp at hk
  | x :: ds, cs, 0, d, h, hk => by
    simp at hk; subst hk
    rw [RdL] at h
    obtain ⟨c1, c2, rfl, h1, h2⟩ := h
    have hl := Rd.length h1
    simp only [D.shapeL, List.take_zero, Sh.sizeL, List.drop_zero, Nat.zero_add]
    rw [← hl, List.take_left]
    exact ⟨h1, by simp⟩
  | x :: ds, cs, k + 1, d, h, hk => by
    simp at hk
    rw [RdL] at h
    obtain ⟨c1, c2, rfl, h1, h2⟩ := h
    have hl := Rd.length h1
    obtain ⟨g1, g2⟩ := RdL.get h2 hk
    simp only [D.shapeL, List.take_succ_cons, Sh.sizeL]
    rw [← hl, drop_take_append_right]
    exact ⟨g1, by simp; omega⟩
theorem RdL.set {w : World} {S : Nat → Prop} : ∀ {ds : List D} {cs cn : List Value} {k : Nat} {d d' : D}, RdL w S ds cs → ds[k]? = some d → Rd w S d' cn → d'.shape = d.shape →
    RdL w S (ds.set k d') (splice cs (Sh.sizeL ((D.shapeL ds).take k)) cn)
  | [], cs, cn, k, d, d', _, hk, _, _ => by simp at hk
  | x :: ds, cs, cn, 0, d, d', h, hk, hn, hs => by
    simp at hk; subst hk
    rw [RdL] at h
    obtain ⟨c1, c2, rfl, h1, h2⟩ := h
    have hl := Rd.length h1
    have hl' := Rd.length hn
    rw [hs] at hl'
    simp only [D.shapeL, List.take_zero, Sh.sizeL, List.set_cons_zero]
    rw [RdL]
    refine ⟨cn, c2, ?_, hn, h2⟩
    simp only [splice, List.take_zero, List.nil_append, Nat.zero_add, hl', ← hl, List.drop_left]
  | x :: ds, cs, cn, k + 1, d, d', h, hk, hn, hs => by
    simp at hk
    rw [RdL] at h
    obtain ⟨c1, c2, rfl, h1, h2⟩ := h
    have hl := Rd.length h1
    simp only [D.shapeL, List.take_succ_cons, Sh.sizeL, List.set_cons_succ]
    rw [RdL, ← hl, splice_append_right]
    exact ⟨c1, _, rfl, h1, RdL.set h2 hk hn hs⟩
theorem RvL.get {w : World} {S : Nat → Prop} {T : Nat → Option Ent} : ∀ {ds : List AV} {cs : List Value} {k : Nat} {d : AV}, RvL w S T ds cs → ds[k]? = some d →
    Rv w S T d ((cs.drop (Sh.sizeL ((AV.shapeL ds).take k))).take d.shape.size) ∧ Sh.sizeL ((AV.shapeL ds).take k) + d.shape.size ≤ cs.length
  | [], cs, k, d, _, hk => by simp at hk
  | x :: ds, cs, 0, d, h, hk => by
    simp at hk; subst hk
    rw [RvL] at h
    obtain ⟨c1, c2, rfl, h1, h2⟩ := h
    have hl := Rv.length h1
    simp only [AV.shapeL, List.take_zero, Sh.sizeL, List.drop_zero, Nat.zero_add]
    rw [← hl, List.take_left]
    exact ⟨h1, by simp⟩
  | x :: ds, cs, k + 1, d, h, hk => by
    simp at hk
    rw [RvL] at h
    obtain ⟨c1, c2, rfl, h1, h2⟩ := h
    have hl := Rv.length h1
    obtain ⟨g1, g2⟩ := RvL.get h2 hk
    simp only [AV.shapeL, List.take_succ_cons, Sh.sizeL]
    rw [← hl, drop_take_append_right]
    exact ⟨g1, by simp; omega⟩
theorem RvL.set {w : World} {S : Nat → Prop} {T : Nat → Option Ent} : ∀ {ds : List AV} {cs cn : List Value} {k : Nat} {d d' : AV}, RvL w S T ds cs → ds[k]? = some d → Rv w S T d' cn → d'.shape = d.shape →
    RvL w S T (ds.set k d') (splice cs (Sh.sizeL ((AV.shapeL ds).take k)) cn)
  | [], cs, cn, k, d, d', _, hk, _, _ => by simp at hk
  | x :: ds, cs, cn, 0, d, d', h, hk, hn, hs => by
    simp at hk; subst hk
    rw [RvL] at h
    obtain ⟨c1, c2, rfl, h1, h2⟩ := h
    have hl := Rv.length h1
    have hl' := Rv.length hn
    rw [hs] at hl'
    simp only [AV.shapeL, List.take_zero, Sh.sizeL, List.set_cons_zero]
    rw [RvL]
    refine ⟨cn, c2, ?_, hn, h2⟩
    simp only [splice, List.take_zero, List.nil_append, Nat.zero_add, hl', ← hl, List.drop_left]
  | x :: ds, cs, cn, k + 1, d, d', h, hk, hn, hs => by
    simp at hk
    rw [RvL] at h
    obtain ⟨c1, c2, rfl, h1, h2⟩ := h
    have hl := Rv.length h1
    simp only [AV.shapeL, List.take_succ_cons, Sh.sizeL, List.set_cons_succ]
    rw [RvL, ← hl, splice_append_right]
    exact ⟨c1, _, rfl, h1, RvL.set h2 hk hn hs⟩
theorem RvL.of_dat {w : World} {S : Nat → Prop} {T : Nat → Option Ent} : ∀ {ds : List D} {cs : List Value}, RdL w S ds cs → RvL w S T (ds.map .dat) cs
  | [], cs, h => by simpa [RdL, RvL] using h
  | d :: ds, cs, h => by
    rw [RdL] at h
    obtain ⟨c1, c2, h1, h2, h3⟩ := h
    rw [List.map_cons, RvL]
    exact ⟨c1, c2, h1, by rw [Rv]; exact h2, RvL.of_dat h3⟩
theorem AV.shapeL_dat (ds : List D) : AV.shapeL (ds.map .dat) = D.shapeL ds := by
  induction ds with
  | nil => rfl
  | cons d ds ih => simp only [List.map_cons, AV.shapeL, D.shapeL, ih, AV.shape]
theorem D.shapeL_get {ds : List D} {k : Nat} {d : D} (h : ds[k]? = some d) : (D.shapeL ds)[k]? = some d.shape := by
  rw [D.shapeL_eq]; simp [h]
theorem list_set_self {α : Type} : ∀ {l : List α} {k : Nat} {x : α}, l[k]? = some x → l.set k x = l
  | [], _, _, h => by simp at h
  | y :: l, 0, x, h => by simp at h; simp [h]
  | y :: l, k + 1, x, h => by simp at h; simp [list_set_self h]
theorem AV.shapeL_get {ds : List AV} {k : Nat} {d : AV} (h : ds[k]? = some d) : (AV.shapeL ds)[k]? = some d.shape := by
  rw [AV.shapeL_eq]; simp [h]
theorem sizeL_same (sh : Sh) : ∀ (l : List Sh) (k : Nat), (∀ s ∈ l, s = sh) → k ≤ l.length → Sh.sizeL (l.take k) = k * sh.size
  | [], k, _, hk => by simp at hk; subst hk; simp [Sh.sizeL]
  | s :: l, 0, _, _ => by simp [Sh.sizeL]
  | s :: l, k + 1, h, hk => by
    simp only [List.take_succ_cons, Sh.sizeL]
    rw [sizeL_same sh l k (fun x hx => h x (List.mem_cons_of_mem _ hx)) (by simpa using hk), h s (List.mem_cons_self ..), Nat.succ_mul, Nat.add_comm]
theorem shapeL_all {sh : Sh} {ds : List D} (h : ∀ d ∈ ds, d.shape = sh) : ∀ s ∈ D.shapeL ds, s = sh := by
  rw [D.shapeL_eq]
  intro s hs
  obtain ⟨d, hd, rfl⟩ := List.mem_map.1 hs
  exact h d hd
theorem D.nav_spec {w : World} {S : Nat → Prop} : ∀ (p : List Nat) {d u : D} {cs : List Value}, Rd w S d cs → D.nav p d = some u →
    ∃ o, Sh.off p d.shape = some o ∧ Sh.nav p d.shape = some u.shape ∧ Rd w S u ((cs.drop o).take u.shape.size) ∧ o + u.shape.size ≤ cs.length
  | [], d, u, cs, h, hn => by
    simp only [D.nav, Option.some.injEq] at hn; subst hn
    have hl := Rd.length h
    exact ⟨0, rfl, rfl, by rw [← hl]; simpa using h, by omega⟩
  | k :: p, .agg ds, u, cs, h, hn => by
    simp only [D.nav] at hn
    rw [Rd] at h
    cases hk : ds[k]? with
    | none => simp [hk] at hn
    | some x =>
      simp only [hk, Option.bind_some] at hn
      obtain ⟨g1, g2⟩ := RdL.get h hk
      obtain ⟨o, a1, a2, a3, a4⟩ := D.nav_spec p g1 hn
      have hl : ((cs.drop (Sh.sizeL ((D.shapeL ds).take k))).take x.shape.size).length = x.shape.size := Rd.length g1
      rw [hl] at a4
      refine ⟨Sh.sizeL ((D.shapeL ds).take k) + o, ?_, ?_, ?_, by omega⟩
      · simp only [D.shape, Sh.off, D.shapeL_get hk, Option.bind_some, a1, Option.map_some]
      · simp only [D.shape, Sh.nav, D.shapeL_get hk, Option.bind_some, a2]
      · rw [List.drop_take, List.take_take, List.drop_drop] at a3
        rw [show min u.shape.size (x.shape.size - o) = u.shape.size by omega] at a3
        exact a3
  | k :: p, .arr sh ds, u, cs, h, hn => by
    simp only [D.nav] at hn
    rw [Rd] at h
    cases hk : ds[k]? with
    | none => simp [hk] at hn
    | some x =>
      simp only [hk, Option.bind_some] at hn
      have hx : x.shape = sh := h.2 x (List.mem_of_getElem? hk)
      have hkl : k < ds.length := (List.getElem?_eq_some_iff.1 hk).1
      obtain ⟨g1, g2⟩ := RdL.get h.1 hk
      rw [sizeL_same sh _ k (shapeL_all h.2) (by rw [D.shapeL_eq]; simp; omega)] at g1 g2
      obtain ⟨o, a1, a2, a3, a4⟩ := D.nav_spec p g1 hn
      have hl : ((cs.drop (k * sh.size)).take x.shape.size).length = x.shape.size := Rd.length g1
      rw [hl] at a4
      refine ⟨k * sh.size + o, ?_, ?_, ?_, by omega⟩
      · simp only [D.shape, Sh.off, ← hx, a1, Option.map_some]
      · simp only [D.shape, Sh.nav, ← hx, a2]
      · rw [List.drop_take, List.take_take, List.drop_drop] at a3
        rw [show min u.shape.size (x.shape.size - o) = u.shape.size by omega] at a3
        exact a3
  | _ :: _, .int .., _, _, _, hn => by simp [D.nav] at hn
  | _ :: _, .bool .., _, _, _, hn => by simp [D.nav] at hn
  | _ :: _, .str .., _, _, _, hn => by simp [D.nav] at hn
  | _ :: _, .nilp, _, _, _, hn => by simp [D.nav] at hn
  | _ :: _, .nilf, _, _, _, hn => by simp [D.nav] at hn
  | _ :: _, .nili, _, _, _, hn => by simp [D.nav] at hn
  | _ :: _, .nilm, _, _, _, hn => by simp [D.nav] at hn
  | _ :: _, .slc .., _, _, _, hn => by simp [D.nav] at hn
  | _ :: _, .vptr .., _, _, _, hn => by simp [D.nav] at hn
  | _ :: _, .fn .., _, _, _, hn => by simp [D.nav] at hn
  | _ :: _, .ifc .., _, _, _, hn => by simp [D.nav] at hn
theorem AV.nav_spec {w : World} {S : Nat → Prop} {T : Nat → Option Ent} : ∀ (p : List Nat) {d u : AV} {cs : List Value}, Rv w S T d cs → AV.nav p d = some u →
    ∃ o, Sh.off p d.shape = some o ∧ Sh.nav p d.shape = some u.shape ∧ Rv w S T u ((cs.drop o).take u.shape.size) ∧ o + u.shape.size ≤ cs.length
  | [], d, u, cs, h, hn => by
    simp only [AV.nav, Option.some.injEq] at hn; subst hn
    have hl := Rv.length h
    exact ⟨0, rfl, rfl, by rw [← hl]; simpa using h, by omega⟩
  | k :: p, .agg ds, u, cs, h, hn => by
    simp only [AV.nav] at hn
    rw [Rv] at h
    cases hk : ds[k]? with
    | none => simp [hk] at hn
    | some x =>
      simp only [hk, Option.bind_some] at hn
      obtain ⟨g1, g2⟩ := RvL.get h hk
      obtain ⟨o, a1, a2, a3, a4⟩ := AV.nav_spec p g1 hn
      have hl : ((cs.drop (Sh.sizeL ((AV.shapeL ds).take k))).take x.shape.size).length = x.shape.size := Rv.length g1
      rw [hl] at a4
      refine ⟨Sh.sizeL ((AV.shapeL ds).take k) + o, ?_, ?_, ?_, by omega⟩
      · simp only [AV.shape, Sh.off, AV.shapeL_get hk, Option.bind_some, a1, Option.map_some]
      · simp only [AV.shape, Sh.nav, AV.shapeL_get hk, Option.bind_some, a2]
      · rw [List.drop_take, List.take_take, List.drop_drop] at a3
        rw [show min u.shape.size (x.shape.size - o) = u.shape.size by omega] at a3
        exact a3
  | k :: p, .dat d, u, cs, h, hn => by
    simp only [AV.nav, Option.map_eq_some_iff] at hn
    obtain ⟨u', hn, rfl⟩ := hn
    rw [Rv] at h
    obtain ⟨o, a1, a2, a3, a4⟩ := D.nav_spec _ h hn
    exact ⟨o, a1, a2, by rw [Rv]; exact a3, a4⟩
  | _ :: _, .undef, _, _, _, hn => by simp [AV.nav] at hn
  | _ :: _, .fslc .., _, _, _, hn => by simp [AV.nav] at hn
  | _ :: _, .ptr .., _, _, _, hn => by simp [AV.nav] at hn
  | _ :: _, .sref .., _, _, _, hn => by simp [AV.nav] at hn
  | _ :: _, .fn .., _, _, _, hn => by simp [AV.nav] at hn
  | _ :: _, .tup .., _, _, _, hn => by simp [AV.nav] at hn
  | _ :: _, .hnd .., _, _, _, hn => by simp [AV.nav] at hn
theorem splice_splice {cs : List Value} {o n o' : Nat} {cn : List Value} (h1 : o + n ≤ cs.length) (h2 : o' + cn.length ≤ n) :
    splice cs o (splice ((cs.drop o).take n) o' cn) = splice cs (o + o') cn := by
  have hl : (splice ((cs.drop o).take n) o' cn).length = n := by rw [splice_length (by simp; omega)]; simp; omega
  have e : cs = cs.take o ++ ((cs.drop o).take n ++ (cs.drop o).drop n) := by rw [List.take_append_drop, List.take_append_drop]
  have hl1 : (cs.take o).length = o := by simp; omega
  have hl2 : ((cs.drop o).take n).length = n := by simp; omega
  have key : splice cs (o + o') cn = cs.take o ++ (splice ((cs.drop o).take n) o' cn ++ (cs.drop o).drop n) := by
    conv => lhs; rw [e]
    rw [show o + o' = (cs.take o).length + o' by rw [hl1], splice_append_right, splice_append_left (by rw [hl2]; exact h2)]
  rw [key]
  generalize splice ((cs.drop o).take n) o' cn = z at hl ⊢
  simp only [splice, hl, List.append_assoc, List.drop_drop]
structure PutOk (w : World) (S : Nat → Prop) (T : Nat → Option Ent) (p : List Nat) (sh : Sh) (cs cn : List Value) (v' : AV) (sn : Sh) : Prop where
  ex : ∃ o, Sh.off p sh = some o ∧ o + cn.length ≤ cs.length ∧ Rv w S T v' (splice cs o cn)
  shape : v'.shape = sh
  nav : Sh.nav p sh = some sn
theorem AV.put_spec {w : World} {S : Nat → Prop} {T : Nat → Option Ent} : ∀ (p : List Nat) {d x v' : AV} {cs cn : List Value}, AV.put p d x = some v' → Rv w S T d cs → Rv w S T x cn →
    PutOk w S T p d.shape cs cn v' x.shape
  | [], d, x, v', cs, cn, hp, hd, hx => by
    simp only [AV.put] at hp
    split at hp
    · rename_i he
      simp only [Option.some.injEq] at hp; subst hp
      have he := Sh.eq_of_eqb he
      have hl := Rv.length hd
      have hl' := Rv.length hx
      refine ⟨⟨0, rfl, by rw [hl, hl', he]; omega, ?_⟩, he.symm, by rw [Sh.nav, he]⟩
      have hlen : cs.length ≤ cn.length := by rw [hl, hl', he]; exact Nat.le_refl _
      simp only [splice, List.take_zero, List.nil_append, Nat.zero_add, List.drop_eq_nil_of_le hlen, List.append_nil]
      exact hx
    · simp at hp
  | k :: p, .agg ds, x, v', cs, cn, hp, hd, hx => by
    simp only [AV.put] at hp
    rw [Rv] at hd
    cases hk : ds[k]? with
    | none => simp [hk] at hp
    | some y =>
      simp only [hk, Option.bind_some, Option.map_eq_some_iff] at hp
      obtain ⟨y', hp, rfl⟩ := hp
      obtain ⟨g1, g2⟩ := RvL.get hd hk
      obtain ⟨⟨o, a1, a2, a3⟩, b, c⟩ := AV.put_spec p hp g1 hx
      have hl : ((cs.drop (Sh.sizeL ((AV.shapeL ds).take k))).take y.shape.size).length = y.shape.size := Rv.length g1
      rw [hl] at a2
      refine ⟨⟨Sh.sizeL ((AV.shapeL ds).take k) + o, ?_, by omega, ?_⟩, ?_, ?_⟩
      · simp only [AV.shape, Sh.off, AV.shapeL_get hk, Option.bind_some, a1, Option.map_some]
      · rw [Rv, ← splice_splice g2 a2]
        exact RvL.set hd hk a3 b
      · simp only [AV.shape, AV.shapeL_eq, List.map_set, b]
        have : (ds.map AV.shape)[k]? = some y.shape := by simp [hk]
        rw [list_set_self this]
      · simp only [AV.shape, Sh.nav, AV.shapeL_get hk, Option.bind_some, c]
  | k :: p, .dat (.agg ds), x, v', cs, cn, hp, hd, hx => by
    simp only [AV.put] at hp
    rw [Rv, Rd] at hd
    cases hk : ds[k]? with
    | none => simp [hk] at hp
    | some y =>
      simp only [hk, Option.bind_some, Option.map_eq_some_iff] at hp
      obtain ⟨y', hp, hv⟩ := hp
      obtain ⟨g1, g2⟩ := RdL.get hd hk
      obtain ⟨⟨o, a1, a2, a3⟩, b, c⟩ := AV.put_spec p hp (T := T) (by rw [Rv]; exact g1) hx
      have hl : ((cs.drop (Sh.sizeL ((D.shapeL ds).take k))).take y.shape.size).length = y.shape.size := Rd.length g1
      rw [hl] at a2
      have hoff : Sh.off (k :: p) (AV.shape (.dat (.agg ds))) = some (Sh.sizeL ((D.shapeL ds).take k) + o) := by
        simp only [AV.shape, D.shape, Sh.off, D.shapeL_get hk, Option.bind_some]
        rw [AV.shape] at a1
        simp only [a1, Option.map_some]
      have hnav : Sh.nav (k :: p) (AV.shape (.dat (.agg ds))) = some x.shape := by
        simp only [AV.shape, D.shape, Sh.nav, D.shapeL_get hk, Option.bind_some]
        rw [AV.shape] at c
        exact c
      have hgen : Rv w S T (.agg ((ds.map .dat).set k y')) (splice cs (Sh.sizeL ((D.shapeL ds).take k) + o) cn) := by
        rw [Rv, ← splice_splice g2 a2, ← AV.shapeL_dat]
        rw [← AV.shapeL_dat] at a3
        exact RvL.set (d := .dat y) (RvL.of_dat hd) (by simp [hk]) a3 b
      have hsh : AV.shape (.agg ((ds.map .dat).set k y')) = AV.shape (.dat (.agg ds)) := by
        simp only [AV.shape, D.shape, ← AV.shapeL_dat, AV.shapeL_eq, List.map_set]
        have : ((ds.map AV.dat).map AV.shape)[k]? = some y'.shape := by simp [hk, b]
        rw [list_set_self this]
      refine ⟨⟨_, hoff, by omega, ?_⟩, ?_, hnav⟩
      · split at hv
        · rename_i d'
          subst hv
          rw [Rv, Rd, ← splice_splice g2 a2]
          rw [Rv] at a3
          exact RdL.set hd hk a3 (by simpa [AV.shape] using b)
        · subst hv; exact hgen
      · split at hv
        · rename_i d'
          subst hv
          simp only [AV.shape, D.shape, D.shapeL_eq, List.map_set]
          have : (ds.map D.shape)[k]? = some y.shape := by simp [hk]
          simp only [AV.shape] at b
          rw [b, list_set_self this]
        · subst hv; exact hsh
  | k :: p, .dat (.arr sh ds), x, v', cs, cn, hp, hd, hx => by
    simp only [AV.put] at hp
    rw [Rv, Rd] at hd
    cases hk : ds[k]? with
    | none => simp [hk] at hp
    | some y =>
      simp only [hk, Option.bind_some, Option.bind_eq_some_iff] at hp
      obtain ⟨y', hp, hv⟩ := hp
      have hy : y.shape = sh := hd.2 y (List.mem_of_getElem? hk)
      have hkl : k < ds.length := (List.getElem?_eq_some_iff.1 hk).1
      obtain ⟨g1, g2⟩ := RdL.get hd.1 hk
      have hz := sizeL_same sh (D.shapeL ds) k (shapeL_all hd.2) (by rw [D.shapeL_eq]; simp; omega)
      obtain ⟨⟨o, a1, a2, a3⟩, b, c⟩ := AV.put_spec p hp (T := T) (by rw [Rv]; exact g1) hx
      have hl : ((cs.drop (Sh.sizeL ((D.shapeL ds).take k))).take y.shape.size).length = y.shape.size := Rd.length g1
      rw [hl] at a2
      cases y' with
      | dat d' =>
        simp only [Option.some.injEq] at hv; subst hv
        simp only [AV.shape] at b c a1
        refine ⟨⟨Sh.sizeL ((D.shapeL ds).take k) + o, ?_, by omega, ?_⟩, ?_, ?_⟩
        · simp only [AV.shape, D.shape, Sh.off, hz]; rw [← hy, a1, Option.map_some]
        · rw [Rv, Rd, ← splice_splice g2 a2]
          rw [Rv] at a3
          refine ⟨RdL.set hd.1 hk a3 b, fun z hz' => ?_⟩
          rcases List.mem_or_eq_of_mem_set hz' with h | h
          · exact hd.2 z h
          · rw [h, b, hy]
        · simp [AV.shape, D.shape]
        · simp only [AV.shape, D.shape, Sh.nav]; rw [← hy]; exact c
      | _ => simp at hv
  | _ :: _, .undef, _, _, _, _, hp, _, _ => by simp [AV.put] at hp
  | _ :: _, .fslc .., _, _, _, _, hp, _, _ => by simp [AV.put] at hp
  | _ :: _, .ptr .., _, _, _, _, hp, _, _ => by simp [AV.put] at hp
  | _ :: _, .sref .., _, _, _, _, hp, _, _ => by simp [AV.put] at hp
  | _ :: _, .fn .., _, _, _, _, hp, _, _ => by simp [AV.put] at hp
  | _ :: _, .tup .., _, _, _, _, hp, _, _ => by simp [AV.put] at hp
  | _ :: _, .hnd .., _, _, _, _, hp, _, _ => by simp [AV.put] at hp
  | _ :: _, .dat (.int ..), _, _, _, _, hp, _, _ => by simp [AV.put] at hp
  | _ :: _, .dat (.bool ..), _, _, _, _, hp, _, _ => by simp [AV.put] at hp
  | _ :: _, .dat (.str ..), _, _, _, _, hp, _, _ => by simp [AV.put] at hp
  | _ :: _, .dat .nilp, _, _, _, _, hp, _, _ => by simp [AV.put] at hp
  | _ :: _, .dat .nilf, _, _, _, _, hp, _, _ => by simp [AV.put] at hp
  | _ :: _, .dat .nili, _, _, _, _, hp, _, _ => by simp [AV.put] at hp
  | _ :: _, .dat .nilm, _, _, _, _, hp, _, _ => by simp [AV.put] at hp
  | _ :: _, .dat (.slc ..), _, _, _, _, hp, _, _ => by simp [AV.put] at hp
  | _ :: _, .dat (.vptr ..), _, _, _, _, hp, _, _ => by simp [AV.put] at hp
  | _ :: _, .dat (.fn ..), _, _, _, _, hp, _, _ => by simp [AV.put] at hp
  | _ :: _, .dat (.ifc ..), _, _, _, _, hp, _, _ => by simp [AV.put] at hp
end Go.AX

namespace Go.AX
inductive Ty where
  | bool | int (k : IntKind) | str | ptr (e : TypeId) | slc (e : TypeId) | arr (n : Nat) (e : TypeId) | struct (fs : List (TypeId × Nat)) | fn | iface | map (k e : TypeId) | other
  deriving Inhabited
structure TyI where
  ty : Ty
  sh : Sh
  bytes : Nat
  zero : AV
  eqv : Bool
  deriving Inhabited
abbrev Tab := List TyI
def valEqb : Value → Value → Bool
  | .int k n, .int k' n' => decide (k = k') && decide (n = n')
  | .bool a, .bool b => decide (a = b)
  | .string a, .string b => decide (a.size = 0) && decide (b.size = 0)
  | .pointer none, .pointer none => true
  | .nilFunc, .nilFunc => true
  | .nilIface, .nilIface => true
  | .map none, .map none => true
  | .slice none 0 0, .slice none 0 0 => true
  | _, _ => false
theorem bytes_size_zero {a : ByteArray} (h : a.size = 0) : a = ByteArray.empty := by
  cases a with
  | mk d =>
    have : d.size = 0 := h
    have : d = #[] := by simpa using this
    subst this; rfl
theorem eq_of_valEqb {a b : Value} (h : valEqb a b = true) : a = b := by
  unfold valEqb at h
  split at h
  · simp only [Bool.and_eq_true, decide_eq_true_eq] at h; rw [h.1, h.2]
  · simp only [decide_eq_true_eq] at h; rw [h]
  · simp only [Bool.and_eq_true, decide_eq_true_eq] at h; rw [bytes_size_zero h.1, bytes_size_zero h.2]
  all_goals first | rfl | simp at h
def valsEqb : List Value → List Value → Bool
  | [], [] => true
  | a :: l, b :: m => valEqb a b && valsEqb l m
  | _, _ => false
theorem eq_of_valsEqb : ∀ {a b : List Value}, valsEqb a b = true → a = b
  | [], [], _ => rfl
  | a :: l, b :: m, h => by
    simp only [valsEqb, Bool.and_eq_true] at h
    rw [eq_of_valEqb h.1, eq_of_valsEqb h.2]
  | [], _ :: _, h => by simp [valsEqb] at h
  | _ :: _, [], h => by simp [valsEqb] at h
mutual
def D.flat : D → Option (List Value)
  | .int k n => some [.int k n]
  | .bool b => some [.bool b]
  | .str s => some [.string s]
  | .nilp => some [.pointer none]
  | .nilf => some [.nilFunc]
  | .nili => some [.nilIface]
  | .nilm => some [.map none]
  | .agg ds => D.flatL ds
  | .arr sh ds => if ds.all (fun d => Sh.eqb d.shape sh) then D.flatL ds else none
  | .slc _ _ | .vptr .. | .fn .. | .ifc .. => none
def D.flatL : List D → Option (List Value)
  | [] => some []
  | d :: ds => match D.flat d, D.flatL ds with
    | some a, some b => some (a ++ b)
    | _, _ => none
end
mutual
def AV.flat : AV → Option (List Value)
  | .dat d => d.flat
  | .fslc _ [] => some [.slice none 0 0]
  | .agg vs => AV.flatL vs
  | .fslc _ (_ :: _) | .undef | .ptr .. | .sref .. | .fn .. | .tup .. | .hnd .. => none
def AV.flatL : List AV → Option (List Value)
  | [] => some []
  | d :: ds => match AV.flat d, AV.flatL ds with
    | some a, some b => some (a ++ b)
    | _, _ => none
end
mutual
theorem D.flat_ok {w : World} {S : Nat → Prop} : ∀ {d : D} {cs : List Value}, d.flat = some cs → Rd w S d cs
  | .int .., cs, h => by simp [D.flat] at h; simp [Rd, h]
  | .bool .., cs, h => by simp [D.flat] at h; simp [Rd, h]
  | .str .., cs, h => by simp [D.flat] at h; simp [Rd, h]
  | .nilp, cs, h => by simp [D.flat] at h; simp [Rd, h]
  | .nilf, cs, h => by simp [D.flat] at h; simp [Rd, h]
  | .nili, cs, h => by simp [D.flat] at h; simp [Rd, h]
  | .nilm, cs, h => by simp [D.flat] at h; simp [Rd, h]
  | .agg ds, cs, h => by rw [D.flat] at h; rw [Rd]; exact D.flatL_ok h
  | .arr sh ds, cs, h => by
    rw [D.flat] at h; rw [Rd]
    split at h
    · rename_i ha
      refine ⟨D.flatL_ok h, fun d hd => ?_⟩
      rw [List.all_eq_true] at ha
      exact Sh.eq_of_eqb (ha d hd)
    · simp at h
  | .slc .., cs, h => by simp [D.flat] at h
  | .vptr .., cs, h => by simp [D.flat] at h
  | .fn .., cs, h => by simp [D.flat] at h
  | .ifc .., cs, h => by simp [D.flat] at h
theorem D.flatL_ok {w : World} {S : Nat → Prop} : ∀ {ds : List D} {cs : List Value}, D.flatL ds = some cs → RdL w S ds cs
  | [], cs, h => by simp [D.flatL] at h; simp [RdL, h]
  | d :: ds, cs, h => by
    rw [D.flatL] at h
    split at h
    · rename_i a b ha hb
      simp only [Option.some.injEq] at h
      rw [RdL]
      exact ⟨a, b, h.symm, D.flat_ok ha, D.flatL_ok hb⟩
    · simp at h
end
mutual
theorem AV.flat_ok {w : World} {S : Nat → Prop} {T : Nat → Option Ent} : ∀ {v : AV} {cs : List Value}, v.flat = some cs → Rv w S T v cs
  | .dat d, cs, h => by rw [AV.flat] at h; rw [Rv]; exact D.flat_ok h
  | .fslc sh [], cs, h => by
    simp only [AV.flat, Option.some.injEq] at h; subst h
    rw [Rv, Rd]
    exact ⟨⟨none, 0, rfl, by simp, by simp, .inl rfl⟩, none, 0, rfl⟩
  | .agg vs, cs, h => by rw [AV.flat] at h; rw [Rv]; exact AV.flatL_ok h
  | .fslc _ (_ :: _), cs, h => by simp [AV.flat] at h
  | .undef, cs, h => by simp [AV.flat] at h
  | .ptr .., cs, h => by simp [AV.flat] at h
  | .sref .., cs, h => by simp [AV.flat] at h
  | .fn .., cs, h => by simp [AV.flat] at h
  | .tup .., cs, h => by simp [AV.flat] at h
  | .hnd .., cs, h => by simp [AV.flat] at h
theorem AV.flatL_ok {w : World} {S : Nat → Prop} {T : Nat → Option Ent} : ∀ {ds : List AV} {cs : List Value}, AV.flatL ds = some cs → RvL w S T ds cs
  | [], cs, h => by simp [AV.flatL] at h; simp [RvL, h]
  | d :: ds, cs, h => by
    rw [AV.flatL] at h
    split at h
    · rename_i a b ha hb
      simp only [Option.some.injEq] at h
      rw [RvL]
      exact ⟨a, b, h.symm, AV.flat_ok ha, AV.flatL_ok hb⟩
    · simp at h
end
def Tab.sh (tab : Tab) (t : TypeId) : Option Sh := (tab[t]?).map (·.sh)
def fieldsOk (tab : Tab) : List (TypeId × Nat) → List Field → List Sh → Nat → Bool
  | [], [], [], _ => true
  | (t, o) :: fs, f :: gs, s :: l, at_ => decide (f.type = t) && decide (f.offset = o) && decide (o = at_) && decide (s.size ≠ 0) &&
      (match tab[t]? with | some I => Sh.eqb I.sh s && (match I.ty with | .other => false | _ => true) | none => false) && fieldsOk tab fs gs l (at_ + s.size)
  | _, _, _, _ => false
def zeroOk (z : Option Value) (v : AV) : Bool :=
  match z, v.flat with
  | some z, some cs => decide (valAgg z = v.aggB) && valsEqb z.cells.toList cs
  | _, _ => false
def known (tab : Tab) (e : TypeId) : Bool :=
  match tab[e]? with
  | some I => match I.ty with | .other => false | _ => true
  | none => false
def entOk (P : Program) (tab : Tab) (t : TypeId) (I : TyI) : Bool :=
  match I.ty with
  | .other => true
  | ty =>
    match P.info? t, P.underlying t with
    | some i, some d =>
      decide (i.size = I.sh.size) && decide (i.bytes = I.bytes) && zeroOk i.zero I.zero && Sh.eqb I.zero.shape I.sh &&
      (match ty, d, I.sh with
       | .bool, .bool, .one => true
       | .int k, .int k', .one => decide (k = k')
       | .str, .string, .one => true
       | .ptr e, .pointer e', .one => decide (e = e')
       | .slc e, .slice e', .one => decide (e = e') && (match tab[e]? with | some J => decide (J.sh.size ≠ 0) && known tab e | none => false)
       | .arr n e, .array n' e', .arr s m => decide (e = e') && decide (n = n') && decide (n = m) && (match tab[e]? with | some J => Sh.eqb J.sh s && decide (J.sh.size ≠ 0) && known tab e | none => false)
       | .struct fs, .struct gs, .agg l => fieldsOk tab fs gs.toList l 0 && (!I.eqv || (gs.toList.all (fun f => f.name != "_") && !P.stoodInHeld t))
       | .fn, .func .., .one => true
       | .iface, .interface _, .one => true
       | .map k e, .map k' e', .one => decide (k = k') && decide (e = e')
       | _, _, _ => false)
    | _, _ => false
def tabOk (P : Program) (tab : Tab) : Nat → Tab → Bool
  | _, [] => true
  | t, I :: l => entOk P tab t I && tabOk P tab (t + 1) l
theorem tabOk_get {P : Program} {tab : Tab} : ∀ {l : Tab} {t j : Nat} {I : TyI}, tabOk P tab t l = true → l[j]? = some I → entOk P tab (t + j) I = true
  | [], _, _, _, _, h => by simp at h
  | J :: l, t, 0, I, h, hj => by
    simp only [tabOk, Bool.and_eq_true] at h
    simp at hj; subst hj
    exact h.1
  | J :: l, t, j + 1, I, h, hj => by
    simp only [tabOk, Bool.and_eq_true] at h
    simp at hj
    have := tabOk_get h.2 hj
    rwa [Nat.add_assoc, Nat.add_comm 1 j] at this
structure TyOk (P : Program) (tab : Tab) (t : TypeId) (I : TyI) : Prop where
  info : ∃ i d, P.info? t = some i ∧ P.underlying t = some d ∧ i.size = I.sh.size ∧ i.bytes = I.bytes ∧ (∃ z cs, i.zero = some z ∧ I.zero.flat = some cs ∧ valAgg z = I.zero.aggB ∧ z.cells.toList = cs) ∧ I.zero.shape = I.sh ∧
    (match I.ty, d, I.sh with
       | .bool, .bool, .one => True
       | .int k, .int k', .one => k = k'
       | .str, .string, .one => True
       | .ptr e, .pointer e', .one => e = e'
       | .slc e, .slice e', .one => e = e' ∧ (∃ J, tab[e]? = some J ∧ J.sh.size ≠ 0 ∧ known tab e = true)
       | .arr n e, .array n' e', .arr s m => e = e' ∧ n = n' ∧ n = m ∧ (∃ J, tab[e]? = some J ∧ J.sh = s ∧ J.sh.size ≠ 0 ∧ known tab e = true)
       | .struct fs, .struct gs, .agg l => fieldsOk tab fs gs.toList l 0 = true ∧ (I.eqv = true → (gs.toList.all (fun f => f.name != "_") = true ∧ P.stoodInHeld t = false))
       | .fn, .func .., .one => True
       | .iface, .interface _, .one => True
       | .map k e, .map k' e', .one => k = k' ∧ e = e'
       | _, _, _ => False)
theorem tyOk {P : Program} {tab : Tab} (h : tabOk P tab 0 tab = true) {t : TypeId} {I : TyI} (ht : tab[t]? = some I) (hk : known tab t = true) : TyOk P tab t I := by
  have he := tabOk_get h ht
  rw [Nat.zero_add] at he
  unfold known at hk
  rw [ht] at hk
  unfold entOk at he
  refine ⟨?_⟩
  cases hty : I.ty with
  | other => simp [hty] at hk
  | _ =>
    rw [hty] at he
    simp only at he
    split at he
    · rename_i i d hi hd
      simp only [Bool.and_eq_true, decide_eq_true_eq] at he
      obtain ⟨⟨⟨⟨h1, h2⟩, h3⟩, h3'⟩, h4⟩ := he
      refine ⟨i, d, hi, hd, h1, h2, ?_, Sh.eq_of_eqb h3', ?_⟩
      · unfold zeroOk at h3
        split at h3
        · rename_i z cs hz hcs
          simp only [Bool.and_eq_true, decide_eq_true_eq] at h3
          exact ⟨z, cs, hz, hcs, h3.1, eq_of_valsEqb h3.2⟩
        · simp at h3
      · revert h4
        cases d <;> cases I.sh <;> simp only [Bool.and_eq_true, decide_eq_true_eq, Bool.or_eq_true, Bool.not_eq_true', imp_self, Bool.false_eq_true] <;> intro h4
        all_goals first
          | exact h4
          | (obtain ⟨h5, h6⟩ := h4
             refine ⟨h5, ?_⟩
             split at h6
             · rename_i J hJ
               simp only [Bool.and_eq_true, decide_eq_true_eq] at h6
               exact ⟨J, hJ, h6.1, h6.2⟩
             · simp at h6)
          | (obtain ⟨⟨⟨h5, h6⟩, h7⟩, h8⟩ := h4
             refine ⟨h5, h6, h7, ?_⟩
             split at h8
             · rename_i J hJ
               simp only [Bool.and_eq_true, decide_eq_true_eq] at h8
               exact ⟨J, hJ, Sh.eq_of_eqb h8.1.1, h8.1.2, h8.2⟩
             · simp at h8)
          | (obtain ⟨h5, h6⟩ := h4
             refine ⟨h5, fun hq => ?_⟩
             rcases h6 with h6 | h6
             · rw [h6] at hq; simp at hq
             · exact h6)
    · simp at he
end Go.AX

namespace Go.AX
def oneC : Value → Bool
  | .agg _ | .tuple _ => false
  | _ => true
theorem addr_add (b o i : Nat) : (⟨b, o, none⟩ : Addr).add i = ⟨b, o + i, none⟩ := by
  unfold Addr.add
  split
  · rename_i h; subst h; rfl
  · rfl
theorem cell_of_block {w : World} {b o : Nat} {c : Array Value} {t : TypeId} {f : Nat × Nat} (h : w.heap[b]? = some (.cells c t f)) : w.cell? ⟨b, o, none⟩ = c[o]? := by
  simp [World.cell?, h]
theorem run_load1 {P : Program} {w : World} {b o : Nat} {v : Value} (h : w.cell? ⟨b, o, none⟩ = some v) : (load ⟨b, o, none⟩).run P w = .ok v w := by
  simp [load, Sem.run, h]
theorem run_loadCellsFrom' {P : Program} {w : World} {b o : Nat} {c : Array Value} {t : TypeId} {f : Nat × Nat} (h : w.heap[b]? = some (.cells c t f)) :
    ∀ (n i : Nat) (acc : Array Value), o + i + n ≤ c.size → (loadCellsFrom ⟨b, o, none⟩ i n acc).run P w = .ok (acc ++ ((c.toList.drop (o + i)).take n).toArray) w := by
  intro n
  induction n with
  | zero => intro i acc _; simp [loadCellsFrom]
  | succ n ih =>
    intro i acc hl
    have hlt : o + i < c.size := by omega
    have hc : w.cell? ⟨b, o + i, none⟩ = some c[o + i] := by rw [cell_of_block h, Array.getElem?_eq_getElem hlt]
    simp only [loadCellsFrom, Sem.run_bind, addr_add, run_load1 hc, Result.andThen]
    rw [ih (i + 1) _ (by omega)]
    congr 1
    rw [← Array.toList_inj]
    simp only [Array.toList_append, Array.toList_push, List.append_assoc]
    congr 1
    have : (c.toList.drop (o + i)) = c[o + i] :: c.toList.drop (o + i + 1) := by
      rw [List.drop_eq_getElem_cons (by simpa using hlt)]
      simp
    rw [this, List.take_succ_cons, Nat.add_assoc o i 1]
    rfl
theorem run_loadCells' {P : Program} {w : World} {b o n : Nat} {r : List Value} (h : row w b o n = some r) : (loadCells ⟨b, o, none⟩ n).run P w = .ok r.toArray w := by
  unfold row at h
  split at h
  · rename_i c t f hb
    split at h
    · rename_i hl
      simp only [Option.some.injEq] at h
      unfold loadCells
      rw [run_loadCellsFrom' hb n 0 #[] (by omega)]
      simp [← h]
    · simp at h
  · simp at h
theorem modify_eq_set {α : Type} (a : Array α) (i : Nat) (x : α) (f : α → α) (h : a[i]? = some x) : a.modify i f = a.setIfInBounds i (f x) := by
  apply Array.ext_getElem?
  intro j
  rw [Array.getElem?_modify, Array.getElem?_setIfInBounds]
  by_cases hij : i = j
  · subst hij
    have : i < a.size := by
      rcases Nat.lt_or_ge i a.size with h' | h'
      · exact h'
      · simp [Array.getElem?_eq_none h'] at h
    rw [Array.getElem?_eq_getElem this] at h
    simp only [Option.some.injEq] at h
    simp [h, this]
  · simp [hij]
theorem setCell_eq {w : World} {b o : Nat} {c : Array Value} {t : TypeId} {f : Nat × Nat} (h : w.heap[b]? = some (.cells c t f)) (v : Value) :
    w.setCell ⟨b, o, none⟩ v = { w with heap := w.heap.setIfInBounds b (.cells (c.setIfInBounds o v) t f) } := by
  unfold World.setCell
  simp only
  rw [modify_eq_set _ _ _ _ h]
  rfl
theorem frozen_of_block {w : World} {b o : Nat} {c : Array Value} {t : TypeId} {f : Nat × Nat} (h : w.heap[b]? = some (.cells c t f)) : w.frozen? ⟨b, o, none⟩ = (decide (f.1 ≤ o) && decide (o < f.2)) := by
  simp [World.frozen?, h]
theorem run_store1 {P : Program} {w : World} {b o : Nat} {c : Array Value} {t : TypeId} {f : Nat × Nat} {v : Value} (h : w.heap[b]? = some (.cells c t f)) (ho : o < c.size)
    (hf : w.frozen? ⟨b, o, none⟩ = false) (hv : oneC v = true) :
    (store ⟨b, o, none⟩ v).run P w = .ok () { w with heap := w.heap.setIfInBounds b (.cells (c.setIfInBounds o v) t f) } := by
  have hc : w.cell? ⟨b, o, none⟩ = some c[o] := by rw [cell_of_block h, Array.getElem?_eq_getElem ho]
  rw [← setCell_eq h]
  cases v <;> first | (simp [oneC] at hv; done) | simp [store, Sem.run, hc, hf]
def putHeap (w : World) (b : Nat) (o : Obj) : World := { w with heap := w.heap.setIfInBounds b o }
theorem run_storeCells' {P : Program} {b o : Nat} {t : TypeId} {f : Nat × Nat} : ∀ (vs : List Value) (i : Nat) (w : World) (c : Array Value), w.heap[b]? = some (.cells c t f) → o + i + vs.length ≤ c.size →
    (∀ j, j < c.size → w.frozen? ⟨b, j, none⟩ = false) → (∀ v ∈ vs, oneC v = true) →
    (storeCells ⟨b, o, none⟩ vs i).run P w = .ok () (putHeap w b (.cells (splice c.toList (o + i) vs).toArray t f))
  | [], i, w, c, h, hl, _, _ => by
    have : (splice c.toList (o + i) []).toArray = c := by simp [splice]
    rw [this]
    have : putHeap w b (.cells c t f) = w := by
      unfold putHeap
      have : w.heap.setIfInBounds b (.cells c t f) = w.heap := by
        apply Array.ext_getElem?
        intro j
        rw [Array.getElem?_setIfInBounds]
        split
        · rename_i hj; subst hj; split
          · rw [h]
          · rename_i hj; rw [Array.getElem?_eq_none (by omega)]
        · rfl
      rw [this]
    rw [this]; simp [storeCells]
  | v :: vs, i, w, c, h, hl, hf, hv => by
    have hl : o + i + (vs.length + 1) ≤ c.size := hl
    have hb : b < w.heap.size := by
      rcases Nat.lt_or_ge b w.heap.size with h' | h'
      · exact h'
      · simp [Array.getElem?_eq_none h'] at h
    simp only [storeCells, Sem.run_bind, addr_add]
    rw [run_store1 h (by omega) (hf _ (by omega)) (hv v (List.mem_cons_self ..))]
    simp only [Result.andThen]
    have h' : ({ w with heap := w.heap.setIfInBounds b (.cells (c.setIfInBounds (o + i) v) t f) } : World).heap[b]? = some (.cells (c.setIfInBounds (o + i) v) t f) := by
      simp [hb]
    have hf' : ∀ j, j < (c.setIfInBounds (o + i) v).size → ({ w with heap := w.heap.setIfInBounds b (.cells (c.setIfInBounds (o + i) v) t f) } : World).frozen? ⟨b, j, none⟩ = false := by
      intro j hj
      rw [frozen_of_block h']
      have := hf j (by simpa using hj)
      rwa [frozen_of_block h] at this
    rw [run_storeCells' vs (i + 1) _ _ h' (by simp; omega) hf' (fun u hu => hv u (List.mem_cons_of_mem _ hu))]
    congr 1
    unfold putHeap
    simp only [Array.setIfInBounds_setIfInBounds]
    congr 3
    congr 1
    simp only [splice, Array.toList_setIfInBounds, List.length_cons]
    rw [show o + (i + 1) = (o + i) + 1 by omega]
    have e0 : (c.toList.set (o + i) v).take (o + i) = c.toList.take (o + i) := by
      apply List.ext_getElem?
      intro j
      rw [List.getElem?_take, List.getElem?_take]
      split
      · rw [List.getElem?_set_ne (by omega)]
      · rfl
    have e1 : (c.toList.set (o + i) v).take (o + i + 1) = c.toList.take (o + i) ++ [v] := by
      rw [List.take_succ_eq_append_getElem (by simp; omega)]
      simp [e0]
    have e2 : (c.toList.set (o + i) v).drop (o + i + 1 + vs.length) = c.toList.drop (o + i + 1 + vs.length) := by
      rw [List.drop_set_of_lt (by omega)]
    rw [e1, e2, show o + i + (vs.length + 1) = o + i + 1 + vs.length by omega]
    simp
mutual
theorem Rd.oneCell {w : World} {S : Nat → Prop} : ∀ {d : D} {cs : List Value}, Rd w S d cs → ∀ c ∈ cs, oneC c = true
  | .int .., cs, h => by simp [Rd] at h; simp [h, oneC]
  | .bool .., cs, h => by simp [Rd] at h; simp [h, oneC]
  | .str .., cs, h => by simp [Rd] at h; simp [h, oneC]
  | .nilp, cs, h => by simp [Rd] at h; simp [h, oneC]
  | .nilf, cs, h => by simp [Rd] at h; simp [h, oneC]
  | .nili, cs, h => by simp [Rd] at h; simp [h, oneC]
  | .nilm, cs, h => by simp [Rd] at h; simp [h, oneC]
  | .agg ds, cs, h => by rw [Rd] at h; exact RdL.oneCell h
  | .arr sh ds, cs, h => by rw [Rd] at h; exact RdL.oneCell h.1
  | .slc .., cs, h => by rw [Rd] at h; obtain ⟨a, cap, rfl, _⟩ := h; simp [oneC]
  | .vptr .., cs, h => by rw [Rd] at h; obtain ⟨b, o, r, rfl, _⟩ := h; simp [oneC]
  | .fn .., cs, h => by rw [Rd] at h; obtain ⟨_, _, rfl, _⟩ := h; simp [oneC]
  | .ifc .., cs, h => by rw [Rd] at h; obtain ⟨_, rfl, _⟩ := h; simp [oneC]
theorem RdL.oneCell {w : World} {S : Nat → Prop} : ∀ {ds : List D} {cs : List Value}, RdL w S ds cs → ∀ c ∈ cs, oneC c = true
  | [], cs, h => by simp [RdL] at h; simp [h]
  | d :: ds, cs, h => by
    rw [RdL] at h
    obtain ⟨c1, c2, rfl, h1, h2⟩ := h
    intro c hc
    rcases List.mem_append.1 hc with hc | hc
    · exact Rd.oneCell h1 c hc
    · exact RdL.oneCell h2 c hc
end
mutual
theorem Rv.oneCell {w : World} {S : Nat → Prop} {T : Nat → Option Ent} : ∀ {d : AV} {cs : List Value}, Rv w S T d cs → ∀ c ∈ cs, oneC c = true
  | .undef, cs, h => by simp [Rv] at h
  | .dat d, cs, h => by rw [Rv] at h; exact Rd.oneCell h
  | .fslc .., cs, h => by rw [Rv] at h; obtain ⟨_, a, n, rfl⟩ := h; simp [oneC]
  | .ptr .., cs, h => by rw [Rv] at h; obtain ⟨_, _, rfl, _⟩ := h; simp [oneC]
  | .sref .., cs, h => by rw [Rv] at h; obtain ⟨_, _, _, rfl, _⟩ := h; simp [oneC]
  | .agg vs, cs, h => by rw [Rv] at h; exact RvL.oneCell h
  | .fn .., cs, h => by rw [Rv] at h; obtain ⟨_, _, rfl, _⟩ := h; simp [oneC]
  | .tup .., cs, h => by simp [Rv] at h
  | .hnd sh .., cs, h => by rw [Rv] at h; obtain ⟨_, _, rfl, _⟩ := h; simp only [List.mem_singleton, hndVal]; intro c hc; subst hc; cases Sh.eqb sh mapSh <;> rfl
theorem RvL.oneCell {w : World} {S : Nat → Prop} {T : Nat → Option Ent} : ∀ {ds : List AV} {cs : List Value}, RvL w S T ds cs → ∀ c ∈ cs, oneC c = true
  | [], cs, h => by simp [RvL] at h; simp [h]
  | d :: ds, cs, h => by
    rw [RvL] at h
    obtain ⟨c1, c2, rfl, h1, h2⟩ := h
    intro c hc
    rcases List.mem_append.1 hc with hc | hc
    · exact Rv.oneCell h1 c hc
    · exact RvL.oneCell h2 c hc
end
def tbl (m : List (Option Nat)) (σ : Store) : Nat → Option Ent := fun id =>
  match m[id]?, σ[id]? with
  | some b, some B => some ⟨b, B.sh, B.dyn, B.n⟩
  | _, _ => none
def DynOk (w : World) (S : Nat → Prop) (c : Array Value) (B : Blk) : Prop :=
  ∃ s ds, B.sh = .arr s 0 ∧ B.v = .dat (.arr s ds) ∧ ds.length * s.size ≤ c.size ∧ Rd w S (.arr s ds) (c.toList.take (ds.length * s.size))
def CelOk (w : World) (S : Nat → Prop) (T : Nat → Option Ent) (b : Nat) (B : Blk) : Prop :=
  ∃ c t f, w.heap[b]? = some (.cells c t f) ∧ (B.frz = true → S b) ∧ (B.frz = false → ¬ S b ∧ ∀ o, o < c.size → w.frozen? ⟨b, o, none⟩ = false) ∧
      (B.dyn = true → DynOk w S c B) ∧ (B.dyn = false → B.v.shape = B.sh ∧ Rv w S T B.v c.toList)
def scalV : D → Option Value
  | .int k n => some (.int k n)
  | .bool b => some (.bool b)
  | .str s => some (.string s)
  | _ => none
def jcode : LoopState → Option Code → Option Int
  | .ready, none => some 0
  | .busy, none => some (-1)
  | .done, some .ret => some 1
  | .done, some (.exit i) => some (2 + (i : Int))
  | .exhausted, _ => some (-2)
  | _, _ => none
def mapEs : Nat → List D → Option (List MapEntry)
  | _, [] => some []
  | i, .agg [k, v] :: l => match scalV k, scalV v, mapEs (i + 1) l with
    | some k, some v, some es => some (⟨k, v, i⟩ :: es)
    | _, _, _ => none
  | _, _ :: _ => none
def ObjOk (w : World) (S : Nat → Prop) (b : Nat) (B : Blk) : Prop :=
  B.dyn = false ∧ (B.frz = true → S b) ∧ (B.frz = false → ¬ S b) ∧
  ((B.sh = loopSh ∧ ∃ r c, w.heap[b]? = some (.loop r) ∧ jcode r.state r.pending = some c ∧ B.v = .dat (.int .i64 c)) ∨
   (B.sh = mapSh ∧ ∃ ds es, w.heap[b]? = some (.map es ds.length) ∧ mapEs 0 ds = some es.toList ∧ B.v = .dat (.slc (.agg [.one, .one]) ds)))
def BlkOk (w : World) (S : Nat → Prop) (T : Nat → Option Ent) (ob : Option Nat) (B : Blk) : Prop :=
  match ob with
  | none => B.dyn = true ∧ ∃ s, B.sh = .arr s 0 ∧ B.v = .dat (.arr s [])
  | some b => CelOk w S T b B ∨ ObjOk w S b B
theorem ObjOk.lt {w : World} {S : Nat → Prop} {b : Nat} {B : Blk} (h : ObjOk w S b B) : b < w.heap.size := by
  obtain ⟨_, _, _, ⟨_, _, _, h, _⟩ | ⟨_, _, _, h, _⟩⟩ := h
  all_goals exact (Array.getElem?_eq_some_iff.1 h).1
theorem BlkOk.lt {w : World} {S : Nat → Prop} {T : Nat → Option Ent} {b : Nat} {B : Blk} (h : BlkOk w S T (some b) B) : b < w.heap.size := by
  rcases h with ⟨c, t, f, h, _⟩ | h
  · exact (Array.getElem?_eq_some_iff.1 h).1
  · exact h.lt
theorem BlkOk.nodef {w : World} {S : Nat → Prop} {T : Nat → Option Ent} {b : Nat} {B : Blk} (h : BlkOk w S T (some b) B) {x : Option (List Deferred)} (hx : w.heap[b]? = some (.deferred x)) : False := by
  rcases h with ⟨c, t, f, g, _⟩ | ⟨_, _, _, ⟨_, _, _, g, _⟩ | ⟨_, _, _, g, _⟩⟩
  all_goals rw [hx] at g; simp at g
theorem ObjOk.mono {w w' : World} {S S' : Nat → Prop} (k : ∀ b, S b → S' b) {b : Nat} {B : Blk} (h : ObjOk w S b B) (hs : w'.heap[b]? = w.heap[b]?) (hS : S' b → S b) : ObjOk w' S' b B := by
  obtain ⟨h1, h2, h3, h4⟩ := h
  refine ⟨h1, fun hf => k b (h2 hf), fun hf hs' => h3 hf (hS hs'), ?_⟩
  rw [hs]; exact h4
theorem BlkOk.cel {w : World} {S : Nat → Prop} {T : Nat → Option Ent} {b : Nat} {B : Blk} (h : BlkOk w S T (some b) B) (hc : B.dyn = true ∨ posSh B.sh = true ∨ ∃ p s ds, B.v.nav p = some (.dat (.arr s ds))) : CelOk w S T b B := by
  rcases h with h | ⟨h1, _, _, h4⟩
  · exact h
  · exfalso
    rcases hc with hc | hc | ⟨p, s, ds, hc⟩
    · rw [h1] at hc; simp at hc
    · rcases h4 with ⟨h4, _⟩ | ⟨h4, _⟩ <;> rw [h4] at hc <;> simp [posSh] at hc
    · rcases h4 with ⟨_, r, c, _, _, h4⟩ | ⟨_, ds', es, _, _, h4⟩ <;> rw [h4] at hc <;> cases p <;> simp [AV.nav, D.nav] at hc
structure Inv (w : World) (S : Nat → Prop) (m : List (Option Nat)) (σ : Store) : Prop where
  len : m.length = σ.length
  sdom : ∀ b, S b → b < w.heap.size
  scel : ∀ b, S b → ∀ x, w.heap[b]? ≠ some (.deferred x)
  inj : ∀ (i j b : Nat), m[i]? = some (some b) → m[j]? = some (some b) → i = j
  blk : ∀ (i : Nat) B, σ[i]? = some B → BlkOk w S (tbl m σ) (m.getD i none) B
structure Ext (w : World) (S : Nat → Prop) (m : List (Option Nat)) (w' : World) (S' : Nat → Prop) (m' : List (Option Nat)) : Prop where
  kp : Kp w S w' S'
  os : w'.os = w.os
  tape : w'.tape = w.tape
  output : w'.output = w.output
  size : w.heap.size ≤ w'.heap.size
  same : ∀ b, b < w.heap.size → (∀ i : Nat, m[i]? ≠ some (some b)) → w'.heap[b]? = w.heap[b]?
  snew : ∀ b, S' b → S b ∨ w.heap.size ≤ b ∨ ∃ i : Nat, m[i]? = some (some b)
  mnew : ∀ (i : Nat) b, m'[i]? = some (some b) → m[i]? = some (some b) ∨ w.heap.size ≤ b
theorem Ext.refl (w : World) (S : Nat → Prop) (m : List (Option Nat)) : Ext w S m w S m :=
  ⟨Kp.refl w S, rfl, rfl, rfl, Nat.le_refl _, fun _ _ _ => rfl, fun _ h => .inl h, fun _ _ h => .inl h⟩
theorem Ext.trans {w w' w'' : World} {S S' S'' : Nat → Prop} {m m' m'' : List (Option Nat)} (h : Ext w S m w' S' m') (k : Ext w' S' m' w'' S'' m'') : Ext w S m w'' S'' m'' := by
  refine ⟨h.kp.trans k.kp, k.os.trans h.os, k.tape.trans h.tape, k.output.trans h.output, Nat.le_trans h.size k.size, ?_, ?_, ?_⟩
  · intro b hb hm
    rw [k.same b (Nat.lt_of_lt_of_le hb h.size) ?_, h.same b hb hm]
    intro i hi
    rcases h.mnew i b hi with h1 | h1
    · exact hm i h1
    · omega
  · intro b hb
    rcases k.snew b hb with h1 | h1 | ⟨i, h1⟩
    · exact h.snew b h1
    · exact .inr (.inl (Nat.le_trans h.size h1))
    · rcases h.mnew i b h1 with h2 | h2
      · exact .inr (.inr ⟨i, h2⟩)
      · exact .inr (.inl h2)
  · intro i b hi
    rcases k.mnew i b hi with h1 | h1
    · exact h.mnew i b h1
    · exact .inr (Nat.le_trans h.size h1)
structure Stp (w : World) (S : Nat → Prop) (m : List (Option Nat)) (σ : Store) (w' : World) (S' : Nat → Prop) (m' : List (Option Nat)) (σ' : Store) : Prop where
  inv : Inv w' S' m' σ'
  ext : Ext w S m w' S' m'
  tx : TExt (tbl m σ) (tbl m' σ')
theorem Stp.refl {w : World} {S : Nat → Prop} {m : List (Option Nat)} {σ : Store} (h : Inv w S m σ) : Stp w S m σ w S m σ := ⟨h, Ext.refl _ _ _, TExt.refl _⟩
theorem Stp.trans {w w' w'' : World} {S S' S'' : Nat → Prop} {m m' m'' : List (Option Nat)} {σ σ' σ'' : Store} (h : Stp w S m σ w' S' m' σ') (k : Stp w' S' m' σ' w'' S'' m'' σ'') :
    Stp w S m σ w'' S'' m'' σ'' := ⟨k.inv, h.ext.trans k.ext, h.tx.trans k.tx⟩
theorem Stp.rs {w w' : World} {S S' : Nat → Prop} {m m' : List (Option Nat)} {σ σ' : Store} (h : Stp w S m σ w' S' m' σ') {v : AV} {u : Value} (hv : Rs w S (tbl m σ) v u) : Rs w' S' (tbl m' σ') v u :=
  hv.mono h.ext.kp h.tx
theorem Inv.drew {w : World} {S : Nat → Prop} {m : List (Option Nat)} {σ : Store} (h : Inv w S m σ) (n : Nat) : Stp w S m σ { w with drawn := n } S m σ := by
  have k : Kp w S { w with drawn := n } S := ⟨fun _ h => h, fun _ _ => rfl, fun b c t f hb => ⟨c, t, f, hb, rfl⟩, fun _ r hb => ⟨r, hb, rfl⟩⟩
  refine ⟨⟨h.len, h.sdom, h.scel, h.inj, fun i B hB => ?_⟩, ⟨k, rfl, rfl, rfl, Nat.le_refl _, fun _ _ _ => rfl, fun _ h => .inl h, fun _ _ h => .inl h⟩, TExt.refl _⟩
  have := h.blk i B hB
  revert this
  cases m.getD i none with
  | none => exact id
  | some b =>
    rintro (⟨c, t, f, h1, h2, h3, h4, h5⟩ | ho)
    · refine .inl ⟨c, t, f, h1, h2, h3, fun hd => ?_, fun hd => ⟨(h5 hd).1, (h5 hd).2.mono k (TExt.refl _)⟩⟩
      obtain ⟨s, ds, g1, g2, g3, g4⟩ := h4 hd
      exact ⟨s, ds, g1, g2, g3, g4.mono k⟩
    · exact .inr (ho.mono (fun _ h => h) rfl (fun h => h))
theorem BlkOk.mono {w w' : World} {S S' : Nat → Prop} {T T' : Nat → Option Ent} (k : Kp w S w' S') (x : TExt T T') {ob : Option Nat} {B : Blk} (h : BlkOk w S T ob B)
    (hs : ∀ b, ob = some b → w'.heap[b]? = w.heap[b]?) (hS : ∀ b, ob = some b → S' b → S b) : BlkOk w' S' T' ob B := by
  cases ob with
  | none => exact h
  | some b =>
    have hb := hs b rfl
    rcases h with ⟨c, t, f, h1, h2, h3, h4, h5⟩ | h
    · refine .inl ⟨c, t, f, hb.trans h1, fun hf => k.sub b (h2 hf), fun hf => ⟨fun hs' => (h3 hf).1 (hS b rfl hs'), fun o ho => ?_⟩, fun hd => ?_, fun hd => ⟨(h5 hd).1, (h5 hd).2.mono k x⟩⟩
      · rw [frozen_of_block (hb.trans h1), ← frozen_of_block h1]; exact (h3 hf).2 o ho
      · obtain ⟨s, ds, g1, g2, g3, g4⟩ := h4 hd
        exact ⟨s, ds, g1, g2, g3, g4.mono k⟩
    · exact .inr (h.mono k.sub hb (hS b rfl))
theorem tbl_append {m : List (Option Nat)} {σ : Store} (h : m.length = σ.length) (ob : Option Nat) (B : Blk) (id : Nat) :
    tbl (m ++ [ob]) (σ ++ [B]) id = if id = σ.length then some ⟨ob, B.sh, B.dyn, B.n⟩ else tbl m σ id := by
  unfold tbl
  by_cases hi : id = σ.length
  · subst hi
    rw [if_pos rfl, List.getElem?_append_right (by omega), List.getElem?_append_right (by omega)]
    simp [h]
  · rw [if_neg hi]
    rcases Nat.lt_or_ge id σ.length with hl | hl
    · rw [List.getElem?_append_left (by omega), List.getElem?_append_left hl]
    · rw [List.getElem?_eq_none (l := m ++ [ob]) (by simp; omega), List.getElem?_eq_none (l := m) (by omega)]
theorem TExt.append {m : List (Option Nat)} {σ : Store} (h : m.length = σ.length) (ob : Option Nat) (B : Blk) : TExt (tbl m σ) (tbl (m ++ [ob]) (σ ++ [B])) := by
  intro id e he
  refine ⟨e, ?_, rfl, rfl, Nat.le_refl _, fun _ => rfl⟩
  rw [tbl_append h, if_neg]
  · exact he
  · rintro rfl
    simp [tbl] at he
theorem Inv.new {w : World} {S : Nat → Prop} {m : List (Option Nat)} {σ : Store} (h : Inv w S m σ) {c : Array Value} {t : TypeId} {f : Nat × Nat} {B : Blk} (hf : B.frz = false)
    (hfz : ∀ o, o < c.size → ¬ (f.1 ≤ o ∧ o < f.2))
    (hd : B.dyn = true → DynOk w S c B) (hn : B.dyn = false → B.v.shape = B.sh ∧ Rv w S (tbl m σ) B.v c.toList) :
    Stp w S m σ { w with heap := w.heap.push (.cells c t f) } S (m ++ [some w.heap.size]) (σ ++ [B]) := by
  have k : Kp w S { w with heap := w.heap.push (.cells c t f) } S := by
    refine ⟨fun _ h => h, fun b hb => ?_, fun b c' t' f' hb => ⟨c', t', f', ?_, rfl⟩, fun b r hb => ⟨r, ?_, rfl⟩⟩
    · show (w.heap.push _)[b]? = _
      rw [Array.getElem?_push, if_neg (by have := h.sdom b hb; omega)]
    · show (w.heap.push _)[b]? = _
      rw [Array.getElem?_push, if_neg]
      · exact hb
      · rintro rfl; simp at hb
    · show (w.heap.push _)[b]? = _
      rw [Array.getElem?_push, if_neg]
      · exact hb
      · rintro rfl; simp at hb
  have x := TExt.append h.len (some w.heap.size) B
  have hm : ∀ (i : Nat) b, (m ++ [some w.heap.size])[i]? = some (some b) → m[i]? = some (some b) ∨ (b = w.heap.size ∧ i = m.length) := by
    intro i b hi
    rcases Nat.lt_or_ge i m.length with hl | hl
    · rw [List.getElem?_append_left hl] at hi; exact .inl hi
    · rw [List.getElem?_append_right hl] at hi
      cases hq : i - m.length with
      | zero => rw [hq] at hi; simp at hi; exact .inr ⟨hi.symm, by omega⟩
      | succ q => rw [hq] at hi; simp at hi
  have hlt : ∀ (i : Nat) b, m[i]? = some (some b) → b < w.heap.size := by
    intro i b hi
    have hl : i < σ.length := by rw [← h.len]; exact (List.getElem?_eq_some_iff.1 hi).1
    have hB := h.blk i σ[i] (List.getElem?_eq_getElem hl)
    rw [List.getD_eq_getElem?_getD, hi] at hB
    exact BlkOk.lt hB
  refine ⟨⟨by simp [h.len], fun b hb => ?_, fun b hb x => by rw [k.same b hb]; exact h.scel b hb x, ?_, ?_⟩, ⟨k, rfl, rfl, rfl, by simp, ?_, fun _ h => .inl h, ?_⟩, x⟩
  · have := h.sdom b hb; simp; omega
  · intro i j b hi hj
    rcases hm i b hi with h1 | ⟨h1, h1'⟩ <;> rcases hm j b hj with h2 | ⟨h2, h2'⟩
    · exact h.inj i j b h1 h2
    · have := hlt i b h1; omega
    · have := hlt j b h2; omega
    · omega
  · intro i B' hB'
    rcases Nat.lt_or_ge i σ.length with hl | hl
    · rw [List.getElem?_append_left hl] at hB'
      have hg : (m ++ [some w.heap.size]).getD i none = m.getD i none := by
        rw [List.getD_eq_getElem?_getD, List.getD_eq_getElem?_getD, List.getElem?_append_left (by rw [h.len]; exact hl)]
      rw [hg]
      refine (h.blk i B' hB').mono k x (fun b hb => ?_) (fun _ _ hs => hs)
      have hi : m[i]? = some (some b) := by
        rw [List.getD_eq_getElem?_getD] at hb
        cases hq : m[i]? with
        | none => rw [hq] at hb; simp at hb
        | some q => rw [hq] at hb; simp at hb; rw [hb]
      show (w.heap.push _)[b]? = _
      rw [Array.getElem?_push, if_neg (by have := hlt i b hi; omega)]
    · have hi : i = σ.length := by
        have := (List.getElem?_eq_some_iff.1 hB').1
        simp at this; omega
      subst hi
      rw [List.getElem?_append_right (Nat.le_refl _)] at hB'
      simp at hB'
      subst hB'
      have hg : (m ++ [some w.heap.size]).getD σ.length none = some w.heap.size := by
        rw [List.getD_eq_getElem?_getD, List.getElem?_append_right (by rw [h.len]; exact Nat.le_refl _)]
        simp [h.len]
      rw [hg]
      have hb : ({ w with heap := w.heap.push (.cells c t f) } : World).heap[w.heap.size]? = some (.cells c t f) := by simp
      refine .inl ⟨c, t, f, hb, fun hq => by rw [hf] at hq; simp at hq, fun _ => ⟨fun hs => by have := h.sdom _ hs; omega, fun o ho => ?_⟩, fun hq => ?_, fun hq => ⟨(hn hq).1, (hn hq).2.mono k x⟩⟩
      · rw [frozen_of_block hb]
        have := hfz o ho
        rcases Nat.lt_or_ge o f.1 with h1 | h1
        · simp; omega
        · simp; omega
      · obtain ⟨s, ds, g1, g2, g3, g4⟩ := hd hq
        exact ⟨s, ds, g1, g2, g3, g4.mono k⟩
  · intro b hb _
    show (w.heap.push _)[b]? = _
    rw [Array.getElem?_push, if_neg (by omega)]
  · intro i b hi
    rcases hm i b hi with h1 | ⟨h1, _⟩
    · exact .inl h1
    · exact .inr (by omega)
theorem Inv.write {w : World} {S : Nat → Prop} {m : List (Option Nat)} {σ : Store} (h : Inv w S m σ) {id b : Nat} {c c' : Array Value} {t : TypeId} {f : Nat × Nat} {B B' : Blk}
    (hB : σ[id]? = some B) (hm : m[id]? = some (some b)) (hb : w.heap[b]? = some (.cells c t f)) (hc : c'.size = c.size) (hf : B.frz = false) (hf' : B'.frz = false)
    (hsh : B'.sh = B.sh) (hdy : B'.dyn = B.dyn) (hle : B.n ≤ B'.n)
    (hd : B'.dyn = true → DynOk w S c' B') (hn : B'.dyn = false → B'.v.shape = B'.sh ∧ Rv w S (tbl m σ) B'.v c'.toList) :
    Stp w S m σ (putHeap w b (.cells c' t f)) S m (σ.set id B') := by
  have hid := (List.getElem?_eq_some_iff.1 hB).1
  have hbs : b < w.heap.size := by
    rcases Nat.lt_or_ge b w.heap.size with h' | h'
    · exact h'
    · simp [Array.getElem?_eq_none h'] at hb
  have hBk := h.blk id B hB
  rw [List.getD_eq_getElem?_getD, hm] at hBk
  replace hBk : CelOk w S (tbl m σ) b B := by
    rcases hBk with hBk | ⟨_, _, _, ⟨_, _, _, g, _⟩ | ⟨_, _, _, g, _⟩⟩
    · exact hBk
    all_goals rw [hb] at g; simp at g
  obtain ⟨c0, t0, f0, a1, a2, a3, a4, a5⟩ := hBk
  rw [hb] at a1
  simp only [Option.some.injEq, Obj.cells.injEq] at a1
  obtain ⟨rfl, rfl, rfl⟩ := a1
  have hnS := (a3 hf).1
  have hnew : (putHeap w b (.cells c' t f)).heap[b]? = some (.cells c' t f) := by simp [putHeap, hbs]
  have hold : ∀ b', b' ≠ b → (putHeap w b (.cells c' t f)).heap[b']? = w.heap[b']? := by
    intro b' hne
    simp only [putHeap, Array.getElem?_setIfInBounds]
    rw [if_neg (fun h => hne h.symm)]
  have k : Kp w S (putHeap w b (.cells c' t f)) S := by
    refine ⟨fun _ h => h, fun b' hb' => hold b' (fun e => hnS (e ▸ hb')), fun b' c1 t1 f1 h1 => ?_, fun b' r hr => ⟨r, (hold b' (fun e => by rw [e, hb] at hr; simp at hr)).trans hr, rfl⟩⟩
    by_cases e : b' = b
    · subst e
      rw [hb] at h1
      simp only [Option.some.injEq, Obj.cells.injEq] at h1
      obtain ⟨rfl, rfl, rfl⟩ := h1
      exact ⟨c', t, f, hnew, hc⟩
    · exact ⟨c1, t1, f1, (hold b' e).trans h1, rfl⟩
  have x : TExt (tbl m σ) (tbl m (σ.set id B')) := by
    intro j e he
    by_cases hj : j = id
    · subst hj
      have he' : e = ⟨some b, B.sh, B.dyn, B.n⟩ := by
        unfold tbl at he
        rw [hm, hB] at he
        simpa using he.symm
      subst he'
      refine ⟨⟨some b, B'.sh, B'.dyn, B'.n⟩, ?_, hsh, hdy, hle, fun _ => rfl⟩
      unfold tbl
      rw [hm, List.getElem?_set_self hid]
    · refine ⟨e, ?_, rfl, rfl, Nat.le_refl _, fun _ => rfl⟩
      unfold tbl at he ⊢
      rw [List.getElem?_set_ne (fun h => hj h.symm)]
      exact he
  refine ⟨⟨by simp [h.len], fun b' hb' => by have := h.sdom b' hb'; simp [putHeap]; omega, fun b hb x => by rw [k.same b hb]; exact h.scel b hb x, h.inj, ?_⟩, ⟨k, rfl, rfl, rfl, by simp [putHeap], ?_, fun _ h => .inl h, fun _ _ h => .inl h⟩, x⟩
  · intro i Bi hBi
    by_cases e : i = id
    · subst e
      rw [List.getElem?_set_self hid] at hBi
      simp only [Option.some.injEq] at hBi
      subst hBi
      rw [List.getD_eq_getElem?_getD, hm]
      refine .inl ⟨c', t, f, hnew, fun hq => by rw [hf'] at hq; simp at hq, fun _ => ⟨hnS, fun o ho => ?_⟩, fun hq => ?_, fun hq => ⟨(hn hq).1, ?_⟩⟩
      · rw [frozen_of_block hnew, ← frozen_of_block hb]; exact (a3 hf).2 o (by omega)
      · obtain ⟨s, ds, g1, g2, g3, g4⟩ := hd hq
        exact ⟨s, ds, g1, g2, g3, g4.mono k⟩
      · exact (hn hq).2.mono k x
    · rw [List.getElem?_set_ne (fun h => e h.symm)] at hBi
      refine (h.blk i Bi hBi).mono k x (fun b' hb' => ?_) (fun _ _ hs => hs)
      apply hold
      rintro rfl
      have hi : m[i]? = some (some b') := by
        rw [List.getD_eq_getElem?_getD] at hb'
        cases hq : m[i]? with
        | none => rw [hq] at hb'; simp at hb'
        | some q => rw [hq] at hb'; simp at hb'; rw [hb']
      exact e (h.inj i id b' hi hm)
  · intro b' _ hno
    exact hold b' (fun e => hno id (e ▸ hm))
theorem Inv.regrow {w : World} {S : Nat → Prop} {m : List (Option Nat)} {σ : Store} (h : Inv w S m σ) {id : Nat} {c : Array Value} {t : TypeId} {B B' : Blk}
    (hB : σ[id]? = some B) (hf' : B'.frz = false) (hsh : B'.sh = B.sh) (hdy : B'.dyn = B.dyn) (hlt : B.n < B'.n) (hdn : B'.dyn = true) (hd : DynOk w S c B') :
    Stp w S m σ { w with heap := w.heap.push (.cells c t (0, 0)) } S (m.set id (some w.heap.size)) (σ.set id B') := by
  have hid := (List.getElem?_eq_some_iff.1 hB).1
  have hidm : id < m.length := by rw [h.len]; exact hid
  have k : Kp w S { w with heap := w.heap.push (.cells c t (0, 0)) } S := by
    refine ⟨fun _ h => h, fun b hb => ?_, fun b c' t' f' hb => ⟨c', t', f', ?_, rfl⟩, fun b r hb => ⟨r, ?_, rfl⟩⟩
    · show (w.heap.push _)[b]? = _
      rw [Array.getElem?_push, if_neg (by have := h.sdom b hb; omega)]
    · show (w.heap.push _)[b]? = _
      rw [Array.getElem?_push, if_neg]
      · exact hb
      · rintro rfl; simp at hb
    · show (w.heap.push _)[b]? = _
      rw [Array.getElem?_push, if_neg]
      · exact hb
      · rintro rfl; simp at hb
  have hmlt : ∀ (i : Nat) b, m[i]? = some (some b) → b < w.heap.size := by
    intro i b hi
    have hl : i < σ.length := by rw [← h.len]; exact (List.getElem?_eq_some_iff.1 hi).1
    have hB := h.blk i σ[i] (List.getElem?_eq_getElem hl)
    rw [List.getD_eq_getElem?_getD, hi] at hB
    exact BlkOk.lt hB
  have x : TExt (tbl m σ) (tbl (m.set id (some w.heap.size)) (σ.set id B')) := by
    intro j e he
    by_cases hj : j = id
    · subst hj
      unfold tbl at he
      rw [hB] at he
      cases hq : m[j]? with
      | none => rw [hq] at he; simp at he
      | some ob =>
        rw [hq] at he
        simp only [Option.some.injEq] at he
        subst he
        refine ⟨⟨some w.heap.size, B'.sh, B'.dyn, B'.n⟩, ?_, hsh, hdy, Nat.le_of_lt hlt, fun hn => ?_⟩
        · unfold tbl
          rw [List.getElem?_set_self hidm, List.getElem?_set_self hid]
        · simp only at hn; omega
    · refine ⟨e, ?_, rfl, rfl, Nat.le_refl _, fun _ => rfl⟩
      unfold tbl at he ⊢
      rw [List.getElem?_set_ne (fun h => hj h.symm), List.getElem?_set_ne (fun h => hj h.symm)]
      exact he
  have hm' : ∀ (i : Nat) b, (m.set id (some w.heap.size))[i]? = some (some b) → (i ≠ id ∧ m[i]? = some (some b)) ∨ (i = id ∧ b = w.heap.size) := by
    intro i b hi
    by_cases e : i = id
    · subst e
      rw [List.getElem?_set_self hidm] at hi
      simp at hi
      exact .inr ⟨rfl, hi.symm⟩
    · rw [List.getElem?_set_ne (fun h => e h.symm)] at hi
      exact .inl ⟨e, hi⟩
  refine ⟨⟨by simp [h.len], fun b hb => by have := h.sdom b hb; simp; omega, fun b hb x => by rw [k.same b hb]; exact h.scel b hb x, ?_, ?_⟩, ⟨k, rfl, rfl, rfl, by simp, ?_, fun _ h => .inl h, ?_⟩, x⟩
  · intro i j b hi hj
    rcases hm' i b hi with ⟨a1, a2⟩ | ⟨a1, a2⟩ <;> rcases hm' j b hj with ⟨b1, b2⟩ | ⟨b1, b2⟩
    · exact h.inj i j b a2 b2
    · have := hmlt i b a2; omega
    · have := hmlt j b b2; omega
    · rw [a1, b1]
  · intro i Bi hBi
    by_cases e : i = id
    · subst e
      rw [List.getElem?_set_self hid] at hBi
      simp only [Option.some.injEq] at hBi
      subst hBi
      have hg : (m.set i (some w.heap.size)).getD i none = some w.heap.size := by
        rw [List.getD_eq_getElem?_getD, List.getElem?_set_self hidm]; rfl
      rw [hg]
      have hb : ({ w with heap := w.heap.push (.cells c t (0, 0)) } : World).heap[w.heap.size]? = some (.cells c t (0, 0)) := by simp
      refine .inl ⟨c, t, (0, 0), hb, fun hq => by rw [hf'] at hq; simp at hq, fun _ => ⟨fun hs => by have := h.sdom _ hs; omega, fun o ho => ?_⟩, fun _ => ?_, fun hq => by rw [hdn] at hq; simp at hq⟩
      · rw [frozen_of_block hb]; simp
      · obtain ⟨s, ds, g1, g2, g3, g4⟩ := hd
        exact ⟨s, ds, g1, g2, g3, g4.mono k⟩
    · rw [List.getElem?_set_ne (fun h => e h.symm)] at hBi
      have hg : (m.set id (some w.heap.size)).getD i none = m.getD i none := by
        rw [List.getD_eq_getElem?_getD, List.getD_eq_getElem?_getD, List.getElem?_set_ne (fun h => e h.symm)]
      rw [hg]
      refine (h.blk i Bi hBi).mono k x (fun b hb => ?_) (fun _ _ hs => hs)
      have hi : m[i]? = some (some b) := by
        rw [List.getD_eq_getElem?_getD] at hb
        cases hq : m[i]? with
        | none => rw [hq] at hb; simp at hb
        | some q => rw [hq] at hb; simp at hb; rw [hb]
      show (w.heap.push _)[b]? = _
      rw [Array.getElem?_push, if_neg (by have := hmlt i b hi; omega)]
  · intro b hb _
    show (w.heap.push _)[b]? = _
    rw [Array.getElem?_push, if_neg (by omega)]
  · intro i b hi
    rcases hm' i b hi with ⟨_, a2⟩ | ⟨_, a2⟩
    · exact .inl a2
    · exact .inr (by omega)
theorem Inv.freeze {w : World} {S : Nat → Prop} {m : List (Option Nat)} {σ : Store} (h : Inv w S m σ) {id : Nat} {B : Blk} (hB : σ[id]? = some B) :
    Stp w S m σ w (fun b => S b ∨ m[id]? = some (some b)) m (σ.set id { B with frz := true }) := by
  have hid := (List.getElem?_eq_some_iff.1 hB).1
  have hlt : ∀ b, m[id]? = some (some b) → b < w.heap.size := by
    intro b hm
    have hBk := h.blk id B hB
    rw [List.getD_eq_getElem?_getD, hm] at hBk
    exact BlkOk.lt hBk
  have k : Kp w S w (fun b => S b ∨ m[id]? = some (some b)) := ⟨fun _ h => .inl h, fun _ _ => rfl, fun b c t f hb => ⟨c, t, f, hb, rfl⟩, fun _ r hb => ⟨r, hb, rfl⟩⟩
  have hT : tbl m (σ.set id { B with frz := true }) = tbl m σ := by
    funext j
    unfold tbl
    by_cases e : j = id
    · subst e
      rw [List.getElem?_set_self hid, hB]; cases m[j]? <;> rfl
    · rw [List.getElem?_set_ne (fun h => e h.symm)]
  have x : TExt (tbl m σ) (tbl m (σ.set id { B with frz := true })) := by rw [hT]; exact TExt.refl _
  refine ⟨⟨by simp [h.len], fun b hb => ?_, fun b hb x => ?_, h.inj, ?_⟩, ⟨k, rfl, rfl, rfl, Nat.le_refl _, fun _ _ _ => rfl, ?_, fun _ _ h => .inl h⟩, x⟩
  rotate_left
  · rcases hb with hb | hb
    · exact h.scel b hb x
    · intro hx
      have hBk := h.blk id B hB
      rw [List.getD_eq_getElem?_getD, hb] at hBk
      exact BlkOk.nodef hBk hx
  rotate_right
  · rcases hb with hb | hb
    · exact h.sdom b hb
    · exact hlt b hb
  · intro i Bi hBi
    by_cases e : i = id
    · subst e
      rw [List.getElem?_set_self hid] at hBi
      simp only [Option.some.injEq] at hBi
      subst hBi
      have hBk := h.blk i B hB
      obtain ⟨ob, hq⟩ : ∃ ob, m[i]? = some ob := ⟨m[i]'(by rw [h.len]; exact hid), List.getElem?_eq_getElem _⟩
      have hgd : m.getD i none = ob := by rw [List.getD_eq_getElem?_getD, hq]; rfl
      rw [hgd] at hBk ⊢
      · cases ob with
        | none => exact hBk
        | some b =>
          rcases hBk with ⟨c, t, f, h1, h2, h3, h4, h5⟩ | ⟨h1, h2, h3, h4⟩
          · refine .inl ⟨c, t, f, h1, fun _ => .inr hq, fun hf => by simp at hf, fun hd => ?_, fun hd => ⟨(h5 hd).1, (h5 hd).2.mono k x⟩⟩
            obtain ⟨s, ds, g1, g2, g3, g4⟩ := h4 hd
            exact ⟨s, ds, g1, g2, g3, g4.mono k⟩
          · exact .inr ⟨h1, fun _ => .inr hq, fun hf => by simp at hf, h4⟩
    · rw [List.getElem?_set_ne (fun h => e h.symm)] at hBi
      refine (h.blk i Bi hBi).mono k x (fun _ _ => rfl) (fun b hb hs => ?_)
      rcases hs with hs | hs
      · exact hs
      · exfalso
        have hi : m[i]? = some (some b) := by
          rw [List.getD_eq_getElem?_getD] at hb
          cases hq : m[i]? with
          | none => rw [hq] at hb; simp at hb
          | some q => rw [hq] at hb; simp at hb; rw [hb]
        exact e (h.inj i id b hi hs)
  · intro b hb
    rcases hb with hb | hb
    · exact .inl hb
    · exact .inr (.inr ⟨id, hb⟩)
end Go.AX

namespace Go.AX
mutual
def D.eqb : D → D → Bool
  | .int k n, .int k' n' => decide (k = k') && decide (n = n')
  | .bool a, .bool b => a == b
  | .str a, .str b => decide (a.data.toList = b.data.toList)
  | .nilp, .nilp | .nilf, .nilf | .nili, .nili | .nilm, .nilm => true
  | .agg l, .agg l' => D.eqbL l l'
  | .arr s l, .arr s' l' => Sh.eqb s s' && D.eqbL l l'
  | .slc s l, .slc s' l' => Sh.eqb s s' && D.eqbL l l'
  | .vptr s d, .vptr s' d' => Sh.eqb s s' && D.eqb d d'
  | .fn f a b, .fn f' a' b' => decide (f = f') && D.eqbL a a' && D.eqbL b b'
  | .ifc t d, .ifc t' d' => Nat.beq t t' && D.eqb d d'
  | _, _ => false
def D.eqbL : List D → List D → Bool
  | [], [] => true
  | d :: l, d' :: l' => D.eqb d d' && D.eqbL l l'
  | _, _ => false
end
def natsEqb : List Nat → List Nat → Bool
  | [], [] => true
  | a :: l, b :: k => Nat.beq a b && natsEqb l k
  | _, _ => false
mutual
def AV.eqb : AV → AV → Bool
  | .dat d, .dat d' => D.eqb d d'
  | .fslc s l, .fslc s' l' => Sh.eqb s s' && D.eqbL l l'
  | .ptr s i n p, .ptr s' i' n' p' => Sh.eqb s s' && Nat.beq i i' && Nat.beq n n' && natsEqb p p'
  | .sref s i n p o l, .sref s' i' n' p' o' l' => Sh.eqb s s' && Nat.beq i i' && Nat.beq n n' && natsEqb p p' && Nat.beq o o' && Nat.beq l l'
  | .agg l, .agg l' => AV.eqbL l l'
  | .fn f a b, .fn f' a' b' => decide (f = f') && AV.eqbL a a' && AV.eqbL b b'
  | .hnd s i, .hnd s' i' => Sh.eqb s s' && Nat.beq i i'
  | _, _ => false
def AV.eqbL : List AV → List AV → Bool
  | [], [] => true
  | d :: l, d' :: l' => AV.eqb d d' && AV.eqbL l l'
  | _, _ => false
end
mutual
theorem D.eq_of_eqb : ∀ {a b : D}, D.eqb a b = true → a = b
  | .int k n, .int k' n', h => by simp only [D.eqb, Bool.and_eq_true, decide_eq_true_eq] at h; rw [h.1, h.2]
  | .bool a, .bool b, h => by simp only [D.eqb, beq_iff_eq] at h; rw [h]
  | .str a, .str b, h => by
    simp only [D.eqb, decide_eq_true_eq] at h
    have : a.data = b.data := Array.toList_inj.1 h
    cases a; cases b; simp_all
  | .nilp, .nilp, _ => rfl
  | .nilf, .nilf, _ => rfl
  | .nili, .nili, _ => rfl
  | .nilm, .nilm, _ => rfl
  | .agg l, .agg l', h => by rw [D.eqb] at h; rw [D.eqL_of_eqb h]
  | .arr s l, .arr s' l', h => by simp only [D.eqb, Bool.and_eq_true] at h; rw [Sh.eq_of_eqb h.1, D.eqL_of_eqb h.2]
  | .slc s l, .slc s' l', h => by simp only [D.eqb, Bool.and_eq_true] at h; rw [Sh.eq_of_eqb h.1, D.eqL_of_eqb h.2]
  | .vptr s d, .vptr s' d', h => by simp only [D.eqb, Bool.and_eq_true] at h; rw [Sh.eq_of_eqb h.1, D.eq_of_eqb h.2]
  | .fn f a b, .fn f' a' b', h => by simp only [D.eqb, Bool.and_eq_true, decide_eq_true_eq] at h; rw [h.1.1, D.eqL_of_eqb h.1.2, D.eqL_of_eqb h.2]
  | .ifc t d, .ifc t' d', h => by simp only [D.eqb, Bool.and_eq_true] at h; rw [Nat.eq_of_beq_eq_true h.1, D.eq_of_eqb h.2]
  | .int .., .bool _, h | .int .., .str _, h | .int .., .nilp, h | .int .., .nilf, h | .int .., .nili, h | .int .., .nilm, h | .int .., .agg _, h | .int .., .arr .., h | .int .., .slc .., h | .int .., .vptr .., h | .int .., .fn .., h | .int .., .ifc .., h => by simp [D.eqb] at h
  | .bool .., .int .., h | .bool .., .str _, h | .bool .., .nilp, h | .bool .., .nilf, h | .bool .., .nili, h | .bool .., .nilm, h | .bool .., .agg _, h | .bool .., .arr .., h | .bool .., .slc .., h | .bool .., .vptr .., h | .bool .., .fn .., h | .bool .., .ifc .., h => by simp [D.eqb] at h
  | .str .., .int .., h | .str .., .bool _, h | .str .., .nilp, h | .str .., .nilf, h | .str .., .nili, h | .str .., .nilm, h | .str .., .agg _, h | .str .., .arr .., h | .str .., .slc .., h | .str .., .vptr .., h | .str .., .fn .., h | .str .., .ifc .., h => by simp [D.eqb] at h
  | .nilp, .int .., h | .nilp, .bool _, h | .nilp, .str _, h | .nilp, .nilf, h | .nilp, .nili, h | .nilp, .nilm, h | .nilp, .agg _, h | .nilp, .arr .., h | .nilp, .slc .., h | .nilp, .vptr .., h | .nilp, .fn .., h | .nilp, .ifc .., h => by simp [D.eqb] at h
  | .nilf, .int .., h | .nilf, .bool _, h | .nilf, .str _, h | .nilf, .nilp, h | .nilf, .nili, h | .nilf, .nilm, h | .nilf, .agg _, h | .nilf, .arr .., h | .nilf, .slc .., h | .nilf, .vptr .., h | .nilf, .fn .., h | .nilf, .ifc .., h => by simp [D.eqb] at h
  | .nili, .int .., h | .nili, .bool _, h | .nili, .str _, h | .nili, .nilp, h | .nili, .nilf, h | .nili, .nilm, h | .nili, .agg _, h | .nili, .arr .., h | .nili, .slc .., h | .nili, .vptr .., h | .nili, .fn .., h | .nili, .ifc .., h => by simp [D.eqb] at h
  | .nilm, .int .., h | .nilm, .bool _, h | .nilm, .str _, h | .nilm, .nilp, h | .nilm, .nilf, h | .nilm, .nili, h | .nilm, .agg _, h | .nilm, .arr .., h | .nilm, .slc .., h | .nilm, .vptr .., h | .nilm, .fn .., h | .nilm, .ifc .., h => by simp [D.eqb] at h
  | .agg .., .int .., h | .agg .., .bool _, h | .agg .., .str _, h | .agg .., .nilp, h | .agg .., .nilf, h | .agg .., .nili, h | .agg .., .nilm, h | .agg .., .arr .., h | .agg .., .slc .., h | .agg .., .vptr .., h | .agg .., .fn .., h | .agg .., .ifc .., h => by simp [D.eqb] at h
  | .arr .., .int .., h | .arr .., .bool _, h | .arr .., .str _, h | .arr .., .nilp, h | .arr .., .nilf, h | .arr .., .nili, h | .arr .., .nilm, h | .arr .., .agg .., h | .arr .., .slc .., h | .arr .., .vptr .., h | .arr .., .fn .., h | .arr .., .ifc .., h => by simp [D.eqb] at h
  | .slc .., .int .., h | .slc .., .bool _, h | .slc .., .str _, h | .slc .., .nilp, h | .slc .., .nilf, h | .slc .., .nili, h | .slc .., .nilm, h | .slc .., .agg .., h | .slc .., .arr .., h | .slc .., .vptr .., h | .slc .., .fn .., h | .slc .., .ifc .., h => by simp [D.eqb] at h
  | .vptr .., .int .., h | .vptr .., .bool _, h | .vptr .., .str _, h | .vptr .., .nilp, h | .vptr .., .nilf, h | .vptr .., .nili, h | .vptr .., .nilm, h | .vptr .., .agg .., h | .vptr .., .arr .., h | .vptr .., .slc .., h | .vptr .., .fn .., h | .vptr .., .ifc .., h => by simp [D.eqb] at h
  | .fn .., .int .., h | .fn .., .bool _, h | .fn .., .str _, h | .fn .., .nilp, h | .fn .., .nilf, h | .fn .., .nili, h | .fn .., .nilm, h | .fn .., .agg .., h | .fn .., .arr .., h | .fn .., .slc .., h | .fn .., .vptr .., h | .fn .., .ifc .., h => by simp [D.eqb] at h
  | .ifc .., .int .., h | .ifc .., .bool _, h | .ifc .., .str _, h | .ifc .., .nilp, h | .ifc .., .nilf, h | .ifc .., .nili, h | .ifc .., .nilm, h | .ifc .., .agg .., h | .ifc .., .arr .., h | .ifc .., .slc .., h | .ifc .., .vptr .., h | .ifc .., .fn .., h => by simp [D.eqb] at h
theorem D.eqL_of_eqb : ∀ {a b : List D}, D.eqbL a b = true → a = b
  | [], [], _ => rfl
  | d :: l, d' :: l', h => by simp only [D.eqbL, Bool.and_eq_true] at h; rw [D.eq_of_eqb h.1, D.eqL_of_eqb h.2]
  | [], _ :: _, h => by simp [D.eqbL] at h
  | _ :: _, [], h => by simp [D.eqbL] at h
end
theorem natsEq {a b : List Nat} (h : natsEqb a b = true) : a = b := by
  induction a generalizing b with
  | nil => cases b <;> simp_all [natsEqb]
  | cons x l ih =>
    cases b with
    | nil => simp [natsEqb] at h
    | cons y k => simp only [natsEqb, Bool.and_eq_true] at h; rw [Nat.eq_of_beq_eq_true h.1, ih h.2]
mutual
theorem AV.eq_of_eqb : ∀ {a b : AV}, AV.eqb a b = true → a = b
  | .dat a, b, h => by cases b <;> simp only [AV.eqb, Bool.false_eq_true] at h; rw [D.eq_of_eqb h]
  | .fslc s l, b, h => by cases b <;> simp only [AV.eqb, Bool.and_eq_true, Bool.false_eq_true] at h; rw [Sh.eq_of_eqb h.1, D.eqL_of_eqb h.2]
  | .ptr .., b, h => by
    cases b <;> simp only [AV.eqb, Bool.and_eq_true, Bool.false_eq_true] at h
    rw [Sh.eq_of_eqb h.1.1.1, Nat.eq_of_beq_eq_true h.1.1.2, Nat.eq_of_beq_eq_true h.1.2, natsEq h.2]
  | .sref .., b, h => by
    cases b <;> simp only [AV.eqb, Bool.and_eq_true, Bool.false_eq_true] at h
    rw [Sh.eq_of_eqb h.1.1.1.1.1, Nat.eq_of_beq_eq_true h.1.1.1.1.2, Nat.eq_of_beq_eq_true h.1.1.1.2, natsEq h.1.1.2, Nat.eq_of_beq_eq_true h.1.2, Nat.eq_of_beq_eq_true h.2]
  | .agg l, b, h => by cases b <;> simp only [AV.eqb, Bool.false_eq_true] at h; rw [AV.eqL_of_eqb h]
  | .fn f x y, b, h => by
    cases b <;> simp only [AV.eqb, Bool.and_eq_true, Bool.false_eq_true, decide_eq_true_eq] at h
    rw [h.1.1, AV.eqL_of_eqb h.1.2, AV.eqL_of_eqb h.2]
  | .undef, b, h => by cases b <;> simp [AV.eqb] at h
  | .tup _, b, h => by cases b <;> simp [AV.eqb] at h
  | .hnd s i, b, h => by cases b <;> simp only [AV.eqb, Bool.and_eq_true, Bool.false_eq_true] at h; rw [Sh.eq_of_eqb h.1, Nat.eq_of_beq_eq_true h.2]
theorem AV.eqL_of_eqb : ∀ {a b : List AV}, AV.eqbL a b = true → a = b
  | [], [], _ => rfl
  | d :: l, d' :: l', h => by simp only [AV.eqbL, Bool.and_eq_true] at h; rw [AV.eq_of_eqb h.1, AV.eqL_of_eqb h.2]
  | [], _ :: _, h => by simp [AV.eqbL] at h
  | _ :: _, [], h => by simp [AV.eqbL] at h
end
mutual
theorem D.eqb_self : ∀ d : D, D.eqb d d = true
  | .int .. => by simp [D.eqb]
  | .bool _ => by simp [D.eqb]
  | .str _ => by simp [D.eqb]
  | .nilp => rfl
  | .nilf => rfl
  | .nili => rfl
  | .nilm => rfl
  | .agg l => by rw [D.eqb]; exact D.eqbL_self l
  | .arr s l => by rw [D.eqb, Sh.eqb_self, D.eqbL_self l]; rfl
  | .slc s l => by rw [D.eqb, Sh.eqb_self, D.eqbL_self l]; rfl
  | .vptr s d => by rw [D.eqb, Sh.eqb_self, D.eqb_self d]; rfl
  | .fn f a b => by rw [D.eqb, D.eqbL_self a, D.eqbL_self b]; simp
  | .ifc t d => by rw [D.eqb, D.eqb_self d]; simp
theorem D.eqbL_self : ∀ l : List D, D.eqbL l l = true
  | [] => rfl
  | d :: l => by rw [D.eqbL, D.eqb_self d, D.eqbL_self l]; rfl
end
theorem natsEqb_self (l : List Nat) : natsEqb l l = true := by
  induction l with
  | nil => rfl
  | cons x l ih => simp [natsEqb, ih]
end Go.AX
