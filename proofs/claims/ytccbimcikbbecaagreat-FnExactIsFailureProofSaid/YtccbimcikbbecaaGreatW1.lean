/- Part 1 of what the row leans on: A, B, C, D, E, F, G, H, I, J. No statement of the program stands here by itself. -/
import Derived.Calls
import Derived.Orders
import Derived.Laws.AppendOwn
import Derived.Laws.Entries
import Derived.ChangeKeysEq
import Derived.OpenShut
import Derived.Laws.Strings
set_option linter.all false
set_option linter.unusedVariables false
set_option linter.unusedSimpArgs false
/- A logic of my own over the model's Code.wp: abstract values, states, and what a state says of an activation and a world. -/
namespace Go.Proofs.YtccbimcikbbecaaGreat.P1
open Go

/-- Data that nobody changes. A row's elements are lists of cells. -/
inductive AV where
  | int (k : IntKind) (n : Int)
  | bool (b : Bool)
  | str (s : List UInt8)
  | row (es : List (List AV))

/-- How long a row or a string may be. -/
def lim : Nat := 2 ^ 50

/-- Two lists, place by place. -/
inductive All2 {α β : Type} (R : α → β → Prop) : List α → List β → Prop
  | nil : All2 R [] []
  | cons {a b l l'} (h : R a b) (t : All2 R l l') : All2 R (a :: l) (b :: l')

theorem All2.imp {α β : Type} {R S : α → β → Prop} {l : List α} {l' : List β} (hl : All2 R l l') (h : ∀ a b, b ∈ l' → R a b → S a b) : All2 S l l' := by
  induction hl with
  | nil => exact .nil
  | cons h1 _ ih => exact .cons (h _ _ (.head _) h1) (ih fun a b hb => h a b (.tail _ hb))
theorem All2.length {α β : Type} {R : α → β → Prop} {l : List α} {l' : List β} (h : All2 R l l') : l.length = l'.length := by
  induction h with
  | nil => rfl
  | cons _ _ ih => simp [ih]
theorem All2.append {α β : Type} {R : α → β → Prop} {l m : List α} {l' m' : List β} (h : All2 R l l') (h2 : All2 R m m') : All2 R (l ++ m) (l' ++ m') := by
  induction h with
  | nil => exact h2
  | cons h1 _ ih => exact .cons h1 ih
theorem All2.get {α β : Type} {R : α → β → Prop} {l : List α} {l' : List β} (h : All2 R l l') : ∀ (i : Nat) (b : β), l'[i]? = some b → ∃ a, l[i]? = some a ∧ R a b := by
  induction h with
  | nil => intro i b hb; simp at hb
  | cons h1 _ ih =>
    intro i b hb
    cases i with
    | zero => simp at hb; subst hb; exact ⟨_, by simp, h1⟩
    | succ i => simpa using ih i b (by simpa using hb)
theorem All2.of_get {α β : Type} {R : α → β → Prop} {l : List α} {l' : List β} (hn : l.length = l'.length) (h : ∀ (i : Nat) (a : α) (b : β), l[i]? = some a → l'[i]? = some b → R a b) : All2 R l l' := by
  induction l generalizing l' with
  | nil => cases l' with
    | nil => exact .nil
    | cons => simp at hn
  | cons a l ih => cases l' with
    | nil => simp at hn
    | cons b l' => exact .cons (h 0 a b (by simp) (by simp)) (ih (by simpa using hn) fun i a' b' ha hb => h (i + 1) a' b' (by simpa using ha) (by simpa using hb))

/-- Value u reads, in w, as x; what it leads to lies in blocks of F. -/
inductive Rd (w : World) (F : Nat → Prop) : Value → AV → Prop
  | int {k n} (h : (Lit.int k n).wf = true) : Rd w F (.int k n) (.int k n)
  | bool {b} : Rd w F (.bool b) (.bool b)
  | str {s : List UInt8} (h : s.length ≤ lim) : Rd w F (.string ⟨s.toArray⟩) (.str s)
  | emp {A c} (hA : A = none → c = 0) : Rd w F (.slice A 0 c) (.row [])
  | row {b o n c sz : Nat} {es : List (List AV)} (cv : Nat → Nat → Value) (hF : F b) (hn : es.length = n) (hc : n ≤ c) (hl : n ≤ lim) (h0 : 0 < sz)
      (hsz : ∀ i (h : i < es.length), es[i].length = sz)
      (hcell : ∀ i j, i < es.length → j < sz → w.cell? ⟨b, o + i * sz + j, none⟩ = some (cv i j))
      (hrd : ∀ i j (hi : i < es.length) (hj : j < es[i].length), Rd w F (cv i j) es[i][j]) : Rd w F (.slice (some ⟨b, o, none⟩) n c) (.row es)

theorem Rd.mono {w w' : World} {F F' : Nat → Prop} {u : Value} {x : AV} (h : Rd w F u x) (hm : ∀ b, F b → w'.heap[b]? = w.heap[b]?) (hF : ∀ b, F b → F' b) : Rd w' F' u x := by
  induction h with
  | int h => exact .int h
  | bool => exact .bool
  | str h => exact .str h
  | emp hA => exact .emp hA
  | row cv hb hn hc hl h0 hsz hcell _ ih =>
    refine .row cv (hF _ hb) hn hc hl h0 hsz (fun i j hi hj => ?_) (fun i j hi hj => ih i j hi hj)
    exact (World.cell?_of_block (w := w) (w' := w') (hm _ hb)).trans (hcell i j hi hj)

theorem Rd.oneCell {w : World} {F : Nat → Prop} {u : Value} {x : AV} (h : Rd w F u x) : u.oneCell' = true := by cases h <;> rfl

abbrev Key := Nat × Nat
def kbeq (a b : Key) : Bool := Nat.beq a.1 b.1 && Nat.beq a.2 b.2
theorem kbeq_iff {a b : Key} : kbeq a b = true ↔ a = b := by
  obtain ⟨a, a'⟩ := a; obtain ⟨b, b'⟩ := b; simp [kbeq]

/-- One cell's content, as a state knows it: 'lit': a bool that is decided; 'nil': the nil slice; 'own k': the slice of the state's own row k; 'ptr b j': the address of cell j of box b; 'fptr ls': an address from which the cells ls lie; 'optr k sz i j': the address of cell j of element i of row k. -/
inductive Lf where
  | av (x : AV)
  | lit (b : Bool)
  | nil
  | own (k : Key)
  | ptr (b : Key) (j : Nat)
  | fptr (ls : List AV)
  | optr (k : Key) (sz i j : Nat)
  | fn (f : FuncId) (caps : List (Key × Nat))

/-- A value. -/
inductive Sl where
  | lf (l : Lf)
  | agg (ls : List Lf)
  | tup (ss : List Sl)

/-- A row that the function itself made: its element type, the cells of an element, its elements; 'hot': it may still be changed. -/
structure Row where
  e : TypeId
  sz : Nat
  hot : Bool
  es : List (List AV)

inductive Loc where
  | slot (t : Nat)
  | leaf (b : Key) (j : Nat)
  | row (k : Key)

inductive Cell where
  | s (x : Sl)
  | l (x : Lf)
  | r (x : Row)

def Loc.beq : Loc → Loc → Bool
  | .slot a, .slot b => Nat.beq a b
  | .leaf a i, .leaf b j => kbeq a b && Nat.beq i j
  | .row a, .row b => kbeq a b
  | _, _ => false
theorem Loc.beq_iff {a b : Loc} : a.beq b = true ↔ a = b := by
  cases a <;> cases b <;> simp [Loc.beq, kbeq_iff]
theorem Loc.beq_self (a : Loc) : a.beq a = true := Loc.beq_iff.2 rfl
theorem Loc.beq_ne {a b : Loc} (h : a ≠ b) : a.beq b = false := by
  cases hb : a.beq b with
  | false => rfl
  | true => exact absurd (Loc.beq_iff.1 hb) h

/-- A state: what is known of places. -/
abbrev St := List (Loc × Cell)

def St.look : St → Loc → Option Cell
  | [], _ => none
  | (l, c) :: r, x => match l.beq x with
    | true => some c
    | false => St.look r x

/-- A place, or all cells of a box. -/
inductive Pat where
  | at (l : Loc)
  | box (b : Key)
def Pat.hits : Pat → Loc → Bool
  | .at l, x => l.beq x
  | .box b, .leaf b' _ => kbeq b b'
  | .box _, _ => false

/-- What a step changes: places with what they hold now, or with 'none': nothing is known. The first that fits counts. -/
abbrev Dl := List (Pat × Option Cell)

def Dl.look : Dl → Loc → Option (Option Cell)
  | [], _ => none
  | (p, c) :: r, x => match p.hits x with
    | true => some c
    | false => Dl.look r x

def app (look : Loc → Option Cell) (D : Dl) (x : Loc) : Option Cell := match D.look x with
  | some c => c
  | none => look x

/-- The ghosts: m: a box's block; ρ: an own row's slice; F: blocks that are read alone. -/
structure Gh where
  m : Key → Nat
  ρ : Key → Value
  F : Nat → Prop

def LfR (G : Gh) (w : World) (u : Value) : Lf → Prop
  | .av x => Rd w G.F u x
  | .lit b => u = .bool b
  | .nil => u = .slice none 0 0
  | .own k => u = G.ρ k ∧ u.oneCell' = true
  | .ptr b j => u = .pointer (some ⟨G.m b, j, none⟩)
  | .fptr ls => ∃ b o, u = .pointer (some ⟨b, o, none⟩) ∧ G.F b ∧ ∀ k (h : k < ls.length), ∃ c, w.cell? ⟨b, o + k, none⟩ = some c ∧ Rd w G.F c ls[k]
  | .optr k sz i j => ∃ g n c, G.ρ k = .slice (some ⟨g, 0, none⟩) n c ∧ u = .pointer (some ⟨g, i * sz + j, none⟩)
  | .fn f caps => u = .func (.func f) #[] (caps.map fun p => Value.pointer (some ⟨G.m p.1, p.2, none⟩)).toArray

mutual
def SlR (G : Gh) (w : World) : Value → Sl → Prop
  | u, .lf l => LfR G w u l
  | u, .agg ls => ∃ us : List Value, u = .agg us.toArray ∧ All2 (LfR G w) us ls
  | u, .tup ss => ∃ us : List Value, u = .tuple us.toArray ∧ SlsR G w us ss
def SlsR (G : Gh) (w : World) : List Value → List Sl → Prop
  | [], [] => True
  | u :: us, s :: ss => SlR G w u s ∧ SlsR G w us ss
  | [], _ :: _ => False
  | _ :: _, [] => False
end

def RowR (G : Gh) (w : World) (v : Value) (r : Row) : Prop :=
  0 < r.sz ∧ r.es.length ≤ lim ∧ (∀ x ∈ r.es, x.length = r.sz) ∧ (r.hot = false → ∀ g, v.ownBlock = some g → G.F g) ∧
  ∃ xs : List Value, w.ownsRow 0 r.e r.sz v r.es.length xs ∧ All2 (Rd w G.F) xs r.es.flatten

/-- The block of what may be changed at a place. -/
def Gh.blk (G : Gh) : Loc → Cell → Option Nat
  | .leaf b _, .l _ => some (G.m b)
  | .row k, .r r => if r.hot then (G.ρ k).ownBlock else none
  | _, _ => none

/-- Two places of one object. -/
def Loc.same : Loc → Loc → Prop
  | .leaf a _, .leaf b _ => a = b
  | .row a, .row b => a = b
  | _, _ => False

/-- What does not change while a function runs: the world at its entry, the blocks that it was handed to change, what was frozen at its entry, the number of its slots, the blocks of the boxes that it was handed. -/
structure Cx where
  w0 : World
  M : Nat → Prop
  F0 : Nat → Prop
  n : Nat
  pin : Nat → Option Nat

/-! ### Draws are never taken back -/
theorem ask_drawn {α : Type} : ∀ (x : Ask α) (w : World), w.drawn ≤ (w.ask x).2.drawn
  | .done a, w => Nat.le_refl _
  | .ask what range k, w => by
    simp only [World.ask]
    split
    · exact ask_drawn _ w
    · exact Nat.le_trans (Nat.le_succ _) (ask_drawn _ { w with drawn := w.drawn + 1 })
theorem sys_drawn (w : World) (c : Sys) : w.drawn ≤ (w.sys c).2.drawn := by
  have h := ask_drawn (Kernel.perform c w.os) w
  unfold World.sys
  split
  · exact Nat.le_refl _
  · rename_i r os w' he
    rw [he] at h
    exact h
theorem viewStore_drawn {p : Program} {w : World} {at_ : Addr} {u : TypeId} {k : Addr} {v : Value} {atomic : Bool} {r : World × List Addr} (h : w.viewStore p at_ u k v atomic = .ok r) : r.1.drawn = w.drawn := by
  unfold World.viewStore at h
  simp only [bind, Except.bind, pure, Except.pure, throw, throwThe, MonadExceptOf.throw] at h
  repeat' (split at h <;> try (cases h; done))
  all_goals (try (cases h; rfl))
theorem farStore_drawn {p : Program} {w : World} {a : Addr} {v : Value} {atomic : Bool} {r : World × List Addr} (h : w.farStore p a v atomic = .ok r) : r.1.drawn = w.drawn := by
  unfold World.farStore at h
  split at h
  · split at h
    · rename_i r' hr; cases h; exact viewStore_drawn hr
    · cases h
  · cases h
theorem freeze_drawn (w : World) (a : Addr) (n : Nat) : (w.freeze a n).drawn = w.drawn := by
  unfold World.freeze; split <;> rfl
theorem run_drawn {α : Type} {p : Program} : ∀ {s : Sem α} {w : World} {v : α} {w' : World}, s.run p w = .ok v w' → w.drawn ≤ w'.drawn
  | .pure a, w, v, w', h => by simp only [Sem.run] at h; cases h; exact Nat.le_refl _
  | .load m a k, w, v, w', h => by
    simp only [Sem.run] at h
    split at h
    · exact run_drawn h
    · split at h
      · exact run_drawn h
      · cases h
  | .store m a x k, w, v, w', h => by
    cases x <;> simp only [Sem.run] at h
    all_goals first
      | (cases h; done)
      | (split at h
         · split at h
           · cases h
           · have := run_drawn h; exact this
         · split at h
           · rename_i w1 l hf
             have := run_drawn h
             have h2 := farStore_drawn hf
             simp only at h2
             omega
           · cases h)
  | .new o k, w, v, w', h => by
    simp only [Sem.run] at h
    have := run_drawn h; exact this
  | .shape r k, w, v, w', h => by simp only [Sem.run] at h; exact run_drawn h
  | .freeze a n k, w, v, w', h => by
    simp only [Sem.run] at h
    have := run_drawn h; rwa [freeze_drawn] at this
  | .frozen a k, w, v, w', h => by simp only [Sem.run] at h; exact run_drawn h
  | .getObj r k, w, v, w', h => by
    simp only [Sem.run] at h
    split at h
    · cases h
    · exact run_drawn h
    · cases h
  | .setObj r o k, w, v, w', h => by
    simp only [Sem.run] at h
    split at h
    · cases h
    · have := run_drawn h; exact this
    · cases h
  | .choose q k, w, v, w', h => by
    simp only [Sem.run] at h
    split at h
    · exact run_drawn h
    · have := run_drawn h
      simp only at this
      omega
  | .sys c k, w, v, w', h => by
    simp only [Sem.run] at h
    exact Nat.le_trans (sys_drawn w c) (run_drawn h)
  | .program k, w, v, w', h => by simp only [Sem.run] at h; exact run_drawn h
  | .mark m k, w, v, w', h => by simp only [Sem.run] at h; exact run_drawn h
  | .halt e, w, v, w', h => by simp only [Sem.run] at h; cases h

/-- The world has grown out of w0; only blocks of M have changed among w0's. -/
structure Fr (w0 : World) (M : Nat → Prop) (w : World) : Prop where
  os : w.os = w0.os
  tape : w.tape = w0.tape
  output : w.output = w0.output
  size : w0.heap.size ≤ w.heap.size
  block : ∀ i, i < w0.heap.size → ¬ M i → w.heap[i]? = w0.heap[i]?
  drawn : w0.drawn ≤ w.drawn

theorem Fr.refl (w : World) (M : Nat → Prop) : Fr w M w := ⟨rfl, rfl, rfl, Nat.le_refl _, fun _ _ _ => rfl, Nat.le_refl _⟩
theorem Fr.trans {w0 w1 w2 : World} {M M' : Nat → Prop} (h : Fr w0 M w1) (h' : Fr w1 M' w2) (hM : ∀ i, M' i → M i ∨ w0.heap.size ≤ i) : Fr w0 M w2 :=
  ⟨h'.os.trans h.os, h'.tape.trans h.tape, h'.output.trans h.output, Nat.le_trans h.size h'.size,
   fun i hi hn => (h'.block i (Nat.lt_of_lt_of_le hi h.size) (fun hm => (hM i hm).elim hn (fun h => by omega))).trans (h.block i hi hn), Nat.le_trans h.drawn h'.drawn⟩
theorem Fr.mono {w0 w : World} {M M' : Nat → Prop} (h : Fr w0 M w) (hM : ∀ i, M i → M' i) : Fr w0 M' w :=
  ⟨h.os, h.tape, h.output, h.size, fun i hi hn => h.block i hi (fun hm => hn (hM i hm)), h.drawn⟩

/-- The places in memory. -/
structure MemR (G : Gh) (look : Loc → Option Cell) (w : World) : Prop where
  leaf : ∀ b j l, look (.leaf b j) = some (.l l) → ∃ u cur T, w.heap[G.m b]? = some (.cells cur T (0, 0)) ∧ cur[j]? = some u ∧ LfR G w u l
  row : ∀ k r, look (.row k) = some (.r r) → RowR G w (G.ρ k) r
  sep : ∀ l l' c c' g, look l = some c → look l' = some c' → G.blk l c = some g → G.blk l' c' = some g → l.same l'
  cold : ∀ l c g, look l = some c → G.blk l c = some g → ¬ G.F g
  Flt : ∀ b, G.F b → b < w.heap.size

structure Rel (C : Cx) (G : Gh) (look : Loc → Option Cell) (a : Act) (w : World) : Prop extends MemR G look w where
  slot : ∀ t s, look (.slot t) = some (.s s) → t < a.tmps.size ∧ SlR G w (a.tmps.getD t undef) s
  mine : ∀ l c g, look l = some c → G.blk l c = some g → C.w0.heap.size ≤ g ∨ (C.M g ∧ ∃ b j, l = .leaf b j)
  fr : Fr C.w0 C.M w
  F0 : ∀ b, C.F0 b → G.F b
  Fnew : ∀ b, G.F b → C.F0 b ∨ C.w0.heap.size ≤ b
  defers : a.defers = []
  size : C.n ≤ a.tmps.size
  pin : ∀ i g, C.pin i = some g → G.m (C.n, i) = g

def RelE (C : Cx) (look : Loc → Option Cell) (a : Act) (w : World) : Prop := ∃ G, Rel C G look a w

/-- Less is known. -/
def Less (look' look : Loc → Option Cell) : Prop := ∀ l c, look' l = some c → look l = some c

theorem MemR.less {G : Gh} {look look' : Loc → Option Cell} {w : World} (h : MemR G look w) (hl : Less look' look) : MemR G look' w :=
  ⟨fun b j l e => h.leaf b j l (hl _ _ e), fun k r e => h.row k r (hl _ _ e), fun l l' c c' g e e' => h.sep l l' c c' g (hl _ _ e) (hl _ _ e'),
   fun l c g e => h.cold l c g (hl _ _ e), h.Flt⟩

theorem Rel.less {C : Cx} {G : Gh} {look look' : Loc → Option Cell} {a : Act} {w : World} (h : Rel C G look a w) (hl : Less look' look) : Rel C G look' a w :=
  { h.toMemR.less hl with
    slot := fun t s e => h.slot t s (hl _ _ e), mine := fun l c g e => h.mine l c g (hl _ _ e), fr := h.fr, F0 := h.F0, Fnew := h.Fnew, defers := h.defers, size := h.size, pin := h.pin }

/-! ### The keys that a value names -/
def Lf.keys : Lf → List Key
  | .own k | .optr k _ _ _ | .ptr k _ => [k]
  | .fn _ caps => caps.map (·.1)
  | _ => []
mutual
def Sl.keys : Sl → List Key
  | .lf l => l.keys
  | .agg ls => ls.flatMap Lf.keys
  | .tup ss => Sl.keysL ss
def Sl.keysL : List Sl → List Key
  | [] => []
  | s :: ss => s.keys ++ Sl.keysL ss
end

/-! ### What stays while memory changes elsewhere and ghosts grow -/
section
variable {G G' : Gh} {w w' : World}

/-- From G in w to G' in w': what was read is still so. -/
structure Step (G G' : Gh) (w w' : World) : Prop where
  mem : ∀ b, G.F b → w'.heap[b]? = w.heap[b]?
  F : ∀ b, G.F b → G'.F b

theorem LfR.keep {u : Value} {l : Lf} (h : LfR G w u l) (hs : Step G G' w w') (hk : ∀ k ∈ l.keys, G'.m k = G.m k ∧ G'.ρ k = G.ρ k) : LfR G' w' u l := by
  cases l with
  | av x => exact Rd.mono h hs.mem hs.F
  | fptr ls =>
    obtain ⟨b, o, e, hF, hc⟩ := h
    refine ⟨b, o, e, hs.F _ hF, fun k hk => ?_⟩
    obtain ⟨c, h1, h2⟩ := hc k hk
    exact ⟨c, (World.cell?_of_block (w := w) (w' := w') (hs.mem _ hF)).trans h1, h2.mono hs.mem hs.F⟩
  | lit b => exact h
  | nil => exact h
  | own k => exact ⟨Eq.trans h.1 (hk k (by simp [Lf.keys])).2.symm, h.2⟩
  | ptr b j => have := (hk b (by simp [Lf.keys])).1; simp only [LfR, this] at h ⊢; exact h
  | optr k sz i j =>
    have := (hk k (by simp [Lf.keys])).2
    simp only [LfR, this] at h ⊢; exact h
  | fn f caps =>
    have hh : (caps.map fun p => Value.pointer (some ⟨G'.m p.1, p.2, none⟩)) = caps.map fun p => Value.pointer (some ⟨G.m p.1, p.2, none⟩) :=
      List.map_congr_left fun p hp => by rw [(hk p.1 (by simp only [Lf.keys, List.mem_map]; exact ⟨p, hp, rfl⟩)).1]
    simp only [LfR, hh] at h ⊢; exact h

mutual
theorem SlR.keep (hs : Step G G' w w') : ∀ {u : Value} {s : Sl}, SlR G w u s → (∀ k ∈ s.keys, G'.m k = G.m k ∧ G'.ρ k = G.ρ k) → SlR G' w' u s
  | _, .lf _, h, hk => LfR.keep h hs (by simpa [Sl.keys] using hk)
  | _, .agg ls, h, hk => by
    obtain ⟨us, e, hl⟩ := h
    refine ⟨us, e, hl.imp fun _ b hb hh => LfR.keep hh hs fun k hkk => hk k ?_⟩
    simp only [Sl.keys, List.mem_flatMap]
    exact ⟨b, hb, hkk⟩
  | _, .tup _, h, hk => by
    obtain ⟨us, e, hl⟩ := h
    exact ⟨us, e, SlsR.keep hs hl (by simpa [Sl.keys] using hk)⟩
theorem SlsR.keep (hs : Step G G' w w') : ∀ {us : List Value} {ss : List Sl}, SlsR G w us ss → (∀ k ∈ Sl.keysL ss, G'.m k = G.m k ∧ G'.ρ k = G.ρ k) → SlsR G' w' us ss
  | [], [], _, _ => trivial
  | _ :: _, _ :: _, h, hk => ⟨SlR.keep hs h.1 fun k hkk => hk k (by simp only [Sl.keysL, List.mem_append]; exact .inl hkk), SlsR.keep hs h.2 fun k hkk => hk k (by simp only [Sl.keysL, List.mem_append]; exact .inr hkk)⟩
  | [], _ :: _, h, _ => h.elim
  | _ :: _, [], h, _ => h.elim
end

theorem RowR.keep {v : Value} {r : Row} (h : RowR G w v r) (hs : Step G G' w w') (hv : r.hot = true → ∀ g, v.ownBlock = some g → w'.heap[g]? = w.heap[g]?) : RowR G' w' v r := by
  obtain ⟨h0, h1, h2, h3, xs, ⟨hx, ho⟩, hf⟩ := h
  refine ⟨h0, h1, h2, fun hh g hg => hs.F g (h3 hh g hg), xs, ⟨hx, ?_⟩, hf.imp fun _ _ _ hh => hh.mono hs.mem hs.F⟩
  rcases ho with ho | ⟨g, cap, cur, rfl, hb, hg, rest⟩
  · exact .inl ho
  · refine .inr ⟨g, cap, cur, rfl, hb, ?_, rest⟩
    cases hh : r.hot with
    | true => exact (hv hh g rfl).trans hg
    | false => exact (hs.mem g (h3 hh g rfl)).trans hg
end

end Go.Proofs.YtccbimcikbbecaaGreat.P1
/- What each operation that only computes a value does to a state, and that it is so in the model. -/
namespace Go.Proofs.YtccbimcikbbecaaGreat.P1
open Go

/-! ### Types -/
inductive TK where
  | bool
  | int (k : IntKind)
  | string
  | slice (e : TypeId)
  | struct (fs : List (Nat × Nat × Bool))
  | other

/-- Of a type: its shape (of a struct's fields: offset, cells, is it an aggregate), cells, bytes, the cells of its zero value. -/
structure TD where
  k : TK
  size : Nat
  bytes : Nat
  zero : List Lf

abbrev TI := TypeId → Option TD

def TD.agg (d : TD) : Bool := match d.k with
  | .struct _ => true
  | _ => false

def zeroOk : List Value → List Lf → Bool
  | [], [] => true
  | .int k n :: r, .av (.int k' n') :: r' => decide (k = k') && decide (n = n') && (Lit.int k n).wf && zeroOk r r'
  | .bool b :: r, .lit b' :: r' => b == b' && zeroOk r r'
  | .string s :: r, .av (.str []) :: r' => s.data.toList.isEmpty && zeroOk r r'
  | .slice none 0 0 :: r, .nil :: r' => zeroOk r r'
  | _, _ => false

def isAggB (P : Program) (t : TypeId) : Bool := match P.underlying t with
  | some (.struct _) | some (.array ..) => true
  | _ => false

def fieldsOk (P : Program) : List Field → List (Nat × Nat × Bool) → Bool
  | [], [] => true
  | f :: fs, x :: xs => f.offset == x.1 && (match P.info? f.type with | some i => i.size == x.2.1 | none => false) && decide (0 < x.2.1) && (P.underlying f.type).isSome && isAggB P f.type == x.2.2 && fieldsOk P fs xs
  | _, _ => false

def kOk (P : Program) : TK → TypeDesc → Bool
  | .bool, .bool => true
  | .int k, .int k' => decide (k = k')
  | .string, .string => true
  | .slice e, .slice e' => e == e'
  | .struct fs, .struct fs' => fieldsOk P fs'.toList fs
  | .other, .struct _ => false
  | .other, .array .. => false
  | .other, _ => true
  | _, _ => false

def tdOk (P : Program) (t : TypeId) (d : TD) : Bool := match P.info? t, P.underlying t with
  | some i, some u => decide (d.zero.length = d.size ∧ 0 < d.bytes) && (i.size == d.size && i.bytes == d.bytes && decide (0 < d.size) && (match i.zero with | some z => zeroOk z.cells.toList d.zero && (match z with | .agg _ => d.agg | _ => !d.agg) | none => false) && kOk P d.k u)
  | _, _ => false

/-- The table tells what the program says. -/
def TOk (P : Program) (T : TI) : Prop := ∀ t d, T t = some d → tdOk P t d = true

section
variable {P : Program} {T : TI} {t : TypeId} {d : TD} {w : World}

structure TFacts (P : Program) (t : TypeId) (d : TD) : Prop where
  ex : ∃ i u z, P.info? t = some i ∧ P.underlying t = some u ∧ i.size = d.size ∧ i.bytes = d.bytes ∧ i.zero = some z ∧ zeroOk z.cells.toList d.zero = true ∧ kOk P d.k u = true ∧ (match z with | .agg _ => d.agg | _ => !d.agg) = true
  pos : 0 < d.size
  zl : d.zero.length = d.size
  bpos : 0 < d.bytes

theorem TOk.facts (h : TOk P T) (ht : T t = some d) : TFacts P t d := by
  have h1 := h t d ht
  unfold tdOk at h1
  split at h1
  · rename_i i u hi hu
    simp only [Bool.and_eq_true, beq_iff_eq, decide_eq_true_eq] at h1
    obtain ⟨h6, ⟨⟨⟨h1, h2⟩, h3⟩, h4⟩, h5⟩ := h1
    cases hz : i.zero with
    | none => rw [hz] at h4; cases h4
    | some z =>
      rw [hz] at h4
      simp only [Bool.and_eq_true] at h4
      exact ⟨⟨i, u, z, hi, hu, h1, h2, hz, h4.1, h5, h4.2⟩, h3, h6.1, h6.2⟩
  · cases h1

theorem TFacts.rSize (h : TFacts P t d) (w : World) : (sizeOf t).run P w = .ok d.size w := by
  obtain ⟨i, u, z, hi, _, hs, _⟩ := h.ex
  simp [Go.sizeOf, typeInfo, program, Sem.run, hi, hs]

theorem TFacts.rAgg (h : TFacts P t d) (w : World) : (isAgg t).run P w = .ok d.agg w := by
  obtain ⟨i, u, z, hi, hu, hs, hb, hz, hzo, hk, _⟩ := h.ex
  simp only [Go.isAgg, Sem.run_bind, run_underlying hu, Result.andThen_ok]
  unfold TD.agg
  cases hdk : d.k <;> rw [hdk] at hk <;> cases u <;> simp [kOk] at hk ⊢

theorem TFacts.rZero (h : TFacts P t d) : ∃ z, (∀ w, (zeroValue t).run P w = .ok z w) ∧ zeroOk z.cells.toList d.zero = true ∧ (match z with | .agg _ => d.agg | _ => !d.agg) = true := by
  obtain ⟨i, u, z, hi, hu, hs, hb, hz, hzo, hk, hzk⟩ := h.ex
  exact ⟨z, fun w => by simp [Go.zeroValue, typeInfo, program, Sem.run, hi, hz], hzo, hzk⟩

theorem TFacts.rSlice {e : TypeId} (h : TFacts P t d) (he : d.k = .slice e) : P.underlying t = some (.slice e) := by
  obtain ⟨i, u, z, hi, hu, hs, hb, hz, hzo, hk, _⟩ := h.ex
  rw [he] at hk
  cases u <;> simp [kOk] at hk
  rw [hu, hk]

theorem TFacts.rBool (h : TFacts P t d) (he : d.k = .bool) : P.underlying t = some .bool := by
  obtain ⟨i, u, z, hi, hu, hs, hb, hz, hzo, hk, _⟩ := h.ex
  rw [he] at hk
  cases u <;> simp [kOk] at hk
  exact hu

theorem TFacts.rInt {k : IntKind} (h : TFacts P t d) (he : d.k = .int k) : P.underlying t = some (.int k) := by
  obtain ⟨i, u, z, hi, hu, hs, hb, hz, hzo, hk, _⟩ := h.ex
  rw [he] at hk
  cases u <;> simp [kOk] at hk
  rw [hu, hk]

theorem TFacts.rString (h : TFacts P t d) (he : d.k = .string) : P.underlying t = some .string := by
  obtain ⟨i, u, z, hi, hu, hs, hb, hz, hzo, hk, _⟩ := h.ex
  rw [he] at hk
  cases u <;> simp [kOk] at hk
  exact hu

theorem fieldsOk_get : ∀ {fs : List Field} {xs : List (Nat × Nat × Bool)}, fieldsOk P fs xs = true → ∀ (j : Nat) (x : Nat × Nat × Bool), xs[j]? = some x →
    ∃ f, fs[j]? = some f ∧ f.offset = x.1 ∧ 0 < x.2.1 ∧ (∀ w, (sizeOf f.type).run P w = .ok x.2.1 w) ∧ (∀ w, (isAgg f.type).run P w = .ok x.2.2 w)
  | [], [], _, j, x, hx => by simp at hx
  | f :: fs, y :: xs, h, j, x, hx => by
    simp only [fieldsOk, Bool.and_eq_true, beq_iff_eq, decide_eq_true_eq] at h
    obtain ⟨⟨⟨⟨⟨h1, h2⟩, h3⟩, h4⟩, h5⟩, h6⟩ := h
    cases j with
    | zero =>
      simp at hx
      subst hx
      refine ⟨f, by simp, h1, h3, fun w => ?_, fun w => ?_⟩
      · cases hi : P.info? f.type with
        | none => rw [hi] at h2; cases h2
        | some i =>
          rw [hi] at h2
          simp only [beq_iff_eq] at h2
          simp [Go.sizeOf, typeInfo, program, Sem.run, hi, h2]
      · cases hu : P.underlying f.type with
        | none => rw [hu] at h4; cases h4
        | some u =>
          simp only [isAggB, hu] at h5
          simp only [Go.isAgg, Sem.run_bind, run_underlying hu, Result.andThen_ok]
          cases u <;> simp at h5 ⊢ <;> exact h5
    | succ j => simpa using fieldsOk_get h6 j x (by simpa using hx)
  | [], _ :: _, h, _, _, _ => by simp [fieldsOk] at h
  | _ :: _, [], h, _, _, _ => by simp [fieldsOk] at h

theorem TFacts.rStruct {fs : List (Nat × Nat × Bool)} (h : TFacts P t d) (he : d.k = .struct fs) :
    ∃ fs' : Array Field, P.underlying t = some (.struct fs') ∧ ∀ (j : Nat) (x : Nat × Nat × Bool), fs[j]? = some x →
      ∃ f, fs'[j]? = some f ∧ f.offset = x.1 ∧ 0 < x.2.1 ∧ (∀ w, (sizeOf f.type).run P w = .ok x.2.1 w) ∧ (∀ w, (isAgg f.type).run P w = .ok x.2.2 w) := by
  obtain ⟨i, u, z, hi, hu, hs, hb, hz, hzo, hk, _⟩ := h.ex
  rw [he] at hk
  cases u <;> simp [kOk] at hk
  rename_i fs'
  exact ⟨fs', hu, fun j x hx => by simpa using fieldsOk_get hk j x hx⟩
end

/-! ### Reading operands -/
def ofConst : Value → Option Sl
  | .int k n => match (Lit.int k n).wf with
    | true => some (.lf (.av (.int k n)))
    | false => none
  | .bool b => some (.lf (.lit b))
  | .string s => match Nat.ble s.data.toList.length 4096 with
    | true => some (.lf (.av (.str s.data.toList)))
    | false => none
  | .slice none 0 0 => some (.lf .nil)
  | _ => none

def rdS (look : Loc → Option Cell) (x : Operand) (k : Sl → List Loc → Prop) : Prop := match x with
  | .tmp t => match look (.slot t) with
    | some (.s s) => k s [.slot t]
    | _ => False
  | .const v => match ofConst v with
    | some s => k s []
    | none => False
  | .func f => k (.lf (.fn f [])) []
  | .global _ => False

section
variable {C : Cx} {G : Gh} {look : Loc → Option Cell} {a : Act} {w : World}

theorem ofConst_sound {v : Value} {s : Sl} (h : ofConst v = some s) : SlR G w v s := by
  unfold ofConst at h
  split at h
  · split at h
    · cases h; rename_i hw; exact Rd.int hw
    · cases h
  · cases h; rfl
  · rename_i s0
    split at h
    · cases h
      rename_i hb
      have : s0.data.toList.length ≤ lim := Nat.le_trans (Nat.le_of_ble_eq_true hb) (by decide)
      exact Rd.str this
    · cases h
  · cases h; rfl
  · cases h

theorem rdS_sound (hr : Rel C G look a w) {x : Operand} {k : Sl → List Loc → Prop} (h : rdS look x k) : ∃ s R, k s R ∧ SlR G w (a.eval x) s := by
  unfold rdS at h
  split at h
  · split at h
    · rename_i hs; exact ⟨_, _, h, (hr.slot _ _ hs).2⟩
    · exact h.elim
  · split at h
    · rename_i hs; exact ⟨_, _, h, ofConst_sound hs⟩
    · exact h.elim
  · exact ⟨_, _, h, by simp [SlR, LfR, Act.eval]⟩
  · exact h.elim
end

/-! ### Operations that only compute -/
def lfAV : Lf → Option AV
  | .av x => some x
  | .lit b => some (.bool b)
  | .nil => some (.row [])
  | _ => none

theorem lfAV_sound {G : Gh} {w : World} {u : Value} {l : Lf} {x : AV} (h : lfAV l = some x) (hr : LfR G w u l) : Rd w G.F u x := by
  cases l <;> simp [lfAV] at h
  · subst h; exact hr
  · subst h; simp only [LfR] at hr; subst hr; exact .bool
  · subst h; simp only [LfR] at hr; subst hr; exact .emp fun _ => rfl

def intOp (op : BinOp) (k : IntKind) (a b : Int) (K : AV → Prop) : Prop := match op with
  | .add => K (.int k (k.wrap (a + b)))
  | .sub => K (.int k (k.wrap (a - b)))
  | .mul => K (.int k (k.wrap (a * b)))
  | .quo => b ≠ 0 ∧ K (.int k (k.wrap (a.tdiv b)))
  | .rem => b ≠ 0 ∧ K (.int k (a.tmod b))
  | .and => K (.int k (k.wrap (BitVec.ofInt k.bits a &&& BitVec.ofInt k.bits b).toNat))
  | .xor => K (.int k (k.wrap (BitVec.ofInt k.bits a ^^^ BitVec.ofInt k.bits b).toNat))
  | .or => K (.int k (k.wrap (BitVec.ofInt k.bits a ||| BitVec.ofInt k.bits b).toNat))
  | .shr => 0 ≤ b ∧ K (.int k (a.fdiv (2 ^ min b.toNat k.bits)))
  | .eql => K (.bool (decide (a = b)))
  | .neq => K (.bool (!decide (a = b)))
  | .lss => K (.bool (decide (a < b)))
  | .leq => K (.bool (decide (a ≤ b)))
  | .gtr => K (.bool (decide (b < a)))
  | .geq => K (.bool (decide (b ≤ a)))
  | _ => False

def strOp (op : BinOp) (a b : List UInt8) (K : AV → Prop) : Prop := match op with
  | .add => a.length + b.length ≤ lim ∧ K (.str (a ++ b))
  | .eql => K (.bool (a == b))
  | .neq => K (.bool (!(a == b)))
  | .lss => K (.bool (Op.bytesLess a b))
  | .leq => K (.bool (Op.bytesLess a b || a == b))
  | .gtr => K (.bool (!(Op.bytesLess a b || a == b)))
  | .geq => K (.bool (!Op.bytesLess a b))
  | _ => False

def binA (T : TI) (op : BinOp) (t : TypeId) (x y : AV) (K : AV → Prop) : Prop := match x, y with
  | .int k a, .int k' b => match decide (k = k') with
    | true => intOp op k a b K
    | false => False
  | .str a, .str b => strOp op a b K
  | .bool a, .bool b => match T t with
    | some d => match d.k, op with
      | .bool, .eql => K (.bool (a == b))
      | .bool, .neq => K (.bool (!(a == b)))
      | _, _ => False
    | none => False
  | _, _ => False

def getFields (T : TI) (t : TypeId) (f : Nat) (K : Nat → Nat → Bool → Prop) : Prop := match T t with
  | some d => match d.k with
    | .struct fs => match fs[f]? with
      | some x => K x.1 x.2.1 x.2.2
      | none => False
    | _ => False
  | none => False

def leaves (look : Loc → Option Cell) (b : Key) : Nat → Nat → (List Lf → List Loc → Prop) → Prop
  | 0, _, k => k [] []
  | n + 1, j, k => match look (.leaf b j) with
    | some (.l l) => leaves look b n (j + 1) fun ls R => k (l :: ls) (.leaf b j :: R)
    | _ => False

def capsW (look : Loc → Option Cell) : List Operand → (List (Key × Nat) → List Loc → Prop) → Prop
  | [], k => k [] []
  | x :: r, k => rdS look x fun s R => match s with
    | .lf (.ptr b j) => capsW look r fun cs R' => k ((b, j) :: cs) (R ++ R')
    | _ => False

/-- The cells of a value. -/
def Sl.leafs : Sl → Option (List Lf)
  | .lf l => some [l]
  | .agg ls => some ls
  | .tup _ => none

def partsW (look : Loc → Option Cell) (fs : List (Nat × Nat × Bool)) : List (Nat × Operand) → List Lf → (List Lf → List Loc → Prop) → Prop
  | [], ls, k => k ls []
  | (i, x) :: r, ls, k => match fs[i]? with
    | some f => rdS look x fun s R => match s.leafs with
      | some vs => match Nat.beq vs.length f.2.1 && Nat.ble (f.1 + f.2.1) ls.length with
        | true => partsW look fs r (ls.take f.1 ++ vs ++ ls.drop (f.1 + f.2.1)) fun ls' R' => k ls' (R ++ R')
        | false => False
      | none => False
    | none => False

def bndW (look : Loc → Option Cell) (x : Option Operand) (dflt : Nat) (k : Int → List Loc → Prop) : Prop := match x with
  | none => k dflt []
  | some x => rdS look x fun s R => match s with
    | .lf (.av (.int _ n)) => k n R
    | _ => False

def valW (T : TI) (op : Op) (look : Loc → Option Cell) (k : Sl → List Loc → Prop) : Prop := match op with
  | .move x | .assign x => rdS look x k
  | .pick c a b => rdS look c fun s R => match s with
    | .lf (.lit true) => rdS look a fun s R' => k s (R ++ R')
    | .lf (.lit false) => rdS look b fun s R' => k s (R ++ R')
    | .lf (.av (.bool cb)) => (cb = true → rdS look a fun s R' => k s (R ++ R')) ∧ (cb = false → rdS look b fun s R' => k s (R ++ R'))
    | _ => False
  | .load t x => match T t with
    | some d => rdS look x fun s R => match s with
      | .lf (.ptr b j) => match d.agg with
        | true => leaves look b d.size j fun ls R' => k (.agg ls) (R ++ R')
        | false => leaves look b 1 j fun ls R' => match ls with
          | [l] => k (.lf l) (R ++ R')
          | _ => False
      | .lf (.fptr ls) => match d.agg with
        | true => match Nat.ble d.size ls.length with
          | true => k (.agg ((ls.take d.size).map .av)) R
          | false => False
        | false => match ls with
          | x :: _ => k (.lf (.av x)) R
          | [] => False
      | .lf (.optr q sz i j) => match look (.row q) with
        | some (.r r) => match Nat.beq r.sz sz with
          | true => ∃ e, r.es[i]? = some e ∧ match d.agg with
            | true => match Nat.ble (j + d.size) e.length with
              | true => k (.agg (((e.drop j).take d.size).map .av)) (.row q :: R)
              | false => False
            | false => match e.drop j with
              | x :: _ => k (.lf (.av x)) (.row q :: R)
              | [] => False
          | false => False
        | _ => False
      | _ => False
    | none => False
  | .nilCheck x => rdS look x fun s R => match s with
    | .lf (.ptr b j) => k (.lf (.ptr b j)) R
    | .lf (.fptr ls) => k (.lf (.fptr ls)) R
    | _ => False
  | .binOp op t x y _ => rdS look x fun s R => rdS look y fun s' R' => match s, s' with
    | .lf l, .lf l' => match lfAV l, lfAV l' with
      | some a, some b => binA T op t a b fun v => k (.lf (.av v)) (R ++ R')
      | _, _ => False
    | _, _ => False
  | .unOp op _ x => rdS look x fun s R => match op, s with
    | .not, .lf (.lit b) => match b with
      | true => k (.lf (.lit false)) R
      | false => k (.lf (.lit true)) R
    | .not, .lf (.av (.bool b)) => k (.lf (.av (.bool (!b)))) R
    | .neg, .lf (.av (.int kk n)) => k (.lf (.av (.int kk (kk.wrap (0 - n))))) R
    | _, _ => False
  | .makeFunc (.func f) first captured => match first.toList with
    | [] => capsW look captured.toList fun cs R => k (.lf (.fn f cs)) R
    | _ => False
  | .fieldAddr t x f => rdS look x fun s R => getFields T t f fun off _ _ => match s with
    | .lf (.ptr b j) => k (.lf (.ptr b (j + off))) R
    | .lf (.fptr ls) => k (.lf (.fptr (ls.drop off))) R
    | .lf (.optr q sz i j) => k (.lf (.optr q sz i (j + off))) R
    | _ => False
  | .field t x f => rdS look x fun s R => getFields T t f fun off n ag => match s with
    | .agg ls => match Nat.ble (off + n) ls.length with
      | true => match ag with
        | true => k (.agg ((ls.drop off).take n)) R
        | false => match ls.drop off with
          | l :: _ => k (.lf l) R
          | [] => False
      | false => False
    | _ => False
  | .indexAddr t x ix => match T t with
    | some d => match d.k with
      | .slice e => match T e with
        | some de => rdS look x fun s R => rdS look ix fun s' R' => match s, s' with
          | .lf (.av (.row es)), .lf (.av (.int _ n)) => ∃ x, 0 ≤ n ∧ es[n.toNat]? = some x ∧ x.length = de.size ∧ k (.lf (.fptr x)) (R ++ R')
          | .lf (.own q), .lf (.av (.int _ n)) => match look (.row q) with
            | some (.r r) => match Nat.beq r.sz de.size with
              | true => 0 ≤ n ∧ n < r.es.length ∧ k (.lf (.optr q de.size n.toNat 0)) (.row q :: (R ++ R'))
              | false => False
            | _ => False
          | _, _ => False
        | none => False
      | _ => False
    | none => False
  | .index t x ix => match T t with
    | some d => match d.k with
      | .string => rdS look x fun s R => rdS look ix fun s' R' => match s, s' with
        | .lf (.av (.str a)), .lf (.av (.int _ n)) => ∃ c, 0 ≤ n ∧ a[n.toNat]? = some c ∧ k (.lf (.av (.int .u8 c.toNat))) (R ++ R')
        | _, _ => False
      | _ => False
    | none => False
  | .extract x i => rdS look x fun s R => match s with
    | .tup ss => match ss[i]? with
      | some s => k s R
      | none => False
    | _ => False
  | .build t parts => match T t with
    | some d => match d.k with
      | .struct fs => partsW look fs parts.toList d.zero fun ls R => k (.agg ls) R
      | _ => False
    | none => False
  | .slice t x lo hi mx => match mx with
    | some _ => False
    | none => match T t with
      | some d => rdS look x fun s R => match d.k, s with
        | .string, .lf (.av (.str a)) => bndW look lo 0 fun l R' => bndW look hi a.length fun h R'' =>
            0 ≤ l ∧ l ≤ h ∧ h ≤ a.length ∧ k (.lf (.av (.str ((a.take h.toNat).drop l.toNat)))) (R ++ (R' ++ R''))
        | .slice e, .lf (.av (.row es)) => match T e with
          | some de => bndW look lo 0 fun l R' => bndW look hi es.length fun h R'' =>
            0 ≤ l ∧ l ≤ h ∧ h ≤ es.length ∧ (∀ x ∈ es, x.length = de.size) ∧ k (.lf (.av (.row ((es.take h.toNat).drop l.toNat)))) (R ++ (R' ++ R''))
          | none => False
        | _, _ => False
      | none => False
  | .convert src dst x => match T dst with
    | some d => match d.k with
      | .int kd => rdS look x fun s R => match s with
        | .lf (.av (.int _ n)) => k (.lf (.av (.int kd (kd.wrap n)))) R
        | _ => False
      | _ => False
    | none => False
  | _ => False

end Go.Proofs.YtccbimcikbbecaaGreat.P1
/- The operations that only compute, in the model: what valW says is so. -/
namespace Go.Proofs.YtccbimcikbbecaaGreat.P1
open Go

section
variable {P : Program} {T : TI} {C : Cx} {G : Gh} {look : Loc → Option Cell} {a : Act} {w : World}

theorem leaf_cell (hr : MemR G look w) {b : Key} {j : Nat} {l : Lf} (h : look (.leaf b j) = some (.l l)) :
    ∃ u, w.cell? ⟨G.m b, j, none⟩ = some u ∧ LfR G w u l := by
  obtain ⟨u, cur, T, h1, h2, h3⟩ := hr.leaf b j l h
  exact ⟨u, by simp [World.cell?, h1, h2], h3⟩

theorem leaves_sound (hr : MemR G look w) {b : Key} : ∀ {n j : Nat} {k : List Lf → List Loc → Prop}, leaves look b n j k →
    ∃ ls R us, k ls R ∧ us.length = n ∧ (∀ (i : Nat) (u : Value), us[i]? = some u → w.cell? ⟨G.m b, j + i, none⟩ = some u) ∧ All2 (LfR G w) us ls
  | 0, _, _, h => ⟨[], [], [], h, rfl, fun i u hu => by simp at hu, .nil⟩
  | n + 1, j, k, h => by
    simp only [leaves] at h
    split at h
    · rename_i l hl
      obtain ⟨ls, R, us, hk, hn, hc, ha⟩ := leaves_sound hr h
      obtain ⟨u, hu, hul⟩ := leaf_cell hr hl
      refine ⟨_, _, u :: us, hk, by simp [hn], fun i v hv => ?_, .cons hul ha⟩
      cases i with
      | zero => simp at hv; subst hv; exact hu
      | succ i =>
        have := hc i v (by simpa using hv)
        rwa [show j + 1 + i = j + (i + 1) by omega] at this
    · exact h.elim

theorem addr_add (b o n : Nat) : Addr.add ⟨b, o, none⟩ n = ⟨b, o + n, none⟩ := Addr.add_lit b o n

/-- A load of cells that are known. -/
theorem run_loadVar {t : TypeId} {d : TD} (hf : TFacts P t d) {b o : Nat} {us : List Value} (hn : us.length = d.size)
    (hc : ∀ (i : Nat) (u : Value), us[i]? = some u → w.cell? ⟨b, o + i, none⟩ = some u) :
    (loadVar t ⟨b, o, none⟩).run P w = .ok (if d.agg then .agg us.toArray else us.getD 0 undef) w := by
  unfold loadVar
  simp only [Sem.run_bind, hf.rAgg, Result.andThen_ok]
  cases hd : d.agg with
  | true =>
    simp only [if_true, Sem.run_bind, hf.rSize, Result.andThen_ok]
    have := run_loadCells_list (P := P) w ⟨b, o, none⟩ us (fun j v hv => by rw [addr_add]; exact hc j v hv)
    rw [hn] at this
    simp [this]
  | false =>
    have h0 : 0 < us.length := by rw [hn]; exact hf.pos
    have := hc 0 us[0] (by simp)
    simp only [Nat.add_zero] at this
    simp [run_load, this, List.getD, List.getElem?_eq_getElem h0]

theorem loadAt_run {t : TypeId} {d : TD} (hf : TFacts P t d) {b o : Nat} {us : List Value} (hn : us.length = d.size)
    (hc : ∀ (i : Nat) (u : Value), us[i]? = some u → w.cell? ⟨b, o + i, none⟩ = some u) :
    (Instr.loadAt t (.pointer (some ⟨b, o, none⟩))).run P w = .ok (if d.agg then .agg us.toArray else us.getD 0 undef) w := by
  simp only [Instr.loadAt, Instr.sureAddr, Sem.run_bind, Sem.run_pure, Result.andThen_ok]
  exact run_loadVar hf hn hc

theorem exec_value {s : Sem Value} {v : Value} {w' : World} (h : s.run P w = .ok v w') :
    (do pure (Next.value (← s)) : Sem Next).run P w = .ok (.value v) w' := by
  simp [h]

/-- What valW says of an operation: it gives a value that reads so, and the world is as it was (but for draws, of which there are none). -/
def ValOk (P : Program) (G : Gh) (w : World) (a : Act) (o : Oper) (k : Sl → List Loc → Prop) : Prop :=
  ∃ s R u, k s R ∧ (execOp a.eval o).run P w = .ok (.value u) w ∧ SlR G w u s

theorem val_move (hr : Rel C G look a w) {o : Oper} {x : Operand} (ho : o.op = .move x ∨ o.op = .assign x) {k : Sl → List Loc → Prop} (h : rdS look x k) : ValOk P G w a o k := by
  obtain ⟨s, R, hk, hs⟩ := rdS_sound hr h
  refine ⟨s, R, _, hk, ?_, hs⟩
  rcases ho with ho | ho <;> simp [execOp, ho]

theorem val_pick (hr : Rel C G look a w) {o : Oper} {c x y : Operand} (ho : o.op = .pick c x y) {k : Sl → List Loc → Prop} (h : valW T (.pick c x y) look k) : ValOk P G w a o k := by
  simp only [valW] at h
  obtain ⟨s, R, h, hs⟩ := rdS_sound hr h
  have key : ∀ cb : Bool, a.eval c = .bool cb → ∀ z, z = (if cb then x else y) → rdS look z (fun s R' => k s (R ++ R')) → ValOk P G w a o k := by
    intro cb hc z hz hh
    obtain ⟨s', R', hk, hs'⟩ := rdS_sound hr hh
    refine ⟨s', _, _, hk, ?_, hs'⟩
    simp only [execOp, ho, Sem.run_bind, hc, asBool, Sem.run_pure, Result.andThen_ok]
    subst hz
    cases cb <;> rfl
  split at h
  · exact key true hs x rfl h
  · exact key false hs y rfl h
  · rename_i cb
    have hc : a.eval c = .bool cb := by
      have : Rd w G.F (a.eval c) (.bool cb) := hs
      generalize a.eval c = u at this
      cases this
      rfl
    cases cb with
    | true => exact key true hc x rfl (h.1 rfl)
    | false => exact key false hc y rfl (h.2 rfl)
  · exact h.elim

theorem flatten_get {es : List (List AV)} {sz : Nat} (hsz : ∀ x ∈ es, x.length = sz) {i : Nat} {e : List AV} (hi : es[i]? = some e) {j : Nat} (hj : j < sz) : es.flatten[i * sz + j]? = e[j]? := by
  induction es generalizing i with
  | nil => simp at hi
  | cons x es ih =>
    have hx : x.length = sz := hsz x (.head _)
    cases i with
    | zero =>
      simp at hi
      subst hi
      rw [List.flatten_cons, Nat.zero_mul, Nat.zero_add, List.getElem?_append_left (by omega)]
    | succ i =>
      rw [List.flatten_cons, List.getElem?_append_right (by rw [hx, Nat.succ_mul]; omega)]
      rw [show (i + 1) * sz + j - x.length = i * sz + j by rw [hx, Nat.succ_mul]; omega]
      exact ih (fun y hy => hsz y (.tail _ hy)) (by simpa using hi)

/-- An own row's cells. -/
theorem row_cells {v : Value} {r : Row} (h : RowR G w v r) {g n c : Nat} (hv : v = .slice (some ⟨g, 0, none⟩) n c) {i : Nat} {e : List AV} (hi : r.es[i]? = some e) {j : Nat} {x : AV} (hj : e[j]? = some x) :
    ∃ u, w.cell? ⟨g, i * r.sz + j, none⟩ = some u ∧ Rd w G.F u x := by
  obtain ⟨h0, h1, h2, _, xs, ho, hf⟩ := h
  subst hv
  have hlen : e.length = r.sz := h2 e (List.mem_of_getElem? hi)
  have hjl : j < r.sz := by
    have := (List.getElem?_eq_some_iff.1 hj).1
    omega
  have hg := flatten_get h2 hi hjl
  obtain ⟨u, hu, hru⟩ := hf.get _ x (by rw [hg]; exact hj)
  refine ⟨u, ?_, hru⟩
  obtain ⟨hl, ho⟩ := ho
  rcases ho with ⟨hv, _⟩ | ⟨g', cap, cur, hv, _, hb, hn, hm, hs, ht⟩
  · cases hv
  · cases hv
    rw [← ht] at hu
    have hlt : i * r.sz + j < r.es.length * r.sz := by
      have := (List.getElem?_eq_some_iff.1 hi).1
      calc i * r.sz + j < i * r.sz + r.sz := by omega
        _ = (i + 1) * r.sz := by rw [Nat.succ_mul]
        _ ≤ r.es.length * r.sz := Nat.mul_le_mul_right _ this
    rw [List.getElem?_take_of_lt hlt] at hu
    simp only [World.cell?, hb]
    simpa using hu

theorem run_loadVar1 {t : TypeId} {d : TD} (hf : TFacts P t d) (hd : d.agg = false) {b o : Nat} {u : Value} (hc : w.cell? ⟨b, o, none⟩ = some u) :
    (Instr.loadAt t (.pointer (some ⟨b, o, none⟩))).run P w = .ok u w := by
  simp only [Instr.loadAt, Instr.sureAddr, Sem.run_bind, Sem.run_pure, Result.andThen_ok, loadVar, hf.rAgg, hd]
  simp [run_load, hc]

theorem exec_load {o : Oper} {t : TypeId} {x : Operand} (ho : o.op = .load t x) {u : Value} (h : (Instr.loadAt t (a.eval x)).run P w = .ok u w) : (execOp a.eval o).run P w = .ok (.value u) w := by
  simp [execOp, ho, h]

theorem all2_map_av {us : List Value} {es : List AV} (h : All2 (Rd w G.F) us es) : All2 (LfR G w) us (es.map .av) := by
  induction h with
  | nil => exact .nil
  | cons h1 _ ih => exact .cons h1 ih

/-- Cells that read as a list of data: the values. -/
theorem cells_read {b o : Nat} : ∀ (ls : List AV), (∀ k (h : k < ls.length), ∃ c, w.cell? ⟨b, o + k, none⟩ = some c ∧ Rd w G.F c ls[k]) →
    ∃ us : List Value, us.length = ls.length ∧ (∀ (i : Nat) (u : Value), us[i]? = some u → w.cell? ⟨b, o + i, none⟩ = some u) ∧ All2 (Rd w G.F) us ls
  | [], _ => ⟨[], rfl, fun i u hu => by simp at hu, .nil⟩
  | x :: ls, h => by
    obtain ⟨c, h1, h2⟩ := h 0 (by simp)
    have : ∃ us : List Value, us.length = ls.length ∧ (∀ (i : Nat) (u : Value), us[i]? = some u → w.cell? ⟨b, (o + 1) + i, none⟩ = some u) ∧ All2 (Rd w G.F) us ls :=
      cells_read (o := o + 1) ls fun k hk => by
        obtain ⟨c, h1, h2⟩ := h (k + 1) (by simpa using hk)
        exact ⟨c, by rwa [show o + (k + 1) = o + 1 + k by omega] at h1, by simpa using h2⟩
    obtain ⟨us, h3, h4, h5⟩ := this
    refine ⟨c :: us, by simp [h3], fun i u hu => ?_, .cons (by simpa using h2) h5⟩
    cases i with
    | zero => simp at hu; subst hu; simpa using h1
    | succ i =>
      have := h4 i u (by simpa using hu)
      rwa [show o + 1 + i = o + (i + 1) by omega] at this

theorem val_load (hT : TOk P T) (hr : Rel C G look a w) {o : Oper} {t : TypeId} {x : Operand} (ho : o.op = .load t x) {k : Sl → List Loc → Prop} (h : valW T (.load t x) look k) : ValOk P G w a o k := by
  simp only [valW] at h
  split at h
  · rename_i d hd
    have hf := hT.facts hd
    obtain ⟨s, R, h, hs⟩ := rdS_sound hr h
    split at h
    · -- a box
      rename_i b j
      have hu : a.eval x = .pointer (some ⟨G.m b, j, none⟩) := hs
      split at h
      · rename_i hag
        obtain ⟨ls, R', us, hk, hn, hc, h2⟩ := leaves_sound hr.toMemR h
        refine ⟨_, _, _, hk, exec_load ho (u := .agg us.toArray) ?_, us, rfl, h2⟩
        rw [hu, loadAt_run hf hn hc, hag]
        rfl
      · rename_i hag
        obtain ⟨ls, R', us, hk, hn, hc, h2⟩ := leaves_sound hr.toMemR h
        cases h2 with
        | nil => simp at hn
        | cons h1 h2 =>
          cases h2 with
          | cons => simp at hn
          | nil =>
            rename_i u l
            refine ⟨_, _, u, hk, exec_load ho ?_, h1⟩
            rw [hu]
            exact run_loadVar1 hf hag (by simpa using hc 0 u (by simp))
    · -- what is read alone
      rename_i ls
      obtain ⟨b, o', hu, hF, hc⟩ : ∃ b o, a.eval x = .pointer (some ⟨b, o, none⟩) ∧ G.F b ∧ ∀ k (h : k < ls.length), ∃ c, w.cell? ⟨b, o + k, none⟩ = some c ∧ Rd w G.F c ls[k] := hs
      split at h
      · rename_i hag
        split at h
        · rename_i hb
          have hle := Nat.le_of_ble_eq_true hb
          obtain ⟨us, h3, h4, h5⟩ := cells_read (G := G) (w := w) (b := b) (o := o') (ls.take d.size) (fun k hk => by
            have hk' : k < ls.length := by simp at hk; omega
            obtain ⟨c, h1, h2⟩ := hc k hk'
            exact ⟨c, h1, by simpa using h2⟩)
          refine ⟨_, _, _, h, exec_load ho (u := .agg us.toArray) ?_, us, rfl, all2_map_av h5⟩
          rw [hu, loadAt_run hf (by rw [h3]; simp; omega) h4, hag]
          rfl
        · exact h.elim
      · rename_i hag
        split at h
        · rename_i x' ls'
          obtain ⟨c, h1, h2⟩ := hc 0 (by simp)
          refine ⟨_, _, c, h, exec_load ho ?_, by simpa [SlR, LfR] using h2⟩
          rw [hu]
          exact run_loadVar1 hf hag (by simpa using h1)
        · exact h.elim
    · -- an own row's element
      rename_i q sz i j
      obtain ⟨g, n, c, hq, hu⟩ : ∃ g n c, G.ρ q = .slice (some ⟨g, 0, none⟩) n c ∧ a.eval x = .pointer (some ⟨g, i * sz + j, none⟩) := hs
      split at h
      · rename_i r hrow
        have hR := hr.row q r hrow
        split at h
        · rename_i hb
          have hsz : r.sz = sz := Nat.eq_of_beq_eq_true hb
          subst hsz
          obtain ⟨e, hi, h⟩ := h
          have hcell : ∀ jj y, e[jj]? = some y → ∃ u, w.cell? ⟨g, i * r.sz + jj, none⟩ = some u ∧ Rd w G.F u y := fun jj y hy => row_cells hR hq hi hy
          split at h
          · rename_i hag
            split at h
            · rename_i hb2
              have hle := Nat.le_of_ble_eq_true hb2
              obtain ⟨us, h3, h4, h5⟩ := cells_read (G := G) (w := w) (b := g) (o := i * r.sz + j) ((e.drop j).take d.size) (fun k hk => by
                have hk' : j + k < e.length := by simp at hk; omega
                obtain ⟨u, h1, h2⟩ := hcell (j + k) e[j + k] (by simp [hk'])
                exact ⟨u, by rw [Nat.add_assoc]; exact h1, by simpa using h2⟩)
              refine ⟨_, _, _, h, exec_load ho (u := .agg us.toArray) ?_, us, rfl, all2_map_av h5⟩
              rw [hu, loadAt_run hf (by rw [h3]; simp; omega) h4, hag]
              rfl
            · exact h.elim
          · rename_i hag
            split at h
            · rename_i x' ls' hdrop
              have hj : e[j]? = some x' := by
                have := congrArg (fun l : List AV => l[0]?) hdrop
                simpa using this
              obtain ⟨u, h1, h2⟩ := hcell j x' hj
              refine ⟨_, _, u, h, exec_load ho ?_, h2⟩
              rw [hu]
              exact run_loadVar1 hf hag h1
            · exact h.elim
        · exact h.elim
      · exact h.elim
    · exact h.elim
  · exact h.elim
end
end Go.Proofs.YtccbimcikbbecaaGreat.P1
/- The rest of the operations that only compute. -/
namespace Go.Proofs.YtccbimcikbbecaaGreat.P1
open Go

section
variable {P : Program} {T : TI} {C : Cx} {G : Gh} {look : Loc → Option Cell} {a : Act} {w : World}

theorem val_nilCheck (hr : Rel C G look a w) {o : Oper} {x : Operand} (ho : o.op = .nilCheck x) {k : Sl → List Loc → Prop} (h : valW T (.nilCheck x) look k) : ValOk P G w a o k := by
  simp only [valW] at h
  obtain ⟨s, R, h, hs⟩ := rdS_sound hr h
  split at h
  · have hu : a.eval x = .pointer (some ⟨_, _, none⟩) := hs
    exact ⟨_, _, _, h, by simp only [execOp, ho, hu]; rfl, rfl⟩
  · obtain ⟨b, o', hu, hF, hc⟩ := hs
    exact ⟨_, _, _, h, by simp only [execOp, ho, hu]; rfl, b, o', rfl, hF, hc⟩
  · exact h.elim

theorem rd_int {F : Nat → Prop} {u : Value} {k : IntKind} {n : Int} (h : Rd w F u (.int k n)) : u = .int k n ∧ (Lit.int k n).wf = true := by
  cases h; exact ⟨rfl, by assumption⟩
theorem rd_bool {F : Nat → Prop} {u : Value} {b : Bool} (h : Rd w F u (.bool b)) : u = .bool b := by
  cases h; rfl
theorem rd_str {F : Nat → Prop} {u : Value} {s : List UInt8} (h : Rd w F u (.str s)) : u = .string ⟨s.toArray⟩ ∧ s.length ≤ lim := by
  cases h; exact ⟨rfl, by assumption⟩

theorem wf_of {k : IntKind} {n : Int} (h1 : k.min ≤ n) (h2 : n ≤ k.max) : (Lit.int k n).wf = true := by simp [Lit.wf, h1, h2]
theorem wf_iff {k : IntKind} {n : Int} : (Lit.int k n).wf = true ↔ k.min ≤ n ∧ n ≤ k.max := by simp [Lit.wf]
theorem min_le0 (k : IntKind) : k.min ≤ 0 := by cases k <;> decide
theorem max_ge0 (k : IntKind) : 0 ≤ k.max := by cases k <;> decide

theorem tmod_wf {k : IntKind} {a b : Int} (ha : (Lit.int k a).wf = true) : (Lit.int k (a.tmod b)).wf = true := by
  rw [wf_iff] at ha ⊢
  have h0 := min_le0 k
  have h1 := max_ge0 k
  rcases Int.le_total 0 a with h | h
  · have h2 := Int.tmod_nonneg b h
    have h3 : a.tmod b ≤ a := by
      rw [← Int.natAbs_of_nonneg h2, ← Int.natAbs_of_nonneg h, Int.natAbs_tmod]
      exact_mod_cast Nat.mod_le _ _
    omega
  · have h2 : (-a).tmod b = -(a.tmod b) := Int.neg_tmod a b
    have h3 := Int.tmod_nonneg b (a := -a) (by omega)
    have h4 : (-a).tmod b ≤ -a := by
      rw [← Int.natAbs_of_nonneg h3, ← Int.natAbs_of_nonneg (a := -a) (by omega), Int.natAbs_tmod]
      exact_mod_cast Nat.mod_le _ _
    omega

theorem fdiv_wf {k : IntKind} {a : Int} {n : Nat} (ha : (Lit.int k a).wf = true) : (Lit.int k (a.fdiv (2 ^ n))).wf = true := by
  rw [wf_iff] at ha ⊢
  have hp : (0 : Int) < 2 ^ n := Int.pow_pos (by decide)
  have h0 := min_le0 k
  have h1 := max_ge0 k
  rw [Int.fdiv_eq_ediv_of_nonneg _ (Int.le_of_lt hp)]
  rcases Int.le_total 0 a with h | h
  · have h2 := Int.ediv_nonneg h (Int.le_of_lt hp)
    have h3 := Int.ediv_le_self (2 ^ n : Int) h
    omega
  · have h2 : a / (2 ^ n) ≤ 0 := Int.ediv_nonpos_of_nonpos_of_neg h (by omega) |> fun h => by first | exact h | omega
    have h3 : a ≤ a / (2 ^ n) := by
      have := Int.mul_ediv_add_emod a (2 ^ n)
      have h4 := Int.emod_nonneg a (Int.ne_of_gt hp)
      have h5 : (2 ^ n : Int) * (a / 2 ^ n) ≤ 1 * (a / 2 ^ n) := Int.mul_le_mul_of_nonpos_right (by omega) h2
      have h6 : a / 2 ^ n * 2 ^ n ≤ a := Int.ediv_mul_le a (Int.ne_of_gt hp)
      rcases Int.lt_or_le (a / 2 ^ n) a with h7 | h7
      · exfalso
        have h8 := Int.emod_lt_of_pos a hp
        have h9 : a / 2 ^ n + 1 ≤ a := h7
        have h10 : (2 ^ n : Int) * (a / 2 ^ n) + 2 ^ n > a := by omega
        have h11 : (2 ^ n : Int) * (a / 2 ^ n + 1) = 2 ^ n * (a / 2 ^ n) + 2 ^ n := by rw [Int.mul_add, Int.mul_one]
        have h12 : (2 ^ n : Int) * (a / 2 ^ n + 1) ≤ 2 ^ n * a := Int.mul_le_mul_of_nonneg_left h9 (Int.le_of_lt hp)
        have h13 : (2 ^ n : Int) * a ≤ 1 * a := Int.mul_le_mul_of_nonpos_right (by omega) h
        omega
      · exact h7
    omega

theorem intOp_sound {op : BinOp} {k : IntKind} {x y : Int} {K : AV → Prop} (h : intOp op k x y K) (hx : (Lit.int k x).wf = true) (t : TypeId) (F : Nat → Prop) :
    ∃ v u, K v ∧ (binOp op t (.int k x) (.int k y)).run P w = .ok u w ∧ Rd w F u v := by
  cases op <;> simp only [intOp] at h
  case add => exact ⟨_, _, h, by simp [binOp, Op.intArith], .int (wf_wrap _ _)⟩
  case sub => exact ⟨_, _, h, by simp [binOp, Op.intArith], .int (wf_wrap _ _)⟩
  case mul => exact ⟨_, _, h, by simp [binOp, Op.intArith], .int (wf_wrap _ _)⟩
  case quo => exact ⟨_, _, h.2, by simp [binOp, Op.intDiv, h.1], .int (wf_wrap _ _)⟩
  case rem => exact ⟨_, _, h.2, by simp [binOp, Op.intDiv, h.1], .int (tmod_wf hx)⟩
  case and => exact ⟨_, _, h, by simp [binOp, Op.intBits], .int (wf_wrap _ _)⟩
  case or => exact ⟨_, _, h, by simp [binOp, Op.intBits], .int (wf_wrap _ _)⟩
  case xor => exact ⟨_, _, h, by simp [binOp, Op.intBits], .int (wf_wrap _ _)⟩
  case shr => exact ⟨_, _, h.2, by simp only [binOp, Op.shift]; rw [if_neg (by omega)]; rfl, .int (fdiv_wf hx)⟩
  case eql => exact ⟨_, _, h, by simp only [binOp, Op.intCmp, ne_eq, not_true_eq_false, if_false]; rfl, by rw [show (x == y) = decide (x = y) from rfl]; exact .bool⟩
  case neq => exact ⟨_, _, h, by simp only [binOp, Op.intCmp, ne_eq, not_true_eq_false, if_false]; rfl, by rw [show (x != y) = !decide (x = y) from rfl]; exact .bool⟩
  case lss => exact ⟨_, _, h, by simp only [binOp, Op.intCmp, ne_eq, not_true_eq_false, if_false]; rfl, .bool⟩
  case leq => exact ⟨_, _, h, by simp only [binOp, Op.intCmp, ne_eq, not_true_eq_false, if_false]; rfl, .bool⟩
  case gtr => exact ⟨_, _, h, by simp only [binOp, Op.intCmp, ne_eq, not_true_eq_false, if_false]; rfl, .bool⟩
  case geq => exact ⟨_, _, h, by simp only [binOp, Op.intCmp, ne_eq, not_true_eq_false, if_false]; rfl, .bool⟩

theorem bytes_toList (s : List UInt8) : (⟨s.toArray⟩ : ByteArray).toList = s := by
  rw [ByteArray.toList_eq]

theorem strOp_sound {op : BinOp} {x y : List UInt8} {K : AV → Prop} (h : strOp op x y K) (t : TypeId) (F : Nat → Prop) :
    ∃ v u, K v ∧ (binOp op t (.string ⟨x.toArray⟩) (.string ⟨y.toArray⟩)).run P w = .ok u w ∧ Rd w F u v := by
  have hb : binOp op t (.string ⟨x.toArray⟩) (.string ⟨y.toArray⟩) = Op.stringOp op ⟨x.toArray⟩ ⟨y.toArray⟩ := by cases op <;> rfl
  rw [hb]
  cases op <;> simp only [strOp] at h
  case add =>
    refine ⟨_, .string (⟨x.toArray⟩ ++ ⟨y.toArray⟩), h.2, ?_, ?_⟩
    · simp only [Op.stringOp]
      rw [if_neg]
      · rfl
      · have h1 : (⟨x.toArray⟩ : ByteArray).size = x.length := by simp [ByteArray.size]
        have h2 : (⟨y.toArray⟩ : ByteArray).size = y.length := by simp [ByteArray.size]
        have h3 := h.1
        rw [h1, h2, IntKind.max_i64]
        unfold lim at h3
        omega
    · have : (⟨x.toArray⟩ ++ ⟨y.toArray⟩ : ByteArray) = ⟨(x ++ y).toArray⟩ := by
        apply ByteArray.ext
        simp
      rw [this]
      exact .str (by simpa using h.1)
  case eql => exact ⟨_, _, h, by simp only [Op.stringOp, bytes_toList]; rfl, .bool⟩
  case neq => exact ⟨_, _, h, by simp only [Op.stringOp, bytes_toList]; rfl, .bool⟩
  case lss => exact ⟨_, _, h, by simp only [Op.stringOp, bytes_toList]; rfl, .bool⟩
  case leq => exact ⟨_, _, h, by simp only [Op.stringOp, bytes_toList]; rfl, .bool⟩
  case gtr => exact ⟨_, _, h, by simp only [Op.stringOp, bytes_toList]; rfl, .bool⟩
  case geq => exact ⟨_, _, h, by simp only [Op.stringOp, bytes_toList]; rfl, .bool⟩

theorem run_equalIn_bool {t : TypeId} (hu : P.underlying t = some .bool) (d : Nat) (a b : Bool) (w : World) : (Op.equalIn (d + 1) t (.bool a) (.bool b)).run P w = .ok (a == b) w := by
  simp [Op.equalIn, run_underlying hu]
theorem run_equal_bool {t : TypeId} (hu : P.underlying t = some .bool) (a b : Bool) (w : World) : (Op.equal t (.bool a) (.bool b)).run P w = .ok (a == b) w :=
  run_equalIn_bool hu 9999 a b w

theorem binA_sound (hT : TOk P T) {op : BinOp} {t : TypeId} {x y : AV} {K : AV → Prop} (h : binA T op t x y K) {F : Nat → Prop} {u v : Value} (hx : Rd w F u x) (hy : Rd w F v y) :
    ∃ z r, K z ∧ (binOp op t u v).run P w = .ok r w ∧ Rd w F r z ∧ ∀ X Y, eqGuard op t X Y u v = pure () := by
  unfold binA at h
  split at h
  · obtain ⟨rfl, hw⟩ := rd_int hx
    obtain ⟨rfl, _⟩ := rd_int hy
    split at h
    · rename_i hk
      have hk := of_decide_eq_true hk
      subst hk
      obtain ⟨z, r, h1, h2, h3⟩ := intOp_sound (P := P) (w := w) h hw t F
      exact ⟨z, r, h1, h2, h3, fun X Y => eqGuard_at_int ..⟩
    · exact h.elim
  · obtain ⟨rfl, _⟩ := rd_str hx
    obtain ⟨rfl, _⟩ := rd_str hy
    obtain ⟨z, r, h1, h2, h3⟩ := strOp_sound (P := P) (w := w) h t F
    exact ⟨z, r, h1, h2, h3, fun X Y => eqGuard_at_string ..⟩
  · obtain rfl := rd_bool hx
    obtain rfl := rd_bool hy
    split at h
    · rename_i d hd
      have hf := hT.facts hd
      split at h
      · rename_i hk
        refine ⟨_, _, h, ?_, .bool, fun X Y => eqGuard_at_bool ..⟩
        simp only [binOp, Sem.run_bind, run_equal_bool (hf.rBool hk), Result.andThen_ok]
        rfl
      · rename_i hk
        refine ⟨_, _, h, ?_, .bool, fun X Y => eqGuard_at_bool ..⟩
        simp only [binOp, Sem.run_bind, run_equal_bool (hf.rBool hk), Result.andThen_ok]
        rfl
      · exact h.elim
    · exact h.elim
  · exact h.elim

theorem val_binOp (hT : TOk P T) (hr : Rel C G look a w) {o : Oper} {op : BinOp} {t yt : TypeId} {x y : Operand} (ho : o.op = .binOp op t x y yt) {k : Sl → List Loc → Prop} (h : valW T (.binOp op t x y yt) look k) : ValOk P G w a o k := by
  simp only [valW] at h
  obtain ⟨s, R, h, hs⟩ := rdS_sound hr h
  obtain ⟨s', R', h, hs'⟩ := rdS_sound hr h
  split at h
  · split at h
    · rename_i la lb _ _ x' y' hx' hy'
      obtain ⟨z, r, h1, h2, h3, h4⟩ := binA_sound (P := P) hT h (lfAV_sound hx' hs) (lfAV_sound hy' hs')
      refine ⟨_, _, r, h1, ?_, h3⟩
      simp [execOp, ho, h4, h2]
    · exact h.elim
  · exact h.elim

theorem val_unOp (hr : Rel C G look a w) {o : Oper} {op : UnOp} {t : TypeId} {x : Operand} (ho : o.op = .unOp op t x) {k : Sl → List Loc → Prop} (h : valW T (.unOp op t x) look k) : ValOk P G w a o k := by
  simp only [valW] at h
  obtain ⟨s, R, h, hs⟩ := rdS_sound hr h
  split at h
  · have hu : a.eval x = .bool _ := hs
    split at h
    · exact ⟨_, _, _, h, by simp only [execOp, ho, hu, Op.unary]; rfl, rfl⟩
    · exact ⟨_, _, _, h, by simp only [execOp, ho, hu, Op.unary]; rfl, rfl⟩
  · have hu := rd_bool (show Rd w G.F (a.eval x) (.bool _) from hs)
    exact ⟨_, _, _, h, by simp only [execOp, ho, hu, Op.unary]; rfl, .bool⟩
  · have hu := (rd_int (show Rd w G.F (a.eval x) (.int _ _) from hs)).1
    exact ⟨_, _, _, h, by simp only [execOp, ho, hu, Op.unary, Op.intArith]; rfl, .int (wf_wrap _ _)⟩
  · exact h.elim

theorem capsW_sound (hr : Rel C G look a w) : ∀ {l : List Operand} {k : List (Key × Nat) → List Loc → Prop}, capsW look l k →
    ∃ cs R, k cs R ∧ l.map a.eval = cs.map fun p => Value.pointer (some ⟨G.m p.1, p.2, none⟩)
  | [], _, h => ⟨[], [], h, rfl⟩
  | x :: r, k, h => by
    simp only [capsW] at h
    obtain ⟨s, R, h, hs⟩ := rdS_sound hr h
    split at h
    · obtain ⟨cs, R', hk, he⟩ := capsW_sound hr h
      have hu : a.eval x = .pointer (some ⟨_, _, none⟩) := hs
      exact ⟨_, _, hk, by simp only [List.map_cons, he, hu]⟩
    · exact h.elim

theorem val_makeFunc (hr : Rel C G look a w) {o : Oper} {fn : Fn} {first caps : Array Operand} (ho : o.op = .makeFunc fn first caps) {k : Sl → List Loc → Prop} (h : valW T (.makeFunc fn first caps) look k) : ValOk P G w a o k := by
  cases fn <;> simp only [valW] at h
  split at h
  · rename_i f _ hf
    obtain ⟨cs, R, hk, he⟩ := capsW_sound hr h
    have hf' : first = #[] := by cases first; simp_all
    subst hf'
    refine ⟨_, _, .func (.func f) #[] (caps.map a.eval), hk, by simp [execOp, ho, Instr.makeFunc], ?_⟩
    simp only [SlR, LfR]
    congr 1
    apply Array.ext'
    rw [Array.toList_map, he]
  · exact h.elim

theorem getFields_sound (hT : TOk P T) {t : TypeId} {f : Nat} {K : Nat → Nat → Bool → Prop} (h : getFields T t f K) :
    ∃ off n ag, K off n ag ∧ ∃ (fs' : Array Field) (fl : Field), P.underlying t = some (.struct fs') ∧ fs'[f]? = some fl ∧ fl.offset = off ∧ 0 < n ∧ (∀ w, (sizeOf fl.type).run P w = .ok n w) ∧ (∀ w, (isAgg fl.type).run P w = .ok ag w) := by
  unfold getFields at h
  split at h
  · rename_i d hd
    split at h
    · rename_i fs hk
      obtain ⟨fs', hu, hfs⟩ := (hT.facts hd).rStruct hk
      split at h
      · rename_i x hx
        obtain ⟨fl, h1, h2, h3, h4, h5⟩ := hfs _ _ hx
        exact ⟨_, _, _, h, fs', fl, hu, h1, h2, h3, h4, h5⟩
      · exact h.elim
    · exact h.elim
  · exact h.elim

theorem run_fieldAt {t : TypeId} {fs' : Array Field} {f : Nat} {fl : Field} {n : Nat} (hu : P.underlying t = some (.struct fs')) (hf : fs'[f]? = some fl) (h0 : 0 < n) (hs : ∀ w, (sizeOf fl.type).run P w = .ok n w) (b o : Nat) :
    (Instr.fieldAt t (.pointer (some ⟨b, o, none⟩)) f).run P w = .ok (.pointer (some ⟨b, o + fl.offset, none⟩)) w := by
  simp only [Instr.fieldAt, Sem.run_bind, run_underlying hu, Result.andThen_ok, hf, Instr.sureAddr, Sem.run_pure, fieldPlace, hs]
  rw [if_neg (by omega)]
  simp [addr_add]

theorem val_fieldAddr (hT : TOk P T) (hr : Rel C G look a w) {o : Oper} {t : TypeId} {x : Operand} {f : Nat} (ho : o.op = .fieldAddr t x f) {k : Sl → List Loc → Prop} (h : valW T (.fieldAddr t x f) look k) : ValOk P G w a o k := by
  simp only [valW] at h
  obtain ⟨s, R, h, hs⟩ := rdS_sound hr h
  obtain ⟨off, n, ag, h, fs', fl, hu, hf, ho', h0, hsz, _⟩ := getFields_sound hT h
  split at h
  · have hv : a.eval x = .pointer (some ⟨_, _, none⟩) := hs
    refine ⟨_, _, _, h, ?_, rfl⟩
    simp only [execOp, ho, hv]
    exact exec_value (by rw [run_fieldAt hu hf h0 hsz, ho'])
  · obtain ⟨b, oo, hv, hF, hc⟩ := hs
    refine ⟨_, _, .pointer (some ⟨b, oo + off, none⟩), h, ?_, b, oo + off, rfl, hF, fun kk hk => ?_⟩
    · simp only [execOp, ho, hv]
      exact exec_value (by rw [run_fieldAt hu hf h0 hsz, ho'])
    · obtain ⟨c, h1, h2⟩ := hc (off + kk) (by simp at hk; omega)
      exact ⟨c, by rw [Nat.add_assoc]; exact h1, by simpa using h2⟩
  · obtain ⟨g, nn, c, hq, hv⟩ := hs
    refine ⟨_, _, .pointer (some ⟨g, _ + off, none⟩), h, ?_, g, nn, c, hq, by rw [Nat.add_assoc]⟩
    simp only [execOp, ho, hv]
    exact exec_value (by rw [run_fieldAt hu hf h0 hsz, ho'])
  · exact h.elim

theorem All2.drop {α β : Type} {R : α → β → Prop} {l : List α} {l' : List β} (h : All2 R l l') (n : Nat) : All2 R (l.drop n) (l'.drop n) := by
  induction h generalizing n with
  | nil => simp; exact .nil
  | cons h1 h2 ih => cases n with
    | zero => exact .cons h1 h2
    | succ n => simpa using ih n
theorem All2.take {α β : Type} {R : α → β → Prop} {l : List α} {l' : List β} (h : All2 R l l') (n : Nat) : All2 R (l.take n) (l'.take n) := by
  induction h generalizing n with
  | nil => simp; exact .nil
  | cons h1 h2 ih => cases n with
    | zero => exact .nil
    | succ n => exact .cons h1 (ih n)

theorem val_field (hT : TOk P T) (hr : Rel C G look a w) {o : Oper} {t : TypeId} {x : Operand} {f : Nat} (ho : o.op = .field t x f) {k : Sl → List Loc → Prop} (h : valW T (.field t x f) look k) : ValOk P G w a o k := by
  simp only [valW] at h
  obtain ⟨s, R, h, hs⟩ := rdS_sound hr h
  obtain ⟨off, n, ag, h, fs', fl, hu, hf, ho', h0, hsz, hag⟩ := getFields_sound hT h
  cases s with
  | lf => exact h.elim
  | tup => exact h.elim
  | agg ls =>
    obtain ⟨us, hv, ha⟩ : ∃ us : List Value, a.eval x = .agg us.toArray ∧ All2 (LfR G w) us ls := hs
    dsimp only at h
    split at h
    · rename_i hb
      have hle := Nat.le_of_ble_eq_true hb
      have hl := ha.length
      have hrun : ∀ (u : Value), (part fl.type us.toArray fl.offset).run P w = .ok u w → (execOp a.eval o).run P w = .ok (.value u) w := fun u hp => by
        simp only [execOp, ho, hv]
        refine exec_value ?_
        simp only [Instr.field, Sem.run_bind, run_underlying hu, Result.andThen_ok, hf, asAgg, Sem.run_pure]
        exact hp
      split at h
      · refine ⟨_, _, .agg ((us.drop off).take n).toArray, h, hrun _ ?_, _, rfl, (ha.drop off).take n⟩
        simp only [part, Sem.run_bind, hag, Result.andThen_ok, if_true, hsz, Sem.run_pure, ho']
        congr 2
        apply Array.ext'
        simp [List.drop_take]
      · split at h
        · rename_i l ls' hd
          have h1 := ha.drop off
          rw [hd] at h1
          cases hud : us.drop off with
          | nil => rw [hud] at h1; cases h1
          | cons u us' =>
            rw [hud] at h1
            cases h1
            rename_i h1 _
            refine ⟨_, _, u, h, hrun _ ?_, h1⟩
            have : us[off]? = some u := by
              have := congrArg (fun l : List Value => l[0]?) hud
              simpa using this
            simp [part, hag, ho', this]
        · exact h.elim
    · exact h.elim

theorem val_extract (hr : Rel C G look a w) {o : Oper} {x : Operand} {i : Nat} (ho : o.op = .extract x i) {k : Sl → List Loc → Prop} (h : valW T (.extract x i) look k) : ValOk P G w a o k := by
  simp only [valW] at h
  obtain ⟨s, R, h, hs⟩ := rdS_sound hr h
  split at h
  · rename_i ss
    obtain ⟨us, hv, ha⟩ : ∃ us : List Value, a.eval x = .tuple us.toArray ∧ SlsR G w us ss := hs
    split at h
    · rename_i s hsi
      have key : ∀ (us : List Value) (ss : List Sl) (i : Nat), SlsR G w us ss → ss[i]? = some s → ∃ u, us[i]? = some u ∧ SlR G w u s := by
        intro us
        induction us with
        | nil => intro ss i h1 h2; cases ss with
          | nil => simp at h2
          | cons => exact h1.elim
        | cons u us ih =>
          intro ss i h1 h2
          cases ss with
          | nil => exact h1.elim
          | cons s' ss =>
            cases i with
            | zero => simp at h2; subst h2; exact ⟨u, by simp, h1.1⟩
            | succ i => simpa using ih ss i h1.2 (by simpa using h2)
      obtain ⟨u, hu, hru⟩ := key us ss i ha hsi
      refine ⟨_, _, u, h, ?_, hru⟩
      simp [execOp, ho, hv, Instr.extract, hu]
    · exact h.elim
  · exact h.elim

theorem val_convert (hT : TOk P T) (hr : Rel C G look a w) {o : Oper} {src dst : TypeId} {x : Operand} (hs' : ∃ d, P.underlying src = some d) (ho : o.op = .convert src dst x) {k : Sl → List Loc → Prop} (h : valW T (.convert src dst x) look k) : ValOk P G w a o k := by
  simp only [valW] at h
  split at h
  · rename_i d hd
    split at h
    · rename_i kd hk
      obtain ⟨s, R, h, hs⟩ := rdS_sound hr h
      split at h
      · have hu := (rd_int (show Rd w G.F (a.eval x) (.int _ _) from hs)).1
        obtain ⟨ds, hds⟩ := hs'
        refine ⟨_, _, _, h, ?_, .int (wf_wrap _ _)⟩
        simp only [execOp, ho, hu]
        refine exec_value ?_
        simp only [convert, Sem.run_bind, run_underlying hds, run_underlying ((hT.facts hd).rInt hk), Result.andThen_ok, Conv.intToInt]
        cases ds <;> rfl
      · exact h.elim
    · exact h.elim
  · exact h.elim
end
end Go.Proofs.YtccbimcikbbecaaGreat.P1
/- Indexing, slicing, building; valW as a whole. -/
namespace Go.Proofs.YtccbimcikbbecaaGreat.P1
open Go

section
variable {P : Program} {T : TI} {C : Cx} {G : Gh} {look : Loc → Option Cell} {a : Act} {w : World}

theorem run_indexAt {t e : TypeId} {d : TD} (hu : P.underlying t = some (.slice e)) (hf : TFacts P e d) {b o n c : Nat} {k : IntKind} {i : Int} (h0 : 0 ≤ i) (h1 : i < n) :
    (Instr.indexAt t (.slice (some ⟨b, o, none⟩) n c) (.int k i)).run P w = .ok (.pointer (some ⟨b, o + i.toNat * d.size, none⟩)) w := by
  simp only [Instr.indexAt, asIntOf, Sem.run_bind, Sem.run_pure, Result.andThen_ok, run_underlying hu, hf.rSize]
  rw [if_pos ⟨h0, h1⟩]
  simp [hf.rSize, addr_add]

theorem rd_row {F : Nat → Prop} {u : Value} {es : List (List AV)} (h : Rd w F u (.row es)) {i : Nat} {e : List AV} (hi : es[i]? = some e) :
    ∃ b o n c sz, u = .slice (some ⟨b, o, none⟩) n c ∧ F b ∧ es.length = n ∧ n ≤ c ∧ n ≤ lim ∧ e.length = sz ∧ 0 < sz ∧
      (∀ x ∈ es, x.length = sz) ∧ ∀ (i : Nat) (e : List AV), es[i]? = some e → ∀ (j : Nat) (x : AV), e[j]? = some x → ∃ v, w.cell? ⟨b, o + i * sz + j, none⟩ = some v ∧ Rd w F v x := by
  cases h with
  | emp => simp at hi
  | row cv hb hn hc hl h0 hsz hcell hrd =>
    have hall : ∀ (i : Nat) (e : List AV), es[i]? = some e → e.length = _ := fun i e hi => by
      obtain ⟨hlt, rfl⟩ := List.getElem?_eq_some_iff.1 hi
      exact hsz i hlt
    refine ⟨_, _, _, _, _, rfl, hb, hn, hc, hl, hall i e hi, h0, fun x hx => ?_, fun i e hi j x hj => ?_⟩
    · obtain ⟨i, hi, rfl⟩ := List.getElem_of_mem hx
      exact hsz i hi
    · obtain ⟨hlt, rfl⟩ := List.getElem?_eq_some_iff.1 hi
      obtain ⟨hlt2, rfl⟩ := List.getElem?_eq_some_iff.1 hj
      exact ⟨_, hcell i j hlt (by rw [← hsz i hlt]; exact hlt2), hrd i j hlt hlt2⟩

theorem val_indexAddr (hT : TOk P T) (hr : Rel C G look a w) {o : Oper} {t : TypeId} {x ix : Operand} (ho : o.op = .indexAddr t x ix) {k : Sl → List Loc → Prop} (h : valW T (.indexAddr t x ix) look k) : ValOk P G w a o k := by
  simp only [valW] at h
  split at h
  · rename_i d hd
    split at h
    · rename_i e hk
      have hu := (hT.facts hd).rSlice hk
      split at h
      · rename_i de hde
        have hf := hT.facts hde
        have h_ := rdS_sound hr h
        clear h
        obtain ⟨s, R, h, hs⟩ := h_
        have h_ := rdS_sound hr h
        clear h
        obtain ⟨s', R', h, hs'⟩ := h_
        split at h
        · rename_i es kk n
          obtain ⟨e, h0, hi, hl, h2⟩ := h
          have hn := (rd_int (show Rd w G.F (a.eval ix) (.int kk n) from hs')).1
          obtain ⟨b, oo, len, c, sz, hv, hb, hlen, _, _, hsz, _, _, hc⟩ := rd_row (show Rd w G.F (a.eval x) (.row es) from hs) hi
          have hlt : n < len := by
            have := (List.getElem?_eq_some_iff.1 hi).1
            omega
          refine ⟨_, _, .pointer (some ⟨b, oo + n.toNat * de.size, none⟩), h2, ?_, b, _, rfl, hb, fun j hj => ?_⟩
          · simp only [execOp, ho, hv, hn]
            exact exec_value (run_indexAt hu hf h0 hlt)
          · obtain ⟨v, h1, h2⟩ := hc _ e hi j e[j] (by simp [hj])
            rw [← hsz, hl] at h1
            exact ⟨v, h1, h2⟩
        · rename_i q kk n
          split at h
          · rename_i r hrow
            split at h
            · rename_i hb
              have hsz : r.sz = de.size := Nat.eq_of_beq_eq_true hb
              obtain ⟨h0, hlt, h⟩ := h
              have hn := (rd_int (show Rd w G.F (a.eval ix) (.int kk n) from hs')).1
              have hv : a.eval x = G.ρ q := hs.1
              obtain ⟨_, hl, _, _, xs, ⟨hx, hown⟩, hxs⟩ := hr.row q r hrow
              rcases hown with ⟨hnil, hz⟩ | ⟨g, cap, cur, hρ, _, hblk, hcap, _⟩
              · exfalso; omega
              · refine ⟨_, _, .pointer (some ⟨g, 0 + n.toNat * de.size, none⟩), h, ?_, g, _, cap, hρ, by simp⟩
                simp only [execOp, ho, hv, hρ, hn]
                exact exec_value (run_indexAt hu hf h0 hlt)
            · exact h.elim
          · exact h.elim
        · exact h.elim
      · exact h.elim
    · exact h.elim
  · exact h.elim

theorem val_index (hT : TOk P T) (hr : Rel C G look a w) {o : Oper} {t : TypeId} {x ix : Operand} (ho : o.op = .index t x ix) {k : Sl → List Loc → Prop} (h : valW T (.index t x ix) look k) : ValOk P G w a o k := by
  simp only [valW] at h
  split at h
  · rename_i d hd
    split at h
    · rename_i hk
      have hu := (hT.facts hd).rString hk
      have h_ := rdS_sound hr h
      clear h
      obtain ⟨s, R, h, hs⟩ := h_
      have h_ := rdS_sound hr h
      clear h
      obtain ⟨s', R', h, hs'⟩ := h_
      split at h
      · rename_i b kk n
        obtain ⟨c, h0, hi, h⟩ := h
        have hn := (rd_int (show Rd w G.F (a.eval ix) (.int kk n) from hs')).1
        have hv := (rd_str (show Rd w G.F (a.eval x) (.str b) from hs)).1
        refine ⟨_, _, .int .u8 c.toNat, h, ?_, .int ?_⟩
        · simp only [execOp, ho, hv, hn]
          refine exec_value ?_
          simp only [Instr.index, asIntOf, Sem.run_bind, Sem.run_pure, Result.andThen_ok, run_underlying hu]
          rw [if_pos h0]
          have hlt := (List.getElem?_eq_some_iff.1 hi).1
          have : (⟨b.toArray⟩ : ByteArray)[n.toNat]? = some c := by
            rw [getElem?_pos (c := (⟨b.toArray⟩ : ByteArray)) (i := n.toNat) (h := by simpa [ByteArray.size] using hlt)]
            obtain ⟨_, rfl⟩ := List.getElem?_eq_some_iff.1 hi
            rfl
          rw [this]
          rfl
        · have := c.toNat_lt
          rw [wf_iff]
          constructor
          · exact Int.natCast_nonneg _
          · show (c.toNat : Int) ≤ 255
            omega
      · exact h.elim
    · exact h.elim
  · exact h.elim

/-- A bound's value. -/
def BndOk (a : Act) (x : Option Operand) (dflt : Nat) (n : Int) : Prop := match x with
  | none => n = dflt
  | some x => ∃ kk, a.eval x = .int kk n
theorem BndOk.map {a : Act} {x : Option Operand} {dflt : Nat} {n : Int} (h : BndOk a x dflt n) : match x.map a.eval with
  | none => n = dflt
  | some v => ∃ k, v = .int k n := by cases x <;> exact h

theorem bndW_sound (hr : Rel C G look a w) {x : Option Operand} {dflt : Nat} {k : Int → List Loc → Prop} (h : bndW look x dflt k) : ∃ n R, k n R ∧ BndOk a x dflt n := by
  cases x with
  | none => exact ⟨_, _, h, rfl⟩
  | some x =>
    simp only [bndW] at h
    obtain ⟨s, R, h1, hs⟩ := rdS_sound hr h
    split at h1
    · rename_i kk n
      exact ⟨_, _, h1, kk, (rd_int (show Rd w G.F _ (.int kk n) from hs)).1⟩
    · exact h1.elim

theorem run_sliceBounds {isSlice : Bool} {len cap : Nat} {lo hi : Option Value} {l h : Int} (hl : match lo with | none => l = 0 | some v => ∃ k, v = .int k l) (hh : match hi with | none => h = len | some v => ∃ k, v = .int k h)
    (h0 : 0 ≤ l) (h1 : l ≤ h) (h2 : h ≤ len) (h3 : len ≤ cap) : (Instr.sliceBounds isSlice len cap lo hi none).run P w = .ok (l.toNat, h.toNat, cap) w := by
  unfold Instr.sliceBounds
  cases hi with
  | none =>
    simp only at hh
    subst hh
    cases lo with
    | none =>
      simp only at hl
      subst hl
      simp
    | some v =>
      obtain ⟨k, rfl⟩ := hl
      simp [Instr.sliceBound, asIntOf, h0, h1]
  | some v =>
    obtain ⟨k, rfl⟩ := hh
    cases lo with
    | none =>
      simp only at hl
      subst hl
      simp [Instr.sliceBound, asIntOf, h1, show h ≤ (cap : Int) by omega]
    | some v =>
      obtain ⟨k, rfl⟩ := hl
      have : ((h.toNat : Nat) : Int) = h := by omega
      simp [Instr.sliceBound, asIntOf, show 0 ≤ h by omega, show h ≤ (cap : Int) by omega, h0, this, h1]

theorem val_slice (hT : TOk P T) (hr : Rel C G look a w) {o : Oper} {t : TypeId} {x : Operand} {lo hi mx : Option Operand} (ho : o.op = .slice t x lo hi mx) {k : Sl → List Loc → Prop} (h : valW T (.slice t x lo hi mx) look k) : ValOk P G w a o k := by
  simp only [valW] at h
  split at h
  · exact h.elim
  split at h
  · rename_i d hd
    have hf := hT.facts hd
    have h_ := rdS_sound hr h
    clear h
    obtain ⟨s, R, h, hs⟩ := h_
    split at h
    · rename_i b hk
      have h_ := bndW_sound hr h
      clear h
      obtain ⟨l, R', h, hl⟩ := h_
      have h_ := bndW_sound hr h
      clear h
      obtain ⟨hh, R'', h, hhh⟩ := h_
      obtain ⟨h0, h1, h2, h⟩ := h
      obtain ⟨hv, hlim⟩ := rd_str (show Rd w G.F (a.eval x) (.str b) from hs)
      have hsz : (⟨b.toArray⟩ : ByteArray).size = b.length := by simp [ByteArray.size]
      refine ⟨_, _, .string ((⟨b.toArray⟩ : ByteArray).extract l.toNat hh.toNat), h, ?_, ?_⟩
      · simp only [execOp, ho, hv]
        refine exec_value ?_
        simp only [Instr.sliceAt, Sem.run_bind, run_underlying (hf.rString hk), Result.andThen_ok, Instr.slice, Option.map_none, Option.isSome_none]
        rw [if_neg (by decide)]
        simp only [Sem.run_bind]
        rw [run_sliceBounds (l := l) (h := hh) (by simpa using hl.map) (by simpa [hsz] using hhh.map) h0 h1 (by rw [hsz]; exact h2) (Nat.le_refl _)]
        rfl
      · have : ((⟨b.toArray⟩ : ByteArray).extract l.toNat hh.toNat) = ⟨((b.take hh.toNat).drop l.toNat).toArray⟩ := by
          apply ByteArray.ext
          rw [ByteArray.data_extract]
          apply Array.ext'
          simp [List.drop_take]
        rw [this]
        exact .str (Nat.le_trans (by simp; omega) hlim)
    · rename_i e es hk
      have hu := hf.rSlice hk
      split at h
      · rename_i de hde
        have hfe := hT.facts hde
        have h_ := bndW_sound hr h
        clear h
        obtain ⟨l, R', h, hl⟩ := h_
        have h_ := bndW_sound hr h
        clear h
        obtain ⟨hh, R'', h, hhh⟩ := h_
        obtain ⟨h0, h1, h2, hlen, h⟩ := h
        have hrd : Rd w G.F (a.eval x) (.row es) := hs
        have hrun : ∀ (A : Option Addr) (n c : Nat), a.eval x = .slice A n c → n = es.length → n ≤ c →
            (execOp a.eval o).run P w = .ok (.value (.slice (if c = l.toNat then A else A.map (·.add (l.toNat * de.size))) (hh.toNat - l.toNat) (c - l.toNat))) w := fun A n c hA hn hc => by
          simp only [execOp, ho, hA]
          refine exec_value ?_
          simp only [Instr.sliceAt, Sem.run_bind, run_underlying hu, Result.andThen_ok, Instr.slice, Option.map_none]
          rw [run_sliceBounds (l := l) (h := hh) (by simpa using hl.map) (by simpa [hn] using hhh.map) h0 h1 (by rw [hn]; exact h2) hc]
          simp [hfe.rSize]
        have hlen2 : ((es.take hh.toNat).drop l.toNat).length = hh.toNat - l.toNat := by simp; omega
        generalize hux : a.eval x = ux at hrd
        cases hrd with
        | @emp A c hA =>
          refine ⟨_, _, _, h, hrun _ _ _ hux rfl (Nat.zero_le _), ?_⟩
          have : hh.toNat - l.toNat = 0 := by simp at h2; omega
          simp only [this, List.take_nil, List.drop_nil]
          refine .emp fun hh => ?_
          have : A = none := by split at hh <;> simpa using hh
          have := hA this
          omega
        | @row b oo n c sz _ cv hb hn hc hlm hz hsz hcell hrd =>
          refine ⟨_, _, _, h, hrun _ _ _ hux hn.symm hc, ?_⟩
          by_cases hem : hh.toNat - l.toNat = 0
          · rw [hem, List.eq_nil_of_length_eq_zero (by rw [hlen2, hem] : ((es.take hh.toNat).drop l.toNat).length = 0)]
            exact .emp fun hh => by split at hh <;> simp at hh
          · rw [if_neg (by omega)]
            have hes : 0 < es.length := by omega
            have hdsz : sz = de.size := by rw [← hsz 0 hes]; exact hlen _ (List.getElem_mem hes)
            simp only [Option.map_some, addr_add, ← hdsz]
            have hget : ∀ i (hi : i < ((es.take hh.toNat).drop l.toNat).length), ∃ hq, ((es.take hh.toNat).drop l.toNat)[i] = es[l.toNat + i]'hq := fun i hi => by
              refine ⟨by rw [hlen2] at hi; omega, by simp⟩
            refine .row (sz := sz) (fun i j => cv (l.toNat + i) j) hb hlen2 (by omega) (by omega) hz (fun i hi => ?_) (fun i j hi hj => ?_) (fun i j hi hj => ?_)
            · obtain ⟨h', he⟩ := hget i hi
              rw [he]; exact hsz _ h'
            · have := hcell (l.toNat + i) j (by rw [hlen2] at hi; omega) hj
              rw [← this]
              congr 2
              rw [Nat.add_mul]; omega
            · obtain ⟨h', he⟩ := hget i hi
              have := hrd (l.toNat + i) j h' (by rw [he] at hj; exact hj)
              simpa [he] using this
      · exact h.elim
    · exact h.elim
  · exact h.elim

theorem set_all (off : Nat) : ∀ (vs : List Value) (k : Nat) (cs : Array Value), off + k + vs.length ≤ cs.size →
    ∀ i, ((vs.zipIdx k).foldl (fun cs (p : Value × Nat) => cs.setIfInBounds (off + p.2) p.1) cs)[i]? = if off + k ≤ i ∧ i < off + k + vs.length then vs[i - (off + k)]? else cs[i]?
  | [], k, cs, _, i => by
    simp only [List.zipIdx_nil, List.foldl_nil, List.length_nil]
    rw [if_neg (by omega)]
  | v :: vs, k, cs, hle, i => by
    simp only [List.length_cons] at hle ⊢
    simp only [List.zipIdx_cons, List.foldl_cons]
    rw [set_all off vs (k + 1) _ (by simp; omega)]
    by_cases h1 : i = off + k
    · subst h1
      rw [if_neg (by omega), if_pos (by omega)]
      rw [Array.getElem?_setIfInBounds]
      simp
      omega
    · by_cases h2 : off + (k + 1) ≤ i ∧ i < off + (k + 1) + vs.length
      · rw [if_pos h2, if_pos (by omega)]
        rw [show i - (off + k) = (i - (off + (k + 1))) + 1 by omega]
        simp
      · rw [if_neg h2, if_neg (by omega)]
        rw [Array.getElem?_setIfInBounds]
        rw [if_neg (by omega)]

theorem fill_one {place : Nat → Option (Nat × Nat)} {i off size : Nat} (hp : place i = some (off, size)) {v : Value} {cells : Array Value} {rest : List (Nat × Value)} (hs : v.cells.size = size) (hle : off + size ≤ cells.size) :
    Instr.fill place cells ((i, v) :: rest) = Instr.fill place (cells.toList.take off ++ v.cells.toList ++ cells.toList.drop (off + size)).toArray rest := by
  simp only [Instr.fill, hp]
  rw [if_neg (by simp; omega)]
  congr 1
  apply Array.ext_getElem?
  intro j
  rw [← Array.foldl_toList, Array.toList_zipIdx]
  have := set_all off v.cells.toList 0 cells (by simp; omega) j
  simp only [Nat.add_zero] at this
  rw [this]
  have hl : v.cells.toList.length = size := by simp [hs]
  have hc : cells.toList.length = cells.size := by simp
  simp only [List.getElem?_toArray]
  by_cases h1 : j < off
  · rw [if_neg (by omega), List.getElem?_append_left (by simp; omega), List.getElem?_append_left (by simp; omega), List.getElem?_take_of_lt h1]
    simp
  · by_cases h2 : j < off + size
    · rw [if_pos (by omega), List.getElem?_append_left (by simp; omega), List.getElem?_append_right (by simp; omega)]
      congr 1
      simp
      omega
    · rw [if_neg (by omega), List.getElem?_append_right (by simp; omega), List.getElem?_drop]
      simp
      congr 1
      omega

/-- A value's cells and its leaves. -/
theorem slr_leafs {u : Value} {s : Sl} {ls : List Lf} (h : SlR G w u s) (hl : s.leafs = some ls) : All2 (LfR G w) u.cells.toList ls ∧ (u.oneCell' = true ∨ ∃ us, u = .agg us) := by
  cases s with
  | lf l =>
    simp only [Sl.leafs, Option.some.injEq] at hl
    subst hl
    have h1 : u.oneCell' = true := by
      have h : LfR G w u l := h
      cases l <;> simp only [LfR] at h
      · exact Rd.oneCell h
      · subst h; rfl
      · subst h; rfl
      · exact h.2
      · subst h; rfl
      · obtain ⟨b, o, rfl, _⟩ := h; rfl
      · obtain ⟨g, n, c, _, rfl⟩ := h; rfl
      · subst h; rfl
    refine ⟨?_, .inl h1⟩
    have : u.cells = #[u] := by cases u <;> first | rfl | cases h1
    rw [this]
    exact .cons h .nil
  | agg l =>
    simp only [Sl.leafs, Option.some.injEq] at hl
    subst hl
    obtain ⟨us, rfl, h⟩ := h
    exact ⟨by simpa [Value.cells] using h, .inr ⟨_, rfl⟩⟩
  | tup => cases hl

/-- Parts laid over the cells of a zero value. -/
theorem partsW_sound (hr : Rel C G look a w) {fs : List (Nat × Nat × Bool)} {place : Nat → Option (Nat × Nat)} (hp : ∀ (i : Nat) (x : Nat × Nat × Bool), fs[i]? = some x → place i = some (x.1, x.2.1)) :
    ∀ {l : List (Nat × Operand)} {ls : List Lf} {cells : Array Value} {k : List Lf → List Loc → Prop}, partsW look fs l ls k → All2 (LfR G w) cells.toList ls →
    ∃ ls' R cells', k ls' R ∧ Instr.fill place cells (l.map fun p => (p.1, a.eval p.2)) = some cells' ∧ All2 (LfR G w) cells'.toList ls'
  | [], ls, cells, k, h, hc => ⟨ls, [], cells, h, rfl, hc⟩
  | (i, x) :: r, ls, cells, k, h, hc => by
    simp only [partsW] at h
    split at h
    · rename_i f hf
      obtain ⟨s, R, h1, hs⟩ := rdS_sound hr h
      split at h1
      · rename_i vs hvs
        split at h1
        · rename_i hb
          simp only [Bool.and_eq_true] at hb
          have hn := Nat.eq_of_beq_eq_true hb.1
          have hle := Nat.le_of_ble_eq_true hb.2
          obtain ⟨h2, _⟩ := slr_leafs hs hvs
          have hsz : (a.eval x).cells.size = f.2.1 := by have := h2.length; simp at this; omega
          have hcs : cells.size = ls.length := by have := hc.length; simpa using this
          obtain ⟨ls', R', cells', hk, hfill, ha⟩ := partsW_sound hr hp (cells := (cells.toList.take f.1 ++ (a.eval x).cells.toList ++ cells.toList.drop (f.1 + f.2.1)).toArray) h1
            (by simpa using ((hc.take f.1).append h2).append (hc.drop (f.1 + f.2.1)))
          refine ⟨ls', _, cells', hk, ?_, ha⟩
          rw [List.map_cons, fill_one (hp i f hf) hsz (by omega)]
          exact hfill
        · exact h1.elim
      · exact h1.elim
    · exact h.elim

theorem zeroOk_sound : ∀ {vs : List Value} {ls : List Lf}, zeroOk vs ls = true → All2 (LfR G w) vs ls
  | [], [], _ => .nil
  | .int k n :: r, .av (.int k' n') :: r', h => by
    simp only [zeroOk, Bool.and_eq_true, decide_eq_true_eq] at h
    obtain ⟨⟨⟨rfl, rfl⟩, hw⟩, h⟩ := h
    exact .cons (.int hw) (zeroOk_sound h)
  | .bool b :: r, .lit b' :: r', h => by
    simp only [zeroOk, Bool.and_eq_true, beq_iff_eq] at h
    exact .cons (by simp [LfR, h.1]) (zeroOk_sound h.2)
  | .string s :: r, .av (.str []) :: r', h => by
    simp only [zeroOk, Bool.and_eq_true, List.isEmpty_iff] at h
    have : s = ⟨([] : List UInt8).toArray⟩ := by
      apply ByteArray.ext
      apply Array.ext'
      simpa using h.1
    exact .cons (by rw [this]; exact .str (by decide)) (zeroOk_sound h.2)
  | .slice none 0 0 :: r, .nil :: r', h => by
    simp only [zeroOk] at h
    exact .cons rfl (zeroOk_sound h)
  | [], _ :: _, h => by simp [zeroOk] at h
  | v :: r, [], h => by cases v <;> simp [zeroOk] at h
  | .int k n :: r, .lit _ :: r', h | .int k n :: r, .nil :: r', h | .int k n :: r, .own _ :: r', h | .int k n :: r, .ptr .. :: r', h | .int k n :: r, .fptr _ :: r', h | .int k n :: r, .optr .. :: r', h | .int k n :: r, .fn .. :: r', h => by simp [zeroOk] at h
  | .int k n :: r, .av (.bool _) :: r', h | .int k n :: r, .av (.str _) :: r', h | .int k n :: r, .av (.row _) :: r', h => by simp [zeroOk] at h
  | .bool k :: r, .av _ :: r', h | .bool k :: r, .nil :: r', h | .bool k :: r, .own _ :: r', h | .bool k :: r, .ptr .. :: r', h | .bool k :: r, .fptr _ :: r', h | .bool k :: r, .optr .. :: r', h | .bool k :: r, .fn .. :: r', h => by simp [zeroOk] at h
  | .string k :: r, .lit _ :: r', h | .string k :: r, .nil :: r', h | .string k :: r, .own _ :: r', h | .string k :: r, .ptr .. :: r', h | .string k :: r, .fptr _ :: r', h | .string k :: r, .optr .. :: r', h | .string k :: r, .fn .. :: r', h => by simp [zeroOk] at h
  | .string k :: r, .av (.bool _) :: r', h | .string k :: r, .av (.int ..) :: r', h | .string k :: r, .av (.row _) :: r', h | .string k :: r, .av (.str (_ :: _)) :: r', h => by simp [zeroOk] at h
  | .slice A n c :: r, x :: r', h => by
    unfold zeroOk at h
    split at h <;> first | (cases h; done) | skip
    all_goals rename_i h1 h2
    all_goals (cases h1; try cases h2)
    all_goals first | exact .cons rfl (zeroOk_sound h) | skip
  | .float .. :: r, x :: r', h | .complex .. :: r, x :: r', h | .pointer .. :: r, x :: r', h | .map .. :: r, x :: r', h | .chan .. :: r, x :: r', h | .func .. :: r, x :: r', h | .nilFunc :: r, x :: r', h | .iface .. :: r, x :: r', h | .nilIface :: r, x :: r', h | .agg .. :: r, x :: r', h | .tuple .. :: r, x :: r', h => by simp [zeroOk] at h
end
end Go.Proofs.YtccbimcikbbecaaGreat.P1
/- valW as a whole. -/
namespace Go.Proofs.YtccbimcikbbecaaGreat.P1
open Go

section
variable {P : Program} {T : TI} {C : Cx} {G : Gh} {look : Loc → Option Cell} {a : Act} {w : World}

theorem mapM_places (P : Program) (w : World) : ∀ (fs : List Field) (xs : List (Nat × Nat × Bool)), fieldsOk P fs xs = true →
    (fs.mapM (m := Sem) fun f => do pure (f.offset, ← sizeOf f.type)).run P w = .ok (xs.map fun x => (x.1, x.2.1)) w
  | [], [], _ => rfl
  | [], _ :: _, h => by simp [fieldsOk] at h
  | _ :: _, [], h => by simp [fieldsOk] at h
  | f :: fs, x :: xs, h => by
    have hh := h
    simp only [fieldsOk, Bool.and_eq_true, beq_iff_eq, decide_eq_true_eq] at h
    obtain ⟨⟨⟨⟨⟨h1, h2⟩, h3⟩, h4⟩, h5⟩, h6⟩ := h
    obtain ⟨f', hf', _, _, hs, _⟩ := fieldsOk_get hh 0 x (by simp)
    simp only [List.getElem?_cons_zero, Option.some.injEq] at hf'
    subst hf'
    simp only [List.mapM_cons, Sem.run_bind, hs, Sem.run_pure, Result.andThen_ok, mapM_places P w fs xs h6, List.map_cons, h1]

theorem TFacts.rPlaces {t : TypeId} {d : TD} (h : TFacts P t d) {fs : List (Nat × Nat × Bool)} (he : d.k = .struct fs) :
    ∃ fs' : Array Field, P.underlying t = some (.struct fs') ∧ ∀ w, (fs'.mapM (m := Sem) fun f => do pure (f.offset, ← sizeOf f.type)).run P w = .ok (fs.map fun x => (x.1, x.2.1)).toArray w := by
  obtain ⟨i, u, z, hi, hu, hs, hb, hz, hzo, hk, _⟩ := h.ex
  rw [he] at hk
  cases u <;> simp [kOk] at hk
  rename_i fs'
  refine ⟨fs', hu, fun w => ?_⟩
  have := mapM_places P w fs'.toList fs hk
  rw [Array.mapM_eq_mapM_toList]
  rw [Sem.run_map, this]
  rfl

theorem val_build (hT : TOk P T) (hr : Rel C G look a w) {o : Oper} {t : TypeId} {parts : Array (Nat × Operand)} (ho : o.op = .build t parts) {k : Sl → List Loc → Prop} (h : valW T (.build t parts) look k) : ValOk P G w a o k := by
  simp only [valW] at h
  split at h
  · rename_i d hd
    have hf := hT.facts hd
    split at h
    · rename_i fs hk
      obtain ⟨z, hz, hzo, _⟩ := hf.rZero
      obtain ⟨fs', hu, hpl⟩ := hf.rPlaces hk
      obtain ⟨ls', R, cells', hk', hfill, ha⟩ := partsW_sound (place := fun i => ((fs.map fun x => (x.1, x.2.1)).toArray)[i]?) hr (fun i x hx => by simp [hx]) h (zeroOk_sound (G := G) (w := w) hzo)
      refine ⟨_, _, .agg cells', hk', ?_, cells'.toList, by simp, ha⟩
      simp only [execOp, ho]
      refine exec_value ?_
      have hmap : (parts.map fun (p : Nat × Operand) => (p.1, a.eval p.2)).toList = parts.toList.map fun p => (p.1, a.eval p.2) := by simp
      simp only [Instr.build, Sem.run_bind, hz, run_underlying hu, Result.andThen_ok, hpl]
      rw [hmap, hfill]
      rfl
    · exact h.elim
  · exact h.elim

/-- Every source type of a conversion is a type. -/
def convOk (P : Program) (o : Oper) : Prop := ∀ src dst x, o.op = .convert src dst x → ∃ d, P.underlying src = some d

theorem valW_sound (hT : TOk P T) (hr : Rel C G look a w) {o : Oper} (hc : convOk P o) {k : Sl → List Loc → Prop} (h : valW T o.op look k) : ValOk P G w a o k := by
  cases ho : o.op with
  | move x => rw [ho] at h; exact val_move hr (.inl ho) h
  | assign x => rw [ho] at h; exact val_move hr (.inr ho) h
  | pick c x y => rw [ho] at h; exact val_pick hr ho h
  | load t x => rw [ho] at h; exact val_load hT hr ho h
  | nilCheck x => rw [ho] at h; exact val_nilCheck hr ho h
  | binOp op t x y yt => rw [ho] at h; exact val_binOp hT hr ho h
  | unOp op t x => rw [ho] at h; exact val_unOp hr ho h
  | makeFunc fn f c => rw [ho] at h; exact val_makeFunc hr ho h
  | fieldAddr t x f => rw [ho] at h; exact val_fieldAddr hT hr ho h
  | field t x f => rw [ho] at h; exact val_field hT hr ho h
  | indexAddr t x i => rw [ho] at h; exact val_indexAddr hT hr ho h
  | index t x i => rw [ho] at h; exact val_index hT hr ho h
  | extract x i => rw [ho] at h; exact val_extract hr ho h
  | build t p => rw [ho] at h; exact val_build hT hr ho h
  | slice t x lo hi mx => rw [ho] at h; exact val_slice hT hr ho h
  | convert src dst x => rw [ho] at h; exact val_convert hT hr (hc src dst x ho) ho h
  | _ => rw [ho] at h; exact h.elim
end
end Go.Proofs.YtccbimcikbbecaaGreat.P1
/- Contracts, and what each operation that makes or changes memory does to a state. -/
namespace Go.Proofs.YtccbimcikbbecaaGreat.P1
open Go

/-! ### Contracts -/
/-- Cells of boxes that a function is handed: what they read as. -/
abbrev Bx := List ((Key × Nat) × AV)

structure BoxIn (m : Key → Nat) (F : Nat → Prop) (w : World) (S : Bx) : Prop where
  cell : ∀ p ∈ S, ∃ u cur T, w.heap[m p.1.1]? = some (.cells cur T (0, 0)) ∧ cur[p.1.2]? = some u ∧ Rd w F u p.2
  inj : ∀ p ∈ S, ∀ q ∈ S, m p.1.1 = m q.1.1 → p.1.1 = q.1.1
  cold : ∀ p ∈ S, ¬ F (m p.1.1)

def Bx.st (S : Bx) : St := S.map fun p => (.leaf p.1.1 p.1.2, .l (.av p.2))

/-- What stands behind a call: r: its result; N: what r leads to that is new; S': the boxes that it may have changed, as they read now. -/
structure Post (m : Key → Nat) (F : Nat → Prop) (w : World) (S' : Bx) (r : Sl) (N : St) (G' : Gh) (v : Value) (w' : World) : Prop where
  res : SlR G' w' v r
  mem : MemR G' (St.look (N ++ S'.st)) w'
  old : ∀ p ∈ S', G'.m p.1.1 = m p.1.1
  new : ∀ l c g, N.look l = some c → G'.blk l c = some g → w.heap.size ≤ g
  fr : Fr w (fun i => ∃ p ∈ S', i = m p.1.1) w'
  F1 : ∀ b, F b → G'.F b
  F2 : ∀ b, G'.F b → F b ∨ w.heap.size ≤ b

/-- The contract of function f: called with 'args', the boxes reading as S. -/
def Ct (P : Program) (f : FuncId) (args : List Sl) (S : Bx) (r : Sl) (N : St) (S' : Bx) : Prop :=
  (∃ fn c, P.funcs[f]? = some fn ∧ fn.body = some c ∧ (fn.name == "runtime.NumGoroutine") = false) ∧
  ∀ (m : Key → Nat) (ρ : Key → Value) (F : Nat → Prop) (w : World) (vals : List Value), BoxIn m F w S → (∀ b, F b → b < w.heap.size) → SlsR ⟨m, ρ, F⟩ w vals args →
    Calls P f vals.toArray w fun e w' => ∃ v G', e = .returned v ∧ Post m F w S' r N G' v w'

/-! ### Keys -/
def Loc.keys : Loc → List Key
  | .slot _ => []
  | .leaf b _ => [b]
  | .row k => [k]
def Cell.keys : Cell → List Key
  | .s x => x.keys
  | .l x => x.keys
  | .r _ => []
def Pat.keys : Pat → List Key
  | .at l => l.keys
  | .box b => [b]

def notIn (d : Nat) : List Key → Bool
  | [] => true
  | k :: r => match Nat.beq k.1 d with
    | true => false
    | false => notIn d r

/-- No key of operation d's. -/
def St.fresh (d : Nat) : St → Bool
  | [] => true
  | (l, c) :: r => match notIn d l.keys with
    | true => match notIn d c.keys with
      | true => St.fresh d r
      | false => false
    | false => false
def Dl.fresh (d : Nat) : Dl → Bool
  | [] => true
  | (l, c) :: r => match notIn d l.keys with
    | true => match c with
      | some c => match notIn d c.keys with
        | true => Dl.fresh d r
        | false => false
      | none => Dl.fresh d r
    | false => false

/-! ### Names of a callee's, in the caller -/
def Lf.ren (φ : Key → Key) : Lf → Lf
  | .own k => .own (φ k)
  | .ptr b j => .ptr (φ b) j
  | .optr k sz i j => .optr (φ k) sz i j
  | .fn f caps => .fn f (caps.map fun p => (φ p.1, p.2))
  | l => l
mutual
def Sl.ren (φ : Key → Key) : Sl → Sl
  | .lf l => .lf (l.ren φ)
  | .agg ls => .agg (ls.map (Lf.ren φ))
  | .tup ss => .tup (Sl.renL φ ss)
def Sl.renL (φ : Key → Key) : List Sl → List Sl
  | [] => []
  | s :: ss => s.ren φ :: Sl.renL φ ss
end
def Loc.ren (φ : Key → Key) : Loc → Loc
  | .slot t => .slot t
  | .leaf b j => .leaf (φ b) j
  | .row k => .row (φ k)
def Cell.ren (φ : Key → Key) : Cell → Cell
  | .s x => .s (x.ren φ)
  | .l x => .l (x.ren φ)
  | .r x => .r x

/-! ### Data out of cells -/
/-- A cell as data: with the rows that are looked at, and with what is frozen thereby. -/
def avOf (look : Loc → Option Cell) (l : Lf) (k : AV → List Loc → Dl → Prop) : Prop := match l with
  | .av x => k x [] []
  | .lit b => k (.bool b) [] []
  | .nil => k (.row []) [] []
  | .own q => match look (.row q) with
    | some (.r r) => match r.hot with
      | true => k (.row r.es) [.row q] [(.at (.row q), some (.r ⟨r.e, r.sz, false, r.es⟩))]
      | false => k (.row r.es) [.row q] []
    | _ => False
  | _ => False

def avsOf (look : Loc → Option Cell) : List Lf → (List AV → List Loc → Dl → Prop) → Prop
  | [], k => k [] [] []
  | l :: ls, k => avOf look l fun x R D => avsOf look ls fun xs R' D' => k (x :: xs) (R ++ R') (D ++ D')

def elemsW (look : Loc → Option Cell) (size : Nat) : List (Nat × Operand) → Nat → (List (List AV) → List Loc → Dl → Prop) → Prop
  | [], _, k => k [] [] []
  | (i, x) :: r, n, k => match Nat.beq i n with
    | true => rdS look x fun s R => match s.leafs with
      | some ls => match Nat.beq ls.length size with
        | true => avsOf look ls fun e R' D => elemsW look size r (n + 1) fun es R'' D' => k (e :: es) (R ++ (R' ++ R'')) (D ++ D')
        | false => False
      | none => False
    | false => False

def zipLeaf (b : Key) : Nat → List Lf → Dl
  | _, [] => []
  | j, l :: ls => (.at (.leaf b j), some (.l l)) :: zipLeaf b (j + 1) ls

/-- All these cells are known. -/
def there (look : Loc → Option Cell) (b : Key) : Nat → Nat → Bool
  | _, 0 => true
  | j, n + 1 => match look (.leaf b j) with
    | some (.l _) => there look b (j + 1) n
    | _ => false
def leafLocs (b : Key) : Nat → Nat → List Loc
  | _, 0 => []
  | j, n + 1 => .leaf b j :: leafLocs b (j + 1) n

/-- Zero values as data. -/
def zeroAV : List Lf → Option (List AV)
  | [] => some []
  | l :: ls => match lfAV l, zeroAV ls with
    | some x, some xs => some (x :: xs)
    | _, _ => none

/-! ### Arguments -/
def idx (b : Key) : List Key → Nat
  | [] => 0
  | k :: r => match kbeq k b with
    | true => 0
    | false => idx b r + 1
def addKey (b : Key) : List Key → List Key
  | [] => [b]
  | k :: r => match kbeq k b with
    | true => k :: r
    | false => k :: addKey b r
def capKeys : List (Key × Nat) → List Key → List Key
  | [], B => B
  | p :: r, B => capKeys r (addKey p.1 B)

/-- A cell as it is handed over: B: the boxes handed so far. -/
def argLf (look : Loc → Option Cell) (l : Lf) (B : List Key) (k : Lf → List Key → List Loc → Dl → Prop) : Prop := match l with
  | .ptr b j => k (.ptr (1, idx b (addKey b B)) j) (addKey b B) [] []
  | .fn f caps => k (.fn f (caps.map fun p => ((1, idx p.1 (capKeys caps B)), p.2))) (capKeys caps B) [] []
  | l => avOf look l fun x R D => k (.av x) B R D
def argLfs (look : Loc → Option Cell) : List Lf → List Key → (List Lf → List Key → List Loc → Dl → Prop) → Prop
  | [], B, k => k [] B [] []
  | l :: ls, B, k => argLf look l B fun l' B' R D => argLfs look ls B' fun ls' B'' R' D' => k (l' :: ls') B'' (R ++ R') (D ++ D')
def argSl (look : Loc → Option Cell) (s : Sl) (B : List Key) (k : Sl → List Key → List Loc → Dl → Prop) : Prop := match s with
  | .lf l => argLf look l B fun l' B' R D => k (.lf l') B' R D
  | .agg ls => argLfs look ls B fun ls' B' R D => k (.agg ls') B' R D
  | .tup _ => False
def argsW (look : Loc → Option Cell) : List Operand → List Key → (List Sl → List Key → List Loc → Dl → Prop) → Prop
  | [], B, k => k [] B [] []
  | x :: xs, B, k => rdS look x fun s R => argSl look s B fun s' B' R' D => argsW look xs B' fun ss B'' R'' D' => k (s' :: ss) B'' (R ++ (R' ++ R'')) (D ++ D')
end Go.Proofs.YtccbimcikbbecaaGreat.P1
/- How what a state says is carried from world to world. -/
namespace Go.Proofs.YtccbimcikbbecaaGreat.P1
open Go

section
variable {C : Cx} {G G2 : Gh} {look look' : Loc → Option Cell} {a : Act} {w w' : World}

theorem Gh.blk_hot {l : Loc} {c : Cell} {g : Nat} (h : G.blk l c = some g) : (∃ b j x, l = .leaf b j ∧ c = .l x ∧ g = G.m b) ∨ ∃ q r, l = .row q ∧ c = .r r ∧ r.hot = true ∧ (G.ρ q).ownBlock = some g := by
  cases l <;> cases c <;> simp only [Gh.blk] at h <;> try (cases h; done)
  · simp at h; exact .inl ⟨_, _, _, rfl, rfl, h.symm⟩
  · split at h
    · rename_i hh; exact .inr ⟨_, _, rfl, rfl, hh, h⟩
    · cases h

theorem Gh.blk_eq {l : Loc} {c : Cell} (hk : ∀ k ∈ l.keys, G2.m k = G.m k ∧ G2.ρ k = G.ρ k) : G2.blk l c = G.blk l c := by
  cases l <;> cases c <;> simp only [Gh.blk] <;> simp [Loc.keys] at hk <;> simp [hk]

theorem MemR.blk_lt (h : MemR G look w) {l : Loc} {c : Cell} {g : Nat} (hl : look l = some c) (hb : G.blk l c = some g) : g < w.heap.size := by
  rcases Gh.blk_hot hb with ⟨b, j, x, rfl, rfl, rfl⟩ | ⟨q, r, rfl, rfl, hh, hg⟩
  · obtain ⟨u, cur, T, h1, _⟩ := h.leaf b j x hl
    rcases Nat.lt_or_ge (G.m b) w.heap.size with h2 | h2
    · exact h2
    · rw [Array.getElem?_eq_none h2] at h1; cases h1
  · obtain ⟨_, _, _, _, xs, ho, _⟩ := h.row q r hl
    exact (ho.lt _ hg).2

/-- What is carried over: the blocks that count are as they were, the names stand for the same. -/
theorem MemR.frame (h : MemR G look w) (hs : Step G G2 w w') (hblk : ∀ l c g, look l = some c → G.blk l c = some g → w'.heap[g]? = w.heap[g]?)
    (hk : ∀ l c, look l = some c → ∀ k, k ∈ l.keys ∨ k ∈ c.keys → G2.m k = G.m k ∧ G2.ρ k = G.ρ k)
    (hcold : ∀ l c g, look l = some c → G.blk l c = some g → ¬ G2.F g) (hF : ∀ b, G2.F b → b < w'.heap.size) : MemR G2 look w' where
  leaf b j l e := by
    obtain ⟨u, cur, T, h1, h2, h3⟩ := h.leaf b j l e
    have hkb := (hk _ _ e b (.inl (by simp [Loc.keys]))).1
    refine ⟨u, cur, T, ?_, h2, h3.keep hs fun k hk' => hk _ _ e k (.inr hk')⟩
    rw [hkb, hblk _ _ _ e rfl]
    exact h1
  row k r e := by
    have hkb := (hk _ _ e k (.inl (by simp [Loc.keys]))).2
    rw [hkb]
    exact (h.row k r e).keep hs fun hh g hg => hblk _ _ g e (by simp [Gh.blk, hh, hg])
  sep l l' c c' g e e' hb hb' := by
    rw [Gh.blk_eq (G := G) fun k hk' => hk _ _ e k (.inl hk')] at hb
    rw [Gh.blk_eq (G := G) fun k hk' => hk _ _ e' k (.inl hk')] at hb'
    exact h.sep l l' c c' g e e' hb hb'
  cold l c g e hb := by
    rw [Gh.blk_eq (G := G) fun k hk' => hk _ _ e k (.inl hk')] at hb
    exact hcold l c g e hb
  Flt := hF

theorem Rel.frame (h : Rel C G look a w) (hs : Step G G2 w w') (hblk : ∀ l c g, look l = some c → G.blk l c = some g → w'.heap[g]? = w.heap[g]?)
    (hk : ∀ l c, look l = some c → ∀ k, k ∈ l.keys ∨ k ∈ c.keys → G2.m k = G.m k ∧ G2.ρ k = G.ρ k)
    (hcold : ∀ l c g, look l = some c → G.blk l c = some g → ¬ G2.F g) (hF : ∀ b, G2.F b → b < w'.heap.size) (hfr : Fr C.w0 C.M w')
    (hnew : ∀ b, G2.F b → G.F b ∨ C.w0.heap.size ≤ b) (hpin : ∀ i, G2.m (C.n, i) = G.m (C.n, i)) : Rel C G2 look a w' :=
  { h.toMemR.frame hs hblk hk hcold hF with
    slot := fun t s e => ⟨(h.slot t s e).1, (h.slot t s e).2.keep hs fun k hk' => hk _ _ e k (.inr hk')⟩
    mine := fun l c g e hb => by
      rw [Gh.blk_eq (G := G) fun k hk' => hk _ _ e k (.inl hk')] at hb
      exact h.mine l c g e hb
    fr := hfr
    F0 := fun b hb => hs.F b (h.F0 b hb)
    Fnew := fun b hb => (hnew b hb).elim (h.Fnew b) .inr
    pin := fun i g e => (hpin i).trans (h.pin i g e)
    defers := h.defers
    size := h.size }

/-- Two looks, the first one first. -/
def over (look' look : Loc → Option Cell) (l : Loc) : Option Cell := match look' l with
  | some c => some c
  | none => look l

theorem Rel.add (h : Rel C G look a w) (h' : MemR G look' w) (hslot : ∀ t, look' (.slot t) = none)
    (hsep : ∀ l l' c c' g, look' l = some c → look l' = some c' → G.blk l c = some g → G.blk l' c' = some g → look' l' = none → l.same l')
    (hmine : ∀ l c g, look' l = some c → G.blk l c = some g → C.w0.heap.size ≤ g ∨ (C.M g ∧ ∃ b j, l = .leaf b j)) : Rel C G (over look' look) a w := by
  have key : ∀ l c, over look' look l = some c → look' l = some c ∨ (look' l = none ∧ look l = some c) := fun l c e => by
    unfold over at e
    split at e
    · rename_i c' hc; cases e; exact .inl hc
    · rename_i hc; exact .inr ⟨hc, e⟩
  have comm : ∀ {l l' : Loc}, l.same l' → l'.same l := fun {l l'} hh => by
    cases l <;> cases l' <;> simp only [Loc.same] at hh ⊢ <;> exact hh.symm
  exact
  { leaf := fun b j l e => (key _ _ e).elim (h'.leaf b j l) fun e => h.leaf b j l e.2
    row := fun k r e => (key _ _ e).elim (h'.row k r) fun e => h.row k r e.2
    sep := fun l l' c c' g e e' hb hb' => by
      rcases key _ _ e with e | ⟨e0, e⟩ <;> rcases key _ _ e' with e' | ⟨e0', e'⟩
      · exact h'.sep l l' c c' g e e' hb hb'
      · exact hsep l l' c c' g e e' hb hb' e0'
      · exact comm (hsep l' l c' c g e' e hb' hb e0)
      · exact h.sep l l' c c' g e e' hb hb'
    cold := fun l c g e hb => (key _ _ e).elim (fun e => h'.cold l c g e hb) fun e => h.cold l c g e.2 hb
    Flt := h.Flt
    slot := fun t s e => (key _ _ e).elim (fun e => by rw [hslot] at e; cases e) fun e => h.slot t s e.2
    mine := fun l c g e hb => (key _ _ e).elim (fun e => hmine l c g e hb) fun e => h.mine l c g e.2 hb
    fr := h.fr, F0 := h.F0, Fnew := h.Fnew, pin := h.pin, defers := h.defers, size := h.size }

/-- One slot anew. -/
def setS (look : Loc → Option Cell) (d : Nat) (s : Sl) (l : Loc) : Option Cell := match (Loc.slot d).beq l with
  | true => some (.s s)
  | false => look l

theorem Rel.put (h : Rel C G look a w) {d : Nat} {v : Value} {s : Sl} (hd : d < a.tmps.size) (hv : SlR G w v s) : Rel C G (setS look d s) (a.put (some d) v) w := by
  have ne : ∀ l c, setS look d s l = some c → (l = .slot d ∧ c = .s s) ∨ (l ≠ .slot d ∧ look l = some c) := fun l c e => by
    unfold setS at e
    split at e
    · rename_i hb; cases e; exact .inl ⟨(Loc.beq_iff.1 hb).symm, rfl⟩
    · rename_i hb
      refine .inr ⟨fun hh => ?_, e⟩
      subst hh
      rw [Loc.beq_self] at hb; cases hb
  exact
  { leaf := fun b j l e => (ne _ _ e).elim (fun e => by cases e.1) fun e => h.leaf b j l e.2
    row := fun k r e => (ne _ _ e).elim (fun e => by cases e.1) fun e => h.row k r e.2
    sep := fun l l' c c' g e e' hb hb' => by
      rcases ne _ _ e with ⟨rfl, rfl⟩ | e
      · cases hb
      · rcases ne _ _ e' with ⟨rfl, rfl⟩ | e'
        · cases hb'
        · exact h.sep l l' c c' g e.2 e'.2 hb hb'
    cold := fun l c g e hb => by
      rcases ne _ _ e with ⟨rfl, rfl⟩ | e
      · cases hb
      · exact h.cold l c g e.2 hb
    Flt := h.Flt
    slot := fun t s' e => by
      rcases ne _ _ e with ⟨e1, e2⟩ | ⟨hne, e⟩
      · cases e1; cases e2
        exact ⟨by simpa [Act.put] using hd, by simpa [Act.put, Array.getD, hd] using hv⟩
      · have hne' : t ≠ d := fun hh => hne (by rw [hh])
        obtain ⟨h1, h2⟩ := h.slot t s' e
        refine ⟨by simpa [Act.put] using h1, ?_⟩
        have : (a.put (some d) v).tmps.getD t undef = a.tmps.getD t undef := by
          simp [Act.put, Array.getD_eq_getD_getElem?, Array.getElem?_setIfInBounds, Ne.symm hne']
        rw [this]; exact h2
    mine := fun l c g e hb => by
      rcases ne _ _ e with ⟨rfl, rfl⟩ | e
      · cases hb
      · exact h.mine l c g e.2 hb
    fr := h.fr, F0 := h.F0, Fnew := h.Fnew, pin := h.pin, defers := h.defers, size := by simpa [Act.put] using h.size }

/-- A slot that is given up. -/
theorem Rel.putJunk (h : Rel C G look a w) {d : Nat} {v : Value} (hd : ∀ c, look (.slot d) ≠ some c) : Rel C G look (a.put (some d) v) w :=
  { h.toMemR with
    slot := fun t s' e => by
      obtain ⟨h1, h2⟩ := h.slot t s' e
      have hne' : t ≠ d := fun hh => hd _ (hh ▸ e)
      refine ⟨by simpa [Act.put] using h1, ?_⟩
      have : (a.put (some d) v).tmps.getD t undef = a.tmps.getD t undef := by
        simp [Act.put, Array.getD_eq_getD_getElem?, Array.getElem?_setIfInBounds, Ne.symm hne']
      rw [this]; exact h2
    mine := h.mine, fr := h.fr, F0 := h.F0, Fnew := h.Fnew, pin := h.pin, defers := h.defers, size := by simpa [Act.put] using h.size }

/-! ### Freezing -/
/-- D freezes rows that are known as hot. -/
def FrzOk (look : Loc → Option Cell) (D : Dl) : Prop := ∀ p ∈ D, ∃ q r, p = (.at (.row q), some (.r ⟨r.e, r.sz, false, r.es⟩)) ∧ look (.row q) = some (.r r) ∧ r.hot = true

/-- The blocks of what D freezes. -/
def frzB (G : Gh) (D : Dl) (b : Nat) : Prop := ∃ p ∈ D, ∃ q, p.1 = .at (.row q) ∧ (G.ρ q).ownBlock = some b

theorem FrzOk.append {D D' : Dl} (h : FrzOk look D) (h' : FrzOk look D') : FrzOk look (D ++ D') := fun p hp => (List.mem_append.1 hp).elim (h p) (h' p)
theorem FrzOk.nil : FrzOk look [] := fun p hp => by cases hp

theorem dl_look_mem {D : Dl} {l : Loc} {c : Option Cell} (h : D.look l = some c) : ∃ p ∈ D, p.1.hits l = true ∧ p.2 = c := by
  induction D with
  | nil => cases h
  | cons p D ih =>
    obtain ⟨p, c'⟩ := p
    simp only [Dl.look] at h
    split at h
    · rename_i hh; cases h; exact ⟨_, .head _, hh, rfl⟩
    · obtain ⟨q, hq, h2⟩ := ih h; exact ⟨q, .tail _ hq, h2⟩
theorem dl_look_none {D : Dl} {l : Loc} (h : D.look l = none) : ∀ p ∈ D, p.1.hits l = false := by
  induction D with
  | nil => intro p hp; cases hp
  | cons p D ih =>
    obtain ⟨p, c'⟩ := p
    simp only [Dl.look] at h
    split at h
    · cases h
    · rename_i hh
      intro q hq
      rcases List.mem_cons.1 hq with rfl | hq
      · cases hb : p.hits l with
        | true => rw [hb] at hh; cases hh
        | false => rfl
      · exact ih h q hq

theorem Rel.freeze (h : Rel C G look a w) {D : Dl} (hD : FrzOk look D) : Rel C ⟨G.m, G.ρ, fun b => G.F b ∨ frzB G D b⟩ (app look D) a w := by
  have key : ∀ l c, app look D l = some c → (look l = some c ∧ ∀ p ∈ D, p.1.hits l = false) ∨ ∃ q r, l = .row q ∧ c = .r ⟨r.e, r.sz, false, r.es⟩ ∧ look (.row q) = some (.r r) ∧ r.hot = true ∧ ∃ p ∈ D, p.1 = .at (.row q) := fun l c e => by
    unfold app at e
    split at e
    · rename_i c' hc
      subst e
      obtain ⟨p, hp, h1, h2⟩ := dl_look_mem hc
      obtain ⟨q, r, rfl, hq, hr⟩ := hD p hp
      simp only [Pat.hits] at h1
      have := Loc.beq_iff.1 h1
      simp only [Option.some.injEq] at h2
      exact .inr ⟨q, r, this.symm, h2.symm, hq, hr, _, hp, rfl⟩
    · rename_i hc; exact .inl ⟨e, dl_look_none hc⟩
  have hs : Step G ⟨G.m, G.ρ, fun b => G.F b ∨ frzB G D b⟩ w w := ⟨fun _ _ => rfl, fun b hb => .inl hb⟩
  have hblk : ∀ l c g, app look D l = some c → Gh.blk ⟨G.m, G.ρ, fun b => G.F b ∨ frzB G D b⟩ l c = some g → look l = some c ∧ G.blk l c = some g ∧ ∀ p ∈ D, p.1.hits l = false := fun l c g e hb => by
    rcases key l c e with ⟨e, hh⟩ | ⟨q, r, rfl, rfl, _⟩
    · exact ⟨e, hb, hh⟩
    · simp [Gh.blk] at hb
  have hlt : ∀ b, frzB G D b → ∃ q r, look (.row q) = some (.r r) ∧ r.hot = true ∧ (G.ρ q).ownBlock = some b ∧ ∃ p ∈ D, p.1 = .at (.row q) := fun b ⟨p, hp, q, he, hq⟩ => by
    obtain ⟨q', r, hpe, hl, hh⟩ := hD p hp
    have hpq : p.1 = .at (.row q') := by rw [hpe]
    rw [he] at hpq
    cases hpq
    exact ⟨_, r, hl, hh, hq, p, hp, he⟩
  exact
  { leaf := fun b j l e => by
      rcases key _ _ e with ⟨e, _⟩ | ⟨q, r, h1, _⟩
      · obtain ⟨u, cur, T, h1, h2, h3⟩ := h.leaf b j l e
        exact ⟨u, cur, T, h1, h2, h3.keep hs fun _ _ => ⟨rfl, rfl⟩⟩
      · cases h1
    row := fun k r e => by
      rcases key _ _ e with ⟨e, _⟩ | ⟨q, r', h1, h2, h3, h4, p, hp, hpq⟩
      · exact (h.row k r e).keep hs fun _ _ _ => rfl
      · cases h1; cases h2
        obtain ⟨h5, h6, h7, _, xs, h8, h9⟩ := h.row _ r' h3
        exact ⟨h5, h6, h7, fun _ g hg => .inr ⟨p, hp, _, hpq, hg⟩, xs, h8, h9.imp fun _ _ _ hh => hh.mono hs.mem hs.F⟩
    sep := fun l l' c c' g e e' hb hb' => by
      obtain ⟨e, hb, _⟩ := hblk _ _ _ e hb
      obtain ⟨e', hb', _⟩ := hblk _ _ _ e' hb'
      exact h.sep l l' c c' g e e' hb hb'
    cold := fun l c g e hb hF => by
      obtain ⟨e, hb, hh⟩ := hblk _ _ _ e hb
      rcases hF with hF | hF
      · exact h.cold l c g e hb hF
      · obtain ⟨q, r, hl, hr, hg, p, hp, hpq⟩ := hlt g hF
        have hsame := h.sep l (.row q) c (.r r) g e hl hb (by simp [Gh.blk, hr, hg])
        cases l with
        | row q' =>
          have : q' = q := hsame
          subst this
          have := hh p hp
          rw [hpq] at this
          simp only [Pat.hits, Loc.beq_self] at this
          cases this
        | _ => exact hsame.elim
    Flt := fun b hF => hF.elim (h.Flt b) fun hF => by
      obtain ⟨q, r, hl, hr, hg, _⟩ := hlt b hF
      exact h.toMemR.blk_lt hl (by simp [Gh.blk, hr, hg])
    slot := fun t s e => by
      rcases key _ _ e with ⟨e, _⟩ | ⟨q, r, h1, _⟩
      · exact ⟨(h.slot t s e).1, (h.slot t s e).2.keep hs fun _ _ => ⟨rfl, rfl⟩⟩
      · cases h1
    mine := fun l c g e hb => by
      obtain ⟨e, hb, _⟩ := hblk _ _ _ e hb
      exact h.mine l c g e hb
    fr := h.fr
    F0 := fun b hb => .inl (h.F0 b hb)
    Fnew := fun b hF => hF.elim (h.Fnew b) fun hF => by
      obtain ⟨q, r, hl, hr, hg, _⟩ := hlt b hF
      rcases h.mine _ _ b hl (by simp [Gh.blk, hr, hg]) with h1 | h1
      · exact .inr h1
      · obtain ⟨_, b', j', hh⟩ := h1; cases hh
    defers := h.defers
    size := h.size
    pin := h.pin }
end
end Go.Proofs.YtccbimcikbbecaaGreat.P1
/- Data out of cells; new memory. -/
namespace Go.Proofs.YtccbimcikbbecaaGreat.P1
open Go

section
variable {P : Program} {T : TI} {C : Cx} {G G2 : Gh} {look look' : Loc → Option Cell} {a : Act} {w w' : World}

theorem row_rd {v : Value} {r : Row} (h : RowR G w v r) {F' : Nat → Prop} (hF : ∀ b, G.F b → F' b) (hv : ∀ g, v.ownBlock = some g → F' g) : Rd w F' v (.row r.es) := by
  have hR := h
  obtain ⟨h0, h1, h2, h3, xs, ⟨hx, ho⟩, hf⟩ := h
  rcases ho with ⟨rfl, hz⟩ | ⟨g, cap, cur, rfl, hb, hg, hn, hm, rest⟩
  · rw [List.eq_nil_of_length_eq_zero hz]; exact .emp fun _ => rfl
  · have hcell : ∀ i j, i < r.es.length → j < r.sz → ∃ u, w.cell? ⟨g, 0 + i * r.sz + j, none⟩ = some u ∧ ∀ x, (r.es[i]?.bind (·[j]?)) = some x → Rd w F' u x := fun i j hi hj => by
      have hl : (r.es[i]).length = r.sz := h2 _ (List.getElem_mem hi)
      obtain ⟨u, h5, h6⟩ := row_cells hR rfl (i := i) (e := r.es[i]) (by simp [hi]) (j := j) (x := (r.es[i])[j]'(by omega)) (by simp [hl, hj])
      refine ⟨u, by simpa using h5, fun x hxx => ?_⟩
      simp only [List.getElem?_eq_getElem hi, Option.bind_some] at hxx
      obtain ⟨_, rfl⟩ := List.getElem?_eq_some_iff.1 hxx
      exact h6.mono (fun _ _ => rfl) hF
    have hc := fun i j => Classical.propDecidable (i < r.es.length ∧ j < r.sz)
    refine .row (sz := r.sz) (fun i j => (w.cell? ⟨g, 0 + i * r.sz + j, none⟩).getD undef) (hv g rfl) rfl hn h1 h0 (fun i hi => h2 _ (List.getElem_mem hi)) (fun i j hi hj => ?_) (fun i j hi hj => ?_)
    · obtain ⟨u, h5, _⟩ := hcell i j hi hj
      rw [h5]; rfl
    · have hj' : j < r.sz := by rw [← h2 _ (List.getElem_mem hi)]; exact hj
      obtain ⟨u, h5, h6⟩ := hcell i j hi hj'
      rw [h5]
      exact h6 _ (by simp [hi, hj])

/-- A value is data, its own rows frozen. -/
def RdF (G : Gh) (w : World) (D : Dl) (u : Value) (x : AV) : Prop := ∀ F' : Nat → Prop, (∀ b, G.F b → F' b) → (∀ b, frzB G D b → F' b) → Rd w F' u x

theorem frzB_append_l {D D' : Dl} {b : Nat} (h : frzB G D b) : frzB G (D ++ D') b := by
  obtain ⟨p, hp, h⟩ := h; exact ⟨p, List.mem_append_left _ hp, h⟩
theorem frzB_append_r {D D' : Dl} {b : Nat} (h : frzB G D' b) : frzB G (D ++ D') b := by
  obtain ⟨p, hp, h⟩ := h; exact ⟨p, List.mem_append_right _ hp, h⟩
theorem RdF.left {D D' : Dl} {u : Value} {x : AV} (h : RdF G w D u x) : RdF G w (D ++ D') u x := fun F' h1 h2 => h F' h1 fun b hb => h2 b (frzB_append_l hb)
theorem RdF.right {D D' : Dl} {u : Value} {x : AV} (h : RdF G w D' u x) : RdF G w (D ++ D') u x := fun F' h1 h2 => h F' h1 fun b hb => h2 b (frzB_append_r hb)

theorem avOf_sound (hr : MemR G look w) {l : Lf} {u : Value} (hu : LfR G w u l) {k : AV → List Loc → Dl → Prop} (h : avOf look l k) :
    ∃ x R D, k x R D ∧ FrzOk look D ∧ RdF G w D u x := by
  unfold avOf at h
  split at h
  · exact ⟨_, _, _, h, .nil, fun F' hF _ => Rd.mono hu (fun _ _ => rfl) hF⟩
  · simp only [LfR] at hu; subst hu; exact ⟨_, _, _, h, .nil, fun _ _ _ => .bool⟩
  · simp only [LfR] at hu; subst hu; exact ⟨_, _, _, h, .nil, fun _ _ _ => .emp fun _ => rfl⟩
  · rename_i q
    obtain ⟨rfl, _⟩ := hu
    split at h
    · rename_i r hq
      have hR := hr.row q r hq
      split at h
      · rename_i hh
        refine ⟨_, _, _, h, fun p hp => ?_, fun F' hF hD => row_rd hR hF fun g hg => hD g ⟨_, .head _, q, rfl, hg⟩⟩
        rw [List.mem_singleton] at hp
        exact ⟨q, r, hp, hq, hh⟩
      · rename_i hh
        exact ⟨_, _, _, h, .nil, fun F' hF _ => row_rd hR hF fun g hg => hF g (hR.2.2.2.1 (by simpa using hh) g hg)⟩
    · exact h.elim
  · exact h.elim

theorem avsOf_sound (hr : MemR G look w) : ∀ {us : List Value} {ls : List Lf} {k : List AV → List Loc → Dl → Prop}, All2 (LfR G w) us ls → avsOf look ls k →
    ∃ xs R D, k xs R D ∧ FrzOk look D ∧ All2 (RdF G w D) us xs
  | _, [], _, .nil, h => ⟨_, _, _, h, .nil, .nil⟩
  | _ :: _, _ :: _, _, .cons hu hus, h => by
    obtain ⟨x, R, D, h1, h2, h3⟩ := avOf_sound hr hu h
    obtain ⟨xs, R', D', h4, h5, h6⟩ := avsOf_sound hr hus h1
    exact ⟨_, _, _, h4, h2.append h5, .cons h3.left (h6.imp fun _ _ _ hh => hh.right)⟩

theorem elemsW_sound (hr : Rel C G look a w) {size : Nat} : ∀ {l : List (Nat × Operand)} {n : Nat} {k : List (List AV) → List Loc → Dl → Prop}, elemsW look size l n k →
    ∃ es R D, k es R D ∧ FrzOk look D ∧ es.length = l.length ∧ (∀ e ∈ es, e.length = size) ∧ (∀ i (h : i < l.length), l[i].1 = n + i) ∧
      All2 (fun p e => p.2.cells.size = size ∧ (p.2.oneCell' = true ∨ ∃ us, p.2 = .agg us) ∧ All2 (RdF G w D) p.2.cells.toList e) (l.map fun p => (p.1, a.eval p.2)) es
  | [], _, _, h => ⟨_, _, _, h, .nil, rfl, fun _ h => by (cases h), fun _ h => by (simp at h), .nil⟩
  | (i, x) :: r, n, k, h => by
    simp only [elemsW] at h
    split at h
    · rename_i hb
      have hin : i = n := Nat.eq_of_beq_eq_true hb
      obtain ⟨s, R, h1, hs⟩ := rdS_sound hr h
      split at h1
      · rename_i ls hls
        split at h1
        · rename_i hb2
          have hlen := Nat.eq_of_beq_eq_true hb2
          obtain ⟨h2, h2'⟩ := slr_leafs hs hls
          obtain ⟨e, R', D, h3, h4, h5⟩ := avsOf_sound hr.toMemR h2 h1
          obtain ⟨es, R'', D', h6, h7, h8, h9, h10, h11⟩ := elemsW_sound hr h3
          have hsz : (a.eval x).cells.size = size := by have := h2.length; simp at this; omega
          refine ⟨_, _, _, h6, h4.append h7, by simp [h8], fun e' he' => ?_, fun j hj => ?_, .cons ⟨hsz, h2', h5.imp fun _ _ _ hh => hh.left⟩ (h11.imp fun _ _ _ hh => ⟨hh.1, hh.2.1, hh.2.2.imp fun _ _ _ hh => hh.right⟩)⟩
          · rcases List.mem_cons.1 he' with rfl | he'
            · have := h5.length; simp at this; omega
            · exact h9 e' he'
          · cases j with
            | zero => simpa using hin
            | succ j => have := h10 j (by simpa using hj); simp at this ⊢; omega
        · exact h1.elim
      · exact h1.elim
    · exact h.elim

/-! ### A new block -/
theorem heap_push_old {o : Obj} {b : Nat} (h : b < w.heap.size) : (w.alloc o).heap[b]? = w.heap[b]? := by
  simp only [World.alloc, Array.getElem?_push]
  rw [if_neg (by omega)]

theorem Fr.alloc {w0 : World} {M : Nat → Prop} (h : Fr w0 M w) (o : Obj) : Fr w0 M (w.alloc o) :=
  ⟨h.os, h.tape, h.output, by have := h.size; simp; omega, fun i hi hn => by rw [heap_push_old (Nat.lt_of_lt_of_le hi h.size)]; exact h.block i hi hn, h.drawn⟩

/-- No key of operation d's is in use. -/
def Fresh (d : Nat) (look : Loc → Option Cell) : Prop := ∀ l c, look l = some c → ∀ k, k ∈ l.keys ∨ k ∈ c.keys → k.1 ≠ d

theorem notIn_sound {d : Nat} : ∀ {l : List Key}, notIn d l = true → ∀ k ∈ l, k.1 ≠ d
  | [], _, k, h => by cases h
  | x :: l, h, k, hk => by
    simp only [notIn] at h
    split at h
    · cases h
    · rename_i hb
      rcases List.mem_cons.1 hk with rfl | hk
      · intro e; rw [e] at hb; simp at hb
      · exact notIn_sound h k hk

theorem St.fresh_sound {d : Nat} : ∀ {σ : St}, σ.fresh d = true → Fresh d σ.look
  | [], _, l, c, e, _, _ => by cases e
  | (l', c') :: r, h, l, c, e, k, hk => by
    simp only [St.fresh] at h
    split at h
    · rename_i h1
      split at h
      · rename_i h2
        simp only [St.look] at e
        split at e
        · rename_i hb
          cases e
          have := Loc.beq_iff.1 hb
          subst this
          exact hk.elim (notIn_sound h1 k) (notIn_sound h2 k)
        · exact St.fresh_sound h l c e k hk
      · cases h
    · cases h

/-- The ghosts with operation d's names given anew. -/
def Gh.with (G : Gh) (d : Nat) (m : Nat → Nat) (ρ : Nat → Value) (F : Nat → Prop) : Gh :=
  ⟨fun k => if k.1 = d then m k.2 else G.m k, fun k => if k.1 = d then ρ k.2 else G.ρ k, F⟩

theorem Gh.with_ne {d : Nat} {m : Nat → Nat} {ρ : Nat → Value} {F : Nat → Prop} (hf : Fresh d look) : ∀ l c, look l = some c → ∀ k, k ∈ l.keys ∨ k ∈ c.keys → (G.with d m ρ F).m k = G.m k ∧ (G.with d m ρ F).ρ k = G.ρ k :=
  fun l c e k hk => by have := hf l c e k hk; simp [Gh.with, this]

/-- All that is known is known still when a block is made. -/
theorem Rel.alloc (h : Rel C G look a w) (o : Obj) {d : Nat} (hd : d < C.n) (hf : Fresh d look) (m : Nat → Nat) (ρ : Nat → Value) : Rel C (G.with d m ρ G.F) look a (w.alloc o) :=
  h.frame ⟨fun b hb => heap_push_old (h.Flt b hb), fun _ hb => hb⟩ (fun l c g e hb => heap_push_old (h.toMemR.blk_lt e hb)) (Gh.with_ne hf) h.cold
    (fun b hb => by have := h.Flt b hb; simp; omega) (h.fr.alloc o) (fun _ hb => .inl hb) (fun i => if_neg (Nat.ne_of_gt hd))
end
end Go.Proofs.YtccbimcikbbecaaGreat.P1
/- All operations. -/
namespace Go.Proofs.YtccbimcikbbecaaGreat.P1
open Go

def toD (d : Option Nat) (s : Sl) : Dl := match d with
  | some d => [(.at (.slot d), some (.s s))]
  | none => []

/-- The data of a row that is looked at. -/
def rowOf (look : Loc → Option Cell) (s : Sl) (k : List (List AV) → List Loc → Prop) : Prop := match s with
  | .lf (.av (.row es)) => k es []
  | .lf .nil => k [] []
  | .lf (.own q) => match look (.row q) with
    | some (.r r) => k r.es [.row q]
    | _ => False
  | _ => False

/-- Builtins that only compute. -/
def blt (T : TI) (b : Builtin) (args : List Operand) (ts : List TypeId) (look : Loc → Option Cell) (k : Sl → List Loc → Prop) : Prop := match b, args, ts with
  | .len, [x], [t] => match T t with
    | some d => rdS look x fun s R => match d.k, s with
      | .slice _, s => rowOf look s fun es R' => k (.lf (.av (.int .i64 es.length))) (R ++ R')
      | .string, .lf (.av (.str a)) => k (.lf (.av (.int .i64 a.length))) R
      | _, _ => False
    | none => False
  | .max, [x, y], _ => rdS look x fun s R => rdS look y fun s' R' => match s, s' with
    | .lf (.av (.int kk a)), .lf (.av (.int kk' b)) => match decide (kk = kk') with
      | true => k (.lf (.av (.int kk (if b > a then b else a)))) (R ++ R')
      | false => False
    | _, _ => False
  | .min, [x, y], _ => rdS look x fun s R => rdS look y fun s' R' => match s, s' with
    | .lf (.av (.int kk a)), .lf (.av (.int kk' b)) => match decide (kk = kk') with
      | true => k (.lf (.av (.int kk (if b < a then b else a)))) (R ++ R')
      | false => False
    | _, _ => False
  | _, _, _ => False

def apW (T : TI) (d : Nat) (s x : Operand) (t : TypeId) (look : Loc → Option Cell) (k : Dl → List Loc → Prop) : Prop := match T t with
  | some td => match td.k with
    | .slice e => match T e with
      | some de => rdS look s fun ss R => rdS look x fun sx R' => rowOf look sx fun es2 R'' => match ss with
        | .lf .nil => es2.length * de.bytes ≤ 140737488355328 ∧ (∀ x ∈ es2, x.length = de.size) ∧
            k [(.at (.slot d), some (.s (.lf (.own (d, 0))))), (.at (.row (d, 0)), some (.r ⟨e, de.size, true, es2⟩))] (R ++ (R' ++ R''))
        | .lf (.own q) => match look (.row q) with
          | some (.r r) => match r.hot && Nat.beq r.e e && Nat.beq r.sz de.size with
            | true => (r.es.length + es2.length) * de.bytes ≤ 140737488355328 ∧ (∀ x ∈ es2, x.length = de.size) ∧
                k [(.at (.slot d), some (.s (.lf (.own (d, 0))))), (.at (.row (d, 0)), some (.r ⟨e, de.size, true, r.es ++ es2⟩)), (.at (.row q), none)] (.row q :: (R ++ (R' ++ R'')))
            | false => False
          | _ => False
        | _ => False
      | none => False
    | _ => False
  | none => False

/-- Cells of boxes, as a contract wants them. -/
def hasS (look : Loc → Option Cell) (B : List Key) : Bx → (List Loc → Dl → Prop) → Prop
  | [], k => k [] []
  | (((o, i), j), x) :: r, k => match Nat.beq o 1 with
    | false => False
    | true => match B[i]? with
      | none => False
      | some b => match look (.leaf b j) with
        | some (.l l) => avOf look l fun x' R D => x' = x ∧ hasS look B r fun R' D' => k (.leaf b j :: (R ++ R')) (D ++ D')
        | _ => False

def AV.flat : AV → Bool
  | .row _ => false
  | _ => true
def Lf.flat : Lf → Bool
  | .av x => x.flat
  | .lit _ | .nil => true
  | _ => false
mutual
def Sl.flat : Sl → Bool
  | .lf l => l.flat
  | .agg ls => ls.all Lf.flat
  | .tup ss => Sl.flatL ss
def Sl.flatL : List Sl → Bool
  | [] => true
  | s :: ss => match s.flat with
    | true => Sl.flatL ss
    | false => false
end

def zeroKeys (l : List Key) : Bool := l.all fun k => Nat.beq k.1 0
def St.zk : St → Bool
  | [] => true
  | (.leaf b _, .l x) :: r => Nat.beq b.1 0 && zeroKeys x.keys && St.zk r
  | (.row b, .r _) :: r => Nat.beq b.1 0 && St.zk r
  | _ => false

def Bx.sets (B : List Key) : Bx → Dl
  | [] => []
  | (((_, i), j), x) :: r => (.at (.leaf (B.getD i (0, 0)) j), some (.l (.av x))) :: Bx.sets B r
def Bx.kills (B : List Key) : Bx → Dl
  | [] => []
  | (((_, i), _), _) :: r => (.box (B.getD i (0, 0)), none) :: Bx.kills B r
def Bx.sub (S' S : Bx) : Bool := S'.all fun p => S.any fun q => kbeq p.1.1 q.1.1 && Nat.beq p.1.2 q.1.2

def memK (b : Key) : List Key → Bool
  | [] => false
  | k :: r => match kbeq k b with
    | true => true
    | false => memK b r
def nodupK : List Key → Bool
  | [] => true
  | k :: r => match memK k r with
    | true => false
    | false => nodupK r

def rk (d : Nat) (k : Key) : Key := (d, k.2)
def St.dl (d : Nat) : St → Dl
  | [] => []
  | (l, c) :: r => (.at (l.ren (rk d)), some (c.ren (rk d))) :: St.dl d r

def capSl (B : List Key) : List (Key × Nat) → List Sl
  | [] => []
  | p :: r => .lf (.ptr (1, idx p.1 B) p.2) :: capSl B r

def resD (d : Nat) (r : Sl) (N : St) : Dl := (.at (.slot d), some (.s (r.ren (rk d)))) :: N.dl d

def callW (P : Program) (f : FuncId) (args : List Operand) (caps : List (Key × Nat)) (d : Nat) (look : Loc → Option Cell) (k : Dl → List Loc → Prop) : Prop :=
  argsW look args [] fun ss B R D => ∃ S r N S', Ct P f (ss ++ capSl (capKeys caps B) caps) S r N S' ∧ hasS look (capKeys caps B) S fun R' D' =>
    match zeroKeys r.keys && N.zk && S'.sub S && nodupK (capKeys caps B) with
    | true => match r.flat && N.isEmpty && S'.isEmpty with
      | true => k (resD d r []) (R ++ R')
      | false => k (resD d r N ++ (S'.sets (capKeys caps B) ++ (S'.kills (capKeys caps B) ++ (D ++ D')))) (R ++ R')
    | false => False

/-- The contract of a function whose first argument is a slice that it may change (r0: its row); b: it hands the slice back (else nothing). -/
def CtR (P : Program) (f : FuncId) (args : List Sl) (r0 : Row) (b : Bool) (es' : List (List AV)) : Prop :=
  (∃ fn c, P.funcs[f]? = some fn ∧ fn.body = some c ∧ (fn.name == "runtime.NumGoroutine") = false) ∧
  ∀ (F : Nat → Prop) (w : World) (v0 : Value) (vals : List Value), (∀ b, F b → b < w.heap.size) → RowR ⟨fun _ => 0, fun _ => undef, F⟩ w v0 r0 → v0.oneCell' = true → (∀ g, v0.ownBlock = some g → ¬ F g) →
    SlsR ⟨fun _ => 0, fun _ => undef, F⟩ w vals args →
    Calls P f (v0 :: vals).toArray w fun e w' => ∃ v, e = .returned (match b with | true => v | false => .tuple #[]) ∧ Fr w (fun i => v0.ownBlock = some i) w' ∧ RowR ⟨fun _ => 0, fun _ => undef, F⟩ w' v ⟨r0.e, r0.sz, true, es'⟩ ∧ v.oneCell' = true ∧
      (∀ g, v.ownBlock = some g → v0.ownBlock = some g) ∧ (b = false → v = v0)

def rowCallW (P : Program) (f : FuncId) (args : List Operand) (d : Nat) (look : Loc → Option Cell) (k : Dl → List Loc → Prop) : Prop := match args with
  | [] => False
  | x :: xs => rdS look x fun s R => match s with
    | .lf (.own q) => match look (.row q) with
      | some (.r r) => match r.hot with
        | true => argsW look xs [] fun ss B R' D => match B, D with
          | [], [] => ∃ b es', CtR P f ss r b es' ∧ match b with
            | true => k [(.at (.slot d), some (.s (.lf (.own (d, 0))))), (.at (.row (d, 0)), some (.r ⟨r.e, r.sz, true, es'⟩)), (.at (.row q), none)] (.row q :: (R ++ R'))
            | false => k [(.at (.slot d), some (.s (.tup []))), (.at (.row q), some (.r ⟨r.e, r.sz, true, es'⟩))] (.row q :: (R ++ R'))
          | _, _ => False
        | false => False
      | _ => False
    | _ => False

def anyCallW (P : Program) (f : FuncId) (args : List Operand) (caps : List (Key × Nat)) (d : Nat) (look : Loc → Option Cell) (k : Dl → List Loc → Prop) : Prop :=
  callW P f args caps d look k ∨ (caps = [] ∧ rowCallW P f args d look k)

def noKeys : List Lf → Bool
  | [] => true
  | l :: ls => match l.keys with
    | [] => noKeys ls
    | _ => false
theorem noKeys_sound : ∀ {ls : List Lf}, noKeys ls = true → ∀ l ∈ ls, l.keys = []
  | [], _, l, h => by cases h
  | x :: ls, h, l, hl => by
    simp only [noKeys] at h
    split at h
    · rename_i hk
      rcases List.mem_cons.1 hl with rfl | hl
      · exact hk
      · exact noKeys_sound h l hl
    · cases h

def opW (P : Program) (T : TI) (o : Oper) (look : Loc → Option Cell) (k : Dl → List Loc → Prop) : Prop := match o.op with
  | .alloc t => match o.dst, T t with
    | some d, some td => match noKeys td.zero with
      | true => k ((.at (.slot d), some (.s (.lf (.ptr (d, 0) 0)))) :: zipLeaf (d, 0) 0 td.zero) []
      | false => False
    | _, _ => False
  | .box _ x => match o.dst with
    | some d => rdS look x fun s R => match s.leafs with
      | some ls => k ((.at (.slot d), some (.s (.lf (.ptr (d, 0) 0)))) :: zipLeaf (d, 0) 0 ls) R
      | none => False
    | none => False
  | .buildSlice t len parts => match o.dst, T t with
    | some d, some td => match td.k with
      | .slice e => match T e with
        | some de => match Nat.beq parts.toList.length len && Nat.ble (len * de.size) 16777216 with
          | true => elemsW look de.size parts.toList 0 fun es R D =>
              k ((.at (.slot d), some (.s (.lf (.own (d, 0))))) :: (.at (.row (d, 0)), some (.r ⟨e, de.size, true, es⟩)) :: D) R
          | false => False
        | none => False
      | _ => False
    | _, _ => False
  | .makeSlice t l c => match o.dst, T t with
    | some d, some td => match td.k with
      | .slice e => match T e with
        | some de => match zeroAV de.zero with
          | some z => rdS look l fun sl R => rdS look c fun sc R' => match sl, sc with
            | .lf (.av (.int .i64 n)), .lf (.av (.int .i64 m)) => m = n ∧ 0 ≤ n ∧ n * de.bytes ≤ 140737488355328 ∧
                k [(.at (.slot d), some (.s (.lf (.own (d, 0))))), (.at (.row (d, 0)), some (.r ⟨e, de.size, true, List.replicate n.toNat z⟩))] (R ++ R')
            | _, _ => False
          | none => False
        | none => False
      | _ => False
    | _, _ => False
  | .store t x v => match o.dst, T t with
    | none, some td => rdS look x fun sx R => rdS look v fun sv R' => match sv.leafs with
      | some ls => match Nat.beq ls.length td.size with
        | true => match sx with
          | .lf (.ptr b j) => match there look b j td.size with
            | true => k (zipLeaf b j ls) (leafLocs b j td.size ++ (R ++ R'))
            | false => False
          | .lf (.optr q sz i j) => match look (.row q) with
            | some (.r r) => match r.hot && Nat.beq r.sz sz with
              | true => avsOf look ls fun xs R'' D => ∃ e, r.es[i]? = some e ∧ j + td.size ≤ e.length ∧ (∀ p ∈ D, p.1.hits (.row q) = false) ∧
                  k ((.at (.row q), some (.r ⟨r.e, r.sz, true, r.es.set i (e.take j ++ xs ++ e.drop (j + td.size))⟩)) :: D) (.row q :: (R ++ (R' ++ R'')))
              | false => False
            | _ => False
          | _ => False
        | false => False
      | none => False
    | _, _ => False
  | .call c => match c.callee with
    | .builtin .append => match o.dst, c.args.toList, c.argTypes.toList with
      | some d, [s, x], [t, t'] => match Nat.beq t t' with
        | true => apW T d s x t look k
        | false => False
      | _, _, _ => False
    | .builtin b => blt T b c.args.toList c.argTypes.toList look fun s R => k (toD o.dst s) R
    | .value f => match o.dst with
      | some d => rdS look f fun s R => match s with
        | .lf (.fn g caps) => anyCallW P g c.args.toList caps d look fun D R' => k D (R ++ R')
        | _ => False
      | none => False
    | .invoke _ _ => False
  | op => valW T op look fun s R => k (toD o.dst s) R
end Go.Proofs.YtccbimcikbbecaaGreat.P1
