/- Part 2 of what the row leans on: K, L, M, N, O, Q, R, S, U, V, W. No statement of the program stands here by itself. -/
import Derived.Test.YtccbimcikbbecaaGreatW1
import Derived.Laws.CopyRow
import Derived.Laws.MakeOwn
import Derived.IntWalk
import Derived.Maps.AppendAt
import Derived.Laws.OwnMore
set_option linter.all false
set_option linter.unusedVariables false
set_option linter.unusedSimpArgs false
/- That opW tells what the model does: values, boxes, slices that are made, stores. -/
namespace Go.Proofs.YtccbimcikbbecaaGreat.P1
open Go

section
variable {P : Program} {T : TI} {C : Cx} {G G2 : Gh} {look look' : Loc → Option Cell} {a : Act} {w w' : World}

/-- What opW's soundness says. -/
def OpOk (P : Program) (C : Cx) (o : Oper) (look : Loc → Option Cell) (a : Act) (w : World) (k : Dl → List Loc → Prop) : Prop :=
  ∃ D R, k D R ∧ ∀ (K : Act → World → Prop) (Q : Exit → Act → World → Prop), (∀ a' w', RelE C (app look D) a' w' → K a' w') → o.wp P a w K Q

theorem wp_value {o : Oper} {u : Value} {K : Act → World → Prop} {Q : Exit → Act → World → Prop} (h : (execOp a.eval o).run P w = .ok (.value u) w') (hk : K (a.put o.dst u) w') : o.wp P a w K Q := by
  unfold Oper.wp; rw [h]; exact hk
theorem wp_skip' {o : Oper} {K : Act → World → Prop} {Q : Exit → Act → World → Prop} (h : (execOp a.eval o).run P w = .ok .skip w') (hk : K (a.put o.dst undef) w') : o.wp P a w K Q := by
  unfold Oper.wp; rw [h]; exact hk

theorem app_toD (look : Loc → Option Cell) (d : Nat) (s : Sl) : app look (toD (some d) s) = setS look d s := by
  funext l
  simp only [app, toD, Dl.look, Pat.hits, setS]
  cases (Loc.slot d).beq l <;> rfl
theorem app_nil (look : Loc → Option Cell) : app look [] = look := rfl

theorem Rel.toD (hr : Rel C G look a w) {o : Oper} (hd : ∀ d, o.dst = some d → d < C.n) {u : Value} {s : Sl} (hs : SlR G w u s) : Rel C G (app look (P1.toD o.dst s)) (a.put o.dst u) w := by
  cases h : o.dst with
  | none => exact hr
  | some d => rw [app_toD]; exact hr.put (Nat.lt_of_lt_of_le (hd d h) hr.size) hs

theorem op_val (hT : TOk P T) (hr : Rel C G look a w) {o : Oper} (hd : ∀ d, o.dst = some d → d < C.n) {k : Dl → List Loc → Prop} {k' : Sl → List Loc → Prop} (hk : ∀ s R, k' s R → k (toD o.dst s) R) (h : ValOk P G w a o k') : OpOk P C o look a w k := by
  obtain ⟨s, R, u, h1, h2, h3⟩ := h
  exact ⟨_, _, hk s R h1, fun K Q hK => wp_value h2 (hK _ _ ⟨G, hr.toD hd h3⟩)⟩

/-! ### A box -/
def bxLook (b : Key) (ls : List Lf) : Loc → Option Cell
  | .leaf b' j => match kbeq b b' with
    | true => (ls[j]?).map .l
    | false => none
  | _ => none

theorem zipLeaf_look (b : Key) : ∀ (ls : List Lf) (j0 : Nat) (l : Loc), Dl.look (zipLeaf b j0 ls) l = match l with
    | .leaf b' j => if b = b' ∧ j0 ≤ j ∧ j < j0 + ls.length then some ((ls[j - j0]?).map .l) else none
    | _ => none
  | [], j0, l => by cases l <;> simp [zipLeaf, Dl.look]
  | x :: ls, j0, l => by
    simp only [zipLeaf, Dl.look, Pat.hits]
    have ih := zipLeaf_look b ls (j0 + 1) l
    cases l with
    | slot t => simp only [Loc.beq]; simpa using ih
    | row q => simp only [Loc.beq]; simpa using ih
    | leaf b' j =>
      cases hb : (Loc.leaf b j0).beq (.leaf b' j) with
      | true =>
        have := Loc.beq_iff.1 hb
        cases this
        simp
      | false =>
        have hne : ¬ (b = b' ∧ j0 = j) := fun hh => by rw [hh.1, hh.2, Loc.beq_self] at hb; cases hb
        simp only [ih]
        by_cases h1 : b = b' ∧ j0 + 1 ≤ j ∧ j < j0 + 1 + ls.length
        · rw [if_pos h1, if_pos ⟨h1.1, by omega, by simp only [List.length_cons]; omega⟩]
          rw [show j - j0 = (j - (j0 + 1)) + 1 by omega]
          simp
        · rw [if_neg h1, if_neg (fun hh => by
            obtain ⟨e1, e2, e3⟩ := hh
            simp only [List.length_cons] at e3
            by_cases h2 : j0 = j
            · exact hne ⟨e1, h2⟩
            · exact h1 ⟨e1, by omega, by omega⟩)]

theorem app_box {d : Nat} {ls : List Lf} {s : Sl} : app look ((.at (.slot d), some (.s s)) :: zipLeaf (d, 0) 0 ls) = setS (over (bxLook (d, 0) ls) look) d s := by
  funext l
  simp only [app, Dl.look, Pat.hits, setS]
  cases hb : (Loc.slot d).beq l with
  | true => rfl
  | false =>
    simp only [zipLeaf_look]
    cases l with
    | slot t => rfl
    | row q => rfl
    | leaf b' j =>
      simp only [over, bxLook]
      cases hk : kbeq (d, 0) b' with
      | true =>
        have := kbeq_iff.1 hk
        subst this
        by_cases hj : j < ls.length
        · simp [hj]
        · simp [hj]
      | false =>
        have : ¬ ((d, 0) = b') := fun hh => by rw [kbeq_iff.2 hh] at hk; cases hk
        simp [this]

theorem Rel.newBox (hr : Rel C G look a w) {d : Nat} (hf : Fresh d look) (hd : d < C.n) {us : List Value} {ls : List Lf} (hl : All2 (LfR G w) us ls) (hk : ∀ l ∈ ls, ∀ k ∈ l.keys, k.1 ≠ d) (T : TypeId) :
    RelE C (app look ((.at (.slot d), some (.s (.lf (.ptr (d, 0) 0)))) :: zipLeaf (d, 0) 0 ls)) (a.put (some d) (.pointer (some ⟨w.heap.size, 0, none⟩))) (w.alloc (.cells us.toArray T)) := by
  have h1 := hr.alloc (.cells us.toArray T) hd hf (fun _ => w.heap.size) (fun _ => undef)
  have hstep : Step G (G.with d (fun _ => w.heap.size) (fun _ => undef) G.F) w (w.alloc (.cells us.toArray T)) := ⟨fun b hb => heap_push_old (hr.Flt b hb), fun _ hb => hb⟩
  have hm : (G.with d (fun _ => w.heap.size) (fun _ => undef) G.F).m (d, 0) = w.heap.size := by simp [Gh.with]
  have hnew : (w.alloc (.cells us.toArray T)).heap[w.heap.size]? = some (.cells us.toArray T (0, 0)) := heap_alloc_new w _
  have hbx : ∀ l c, bxLook (d, 0) ls l = some c → ∃ j x, l = .leaf (d, 0) j ∧ ls[j]? = some x ∧ c = .l x := fun l c e => by
    cases l <;> simp only [bxLook] at e <;> try (cases e; done)
    split at e
    · rename_i hb
      have := kbeq_iff.1 hb
      subst this
      simp only [Option.map_eq_some_iff] at e
      obtain ⟨x, hx, rfl⟩ := e
      exact ⟨_, x, rfl, hx, rfl⟩
    · cases e
  have h2 : MemR (G.with d (fun _ => w.heap.size) (fun _ => undef) G.F) (bxLook (d, 0) ls) (w.alloc (.cells us.toArray T)) :=
  { leaf := fun b j l e => by
      obtain ⟨j', x, hl', hx, hc⟩ := hbx _ _ e
      cases hl'; cases hc
      obtain ⟨u, hu, hul⟩ := hl.get _ _ hx
      refine ⟨u, us.toArray, T, by rw [hm]; exact hnew, by simpa using hu, hul.keep hstep fun k hkk => ?_⟩
      have := hk _ (List.mem_of_getElem? hx) k hkk
      simp [Gh.with, this]
    row := fun k r e => by obtain ⟨_, _, h, _⟩ := hbx _ _ e; cases h
    sep := fun l l' c c' g e e' _ _ => by
      obtain ⟨_, _, rfl, _⟩ := hbx _ _ e
      obtain ⟨_, _, rfl, _⟩ := hbx _ _ e'
      rfl
    cold := fun l c g e hb hF => by
      obtain ⟨_, _, rfl, _, rfl⟩ := hbx _ _ e
      simp only [Gh.blk, hm, Option.some.injEq] at hb
      subst hb
      have := hr.Flt _ hF
      omega
    Flt := h1.Flt }
  refine ⟨G.with d (fun _ => w.heap.size) (fun _ => undef) G.F, ?_⟩
  rw [app_box]
  refine Rel.put (h1.add h2 (fun t => rfl) (fun l l' c c' g e e' hb hb' _ => ?_) (fun l c g e hb => ?_)) (Nat.lt_of_lt_of_le hd hr.size) ?_
  · obtain ⟨_, _, rfl, _, rfl⟩ := hbx _ _ e
    simp only [Gh.blk, hm, Option.some.injEq] at hb
    subst hb
    rw [Gh.blk_eq (G := G) fun k hk' => Gh.with_ne hf _ _ e' k (.inl hk')] at hb'
    have := hr.toMemR.blk_lt e' hb'
    omega
  · obtain ⟨_, _, rfl, _, rfl⟩ := hbx _ _ e
    simp only [Gh.blk, hm, Option.some.injEq] at hb
    subst hb
    exact .inl hr.fr.size
  · simp only [SlR, LfR, hm]

theorem op_alloc (hT : TOk P T) (hr : Rel C G look a w) {o : Oper} (hd : ∀ d, o.dst = some d → d < C.n) (hf : ∀ d, o.dst = some d → Fresh d look) {t : TypeId} (ho : o.op = .alloc t) {k : Dl → List Loc → Prop} (h : opW P T o look k) : OpOk P C o look a w k := by
  simp only [opW, ho] at h
  split at h
  · rename_i d td hdst htd
    split at h
    case h_2 => exact h.elim
    rename_i hnk
    obtain ⟨z, hz, hzo, _⟩ := (hT.facts htd).rZero
    refine ⟨_, _, h, fun K Q hK => wp_value (u := .pointer (some ⟨w.heap.size, 0, none⟩)) (w' := w.alloc (.cells z.cells t)) ?_ (hK _ _ ?_)⟩
    · simp only [execOp, ho]
      refine exec_value ?_
      simp only [Instr.alloc, Sem.run_bind, hz, Result.andThen_ok, newVar, newRow, newObj, Sem.run_pure, Sem.run]
      rfl
    · rw [hdst]
      have := hr.newBox (hf d hdst) (hd d hdst) (us := z.cells.toList) (zeroOk_sound hzo) (fun l hl k hk => ?_) t
      · simpa using this
      · rw [noKeys_sound hnk l hl] at hk
        cases hk
  · exact h.elim
end
end Go.Proofs.YtccbimcikbbecaaGreat.P1
/- Boxes of a value; slices that are made. -/
namespace Go.Proofs.YtccbimcikbbecaaGreat.P1
open Go

section
variable {P : Program} {T : TI} {C : Cx} {G G2 : Gh} {look look' : Loc → Option Cell} {a : Act} {w w' : World}

theorem ofConst_keys {v : Value} {s : Sl} (h : ofConst v = some s) : s.keys = [] := by
  unfold ofConst at h
  split at h
  · split at h
    · cases h; rfl
    · cases h
  · cases h; rfl
  · split at h
    · cases h; rfl
    · cases h
  · cases h; rfl
  · cases h

theorem rdS_sound2 (hr : Rel C G look a w) {x : Operand} {k : Sl → List Loc → Prop} (h : rdS look x k) :
    ∃ s R, k s R ∧ SlR G w (a.eval x) s ∧ ∀ d, Fresh d look → ∀ kk ∈ s.keys, kk.1 ≠ d := by
  unfold rdS at h
  split at h
  · split at h
    · rename_i hs; exact ⟨_, _, h, (hr.slot _ _ hs).2, fun d hf kk hk => hf _ _ hs kk (.inr hk)⟩
    · exact h.elim
  · split at h
    · rename_i hs; exact ⟨_, _, h, ofConst_sound hs, fun d hf kk hk => by rw [ofConst_keys hs] at hk; cases hk⟩
    · exact h.elim
  · exact ⟨_, _, h, by simp [SlR, LfR, Act.eval], fun d hf kk hk => by simp [Sl.keys, Lf.keys] at hk⟩
  · exact h.elim

theorem leafs_keys {s : Sl} {ls : List Lf} (h : s.leafs = some ls) : ∀ l ∈ ls, ∀ k ∈ l.keys, k ∈ s.keys := by
  cases s with
  | lf l => simp only [Sl.leafs, Option.some.injEq] at h; subst h; intro l' hl k hk; rw [List.mem_singleton] at hl; subst hl; simpa [Sl.keys] using hk
  | agg l => simp only [Sl.leafs, Option.some.injEq] at h; subst h; intro l' hl k hk; simp only [Sl.keys, List.mem_flatMap]; exact ⟨l', hl, hk⟩
  | tup => cases h

theorem op_box (hr : Rel C G look a w) {o : Oper} (hd : ∀ d, o.dst = some d → d < C.n) (hf : ∀ d, o.dst = some d → Fresh d look) {t : TypeId} {x : Operand} (ho : o.op = .box t x) {k : Dl → List Loc → Prop} (h : opW P T o look k) : OpOk P C o look a w k := by
  simp only [opW, ho] at h
  split at h
  · rename_i d hdst
    obtain ⟨s, R, h1, hs, hks⟩ := rdS_sound2 hr h
    split at h1
    · rename_i ls hls
      obtain ⟨h2, _⟩ := slr_leafs hs hls
      refine ⟨_, _, h1, fun K Q hK => wp_value (u := .pointer (some ⟨w.heap.size, 0, none⟩)) (w' := w.alloc (.cells (a.eval x).cells t)) ?_ (hK _ _ ?_)⟩
      · simp only [execOp, ho]
        refine exec_value ?_
        simp only [Instr.box, Sem.run_bind, newVar, newRow, newObj, Sem.run_pure, Sem.run]
        rfl
      · rw [hdst]
        have := hr.newBox (hf d hdst) (hd d hdst) (us := (a.eval x).cells.toList) h2 (fun l hl k hk => hks d (hf d hdst) k (leafs_keys hls l hl k hk)) t
        simpa using this
    · exact h1.elim
  · exact h.elim

/-! ### A row -/
def rwLook (b : Key) (r : Row) : Loc → Option Cell
  | .row q => match kbeq b q with
    | true => some (.r r)
    | false => none
  | _ => none

theorem rwLook_some {b : Key} {r : Row} {l : Loc} {c : Cell} (e : rwLook b r l = some c) : l = .row b ∧ c = .r r := by
  cases l <;> simp only [rwLook] at e <;> try (cases e; done)
  split at e
  · rename_i hb; cases e; rw [kbeq_iff.1 hb]; exact ⟨rfl, rfl⟩
  · cases e

theorem app_row {d : Nat} {r : Row} {s : Sl} {D : Dl} : app look ((.at (.slot d), some (.s s)) :: (.at (.row (d, 0)), some (.r r)) :: D) = setS (over (rwLook (d, 0) r) (app look D)) d s := by
  funext l
  simp only [app, Dl.look, Pat.hits, setS]
  cases hb : (Loc.slot d).beq l with
  | true => rfl
  | false =>
    cases l with
    | slot t => simp only [Loc.beq, over, rwLook]; rfl
    | leaf b j => simp only [Loc.beq, over, rwLook]; rfl
    | row q =>
      simp only [Loc.beq, over, rwLook]
      cases hk : kbeq (d, 0) q <;> rfl

/-- A row of the call's own joins what is known. -/
theorem Rel.newRow (h1 : Rel C G look a w) {d : Nat} (hd : d < C.n) {r : Row} (hh : r.hot = true) (hR : RowR G w (G.ρ (d, 0)) r) (hone : (G.ρ (d, 0)).oneCell' = true)
    (hg : ∀ g, (G.ρ (d, 0)).ownBlock = some g → C.w0.heap.size ≤ g ∧ ¬ G.F g ∧ ∀ l c, look l = some c → G.blk l c ≠ some g) :
    Rel C G (setS (over (rwLook (d, 0) r) look) d (.lf (.own (d, 0)))) (a.put (some d) (G.ρ (d, 0))) w := by
  have h2 : MemR G (rwLook (d, 0) r) w :=
  { leaf := fun b j l e => by cases (rwLook_some e).1
    row := fun k r' e => by
      obtain ⟨e1, e2⟩ := rwLook_some e
      cases e1; cases e2
      exact hR
    sep := fun l l' c c' g e e' _ _ => by
      obtain ⟨rfl, _⟩ := rwLook_some e
      obtain ⟨rfl, _⟩ := rwLook_some e'
      rfl
    cold := fun l c g e hb hF => by
      obtain ⟨rfl, rfl⟩ := rwLook_some e
      simp only [Gh.blk, hh, if_true] at hb
      exact (hg g hb).2.1 hF
    Flt := h1.Flt }
  refine Rel.put (h1.add h2 (fun t => rfl) (fun l l' c c' g e e' hb hb' _ => ?_) (fun l c g e hb => ?_)) (Nat.lt_of_lt_of_le hd h1.size) ⟨rfl, hone⟩
  · obtain ⟨rfl, rfl⟩ := rwLook_some e
    simp only [Gh.blk, hh, if_true] at hb
    exact ((hg g hb).2.2 _ _ e' hb').elim
  · obtain ⟨rfl, rfl⟩ := rwLook_some e
    simp only [Gh.blk, hh, if_true] at hb
    exact .inl (hg g hb).1

theorem all2_flat {us : List (List Value)} {es : List (List AV)} {F : Nat → Prop} (h : All2 (fun u e => All2 (Rd w F) u e) us es) : All2 (Rd w F) us.flatten es.flatten := by
  induction h with
  | nil => exact .nil
  | cons h1 _ ih => simp only [List.flatten_cons]; exact h1.append ih

theorem flatten_len {α : Type} {es : List (List α)} {n : Nat} (h : ∀ e ∈ es, e.length = n) : es.flatten.length = es.length * n := by
  induction es with
  | nil => simp
  | cons e es ih =>
    rw [List.flatten_cons, List.length_append, h e (.head _), ih fun e he => h e (.tail _ he), List.length_cons, Nat.succ_mul]
    omega

/-- A slice is made in a new block. -/
theorem Rel.makeRow (hr : Rel C G look a w) {d : Nat} (hf : Fresh d look) (hd : d < C.n) {r : Row} (hh : r.hot = true) (h0 : 0 < r.sz) (hl : r.es.length ≤ lim) (hsz : ∀ x ∈ r.es, x.length = r.sz)
    {xs : List Value} (hxs : All2 (Rd w G.F) xs r.es.flatten) {cur : Array Value} {cap : Nat} (hc : r.es.length ≤ cap) (hcm : cap ≤ maxLen) (hcs : cur.size = cap * r.sz) (ht : cur.toList.take (r.es.length * r.sz) = xs) :
    RelE C (setS (over (rwLook (d, 0) r) look) d (.lf (.own (d, 0)))) (a.put (some d) (.slice (some ⟨w.heap.size, 0, none⟩) r.es.length cap)) (w.alloc (.cells cur r.e)) := by
  have h1 := hr.alloc (.cells cur r.e) hd hf (fun _ => 0) (fun _ => .slice (some ⟨w.heap.size, 0, none⟩) r.es.length cap)
  have hstep : Step G (G.with d (fun _ => 0) (fun _ => .slice (some ⟨w.heap.size, 0, none⟩) r.es.length cap) G.F) w (w.alloc (.cells cur r.e)) := ⟨fun b hb => heap_push_old (hr.Flt b hb), fun _ hb => hb⟩
  have hρ : (G.with d (fun _ => 0) (fun _ => .slice (some ⟨w.heap.size, 0, none⟩) r.es.length cap) G.F).ρ (d, 0) = .slice (some ⟨w.heap.size, 0, none⟩) r.es.length cap := by simp [Gh.with]
  refine ⟨G.with d (fun _ => 0) (fun _ => .slice (some ⟨w.heap.size, 0, none⟩) r.es.length cap) G.F, ?_⟩
  have h3 := h1.newRow (r := r) hd hh ?_ ?_ ?_
  · rw [hρ] at h3
    exact h3
  · rw [hρ]
    refine ⟨h0, hl, hsz, fun hcold => (by rw [hh] at hcold; cases hcold), xs, ⟨?_, .inr ⟨w.heap.size, cap, cur, rfl, Nat.zero_le _, heap_alloc_new w _, hc, hcm, hcs, ht⟩⟩, hxs.imp fun _ _ _ hx => hx.mono hstep.mem hstep.F⟩
    rw [hxs.length, flatten_len hsz]
  · rw [hρ]; rfl
  · intro g hg
    rw [hρ] at hg
    simp only [Value.ownBlock, Option.some.injEq] at hg
    subst hg
    refine ⟨hr.fr.size, fun hF => Nat.lt_irrefl _ (hr.Flt _ hF), fun l c e hb => ?_⟩
    rw [Gh.blk_eq (G := G) fun k hk' => Gh.with_ne hf _ _ e k (.inl hk')] at hb
    exact Nat.lt_irrefl _ (hr.toMemR.blk_lt e hb)

theorem zero_read {z : Array Value} {za : List AV} {F : Nat → Prop} (h : All2 (Rd w F) z.toList za) (h0 : 0 < za.length) (n : Nat) :
    All2 (Rd w F) ((Array.range (n * za.length)).map (z[· % za.length]!)).toList (List.replicate n za).flatten := by
  have hzl : z.size = za.length := by simpa using h.length
  refine All2.of_get ?_ fun i u x hu hx => ?_
  · rw [flatten_len (n := za.length) (fun e he => by rw [List.eq_of_mem_replicate he])]
    simp
  · have hi : i < n * za.length := by
      have := (List.getElem?_eq_some_iff.1 hu).1
      simpa using this
    have hd : i / za.length < n := by
      rw [Nat.div_lt_iff_lt_mul h0]; exact hi
    have hm : i % za.length < za.length := Nat.mod_lt _ h0
    have he : i / za.length * za.length + i % za.length = i := by rw [Nat.mul_comm]; exact Nat.div_add_mod i za.length
    have hx2 := flatten_get (es := List.replicate n za) (sz := za.length) (fun e he => by rw [List.eq_of_mem_replicate he]) (i := i / za.length) (e := za) (by simp [hd]) hm
    rw [he, hx] at hx2
    obtain ⟨u', hu', hr⟩ := h.get _ _ hx2.symm
    have : u = u' := by
      simp only [Array.toList_map, Array.toList_range, List.getElem?_map, List.getElem?_range hi, Option.map_some, Option.some.injEq] at hu
      rw [← hu]
      rw [Array.getElem?_toList] at hu'
      rw [getElem!_def, hu']
    rw [this]
    exact hr

theorem zeroAV_sound {ls : List Lf} : ∀ {us : List Value} {z : List AV}, All2 (LfR G w) us ls → zeroAV ls = some z → All2 (Rd w G.F) us z := by
  induction ls with
  | nil => intro us z h hz; cases h; simp [zeroAV] at hz; subst hz; exact .nil
  | cons l ls ih =>
    intro us z h hz
    cases h
    rename_i u us h1 h2
    simp only [zeroAV] at hz
    split at hz
    · rename_i x xs hx hxs
      cases hz
      exact .cons (lfAV_sound hx h1) (ih h2 hxs)
    · cases hz

theorem zeroAV_len : ∀ {ls : List Lf} {z : List AV}, zeroAV ls = some z → z.length = ls.length
  | [], z, h => by simp [zeroAV] at h; subst h; rfl
  | l :: ls, z, h => by
    simp only [zeroAV] at h
    split at h
    · rename_i x xs hx hxs
      cases h
      simp [zeroAV_len hxs]
    · cases h

theorem fill_parts {size : Nat} : ∀ (l : List (Nat × Value)) (n : Nat) (cells : Array Value), (∀ i (h : i < l.length), l[i].1 = n + i) → (∀ p ∈ l, p.2.cells.size = size) → cells.size = (n + l.length) * size →
    Instr.fill (fun i => some (i * size, size)) cells l = some (cells.toList.take (n * size) ++ (l.map fun p => p.2.cells.toList).flatten).toArray
  | [], n, cells, _, _, hc => by
    simp only [Instr.fill, List.map_nil, List.flatten_nil, List.append_nil, Option.some.injEq]
    apply Array.ext'
    have : cells.toList.length = n * size := by simpa using hc
    rw [List.take_of_length_le (by omega)]
  | (i, v) :: l, n, cells, hi, hs, hc => by
    have hin : i = n := hi 0 (by simp)
    subst hin
    have hv := hs _ (.head _)
    have hle : i * size + size ≤ cells.size := by
      rw [hc, List.length_cons, Nat.add_mul, Nat.succ_mul]
      omega
    rw [fill_one (off := i * size) (size := size) rfl hv hle]
    have hvl : v.cells.toList.length = size := by simpa using hv
    have hcl : cells.toList.length = cells.size := by simp
    rw [fill_parts l (i + 1) _ (fun j hj => by have := hi (j + 1) (by simpa using hj); simp at this; omega) (fun p hp => hs p (.tail _ hp)) (by
      simp only [List.size_toArray, List.length_append, List.length_take, List.length_drop, hvl, hcl]
      rw [List.length_cons] at hc
      have h2 : (i + (l.length + 1)) * size = (i + 1 + l.length) * size := by congr 1; omega
      rw [← h2, ← hc]
      omega)]
    congr 2
    simp only [List.map_cons, List.flatten_cons]
    have h3 : (i + 1) * size = i * size + size := Nat.succ_mul i size
    rw [List.toList_toArray, List.take_append_of_le_length (by simp only [List.length_append, List.length_take, hvl, hcl]; omega)]
    rw [List.take_of_length_le (by simp only [List.length_append, List.length_take, hvl, hcl]; omega), List.append_assoc]

theorem op_buildSlice (hT : TOk P T) (hr : Rel C G look a w) {o : Oper} (hd : ∀ d, o.dst = some d → d < C.n) (hf : ∀ d, o.dst = some d → Fresh d look) {t : TypeId} {len : Nat} {parts : Array (Nat × Operand)} (ho : o.op = .buildSlice t len parts) {k : Dl → List Loc → Prop} (h : opW P T o look k) : OpOk P C o look a w k := by
  simp only [opW, ho] at h
  split at h
  · rename_i d td hdst htd
    split at h
    · rename_i e hk
      have hu := (hT.facts htd).rSlice hk
      split at h
      · rename_i de hde
        have hfe := hT.facts hde
        split at h
        · rename_i hb
          simp only [Bool.and_eq_true] at hb
          have hlen := Nat.eq_of_beq_eq_true hb.1
          have hcap := Nat.le_of_ble_eq_true hb.2
          obtain ⟨es, R, D, h1, hD, hn, hes, hidx, hall⟩ := elemsW_sound hr h
          have hrF := hr.freeze hD
          have hfF : Fresh d (app look D) := fun l c e k hk => by
            unfold app at e
            split at e
            · rename_i c' hc
              subst e
              obtain ⟨p, hp, hh, hc2⟩ := dl_look_mem hc
              obtain ⟨q, r, rfl, hq, hr'⟩ := hD p hp
              simp only [Option.some.injEq] at hc2
              subst hc2
              have : l = .row q := (Loc.beq_iff.1 hh).symm
              subst this
              exact hf d hdst _ _ hq k (by simpa [Cell.keys] using hk)
            · exact hf d hdst l c e k hk
          obtain ⟨z, hz, hzo, _⟩ := hfe.rZero
          have hsz0 : 0 < de.size := hfe.pos
          -- the cells
          let cells : Array Value := ((parts.toList.map fun p => (p.1, a.eval p.2)).map fun p => p.2.cells.toList).flatten.toArray
          have hpsz : ∀ p ∈ parts.toList.map (fun p => (p.1, a.eval p.2)), p.2.cells.size = de.size := fun p hp => by
            obtain ⟨i, hi, rfl⟩ := List.getElem_of_mem hp
            have : ∀ (l : List (Nat × Value)) (es : List (List AV)), All2 (fun (p : Nat × Value) (e : List AV) => p.2.cells.size = de.size ∧ (p.2.oneCell' = true ∨ ∃ us, p.2 = .agg us) ∧ All2 (RdF G w D) p.2.cells.toList e) l es → ∀ i (h : i < l.length), l[i].2.cells.size = de.size := by
              intro l es hh
              induction hh with
              | nil => intro i h; simp at h
              | cons h1 _ ih => intro i h; cases i with
                | zero => exact h1.1
                | succ i => exact ih i (by simpa using h)
            exact this _ _ hall i hi
          have hcl : cells.size = len * de.size := by
            simp only [cells, List.size_toArray]
            rw [flatten_len (n := de.size) (fun e he => by
              obtain ⟨p, hp, rfl⟩ := List.mem_map.1 he
              simpa using hpsz p hp)]
            simp [hlen]
          have hxs : All2 (Rd w (fun b => G.F b ∨ frzB G D b)) cells.toList es.flatten := by
            simp only [cells, List.toList_toArray]
            have : ∀ (l : List (Nat × Value)) (es : List (List AV)), All2 (fun (p : Nat × Value) (e : List AV) => p.2.cells.size = de.size ∧ (p.2.oneCell' = true ∨ ∃ us, p.2 = .agg us) ∧ All2 (RdF G w D) p.2.cells.toList e) l es → All2 (Rd w (fun b => G.F b ∨ frzB G D b)) (l.map fun p => p.2.cells.toList).flatten es.flatten := by
              intro l es hh
              induction hh with
              | nil => exact .nil
              | cons h1 _ ih =>
                simp only [List.map_cons, List.flatten_cons]
                exact (h1.2.2.imp fun _ _ _ hx => hx _ (fun _ hb => .inl hb) (fun _ hb => .inr hb)).append ih
            exact this _ _ hall
          have hesn : es.length = len := by rw [hn, hlen]
          refine ⟨_, _, h1, fun K Q hK => wp_value (u := .slice (some ⟨w.heap.size, 0, none⟩) len len) (w' := w.alloc (.cells cells e)) ?_ (hK _ _ ?_)⟩
          · simp only [execOp, ho]
            refine exec_value ?_
            simp only [Instr.buildSlice, Sem.run_bind, run_underlying hu, Result.andThen_ok, hfe.rSize]
            rw [if_neg (by omega)]
            have hmap : (parts.map fun (p : Nat × Operand) => (p.1, a.eval p.2)).toList = parts.toList.map fun p => (p.1, a.eval p.2) := by simp
            by_cases h0 : len * de.size = 0
            · have hl0 : len = 0 := by
                rcases Nat.mul_eq_zero.1 h0 with h | h <;> omega
              have hp0 : parts.toList = [] := List.eq_nil_of_length_eq_zero (by omega)
              rw [if_pos h0]
              simp only [Sem.run_pure, Result.andThen_ok, hmap, hp0, List.map_nil, Instr.fill, h0, newRow, newObj, Sem.run_bind, Sem.run]
              have : cells = #[] := by simp [cells, hp0]
              rw [this, hl0, show Array.range 0 = #[] from rfl, Array.map_empty]
              rfl
            · rw [if_neg h0]
              simp only [Sem.run_bind, hz, Result.andThen_ok, Sem.run_pure, hmap]
              rw [fill_parts _ 0 _ (fun i hi => by have := hidx i (by simpa using hi); simpa using this) hpsz (by simp [hlen])]
              simp only [Nat.zero_mul, List.take_zero, List.nil_append, newRow, newObj, Sem.run_bind, Sem.run]
              rfl
          · rw [hdst, app_row]
            have := hrF.makeRow (d := d) hfF (hd d hdst) (r := ⟨e, de.size, true, es⟩) rfl hsz0 (by
              simp only
              rw [hesn]
              have : len ≤ len * de.size := Nat.le_mul_of_pos_right _ hsz0
              unfold lim; omega) hes hxs (cur := cells) (cap := len) (by simp [hesn]) (by
              have : len ≤ len * de.size := Nat.le_mul_of_pos_right _ hsz0
              unfold maxLen; omega) (by simp [hcl]) (by
              simp only [hesn]
              rw [List.take_of_length_le]
              simp [hcl])
            simpa [hesn] using this
        · exact h.elim
      · exact h.elim
    · exact h.elim
  · exact h.elim
end
end Go.Proofs.YtccbimcikbbecaaGreat.P1
/- make, stores. -/
namespace Go.Proofs.YtccbimcikbbecaaGreat.P1
open Go

section
variable {P : Program} {T : TI} {C : Cx} {G G2 : Gh} {look look' : Loc → Option Cell} {a : Act} {w w' : World}

theorem TFacts.rInfo {t : TypeId} {d : TD} (h : TFacts P t d) : ∃ i z, P.info? t = some i ∧ i.size = d.size ∧ i.bytes = d.bytes ∧ i.zero = some z ∧ zeroOk z.cells.toList d.zero = true ∧ z.cells.size = d.zero.length := by
  obtain ⟨i, u, z, hi, hu, hs, hb, hz, hzo, hk, _⟩ := h.ex
  refine ⟨i, z, hi, hs, hb, hz, hzo, ?_⟩
  have := (zeroOk_sound (G := ⟨fun _ => 0, fun _ => undef, fun _ => False⟩) (w := default) hzo).length
  simpa using this

theorem op_makeSlice (hT : TOk P T) (hr : Rel C G look a w) {o : Oper} (hd : ∀ d, o.dst = some d → d < C.n) (hf : ∀ d, o.dst = some d → Fresh d look) {t : TypeId} {l c : Operand} (ho : o.op = .makeSlice t l c) {k : Dl → List Loc → Prop} (h : opW P T o look k) : OpOk P C o look a w k := by
  simp only [opW, ho] at h
  split at h
  · rename_i d td hdst htd
    split at h
    · rename_i e hk
      have hu := (hT.facts htd).rSlice hk
      split at h
      · rename_i de hde
        have hfe := hT.facts hde
        split at h
        · rename_i za hza
          obtain ⟨sl, R, h1, hsl⟩ := rdS_sound hr h
          obtain ⟨sc, R', h2, hsc⟩ := rdS_sound hr h1
          split at h2
          · rename_i n m
            obtain ⟨rfl, hn0, hnb, h3⟩ := h2
            have hl := (rd_int (show Rd w G.F (a.eval l) (.int .i64 m) from hsl)).1
            have hlw := (rd_int (show Rd w G.F (a.eval l) (.int .i64 m) from hsl)).2
            have hc := (rd_int (show Rd w G.F (a.eval c) (.int .i64 m) from hsc)).1
            rw [wf_iff] at hlw
            obtain ⟨i, z, hi, hsz, hby, hz, hzo, hzl⟩ := hfe.rInfo
            have hz2 := zeroAV_sound (zeroOk_sound (G := G) (w := w) hzo) hza
            have hzal : za.length = de.size := by rw [zeroAV_len hza, hfe.zl]
            have hpos := hfe.pos
            have hti : ∀ w, (typeInfo e).run P w = .ok i w := fun w => run_typeInfo w hi
            have hz2' : ∀ w, (zeroValue e).run P w = .ok z w := fun w => by simp [zeroValue, hti, hz]
            have hbytes := hfe.bpos
            have hmb : m ≤ m * de.bytes := by
              have := Int.mul_le_mul_of_nonneg_left (show (1 : Int) ≤ de.bytes by omega) hn0
              omega
            have hask : ∀ (b : Nat) (w : World), (askRoom b).run P w = .ok () w := fun b w => by
              unfold askRoom; split <;> rfl
            have hzsz : z.cells.size = za.length := by rw [hzl, zeroAV_len hza]
            refine ⟨_, _, h3, fun K Q hK => wp_value (u := .slice (some ⟨w.heap.size, 0, none⟩) m.toNat m.toNat) (w' := w.alloc (.cells ((Array.range (m.toNat * za.length)).map (z.cells[· % za.length]!)) e)) ?_ (hK _ _ ?_)⟩
            · simp only [execOp, ho, hl, hc]
              refine exec_value ?_
              have hwr : IntKind.i64.wrap m = m := by
                rw [IntWalk.i64_left]
                exact IntWalk.wrap64_in m ⟨by have : IntKind.i64.min = -9223372036854775808 := by decide
                                              omega, by omega⟩
              simp only [Instr.makeSlice, Sem.run_bind, run_underlying hu, Result.andThen_ok, asInt, asIntOf, Sem.run_pure, hti, hby, hwr]
              rw [if_neg (by
                simp only [Bool.or_eq_true, decide_eq_true_eq]
                rw [Int.mul_comm]
                omega)]
              simp only [Sem.run_bind, hask, Result.andThen_ok, hfe.rSize]
              by_cases h0 : m.toNat * de.size = 0
              · rw [if_pos h0]
                simp only [Sem.run_pure, Sem.run_bind, Result.andThen_ok, newRow, newObj, Sem.run, h0, hzal, show Array.range 0 = #[] from rfl, Array.map_empty]
                rfl
              · rw [if_neg h0]
                simp only [Sem.run_pure, Sem.run_bind, Result.andThen_ok, hz2', newRow, newObj, Sem.run, hzsz, hzal]
                rfl
            · rw [hdst, app_row]
              have := hr.makeRow (d := d) (hf d hdst) (hd d hdst) (r := ⟨e, de.size, true, List.replicate m.toNat za⟩) rfl hpos (by
                simp only [List.length_replicate]
                unfold lim; omega) (fun x hx => by rw [List.eq_of_mem_replicate hx, hzal]) (xs := ((Array.range (m.toNat * za.length)).map (z.cells[· % za.length]!)).toList) (zero_read hz2 (by omega) _) (cur := (Array.range (m.toNat * za.length)).map (z.cells[· % za.length]!)) (cap := m.toNat) (by simp) (by
                unfold maxLen; omega) (by simp [hzal]) (by
                simp only [List.length_replicate]
                rw [List.take_of_length_le]
                simp [hzal])
              simpa [app_nil] using this
          · exact h2.elim
        · exact h.elim
      · exact h.elim
    · exact h.elim
  · exact h.elim
end
end Go.Proofs.YtccbimcikbbecaaGreat.P1
/- Stores. -/
namespace Go.Proofs.YtccbimcikbbecaaGreat.P1
open Go

section
variable {P : Program} {T : TI} {C : Cx} {G G2 : Gh} {look look' : Loc → Option Cell} {a : Act} {w w' : World}

theorem lf_one {u : Value} {l : Lf} (h : LfR G w u l) : u.oneCell' = true := by
  cases l <;> simp only [LfR] at h
  · exact Rd.oneCell h
  · subst h; rfl
  · subst h; rfl
  · exact h.2
  · subst h; rfl
  · obtain ⟨b, o, rfl, _⟩ := h; rfl
  · obtain ⟨g, n, c, _, rfl⟩ := h; rfl
  · subst h; rfl

theorem setRow_get (w : World) (g : Nat) (cells cur : Array Value) (t : TypeId) (fz : Nat × Nat) (h : w.heap[g]? = some (.cells cur t fz)) : (w.setRow g cells).heap[g]? = some (.cells cells t fz) := setRow_heap w g cur cells t fz h
theorem setRow_ne (w : World) (g : Nat) (cells : Array Value) {k : Nat} (h : k ≠ g) : (w.setRow g cells).heap[k]? = w.heap[k]? := by
  simp only [World.setRow, Array.getElem?_modify]
  rw [if_neg (Ne.symm h)]
theorem setRow_size (w : World) (g : Nat) (cells : Array Value) : (w.setRow g cells).heap.size = w.heap.size := by simp [World.setRow]

theorem Fr.setRow {w0 : World} {M : Nat → Prop} (h : Fr w0 M w) {g : Nat} (hg : w0.heap.size ≤ g ∨ M g) (cells : Array Value) : Fr w0 M (w.setRow g cells) :=
  ⟨h.os, h.tape, h.output, by rw [setRow_size]; exact h.size, fun i hi hn => (by
    rw [setRow_ne]
    · exact h.block i hi hn
    · rintro rfl
      rcases hg with hg | hg
      · omega
      · exact hn hg), h.drawn⟩

theorem run_storeAt {t : TypeId} {d : TD} (hf : TFacts P t d) {v : Value} (hv : v.cells.size = d.size) {g o : Nat} {cur : Array Value} {T : TypeId} (hg : w.heap[g]? = some (.cells cur T (0, 0))) (hle : o + d.size ≤ cur.size) (h1 : ∀ u ∈ v.cells.toList, u.oneCell' = true) :
    (Instr.storeAt t (.pointer (some ⟨g, o, none⟩)) v).run P w = .ok () (w.setRow g (cur.toList.take o ++ v.cells.toList ++ cur.toList.drop (o + d.size)).toArray) := by
  have hl : v.cells.toList.length = d.size := by simpa using hv
  simp only [Instr.storeAt, Instr.sureAddr, Sem.run_bind, Sem.run_pure, Result.andThen_ok, storeVar, hf.rSize]
  rw [if_neg (by simp [hv])]
  have := run_storeCells_at P g o T v.cells.toList 0 cur w hg (by simpa [hl] using hle) h1
  simpa [hl] using this

theorem exec_unit {s : Sem Unit} {w' : World} (h : s.run P w = .ok () w') : (do s; pure Next.skip : Sem Next).run P w = .ok .skip w' := by
  simp [h]

theorem there_sound {b : Key} : ∀ {n j : Nat}, there look b j n = true → ∀ i, i < n → ∃ l, look (.leaf b (j + i)) = some (.l l)
  | 0, _, _, i, hi => by omega
  | n + 1, j, h, i, hi => by
    simp only [there] at h
    split at h
    · rename_i l hl
      cases i with
      | zero => exact ⟨l, hl⟩
      | succ i =>
        obtain ⟨l', hl'⟩ := there_sound h i (by omega)
        exact ⟨l', by rw [show j + (i + 1) = j + 1 + i by omega]; exact hl'⟩
    · cases h

theorem get3 {α : Type} (c vs : List α) (o : Nat) (ho : o + vs.length ≤ c.length) (i : Nat) : (c.take o ++ vs ++ c.drop (o + vs.length))[i]? = if o ≤ i ∧ i < o + vs.length then vs[i - o]? else c[i]? := by
  by_cases h1 : i < o
  · rw [if_neg (by omega), List.getElem?_append_left (by simp; omega), List.getElem?_append_left (by simp; omega), List.getElem?_take_of_lt h1]
  · by_cases h2 : i < o + vs.length
    · rw [if_pos (by omega), List.getElem?_append_left (by simp; omega), List.getElem?_append_right (by simp; omega)]
      congr 1
      simp
      omega
    · rw [if_neg (by omega), List.getElem?_append_right (by simp; omega), List.getElem?_drop]
      congr 1
      simp
      omega

/-- A box's cells are written. -/
theorem Rel.setBox (hr : Rel C G look a w) {b : Key} {j : Nat} {ls : List Lf} (h0 : 0 < ls.length) (hth : ∀ i, i < ls.length → ∃ l, look (.leaf b (j + i)) = some (.l l)) {us : List Value} (hl : All2 (LfR G w) us ls) :
    ∃ cur T, w.heap[G.m b]? = some (.cells cur T (0, 0)) ∧ j + ls.length ≤ cur.size ∧ Rel C G (app look (zipLeaf b j ls)) a (w.setRow (G.m b) (cur.toList.take j ++ us ++ cur.toList.drop (j + ls.length)).toArray) := by
  obtain ⟨l0, hl0⟩ := hth 0 h0
  obtain ⟨u0, cur, T, hcur, _, _⟩ := hr.leaf _ _ _ hl0
  have hsz : j + ls.length ≤ cur.size := by
    obtain ⟨l1, hl1⟩ := hth (ls.length - 1) (by omega)
    obtain ⟨u1, cur1, T1, hcur1, hu1, _⟩ := hr.leaf _ _ _ hl1
    rw [hcur] at hcur1
    cases hcur1
    have := (Array.getElem?_eq_some_iff.1 hu1).1
    omega
  have hb0 : G.blk (.leaf b (j + 0)) (.l l0) = some (G.m b) := rfl
  have hcold := hr.cold _ _ _ hl0 hb0
  have hul : us.length = ls.length := hl.length
  refine ⟨cur, T, hcur, hsz, ?_⟩
  let cells : Array Value := (cur.toList.take j ++ us ++ cur.toList.drop (j + ls.length)).toArray
  let look1 : Loc → Option Cell := fun l => match l with
    | .leaf b' i => if b' = b then none else look (.leaf b' i)
    | l => look l
  have hless : Less look1 look := fun l c e => by
    cases l with
    | leaf b' i => simp only [look1] at e; split at e <;> first | cases e | exact e
    | slot => exact e
    | row => exact e
  have hn1 : ∀ i, look1 (.leaf b i) = none := fun i => by simp [look1]
  have hblkne : ∀ l c g, look1 l = some c → G.blk l c = some g → g ≠ G.m b := fun l c g e hb hg => by
    subst hg
    have := hr.sep l _ c _ _ (hless _ _ e) hl0 hb hb0
    cases l with
    | leaf b' i =>
      have hbb : b' = b := this
      subst hbb
      rw [hn1] at e; cases e
    | slot => exact this.elim
    | row => exact this.elim
  have hFne : ∀ g, G.F g → g ≠ G.m b := fun g hF hg => hcold (hg ▸ hF)
  have hstep : Step G G w (w.setRow (G.m b) cells) := ⟨fun g hF => setRow_ne w _ _ (hFne g hF), fun _ h => h⟩
  have hmine := hr.mine _ _ _ hl0 hb0
  have h1 : Rel C G look1 a (w.setRow (G.m b) cells) := (hr.less hless).frame hstep (fun l c g e hb => setRow_ne w _ _ (hblkne l c g e hb)) (fun _ _ _ _ _ => ⟨rfl, rfl⟩)
    (fun l c g e hb => hr.cold l c g (hless _ _ e) hb) (fun g hF => by rw [setRow_size]; exact hr.Flt g hF)
    (hr.fr.setRow (hmine.elim .inl fun h => .inr h.1) cells) (fun _ h => .inl h) (fun _ => rfl)
  let look2 : Loc → Option Cell := fun l => match l with
    | .leaf b' i => if b' = b then app look (zipLeaf b j ls) (.leaf b' i) else none
    | _ => none
  have happ : ∀ i, app look (zipLeaf b j ls) (.leaf b i) = if j ≤ i ∧ i < j + ls.length then (ls[i - j]?).map .l else look (.leaf b i) := fun i => by
    simp only [app, zipLeaf_look, true_and]
    by_cases hh : j ≤ i ∧ i < j + ls.length
    · rw [if_pos hh, if_pos hh]
    · rw [if_neg hh, if_neg hh]
  have h2s : ∀ l c, look2 l = some c → ∃ i, l = .leaf b i ∧ app look (zipLeaf b j ls) (.leaf b i) = some c := fun l c e => by
    cases l <;> simp only [look2] at e <;> try (cases e; done)
    split at e
    · rename_i hb; subst hb; exact ⟨_, rfl, e⟩
    · cases e
  have h2 : MemR G look2 (w.setRow (G.m b) cells) :=
  { leaf := fun b' i l e => by
      obtain ⟨i', hi', e⟩ := h2s (.leaf b' i) (.l l) e
      cases hi'
      rw [happ] at e
      have hg := get3 cur.toList us j (by rw [hul]; simpa using hsz) i
      rw [hul] at hg
      by_cases hh : j ≤ i ∧ i < j + ls.length
      · rw [if_pos hh] at e hg
        simp only [Option.map_eq_some_iff, Cell.l.injEq, exists_eq_right] at e
        obtain ⟨u, hu, hul⟩ := hl.get _ _ e
        exact ⟨u, cells, T, setRow_get w _ _ _ _ _ hcur, by simp only [cells, List.getElem?_toArray]; rw [hg, hu], hul.keep hstep fun _ _ => ⟨rfl, rfl⟩⟩
      · rw [if_neg hh] at e hg
        obtain ⟨u, cur', T', hc', hu, hul⟩ := hr.leaf _ _ _ e
        rw [hcur] at hc'
        cases hc'
        exact ⟨u, cells, T, setRow_get w _ _ _ _ _ hcur, by simp only [cells, List.getElem?_toArray]; rw [hg]; simpa using hu, hul.keep hstep fun _ _ => ⟨rfl, rfl⟩⟩
    row := fun k r e => by obtain ⟨_, h, _⟩ := h2s (.row k) (.r r) e; cases h
    sep := fun l l' c c' g e e' _ _ => by
      obtain ⟨_, rfl, _⟩ := h2s l c e
      obtain ⟨_, rfl, _⟩ := h2s l' c' e'
      rfl
    cold := fun l c g e hb hF => by
      obtain ⟨_, rfl, e⟩ := h2s l c e
      cases c with
      | l x => cases hb; exact hcold hF
      | s x => cases hb
      | r x => cases hb
    Flt := h1.Flt }
  have h3 := h1.add h2 (fun t => rfl) (fun l l' c c' g e e' hb hb' _ => by
    obtain ⟨_, rfl, _⟩ := h2s _ _ e
    cases c with
    | l x => cases hb; exact (hblkne _ _ _ e' hb' rfl).elim
    | s x => cases hb
    | r x => cases hb) (fun l c g e hb => by
    obtain ⟨_, rfl, _⟩ := h2s _ _ e
    cases c with
    | l x => cases hb; exact hmine.imp id fun h => ⟨h.1, _, _, rfl⟩
    | s x => cases hb
    | r x => cases hb)
  refine h3.less fun l c e => ?_
  cases l with
  | leaf b' i =>
    by_cases hb : b' = b
    · subst hb
      simp only [over, look2, if_true, e]
    · have : app look (zipLeaf b j ls) (.leaf b' i) = look (.leaf b' i) := by
        simp only [app, zipLeaf_look]
        rw [if_neg (fun h => hb h.1.symm)]
      rw [this] at e
      simp [over, look2, look1, hb, e]
  | slot t =>
    have : app look (zipLeaf b j ls) (.slot t) = look (.slot t) := by simp only [app, zipLeaf_look]
    rw [this] at e
    simp [over, look2, look1, e]
  | row q =>
    have : app look (zipLeaf b j ls) (.row q) = look (.row q) := by simp only [app, zipLeaf_look]
    rw [this] at e
    simp [over, look2, look1, e]
end
end Go.Proofs.YtccbimcikbbecaaGreat.P1
/- Stores into rows; all stores. -/
namespace Go.Proofs.YtccbimcikbbecaaGreat.P1
open Go

section
variable {P : Program} {T : TI} {C : Cx} {G G2 : Gh} {look look' : Loc → Option Cell} {a : Act} {w w' : World}

theorem app_rowD {q : Key} {r : Row} {D : Dl} : app look ((.at (.row q), some (.r r)) :: D) = over (rwLook q r) (app look D) := by
  funext l
  simp only [app, Dl.look, Pat.hits]
  cases l with
  | slot t => simp only [Loc.beq, over, rwLook]; rfl
  | leaf b j => simp only [Loc.beq, over, rwLook]; rfl
  | row p =>
    simp only [Loc.beq, over, rwLook]
    cases hk : kbeq q p <;> rfl

/-- The place of a cell in a row of rows. -/
theorem flat_split {es : List (List AV)} {sz : Nat} (h0 : 0 < sz) (hsz : ∀ x ∈ es, x.length = sz) {n : Nat} {x : AV} (hx : es.flatten[n]? = some x) : ∃ e, es[n / sz]? = some e ∧ e[n % sz]? = some x := by
  have hl := flatten_len hsz
  have hn : n < es.length * sz := by
    have := (List.getElem?_eq_some_iff.1 hx).1
    omega
  have hd : n / sz < es.length := by rw [Nat.div_lt_iff_lt_mul h0]; exact hn
  refine ⟨es[n / sz], by simp [hd], ?_⟩
  have := flatten_get hsz (i := n / sz) (e := es[n / sz]) (by simp [hd]) (Nat.mod_lt n h0)
  rw [show n / sz * sz + n % sz = n by rw [Nat.mul_comm]; exact Nat.div_add_mod n sz, hx] at this
  exact this.symm

theorem Rel.setElem (hr : Rel C G look a w) {q : Key} {r : Row} (hq : look (.row q) = some (.r r)) (hh : r.hot = true) {i j : Nat} {e : List AV} (he : r.es[i]? = some e) {us : List Value} {xs : List AV} (hl : All2 (Rd w G.F) us xs) (hj : j + xs.length ≤ e.length) :
    ∃ g n c cur T, G.ρ q = .slice (some ⟨g, 0, none⟩) n c ∧ w.heap[g]? = some (.cells cur T (0, 0)) ∧ i * r.sz + j + xs.length ≤ cur.size ∧
      Rel C G (over (rwLook q ⟨r.e, r.sz, true, r.es.set i (e.take j ++ xs ++ e.drop (j + xs.length))⟩) look) a (w.setRow g (cur.toList.take (i * r.sz + j) ++ us ++ cur.toList.drop (i * r.sz + j + xs.length)).toArray) := by
  have hR := hr.row q r hq
  obtain ⟨h0, h1, h2, h3, ys, ⟨hys, ho⟩, hf⟩ := hR
  have hilt := (List.getElem?_eq_some_iff.1 he).1
  have hel : e.length = r.sz := h2 _ (List.mem_of_getElem? he)
  have hul : us.length = xs.length := hl.length
  rcases ho with ⟨_, hz⟩ | ⟨g, cap, cur, hρ, _, hcur, hn, hcm, hcs, ht⟩
  · omega
  have hblk : G.blk (.row q) (.r r) = some g := by simp [Gh.blk, hh, hρ, Value.ownBlock]
  have hcold := hr.cold _ _ _ hq hblk
  have hfit : i * r.sz + j + xs.length ≤ cur.size := by
    have : (i + 1) * r.sz ≤ cap * r.sz := Nat.mul_le_mul_right _ (by omega)
    rw [Nat.succ_mul] at this
    omega
  refine ⟨g, _, cap, cur, r.e, hρ, hcur, hfit, ?_⟩
  let cells : Array Value := (cur.toList.take (i * r.sz + j) ++ us ++ cur.toList.drop (i * r.sz + j + xs.length)).toArray
  let look1 : Loc → Option Cell := fun l => match l with
    | .row p => if p = q then none else look (.row p)
    | l => look l
  have hless : Less look1 look := fun l c ee => by
    cases l with
    | row p => simp only [look1] at ee; split at ee <;> first | cases ee | exact ee
    | slot => exact ee
    | leaf => exact ee
  have hblkne : ∀ l c g', look1 l = some c → G.blk l c = some g' → g' ≠ g := fun l c g' ee hb hg => by
    subst hg
    have := hr.sep l _ c _ _ (hless _ _ ee) hq hb hblk
    cases l with
    | row p =>
      have hbb : p = q := this
      subst hbb
      simp [look1] at ee
    | slot => exact this.elim
    | leaf => exact this.elim
  have hFne : ∀ g', G.F g' → g' ≠ g := fun g' hF hg => hcold (hg ▸ hF)
  have hstep : Step G G w (w.setRow g cells) := ⟨fun g' hF => setRow_ne w _ _ (hFne g' hF), fun _ h => h⟩
  have hmine := hr.mine _ _ _ hq hblk
  have hbase : C.w0.heap.size ≤ g := hmine.elim id fun h => by obtain ⟨_, _, _, hh⟩ := h; cases hh
  have hR1 : Rel C G look1 a (w.setRow g cells) := (hr.less hless).frame hstep (fun l c g' ee hb => setRow_ne w _ _ (hblkne l c g' ee hb)) (fun _ _ _ _ _ => ⟨rfl, rfl⟩)
    (fun l c g' ee hb => hr.cold l c g' (hless _ _ ee) hb) (fun g' hF => by rw [setRow_size]; exact hr.Flt g' hF)
    (hr.fr.setRow (.inl hbase) cells) (fun _ h => .inl h) (fun _ => rfl)
  have hcl : cells.size = cur.size := by
    have hc2 : cur.toList.length = cur.size := by simp
    simp only [cells, List.size_toArray, List.length_append, List.length_take, List.length_drop, hc2, hul]
    omega
  have hes' : ∀ x ∈ r.es.set i (e.take j ++ xs ++ e.drop (j + xs.length)), x.length = r.sz := fun x hx => by
    rcases List.mem_or_eq_of_mem_set hx with hx | rfl
    · exact h2 x hx
    · simp only [List.length_append, List.length_take, List.length_drop]
      omega
  have hrow : RowR G (w.setRow g cells) (G.ρ q) ⟨r.e, r.sz, true, r.es.set i (e.take j ++ xs ++ e.drop (j + xs.length))⟩ := by
    refine ⟨h0, by simpa using h1, hes', (fun hc => by cases hc), cells.toList.take (r.es.length * r.sz), ⟨?_, .inr ⟨g, cap, cells, by simpa using hρ, Nat.zero_le _, setRow_get w _ _ _ _ _ hcur, by simpa using hn, hcm, by rw [hcl, hcs], by simp⟩⟩, ?_⟩
    · have : r.es.length * r.sz ≤ cap * r.sz := Nat.mul_le_mul_right _ hn
      simp only [List.length_take, List.length_set, Array.length_toList]
      rw [hcl, hcs]
      omega
    · refine All2.of_get ?_ fun k u x hu hx => ?_
      · rw [flatten_len hes']
        have : r.es.length * r.sz ≤ cap * r.sz := Nat.mul_le_mul_right _ hn
        simp only [List.length_take, List.length_set, Array.length_toList]
        rw [hcl, hcs]
        omega
      · obtain ⟨e', he', hx'⟩ := flat_split h0 hes' hx
        have hk : k / r.sz * r.sz + k % r.sz = k := by rw [Nat.mul_comm]; exact Nat.div_add_mod k r.sz
        have hmod : k % r.sz < r.sz := Nat.mod_lt _ h0
        have hklt : k < r.es.length * r.sz := by
          have := (List.getElem?_eq_some_iff.1 hu).1
          simp only [List.length_take] at this
          omega
        rw [List.getElem?_take_of_lt hklt] at hu
        simp only [cells, List.toList_toArray] at hu
        have hg := get3 cur.toList us (i * r.sz + j) (by rw [hul]; simpa using hfit) k
        rw [hul] at hg
        rw [hg] at hu
        rw [List.getElem?_set] at he'
        by_cases hik : i = k / r.sz
        · rw [if_pos hik, if_pos hilt] at he'
          simp only [Option.some.injEq] at he'
          subst he'
          have hg2 := get3 e xs j hj (k % r.sz)
          rw [hg2] at hx'
          by_cases hin : j ≤ k % r.sz ∧ k % r.sz < j + xs.length
          · rw [if_pos hin] at hx'
            rw [if_pos (by rw [← hik] at hk; omega)] at hu
            rw [show k - (i * r.sz + j) = k % r.sz - j by rw [← hik] at hk; omega] at hu
            obtain ⟨u', hu', hrd⟩ := hl.get _ _ hx'
            rw [hu] at hu'
            cases hu'
            exact hrd.mono hstep.mem hstep.F
          · rw [if_neg hin] at hx'
            rw [if_neg (by rw [← hik] at hk; omega)] at hu
            have := flatten_get h2 (i := i) (e := e) he hmod
            rw [hik, hk] at this
            rw [hx'] at this
            obtain ⟨u', hu', hrd⟩ := hf.get _ _ this
            rw [← ht, List.getElem?_take_of_lt hklt, hu] at hu'
            cases hu'
            exact hrd.mono hstep.mem hstep.F
        · rw [if_neg hik] at he'
          have hne : ¬ (i * r.sz + j ≤ k ∧ k < i * r.sz + j + xs.length) := fun hc => by
            rcases Nat.lt_or_gt_of_ne hik with h | h
            · have : (i + 1) * r.sz ≤ k / r.sz * r.sz := Nat.mul_le_mul_right _ h
              rw [Nat.succ_mul] at this
              omega
            · have : (k / r.sz + 1) * r.sz ≤ i * r.sz := Nat.mul_le_mul_right _ h
              rw [Nat.succ_mul] at this
              omega
          rw [if_neg hne] at hu
          have := flatten_get h2 he' hmod
          rw [hk, hx'] at this
          obtain ⟨u', hu', hrd⟩ := hf.get _ _ this
          rw [← ht, List.getElem?_take_of_lt hklt, hu] at hu'
          cases hu'
          exact hrd.mono hstep.mem hstep.F
  have h2' : MemR G (rwLook q ⟨r.e, r.sz, true, r.es.set i (e.take j ++ xs ++ e.drop (j + xs.length))⟩) (w.setRow g cells) :=
  { leaf := fun b j l ee => by cases (rwLook_some ee).1
    row := fun k r' ee => by
      obtain ⟨e1, e2⟩ := rwLook_some ee
      cases e1; cases e2
      exact hrow
    sep := fun l l' c c' g ee ee' _ _ => by
      obtain ⟨rfl, _⟩ := rwLook_some ee
      obtain ⟨rfl, _⟩ := rwLook_some ee'
      rfl
    cold := fun l c g' ee hb hF => by
      obtain ⟨rfl, rfl⟩ := rwLook_some ee
      simp only [Gh.blk, if_true, hρ, Value.ownBlock, Option.some.injEq] at hb
      subst hb
      exact hcold hF
    Flt := hR1.Flt }
  have h5 := hR1.add h2' (fun t => rfl) (fun l l' c c' g' ee ee' hb hb' _ => by
    obtain ⟨rfl, rfl⟩ := rwLook_some ee
    simp only [Gh.blk, if_true, hρ, Value.ownBlock, Option.some.injEq] at hb
    subst hb
    exact (hblkne _ _ _ ee' hb' rfl).elim) (fun l c g' ee hb => by
    obtain ⟨rfl, rfl⟩ := rwLook_some ee
    simp only [Gh.blk, if_true, hρ, Value.ownBlock, Option.some.injEq] at hb
    subst hb
    exact .inl hbase)
  refine h5.less fun l c ee => ?_
  unfold over at ee ⊢
  split at ee
  · exact ee
  · rename_i hnone
    cases l with
    | row p =>
      simp only [rwLook] at hnone
      split at hnone
      · cases hnone
      · rename_i hb
        simp only [look1]
        rw [if_neg (fun hp => by rw [hp, kbeq_iff.2 rfl] at hb; cases hb)]
        exact ee
    | slot => exact ee
    | leaf => exact ee

theorem all2_of_RdF {D : Dl} {F' : Nat → Prop} {us : List Value} {xs : List AV} (h : All2 (RdF G w D) us xs) (h1 : ∀ b, G.F b → F' b) (h2 : ∀ b, frzB G D b → F' b) : All2 (Rd w F') us xs :=
  h.imp fun _ _ _ hh => hh F' h1 h2

theorem op_store (hT : TOk P T) (hr : Rel C G look a w) {o : Oper} {t : TypeId} {x v : Operand} (ho : o.op = .store t x v) {k : Dl → List Loc → Prop} (h : opW P T o look k) : OpOk P C o look a w k := by
  simp only [opW, ho] at h
  split at h
  · rename_i td hdst htd
    have hf := hT.facts htd
    obtain ⟨sx, R, h1, hsx⟩ := rdS_sound hr h
    obtain ⟨sv, R', h2, hsv⟩ := rdS_sound hr h1
    clear h h1
    split at h2
    · rename_i ls hls
      obtain ⟨hl, hagg⟩ := slr_leafs hsv hls
      split at h2
      · rename_i hb
        have hlen := Nat.eq_of_beq_eq_true hb
        have hvsz : (a.eval v).cells.size = td.size := by have := hl.length; simp at this; omega
        have h1c : ∀ u ∈ (a.eval v).cells.toList, u.oneCell' = true := fun u hu => by
          obtain ⟨i, hi, rfl⟩ := List.getElem_of_mem hu
          have : i < ls.length := by have := hl.length; omega
          obtain ⟨u', hu', hlu⟩ := hl.get i ls[i] (by simp [this])
          rw [List.getElem?_eq_getElem hi, Option.some.injEq] at hu'
          rw [hu']
          exact lf_one hlu
        split at h2
        · rename_i b j
          split at h2
          · rename_i hth
            have hpv : a.eval x = .pointer (some ⟨G.m b, j, none⟩) := hsx
            obtain ⟨cur, TT, hcur, hfit, hrel⟩ := hr.setBox (b := b) (j := j) (ls := ls) (by have := hf.pos; omega) (fun i hi => there_sound hth i (by omega)) hl
            refine ⟨_, _, h2, fun K Q hK => wp_skip' (w' := w.setRow (G.m b) (cur.toList.take j ++ (a.eval v).cells.toList ++ cur.toList.drop (j + td.size)).toArray) ?_ (hK _ _ ?_)⟩
            · simp only [execOp, ho, hpv]
              exact exec_unit (run_storeAt hf hvsz hcur (by omega) h1c)
            · rw [hdst]
              rw [hlen] at hrel
              exact ⟨G, hrel⟩
          · exact h2.elim
        · rename_i q sz i j
          obtain ⟨g0, n0, c0, hρ0, hpv⟩ : ∃ g n c, G.ρ q = .slice (some ⟨g, 0, none⟩) n c ∧ a.eval x = .pointer (some ⟨g, i * sz + j, none⟩) := hsx
          split at h2
          · rename_i r hrow
            split at h2
            · rename_i hb2
              simp only [Bool.and_eq_true] at hb2
              have hsz := Nat.eq_of_beq_eq_true hb2.2
              subst hsz
              obtain ⟨xs, R'', D, h3, hD, hxs⟩ := avsOf_sound hr.toMemR hl h2
              obtain ⟨e, he, hje, hnh, h4⟩ := h3
              have hxl : xs.length = td.size := by have := hxs.length; simp at this; omega
              have hrF := hr.freeze hD
              have hq : app look D (.row q) = some (.r r) := by
                have : D.look (.row q) = none := by
                  cases hdl : D.look (.row q) with
                  | none => rfl
                  | some c =>
                    obtain ⟨p, hp, hh, _⟩ := dl_look_mem hdl
                    rw [hnh p hp] at hh; cases hh
                simp only [app, this]
                exact hrow
              obtain ⟨g, n, c, cur, TT, hρ, hcur, hfit, hrel⟩ := hrF.setElem (xs := xs) (j := j) hq hb2.1 he (all2_of_RdF hxs (fun _ hb => .inl hb) (fun _ hb => .inr hb)) (by omega)
              have hρ' : G.ρ q = .slice (some ⟨g, 0, none⟩) n c := hρ
              rw [hρ0] at hρ'
              cases hρ'
              rw [hxl] at hrel hfit
              refine ⟨_, _, h4, fun K Q hK => wp_skip' (w' := w.setRow g0 (cur.toList.take (i * r.sz + j) ++ (a.eval v).cells.toList ++ cur.toList.drop (i * r.sz + j + td.size)).toArray) ?_ (hK _ _ ?_)⟩
              · simp only [execOp, ho, hpv]
                exact exec_unit (run_storeAt hf hvsz hcur hfit h1c)
              · rw [hdst, app_rowD]
                exact ⟨_, hrel⟩
            · exact h2.elim
          · exact h2.elim
        · exact h2.elim
      · exact h2.elim
    · exact h2.elim
  · exact h.elim
end
end Go.Proofs.YtccbimcikbbecaaGreat.P1
/- Builtins: len, min, max, append. -/
namespace Go.Proofs.YtccbimcikbbecaaGreat.P1
open Go

section
variable {P : Program} {T : TI} {C : Cx} {G G2 : Gh} {look look' : Loc → Option Cell} {a : Act} {w w' : World}

/-- A slice that reads as a row. -/
structure RowVal (G : Gh) (w : World) (u : Value) (es : List (List AV)) (A : Option Addr) (n c : Nat) : Prop where
  eq : u = .slice A n c
  len : es.length = n
  lim : n ≤ P1.lim
  none : A = none → c = 0 ∧ n = 0
  cells : ∀ ad, A = some ad → ∀ sz, (∀ x ∈ es, x.length = sz) → ∃ us : List Value, All2 (Rd w G.F) us es.flatten ∧ ∀ (j : Nat) (u : Value), us[j]? = some u → w.cell? (ad.add j) = some u

theorem rowVal_of_rd {u : Value} {es : List (List AV)} (h : Rd w G.F u (.row es)) : ∃ A n c, RowVal G w u es A n c := by
  cases h with
  | @emp A c hA => exact ⟨A, 0, c, rfl, rfl, by decide, fun hh => ⟨hA hh, rfl⟩, fun ad _ sz _ => ⟨[], .nil, fun j u hu => by simp at hu⟩⟩
  | @row b o n c sz _ cv hF hn hc hl h0 hsz hcell hrd =>
    refine ⟨_, n, c, rfl, hn, hl, (fun hh => by cases hh), fun ad had sz' hsz' => ?_⟩
    cases had
    have hall : ∀ x ∈ es, x.length = sz := fun x hx => by
      obtain ⟨i, hi, rfl⟩ := List.getElem_of_mem hx
      exact hsz i hi
    refine ⟨(List.range es.flatten.length).map fun k => cv (k / sz) (k % sz), All2.of_get (by simp) fun k u x hu hx => ?_, fun k u hu => ?_⟩
    · obtain ⟨e, he, hex⟩ := flat_split h0 hall hx
      obtain ⟨hi, rfl⟩ := List.getElem?_eq_some_iff.1 he
      obtain ⟨hj, rfl⟩ := List.getElem?_eq_some_iff.1 hex
      have hk := (List.getElem?_eq_some_iff.1 hx).1
      simp only [List.getElem?_map, List.getElem?_range hk, Option.map_some, Option.some.injEq] at hu
      subst hu
      exact hrd _ _ hi hj
    · have hk : k < es.flatten.length := by
        have := (List.getElem?_eq_some_iff.1 hu).1
        simpa using this
      simp only [List.getElem?_map, List.getElem?_range hk, Option.map_some, Option.some.injEq] at hu
      subst hu
      obtain ⟨e, he, hex⟩ := flat_split h0 hall (x := es.flatten[k]) (List.getElem?_eq_getElem hk)
      have hi := (List.getElem?_eq_some_iff.1 he).1
      have := hcell (k / sz) (k % sz) hi (Nat.mod_lt _ h0)
      rw [addr_add]
      rw [show o + k = o + k / sz * sz + k % sz by rw [Nat.add_assoc, Nat.mul_comm, Nat.div_add_mod]]
      exact this

theorem rowVal_of_own {v : Value} {r : Row} (h : RowR G w v r) : ∃ A n c, RowVal G w v r.es A n c := by
  obtain ⟨h0, h1, h2, h3, xs, ⟨hx, ho⟩, hf⟩ := h
  rcases ho with ⟨rfl, hz⟩ | ⟨g, cap, cur, rfl, hb, hg, hn, hm, hcs, ht⟩
  · exact ⟨none, 0, 0, rfl, hz, by decide, fun _ => ⟨rfl, rfl⟩, fun ad had => by cases had⟩
  · refine ⟨_, _, cap, rfl, rfl, h1, (fun hh => by cases hh), fun ad had sz hsz => ?_⟩
    cases had
    refine ⟨xs, hf, fun j u hu => ?_⟩
    rw [addr_add, Nat.zero_add]
    have hlt : j < r.es.length * r.sz := by
      have := (List.getElem?_eq_some_iff.1 hu).1
      omega
    rw [← ht, List.getElem?_take_of_lt hlt] at hu
    simp only [World.cell?, hg]
    simpa using hu

theorem rowOf_sound (hr : MemR G look w) {s : Sl} {u : Value} (hs : SlR G w u s) {k : List (List AV) → List Loc → Prop} (h : rowOf look s k) : ∃ es R A n c, k es R ∧ RowVal G w u es A n c := by
  unfold rowOf at h
  split at h
  · obtain ⟨A, n, c, hv⟩ := rowVal_of_rd (show Rd w G.F u (.row _) from hs)
    exact ⟨_, _, A, n, c, h, hv⟩
  · have hu : u = .slice none 0 0 := hs
    subst hu
    exact ⟨_, _, none, 0, 0, h, rfl, rfl, by decide, fun _ => ⟨rfl, rfl⟩, fun ad had => by cases had⟩
  · rename_i q
    obtain ⟨rfl, _⟩ : u = G.ρ q ∧ u.oneCell' = true := hs
    split at h
    · rename_i r hq
      obtain ⟨A, n, c, hv⟩ := rowVal_of_own (hr.row q r hq)
      exact ⟨_, _, A, n, c, h, hv⟩
    · exact h.elim
  · exact h.elim

theorem exec_blt {o : Oper} {c : Call} (ho : o.op = .call c) {b : Builtin} (hb : c.callee = .builtin b) {v : Value} (h : (builtin b c.argTypes o.type (c.args.map fun | .const _ => true | _ => false) (c.args.map a.eval)).run P w = .ok (.value v) w') :
    (execOp a.eval o).run P w = .ok (.value v) w' := by
  simp only [execOp, ho, resolve, hb, Sem.run_bind, Sem.run_pure, Result.andThen_ok, invoke]
  exact h

theorem blt_sound (hT : TOk P T) (hr : Rel C G look a w) {o : Oper} {c : Call} (ho : o.op = .call c) {b : Builtin} (hb : c.callee = .builtin b) {k : Sl → List Loc → Prop} (h : blt T b c.args.toList c.argTypes.toList look k) : ValOk P G w a o k := by
  unfold blt at h
  split at h
  · rename_i x t hargs hts
    have ha : c.args = #[x] := by rw [← Array.toArray_toList (xs := c.args), hargs]
    have ht : c.argTypes = #[t] := by rw [← Array.toArray_toList (xs := c.argTypes), hts]
    split at h
    · rename_i d hd
      have hf := hT.facts hd
      obtain ⟨s, R, h1, hs⟩ := rdS_sound hr h
      split at h1
      · rename_i e hk
        obtain ⟨es, R', A, n, cc, h2, hv⟩ := rowOf_sound hr.toMemR hs h1
        refine ⟨_, _, .int .i64 es.length, h2, exec_blt ho hb ?_, .int ?_⟩
        · simp only [ha, ht, builtin, List.map_toArray, List.map_cons, List.map_nil]
          refine exec_value ?_
          simp [Builtin.len_, run_underlying (hf.rSlice hk), hv.eq, goInt, hv.len]
        · have h1 := hv.lim
          have h2 := hv.len
          rw [wf_iff]
          have h3 : IntKind.i64.min = -9223372036854775808 := by decide
          have h4 : IntKind.i64.max = 9223372036854775807 := by decide
          unfold lim at h1
          omega
      · rename_i b' hk
        obtain ⟨hv, hl⟩ := rd_str (show Rd w G.F (a.eval x) (.str b') from hs)
        refine ⟨_, _, .int .i64 b'.length, h1, exec_blt ho hb ?_, .int ?_⟩
        · simp only [ha, ht, builtin, List.map_toArray, List.map_cons, List.map_nil]
          refine exec_value ?_
          have : (⟨b'.toArray⟩ : ByteArray).size = b'.length := by simp [ByteArray.size]
          simp [Builtin.len_, run_underlying (hf.rString hk), hv, goInt, this]
        · rw [wf_iff]
          have h3 : IntKind.i64.min = -9223372036854775808 := by decide
          have h4 : IntKind.i64.max = 9223372036854775807 := by decide
          unfold lim at hl
          omega
      · exact h1.elim
    · exact h.elim
  · rename_i x y hargs
    have ha : c.args = #[x, y] := by rw [← Array.toArray_toList (xs := c.args), hargs]
    obtain ⟨s, R, h1, hs⟩ := rdS_sound hr h
    obtain ⟨s', R', h2, hs'⟩ := rdS_sound hr h1
    split at h2
    · rename_i kk n kk' m
      obtain ⟨hx, hwx⟩ := rd_int (show Rd w G.F (a.eval x) (.int kk n) from hs)
      obtain ⟨hy, hwy⟩ := rd_int (show Rd w G.F (a.eval y) (.int kk' m) from hs')
      split at h2
      · rename_i hkk
        have hkk := of_decide_eq_true hkk
        subst hkk
        refine ⟨_, _, .int kk (if m > n then m else n), h2, exec_blt ho hb ?_, .int ?_⟩
        · simp only [ha, builtin, List.map_toArray, List.map_cons, List.map_nil, hx, hy]
          exact exec_value rfl
        · split <;> assumption
      · exact h2.elim
    · exact h2.elim
  · rename_i x y hargs
    have ha : c.args = #[x, y] := by rw [← Array.toArray_toList (xs := c.args), hargs]
    obtain ⟨s, R, h1, hs⟩ := rdS_sound hr h
    obtain ⟨s', R', h2, hs'⟩ := rdS_sound hr h1
    split at h2
    · rename_i kk n kk' m
      obtain ⟨hx, hwx⟩ := rd_int (show Rd w G.F (a.eval x) (.int kk n) from hs)
      obtain ⟨hy, hwy⟩ := rd_int (show Rd w G.F (a.eval y) (.int kk' m) from hs')
      split at h2
      · rename_i hkk
        have hkk := of_decide_eq_true hkk
        subst hkk
        refine ⟨_, _, .int kk (if m < n then m else n), h2, exec_blt ho hb ?_, .int ?_⟩
        · simp only [ha, builtin, List.map_toArray, List.map_cons, List.map_nil, hx, hy]
          exact exec_value rfl
        · split <;> assumption
      · exact h2.elim
    · exact h2.elim
  · exact h.elim
end
end Go.Proofs.YtccbimcikbbecaaGreat.P1
/- append. -/
namespace Go.Proofs.YtccbimcikbbecaaGreat.P1
open Go

section
variable {P : Program} {T : TI} {C : Cx} {G G2 : Gh} {look look' : Loc → Option Cell} {a : Act} {w w' : World}

theorem Fr.grown {w0 : World} {M : Nat → Prop} (h : Fr w0 M w) {row : Option Nat} (hg : w.grownBy w' row) (hdr : w.drawn ≤ w'.drawn) (hr : ∀ g, row = some g → w0.heap.size ≤ g) : Fr w0 M w' :=
  ⟨hg.os.trans h.os, hg.tape.trans h.tape, hg.output.trans h.output, Nat.le_trans h.size hg.size, fun i hi hn => by
    rw [hg.block i (Nat.lt_of_lt_of_le hi h.size) (fun e => by have := hr i e.symm; omega)]
    exact h.block i hi hn, Nat.le_trans h.drawn hdr⟩

theorem all2_one {us : List Value} {es : List AV} {F : Nat → Prop} (h : All2 (Rd w F) us es) : ∀ u ∈ us, u.oneCell' = true := by
  induction h with
  | nil => intro u hu; cases hu
  | cons h1 _ ih => intro u hu; rcases List.mem_cons.1 hu with rfl | hu
                    · exact h1.oneCell
                    · exact ih u hu

theorem Rel.appendRow (hr : Rel C G look a w) {d : Nat} (hf : Fresh d look) (hd : d < C.n) {t e ty : TypeId} {de : TD} (hu : P.underlying t = some (.slice e)) (hfe : TFacts P e de)
    {v : Value} {es1 : List (List AV)} {xs : List Value} (hown : w.ownsRow 0 e de.size v es1.length xs) (hone : v.oneCell' = true) (hxs : All2 (Rd w G.F) xs es1.flatten) (h1 : ∀ x ∈ es1, x.length = de.size)
    (hv : ∀ g, v.ownBlock = some g → C.w0.heap.size ≤ g ∧ ¬ G.F g ∧ ∀ l c, look l = some c → G.blk l c ≠ some g)
    {u : Value} {es2 : List (List AV)} {A : Option Addr} {m c : Nat} (hu2 : RowVal G w u es2 A m c) (h2 : ∀ x ∈ es2, x.length = de.size) (hb : (es1.length + es2.length) * de.bytes ≤ 140737488355328) :
    ∃ v' w', (Builtin.append_ #[t, t] ty #[v, u]).run P w = .ok v' w' ∧ RelE C (setS (over (rwLook (d, 0) ⟨e, de.size, true, es1 ++ es2⟩) look) d (.lf (.own (d, 0)))) (a.put (some d) v') w' := by
  obtain ⟨i, z, hi, hsz, hby, hz, hzo, hzl⟩ := hfe.rInfo
  have hbp := hfe.bpos
  have hpos := hfe.pos
  have hnm : es1.length + es2.length ≤ 140737488355328 := Nat.le_trans (Nat.le_mul_of_pos_right _ hbp) hb
  have hm : es2.length = m := hu2.len
  obtain ⟨news, hnews, hcells⟩ : ∃ news : List Value, All2 (Rd w G.F) news es2.flatten ∧ ∀ ad, A = some ad → ∀ (j : Nat) (u : Value), news[j]? = some u → w.cell? (ad.add j) = some u := by
    cases hA : A with
    | none =>
      have hm0 : m = 0 := (hu2.none hA).2
      refine ⟨[], ?_, fun ad h => by cases h⟩
      rw [List.eq_nil_of_length_eq_zero (by omega : es2.length = 0)]
      exact .nil
    | some ad =>
      obtain ⟨us, h3, h4⟩ := hu2.cells ad hA _ h2
      exact ⟨us, h3, fun ad' h => by cases h; exact h4⟩
  have hnl : news.length = m * de.size := by rw [hnews.length, flatten_len h2, hm]
  have hrun : ∃ v' w', (Builtin.append_ #[t, t] ty #[v, u]).run P w = .ok v' w' ∧ w'.ownsRow 0 e de.size v' (es1.length + m) (xs ++ news) ∧ w.grownBy w' v.ownBlock ∧ (v'.ownBlock = v.ownBlock ∨ v'.ownBlock = some w.heap.size) := by
    cases hA : A with
    | none =>
      have hc := (hu2.none hA).1
      have hm0 : m = 0 := (hu2.none hA).2
      have hn0 : news = [] := List.eq_nil_of_length_eq_zero (by rw [hnl, hm0, Nat.zero_mul])
      refine ⟨v, w, ?_, ?_, ⟨rfl, rfl, rfl, Nat.le_refl _, fun _ _ _ => rfl⟩, .inl rfl⟩
      · rw [hu2.eq, hA, hc, hm0]
        exact run_append_owned_none (P := P) (w := w) 0 t ty e i de.size hu hi v es1.length xs hown
      · rw [hn0, hm0, List.append_nil, Nat.add_zero]; exact hown
    | some ad =>
      obtain ⟨v', w', h3, h4, h5, _, h6⟩ := run_append_own_at (P := P) w 0 t ty e i z de.size de.bytes hu hi hz hsz hby (by rw [hzl, hfe.zl]) hpos v es1.length xs hown ad m c news hnl (hcells ad hA) (all2_one hnews) (by unfold maxLen; omega) (by rw [← hm]; exact hb) (Nat.zero_le _)
      exact ⟨v', w', by rw [hu2.eq, hA]; exact h3, h4, h5, h6⟩
  obtain ⟨v', w', h3, h4, h5, h6⟩ := hrun
  refine ⟨v', w', h3, G.with d (fun _ => 0) (fun _ => v') G.F, ?_⟩
  have hblkne : ∀ g, g < w.heap.size → v.ownBlock ≠ some g → w'.heap[g]? = w.heap[g]? := fun g hg hne => h5.block g hg (fun e => hne e.symm)
  have hstep : Step G (G.with d (fun _ => 0) (fun _ => v') G.F) w w' := ⟨fun b hF => hblkne b (hr.Flt b hF) (fun e => (hv b e).2.1 hF), fun _ h => h⟩
  have hρ : (G.with d (fun _ => 0) (fun _ => v') G.F).ρ (d, 0) = v' := by simp [Gh.with]
  have hone' : v'.oneCell' = true := by
    rcases h4.2 with ⟨rfl, _⟩ | ⟨_, _, _, rfl, _⟩ <;> rfl
  have hr1 : Rel C (G.with d (fun _ => 0) (fun _ => v') G.F) look a w' := hr.frame hstep
    (fun l c g ee hb => hblkne g (hr.toMemR.blk_lt ee hb) (fun hh => (hv g hh).2.2 l c ee hb)) (Gh.with_ne hf) hr.cold
    (fun b hb => Nat.lt_of_lt_of_le (hr.Flt b hb) h5.size) (hr.fr.grown h5 (run_drawn h3) fun g hg => (hv g hg).1) (fun _ hb => .inl hb) (fun i => if_neg (Nat.ne_of_gt hd))
  have h7 := hr1.newRow (d := d) hd (r := ⟨e, de.size, true, es1 ++ es2⟩) rfl ?_ (by rw [hρ]; exact hone') ?_
  · rw [hρ] at h7
    exact h7
  · rw [hρ]
    refine ⟨hpos, ?_, fun x hx => (List.mem_append.1 hx).elim (h1 x) (h2 x), (fun hc => by cases hc), xs ++ news, ?_, ?_⟩
    · simp only [List.length_append]
      unfold lim; omega
    · simp only [List.length_append, hm]
      exact h4
    · simp only [List.flatten_append]
      exact ((hxs.append hnews)).imp fun _ _ _ hh => hh.mono hstep.mem hstep.F
  · intro g hg
    rw [hρ] at hg
    rcases h6 with h6 | h6
    · rw [h6] at hg
      obtain ⟨e1, e2, e3⟩ := hv g hg
      refine ⟨e1, e2, fun l c ee hb => ?_⟩
      rw [Gh.blk_eq (G := G) fun k hk' => Gh.with_ne hf _ _ ee k (.inl hk')] at hb
      exact e3 l c ee hb
    · rw [h6] at hg
      simp only [Option.some.injEq] at hg
      subst hg
      refine ⟨hr.fr.size, fun hF => Nat.lt_irrefl _ (hr.Flt _ hF), fun l c ee hb => ?_⟩
      rw [Gh.blk_eq (G := G) fun k hk' => Gh.with_ne hf _ _ ee k (.inl hk')] at hb
      exact Nat.lt_irrefl _ (hr.toMemR.blk_lt ee hb)

theorem exec_append {o : Oper} {c : Call} (ho : o.op = .call c) (hb : c.callee = .builtin .append) {s x : Operand} (ha : c.args = #[s, x]) {t : TypeId} (ht : c.argTypes = #[t, t]) {v : Value} (h : (Builtin.append_ #[t, t] o.type #[a.eval s, a.eval x]).run P w = .ok v w') :
    (execOp a.eval o).run P w = .ok (.value v) w' := by
  refine exec_blt ho hb ?_
  simp only [ha, ht, builtin, List.map_toArray, List.map_cons, List.map_nil]
  exact exec_value h

theorem op_append (hT : TOk P T) (hr : Rel C G look a w) {o : Oper} {d : Nat} (hdst : o.dst = some d) (hd : d < C.n) (hf : Fresh d look) {c : Call} (ho : o.op = .call c) (hb : c.callee = .builtin .append) {s x : Operand} (ha : c.args = #[s, x]) {t : TypeId} (ht : c.argTypes = #[t, t]) {k : Dl → List Loc → Prop} (h : apW T d s x t look k) : OpOk P C o look a w k := by
  unfold apW at h
  split at h
  · rename_i td htd
    split at h
    · rename_i e hk
      have hu := (hT.facts htd).rSlice hk
      split at h
      · rename_i de hde
        have hfe := hT.facts hde
        obtain ⟨ss, R, h1, hss⟩ := rdS_sound hr h
        obtain ⟨sx, R', h2, hsx⟩ := rdS_sound hr h1
        obtain ⟨es2, R'', A, m, cc, h3, hv⟩ := rowOf_sound hr.toMemR hsx h2
        clear h h1 h2
        split at h3
        · obtain ⟨hbd, hl2, h4⟩ := h3
          have hsv : a.eval s = .slice none 0 0 := hss
          obtain ⟨v', w', h5, h6⟩ := hr.appendRow (P := P) (ty := o.type) hf hd hu hfe (v := .slice none 0 0) (es1 := []) (xs := []) (World.ownsRow_nil w 0 e de.size) rfl .nil (fun _ h => by cases h) (fun g hg => by cases hg) hv hl2 (by simpa using hbd)
          refine ⟨_, _, h4, fun K Q hK => wp_value (exec_append ho hb ha ht (by rw [hsv]; exact h5)) (hK _ _ ?_)⟩
          rw [hdst, app_row, app_nil]
          simpa using h6
        · rename_i q
          split at h3
          · rename_i r hrow
            split at h3
            · rename_i hbb
              simp only [Bool.and_eq_true] at hbb
              obtain ⟨⟨hhot, he⟩, hsz⟩ := hbb
              have he := Nat.eq_of_beq_eq_true he
              have hsz := Nat.eq_of_beq_eq_true hsz
              obtain ⟨hbd, hl2, h4⟩ := h3
              obtain ⟨hsv, hone⟩ : a.eval s = G.ρ q ∧ (a.eval s).oneCell' = true := hss
              rw [hsv] at hone
              obtain ⟨g0, g1, g2, g3, xs, gown, gf⟩ := hr.row q r hrow
              -- without the old row
              have hless : Less (app look [(.at (.row q), none)]) look := fun l c ee => by
                simp only [app, Dl.look, Pat.hits] at ee
                split at ee
                · rename_i hh
                  split at hh <;> first | (cases hh; cases ee; done) | cases hh
                · exact ee
              have hq : ∀ c, app look [(.at (.row q), none)] (.row q) ≠ some c := fun c ee => by
                simp [app, Dl.look, Pat.hits, Loc.beq_self] at ee
              have hr1 := hr.less hless
              have hf1 : Fresh d (app look [(.at (.row q), none)]) := fun l c ee k hk => hf l c (hless _ _ ee) k hk
              obtain ⟨v', w', h5, h6⟩ := hr1.appendRow (P := P) (ty := o.type) hf1 hd hu hfe (v := G.ρ q) (es1 := r.es) (xs := xs) (by rw [← he, ← hsz]; exact gown) hone gf (fun x hx => by rw [← hsz]; exact g2 x hx) (fun g hg => by
                have hblk : G.blk (.row q) (.r r) = some g := by simp [Gh.blk, hhot, hg]
                refine ⟨(hr.mine _ _ _ hrow hblk).elim id (fun h => by obtain ⟨_, _, _, hh⟩ := h; cases hh), hr.cold _ _ _ hrow hblk, fun l c ee hb => ?_⟩
                have := hr.sep _ _ _ _ _ hrow (hless _ _ ee) hblk hb
                cases l with
                | row p =>
                  have hp : q = p := this
                  subst hp
                  exact hq _ ee
                | slot => exact this.elim
                | leaf => exact this.elim) hv hl2 (by simpa using hbd)
              refine ⟨_, _, h4, fun K Q hK => wp_value (exec_append ho hb ha ht (by rw [hsv]; exact h5)) (hK _ _ ?_)⟩
              rw [hdst, app_row]
              exact h6
            · exact h3.elim
          · exact h3.elim
        · exact h3.elim
      · exact h.elim
    · exact h.elim
  · exact h.elim
end
end Go.Proofs.YtccbimcikbbecaaGreat.P1
/- Calls: what is handed over. -/
namespace Go.Proofs.YtccbimcikbbecaaGreat.P1
open Go

section
variable {P : Program} {T : TI} {C : Cx} {G G2 : Gh} {look look' : Loc → Option Cell} {a : Act} {w w' : World}

theorem addKey_ext (b : Key) : ∀ B : List Key, ∃ E, addKey b B = B ++ E
  | [] => ⟨[b], rfl⟩
  | k :: r => by
    simp only [addKey]
    split
    · exact ⟨[], by simp⟩
    · obtain ⟨E, h⟩ := addKey_ext b r; exact ⟨E, by rw [h]; rfl⟩
theorem idx_get (b : Key) : ∀ B : List Key, b ∈ B → B[idx b B]? = some b
  | [], h => by cases h
  | k :: r, h => by
    simp only [idx]
    split
    · rename_i hb; rw [kbeq_iff.1 hb]; rfl
    · rename_i hb
      rcases List.mem_cons.1 h with rfl | h
      · rw [kbeq_iff.2 rfl] at hb; cases hb
      · simpa using idx_get b r h
theorem addKey_mem (b : Key) : ∀ B : List Key, b ∈ addKey b B
  | [] => .head _
  | k :: r => by
    simp only [addKey]
    split
    · rename_i hb; rw [kbeq_iff.1 hb]; exact .head _
    · exact .tail _ (addKey_mem b r)
theorem capKeys_ext : ∀ (caps : List (Key × Nat)) (B : List Key), ∃ E, capKeys caps B = B ++ E
  | [], B => ⟨[], by simp [capKeys]⟩
  | p :: r, B => by
    obtain ⟨E, h⟩ := addKey_ext p.1 B
    obtain ⟨E', h'⟩ := capKeys_ext r (addKey p.1 B)
    exact ⟨E ++ E', by rw [capKeys, h', h, List.append_assoc]⟩
theorem capKeys_mem : ∀ (caps : List (Key × Nat)) (B : List Key), ∀ p ∈ caps, p.1 ∈ capKeys caps B
  | [], _, p, h => by cases h
  | q :: r, B, p, h => by
    rw [capKeys]
    rcases List.mem_cons.1 h with rfl | h
    · obtain ⟨E, h'⟩ := capKeys_ext r (addKey p.1 B)
      rw [h']
      exact List.mem_append_left _ (addKey_mem _ _)
    · exact capKeys_mem r _ p h

/-- What has been handed over: the names in B stand for the boxes. -/
def Handed (G : Gh) (B : List Key) (m : Key → Nat) : Prop := ∀ i b, B[i]? = some b → m (1, i) = G.m b
theorem Handed.of_ext {B E : List Key} {m : Key → Nat} (h : Handed G (B ++ E) m) : Handed G B m := fun i b hb => h i b (by
  have := (List.getElem?_eq_some_iff.1 hb).1
  rw [List.getElem?_append_left this]; exact hb)

theorem argLf_sound (hr : MemR G look w) {l : Lf} {u : Value} (hu : LfR G w u l) {B : List Key} {k : Lf → List Key → List Loc → Dl → Prop} (h : argLf look l B k) :
    ∃ l' B' R D, k l' B' R D ∧ FrzOk look D ∧ (∃ E, B' = B ++ E) ∧ ∀ (m : Key → Nat) (ρ : Key → Value) (F' : Nat → Prop), Handed G B' m → (∀ b, G.F b → F' b) → (∀ b, frzB G D b → F' b) → LfR ⟨m, ρ, F'⟩ w u l' := by
  unfold argLf at h
  split at h
  · rename_i b j
    refine ⟨_, _, _, _, h, .nil, addKey_ext b B, fun m ρ F' hm _ _ => ?_⟩
    have hu : u = .pointer (some ⟨G.m b, j, none⟩) := hu
    simp only [LfR]
    rw [hu, hm _ b (idx_get b _ (addKey_mem b B))]
  · rename_i f caps
    refine ⟨_, _, _, _, h, .nil, capKeys_ext caps B, fun m ρ F' hm _ _ => ?_⟩
    have hu : u = .func (.func f) #[] (caps.map fun p => Value.pointer (some ⟨G.m p.1, p.2, none⟩)).toArray := hu
    simp only [LfR]
    rw [hu]
    congr 2
    rw [List.map_map]
    apply List.map_congr_left
    intro p hp
    simp only [Function.comp]
    rw [hm _ p.1 (idx_get p.1 _ (capKeys_mem caps B p hp))]
  · obtain ⟨x, R, D, h1, h2, h3⟩ := avOf_sound hr hu h
    exact ⟨_, _, _, _, h1, h2, ⟨[], by simp⟩, fun m ρ F' _ hF hD => h3 F' hF hD⟩

theorem argLfs_sound (hr : MemR G look w) : ∀ {us : List Value} {ls : List Lf} {B : List Key} {k : List Lf → List Key → List Loc → Dl → Prop}, All2 (LfR G w) us ls → argLfs look ls B k →
    ∃ ls' B' R D, k ls' B' R D ∧ FrzOk look D ∧ (∃ E, B' = B ++ E) ∧ ∀ (m : Key → Nat) (ρ : Key → Value) (F' : Nat → Prop), Handed G B' m → (∀ b, G.F b → F' b) → (∀ b, frzB G D b → F' b) → All2 (LfR ⟨m, ρ, F'⟩ w) us ls'
  | _, _, B, _, .nil, h => ⟨_, _, _, _, h, .nil, ⟨[], by simp⟩, fun _ _ _ _ _ _ => .nil⟩
  | _, _, B, _, .cons hu hus, h => by
    obtain ⟨l', B', R, D, h1, h2, ⟨E, hE⟩, h3⟩ := argLf_sound hr hu h
    obtain ⟨ls', B'', R', D', h4, h5, ⟨E', hE'⟩, h6⟩ := argLfs_sound hr hus h1
    refine ⟨_, _, _, _, h4, h2.append h5, ⟨E ++ E', by rw [hE', hE, List.append_assoc]⟩, fun m ρ F' hm hF hD => .cons ?_ ?_⟩
    · exact h3 m ρ F' (Handed.of_ext (E := E') (by rw [← hE']; exact hm)) hF fun b hb => hD b (frzB_append_l hb)
    · exact h6 m ρ F' hm hF fun b hb => hD b (frzB_append_r hb)

theorem argSl_sound (hr : MemR G look w) {s : Sl} {u : Value} (hu : SlR G w u s) {B : List Key} {k : Sl → List Key → List Loc → Dl → Prop} (h : argSl look s B k) :
    ∃ s' B' R D, k s' B' R D ∧ FrzOk look D ∧ (∃ E, B' = B ++ E) ∧ ∀ (m : Key → Nat) (ρ : Key → Value) (F' : Nat → Prop), Handed G B' m → (∀ b, G.F b → F' b) → (∀ b, frzB G D b → F' b) → SlR ⟨m, ρ, F'⟩ w u s' := by
  unfold argSl at h
  split at h
  · obtain ⟨l', B', R, D, h1, h2, h3, h4⟩ := argLf_sound hr (show LfR G w u _ from hu) h
    exact ⟨_, _, _, _, h1, h2, h3, h4⟩
  · obtain ⟨us, rfl, hus⟩ := hu
    obtain ⟨l', B', R, D, h1, h2, h3, h4⟩ := argLfs_sound hr hus h
    exact ⟨_, _, _, _, h1, h2, h3, fun m ρ F' a b c => ⟨us, rfl, h4 m ρ F' a b c⟩⟩
  · exact h.elim

theorem argsW_sound (hr : Rel C G look a w) : ∀ {xs : List Operand} {B : List Key} {k : List Sl → List Key → List Loc → Dl → Prop}, argsW look xs B k →
    ∃ ss B' R D, k ss B' R D ∧ FrzOk look D ∧ (∃ E, B' = B ++ E) ∧ ∀ (m : Key → Nat) (ρ : Key → Value) (F' : Nat → Prop), Handed G B' m → (∀ b, G.F b → F' b) → (∀ b, frzB G D b → F' b) → SlsR ⟨m, ρ, F'⟩ w (xs.map a.eval) ss
  | [], B, _, h => ⟨_, _, _, _, h, .nil, ⟨[], by simp⟩, fun _ _ _ _ _ _ => trivial⟩
  | x :: xs, B, k, h => by
    obtain ⟨s, R0, h0, hs⟩ := rdS_sound hr (show rdS look x _ from h)
    obtain ⟨s', B', R, D, h1, h2, ⟨E, hE⟩, h3⟩ := argSl_sound hr.toMemR hs h0
    obtain ⟨ls', B'', R', D', h4, h5, ⟨E', hE'⟩, h6⟩ := argsW_sound hr h1
    refine ⟨_, _, _, _, h4, h2.append h5, ⟨E ++ E', by rw [hE', hE, List.append_assoc]⟩, fun m ρ F' hm hF hD => ⟨?_, ?_⟩⟩
    · exact h3 m ρ F' (Handed.of_ext (E := E') (by rw [← hE']; exact hm)) hF fun b hb => hD b (frzB_append_l hb)
    · exact h6 m ρ F' hm hF fun b hb => hD b (frzB_append_r hb)

/-- What hasS tells of one cell of a box. -/
def SIn (G : Gh) (look : Loc → Option Cell) (w : World) (B : List Key) (D : Dl) (p : (Key × Nat) × AV) : Prop :=
  p.1.1.1 = 1 ∧ ∃ b l u cur T, B[p.1.1.2]? = some b ∧ look (.leaf b p.1.2) = some (.l l) ∧ w.heap[G.m b]? = some (.cells cur T (0, 0)) ∧ cur[p.1.2]? = some u ∧ RdF G w D u p.2

theorem hasS_sound (hr : MemR G look w) {B : List Key} : ∀ {S : Bx} {k : List Loc → Dl → Prop}, hasS look B S k → ∃ R D, k R D ∧ FrzOk look D ∧ ∀ p ∈ S, SIn G look w B D p
  | [], _, h => ⟨_, _, h, .nil, fun _ h => by cases h⟩
  | (((o, i), j), x) :: r, k, h => by
    simp only [hasS] at h
    split at h
    · exact h.elim
    · rename_i ho
      have ho := Nat.eq_of_beq_eq_true ho
      split at h
      · exact h.elim
      · rename_i b hb
        split at h
        · rename_i l hl
          obtain ⟨u, cur, T, h1, h2, h3⟩ := hr.leaf _ _ _ hl
          obtain ⟨x', R, D, ⟨hx, h4⟩, h5, h6⟩ := avOf_sound hr h3 h
          obtain ⟨R', D', h7, h8, h9⟩ := hasS_sound hr h4
          refine ⟨_, _, h7, h5.append h8, fun p hp => ?_⟩
          rcases List.mem_cons.1 hp with rfl | hp
          · exact ⟨ho, b, l, u, cur, T, hb, hl, h1, h2, hx ▸ h6.left⟩
          · obtain ⟨e1, b', l', u', cur', T', e2, e3, e4, e5, e6⟩ := h9 p hp
            exact ⟨e1, b', l', u', cur', T', e2, e3, e4, e5, e6.right⟩
        · exact h.elim

/-! ### Names of what comes back -/
theorem lfR_ren {G' G2 : Gh} {d : Nat} (hm : ∀ c, G2.m (d, c) = G'.m (0, c) ∧ G2.ρ (d, c) = G'.ρ (0, c)) (hF : G2.F = G'.F) {u : Value} {l : Lf} (h : LfR G' w u l) (hz : zeroKeys l.keys = true) : LfR G2 w u (l.ren (rk d)) := by
  have hz' : ∀ k ∈ l.keys, G2.m (rk d k) = G'.m k ∧ G2.ρ (rk d k) = G'.ρ k := fun k hk => by
    have := List.all_eq_true.1 hz k hk
    have h0 := Nat.eq_of_beq_eq_true this
    obtain ⟨k1, k2⟩ := k
    simp only at h0
    subst h0
    exact hm k2
  cases l with
  | av x => simp only [Lf.ren, LfR, hF] at h ⊢; exact h
  | lit b => exact h
  | nil => exact h
  | own k => exact ⟨h.1.trans (hz' k (by simp [Lf.keys])).2.symm, h.2⟩
  | ptr b j => have := (hz' b (by simp [Lf.keys])).1; simp only [Lf.ren, LfR, this] at h ⊢; exact h
  | fptr ls => simp only [Lf.ren, LfR, hF] at h ⊢; exact h
  | optr k sz i j => have := (hz' k (by simp [Lf.keys])).2; simp only [Lf.ren, LfR, this] at h ⊢; exact h
  | fn f caps =>
    simp only [Lf.ren, LfR, List.map_map] at h ⊢
    rw [h]
    congr 2
    apply List.map_congr_left
    intro p hp
    simp only [Function.comp]
    rw [(hz' p.1 (by simp only [Lf.keys, List.mem_map]; exact ⟨p, hp, rfl⟩)).1]

mutual
theorem slR_ren {G' G2 : Gh} {d : Nat} (hm : ∀ c, G2.m (d, c) = G'.m (0, c) ∧ G2.ρ (d, c) = G'.ρ (0, c)) (hF : G2.F = G'.F) : ∀ {u : Value} {s : Sl}, SlR G' w u s → (∀ k ∈ s.keys, k.1 = 0) → SlR G2 w u (s.ren (rk d))
  | _, .lf l, h, hz => lfR_ren hm hF h (List.all_eq_true.2 fun k hk => by rw [hz k (by simpa [Sl.keys] using hk)]; rfl)
  | _, .agg ls, h, hz => by
    obtain ⟨us, e, hl⟩ := h
    refine ⟨us, e, ?_⟩
    have : ∀ (us : List Value) (ls : List Lf), All2 (LfR G' w) us ls → (∀ l ∈ ls, ∀ k ∈ l.keys, k.1 = 0) → All2 (LfR G2 w) us (ls.map (Lf.ren (rk d))) := by
      intro us ls hh
      induction hh with
      | nil => intro _; exact .nil
      | cons h1 _ ih => intro hk; exact .cons (lfR_ren hm hF h1 (List.all_eq_true.2 fun k hkk => by rw [hk _ (.head _) k hkk]; rfl)) (ih fun l hl => hk l (.tail _ hl))
    exact this us ls hl fun l hll k hk => hz k (by simp only [Sl.keys, List.mem_flatMap]; exact ⟨l, hll, hk⟩)
  | _, .tup _, h, hz => by
    obtain ⟨us, e, hl⟩ := h
    exact ⟨us, e, slsR_ren hm hF hl fun k hk => hz k (by simpa [Sl.keys] using hk)⟩
theorem slsR_ren {G' G2 : Gh} {d : Nat} (hm : ∀ c, G2.m (d, c) = G'.m (0, c) ∧ G2.ρ (d, c) = G'.ρ (0, c)) (hF : G2.F = G'.F) : ∀ {us : List Value} {ss : List Sl}, SlsR G' w us ss → (∀ k ∈ Sl.keysL ss, k.1 = 0) → SlsR G2 w us (Sl.renL (rk d) ss)
  | [], [], _, _ => trivial
  | _ :: _, _ :: _, h, hz => ⟨slR_ren hm hF h.1 fun k hk => hz k (by simp only [Sl.keysL, List.mem_append]; exact .inl hk), slsR_ren hm hF h.2 fun k hk => hz k (by simp only [Sl.keysL, List.mem_append]; exact .inr hk)⟩
  | [], _ :: _, h, _ => h.elim
  | _ :: _, [], h, _ => h.elim
end

theorem lf_flat {G' : Gh} {φ : Key → Key} {u : Value} {l : Lf} (h : LfR G' w u l) (hf : l.flat = true) : LfR G w u (l.ren φ) := by
  cases l <;> simp only [Lf.flat] at hf <;> try (cases hf; done)
  · rename_i x
    simp only [Lf.ren, LfR] at h ⊢
    cases h <;> first | (cases hf; done) | skip
    · exact .int (by assumption)
    · exact .bool
    · exact .str (by assumption)
  · exact h
  · exact h

mutual
theorem sl_flat {G' : Gh} {φ : Key → Key} : ∀ {u : Value} {s : Sl}, SlR G' w u s → s.flat = true → SlR G w u (s.ren φ)
  | _, .lf l, h, hf => lf_flat h hf
  | _, .agg ls, h, hf => by
    obtain ⟨us, e, hl⟩ := h
    refine ⟨us, e, ?_⟩
    have : ∀ (us : List Value) (ls : List Lf), All2 (LfR G' w) us ls → ls.all Lf.flat = true → All2 (LfR G w) us (ls.map (Lf.ren φ)) := by
      intro us ls hh
      induction hh with
      | nil => intro _; exact .nil
      | cons h1 _ ih => intro hk; simp only [List.all_cons, Bool.and_eq_true] at hk; exact .cons (lf_flat h1 hk.1) (ih hk.2)
    exact this us ls hl hf
  | _, .tup _, h, hf => by
    obtain ⟨us, e, hl⟩ := h
    exact ⟨us, e, sls_flat hl hf⟩
theorem sls_flat {G' : Gh} {φ : Key → Key} : ∀ {us : List Value} {ss : List Sl}, SlsR G' w us ss → Sl.flatL ss = true → SlsR G w us (Sl.renL φ ss)
  | [], [], _, _ => trivial
  | _ :: _, _ :: _, h, hf => by
    simp only [Sl.flatL] at hf
    split at hf
    · rename_i h1; exact ⟨sl_flat h.1 h1, sls_flat h.2 hf⟩
    · cases hf
  | [], _ :: _, h, _ => h.elim
  | _ :: _, [], h, _ => h.elim
end
end
end Go.Proofs.YtccbimcikbbecaaGreat.P1
/- Calls. -/
namespace Go.Proofs.YtccbimcikbbecaaGreat.P1
open Go

section
variable {P : Program} {T : TI} {C : Cx} {G G2 : Gh} {look look' : Loc → Option Cell} {a : Act} {w w' : World}

theorem slr_keys0 {r : Sl} (h : zeroKeys r.keys = true) : ∀ k ∈ r.keys, k.1 = 0 := fun k hk => Nat.eq_of_beq_eq_true (List.all_eq_true.1 h k hk)

/-- Where an entry of the caller's comes from. -/
theorem ndl_look (d : Nat) : ∀ {N : St} {l : Loc} {c : Option Cell}, (N.dl d).look l = some c → ∃ l0 c0, N.look l0 = some c0 ∧ l = l0.ren (rk d) ∧ c = some (c0.ren (rk d)) ∧ (l0, c0) ∈ N
  | [], l, c, h => by cases h
  | (l1, c1) :: r, l, c, h => by
    simp only [St.dl, Dl.look, Pat.hits] at h
    split at h
    · rename_i hb
      cases h
      exact ⟨l1, c1, by simp [St.look, Loc.beq_self], (Loc.beq_iff.1 hb).symm, rfl, .head _⟩
    · rename_i hb
      obtain ⟨l0, c0, h1, h2, h3, h4⟩ := ndl_look d h
      refine ⟨l0, c0, ?_, h2, h3, .tail _ h4⟩
      simp only [St.look]
      split
      · rename_i hbb
        have := Loc.beq_iff.1 hbb
        subst this
        rw [h2, Loc.beq_self] at hb
        cases hb
      · exact h1

theorem sets_look {B : List Key} : ∀ {S' : Bx} {l : Loc} {c : Option Cell}, (S'.sets B).look l = some c → ∃ p ∈ S', l = .leaf (B.getD p.1.1.2 (0, 0)) p.1.2 ∧ c = some (.l (.av p.2)) ∧ ∀ q, S'.sets B = q → True
  | [], l, c, h => by cases h
  | (((o, i), j), x) :: r, l, c, h => by
    simp only [Bx.sets, Dl.look, Pat.hits] at h
    split at h
    · rename_i hb
      cases h
      exact ⟨_, .head _, (Loc.beq_iff.1 hb).symm, rfl, fun _ _ => trivial⟩
    · obtain ⟨p, hp, h1, h2, _⟩ := sets_look h
      exact ⟨p, .tail _ hp, h1, h2, fun _ _ => trivial⟩

theorem bxst_look : ∀ {S' : Bx} {b : Key} {j : Nat} {c : Cell}, St.look S'.st (.leaf b j) = some c → ∃ p ∈ S', p.1 = (b, j) ∧ c = .l (.av p.2)
  | [], b, j, c, h => by cases h
  | p :: r, b, j, c, h => by
    simp only [Bx.st, List.map_cons, St.look] at h
    split at h
    · rename_i hb
      have := Loc.beq_iff.1 hb
      cases this
      cases h
      exact ⟨p, .head _, rfl, rfl⟩
    · obtain ⟨q, hq, h1, h2⟩ := bxst_look (S' := r) h
      exact ⟨q, .tail _ hq, h1, h2⟩

/-- The first entry for a place of S', by the caller's name. -/
theorem sets_first {B : List Key} : ∀ {S' : Bx} {l : Loc} {c : Option Cell}, (S'.sets B).look l = some c → ∃ p ∈ S', l = .leaf (B.getD p.1.1.2 (0, 0)) p.1.2 ∧ c = some (.l (.av p.2)) ∧ ((∀ q ∈ S', q.1.1.1 = 1) → St.look S'.st (.leaf p.1.1 p.1.2) = some (.l (.av p.2)))
  | [], l, c, h => by cases h
  | (((o, i), j), x) :: r, l, c, h => by
    simp only [Bx.sets, Dl.look, Pat.hits] at h
    split at h
    · rename_i hb
      cases h
      exact ⟨_, .head _, (Loc.beq_iff.1 hb).symm, rfl, fun _ => by simp [Bx.st, St.look, Loc.beq_self]⟩
    · rename_i hb
      obtain ⟨p, hp, h1, h2, h3⟩ := sets_first h
      refine ⟨p, .tail _ hp, h1, h2, fun hq => ?_⟩
      simp only [Bx.st, List.map_cons, St.look]
      split
      · rename_i hbb
        have := Loc.beq_iff.1 hbb
        simp only [Loc.leaf.injEq] at this
        obtain ⟨e1, e2⟩ := this
        rw [h1, ← e1, ← e2, Loc.beq_self] at hb
        cases hb
      · exact h3 fun q hqq => hq q (.tail _ hqq)

theorem look_append_left {A B : St} {l : Loc} {c : Cell} (h : A.look l = some c) : St.look (A ++ B) l = some c := by
  induction A with
  | nil => cases h
  | cons p A ih =>
    obtain ⟨l', c'⟩ := p
    simp only [List.cons_append, St.look] at h ⊢
    split
    · rename_i hb; rw [hb] at h; exact h
    · rename_i hb; rw [hb] at h; exact ih h
theorem look_append_right {A B : St} {l : Loc} (h : A.look l = none) : St.look (A ++ B) l = St.look B l := by
  induction A with
  | nil => rfl
  | cons p A ih =>
    obtain ⟨l', c'⟩ := p
    simp only [List.cons_append, St.look] at h ⊢
    split
    · rename_i hb; rw [hb] at h; cases h
    · rename_i hb; rw [hb] at h; exact ih h

theorem zk_cons {l : Loc} {c : Cell} {r : St} (h : St.zk ((l, c) :: r) = true) : ((∃ b j x, l = .leaf b j ∧ c = .l x ∧ b.1 = 0 ∧ zeroKeys x.keys = true) ∨ ∃ b r, l = .row b ∧ c = .r r ∧ b.1 = 0) ∧ r.zk = true := by
  cases l with
  | slot t => simp [St.zk] at h
  | leaf b j =>
    cases c with
    | l x =>
      simp only [St.zk, Bool.and_eq_true] at h
      exact ⟨.inl ⟨b, j, x, rfl, rfl, Nat.eq_of_beq_eq_true h.1.1, h.1.2⟩, h.2⟩
    | s x => simp [St.zk] at h
    | r x => simp [St.zk] at h
  | row b =>
    cases c with
    | r x =>
      simp only [St.zk, Bool.and_eq_true] at h
      exact ⟨.inr ⟨b, x, rfl, rfl, Nat.eq_of_beq_eq_true h.1⟩, h.2⟩
    | s x => simp [St.zk] at h
    | l x => simp [St.zk] at h
theorem zk_mem : ∀ {N : St}, N.zk = true → ∀ l c, (l, c) ∈ N → (∃ b j x, l = .leaf b j ∧ c = .l x ∧ b.1 = 0 ∧ zeroKeys x.keys = true) ∨ ∃ b r, l = .row b ∧ c = .r r ∧ b.1 = 0
  | [], _, _, _, h => by cases h
  | (l1, c1) :: r, h, l, c, hm => by
    obtain ⟨h1, h2⟩ := zk_cons h
    rcases List.mem_cons.1 hm with e | hm
    · cases e; exact h1
    · exact zk_mem h2 l c hm

theorem mem_of_look : ∀ {N : St} {l : Loc} {c : Cell}, N.look l = some c → (l, c) ∈ N
  | [], _, _, h => by cases h
  | (l1, c1) :: r, l, c, h => by
    simp only [St.look] at h
    split at h
    · rename_i hb; cases h; rw [← Loc.beq_iff.1 hb]; exact .head _
    · exact .tail _ (mem_of_look h)

theorem exec_call {o : Oper} {c : Call} (ho : o.op = .call c) {x : Operand} (hc : c.callee = .value x) {g : FuncId} {cs : List Value} (hx : a.eval x = .func (.func g) #[] cs.toArray) (hfn : ∃ fn b, P.funcs[g]? = some fn ∧ fn.body = some b ∧ (fn.name == "runtime.NumGoroutine") = false) :
    (execOp a.eval o).run P w = .ok (.enter g ((c.args.toList.map a.eval) ++ cs).toArray) w := by
  obtain ⟨fn, b, h1, h2, h3⟩ := hfn
  simp only [execOp, ho, resolve, hc, Sem.run_bind, hx, Deferred.ofValue, Sem.run_pure, Result.andThen_ok, invoke, callFunc, program, Sem.run, h1]
  rw [if_neg (by rw [h3]; decide)]
  rw [if_neg (by simp [h2])]
  simp only [Sem.run_pure]
  congr 2
  apply Array.ext'
  simp

theorem wp_enter {o : Oper} {f : FuncId} {vs : Array Value} {K : Act → World → Prop} {Q : Exit → Act → World → Prop} (h : (execOp a.eval o).run P w = .ok (.enter f vs) w) (hc : Calls P f vs w fun e w' => ∃ v, e = .returned v ∧ K (a.put o.dst v) w') : o.wp P a w K Q := by
  unfold Oper.wp
  rw [h]
  exact hc.mono fun e w' ⟨v, he, hk⟩ => by subst he; exact hk

theorem slsR_append {G : Gh} : ∀ {us vs : List Value} {ss ts : List Sl}, SlsR G w us ss → SlsR G w vs ts → SlsR G w (us ++ vs) (ss ++ ts)
  | [], _, [], _, _, h => h
  | _ :: _, _, _ :: _, _, h, h2 => ⟨h.1, slsR_append h.2 h2⟩
  | [], _, _ :: _, _, h, _ => h.elim
  | _ :: _, _, [], _, h, _ => h.elim

theorem capSl_sound {B : List Key} {m : Key → Nat} {ρ : Key → Value} {F' : Nat → Prop} (hm : Handed G B m) : ∀ (caps : List (Key × Nat)), (∀ p ∈ caps, p.1 ∈ B) → SlsR ⟨m, ρ, F'⟩ w (caps.map fun p => Value.pointer (some ⟨G.m p.1, p.2, none⟩)) (capSl B caps)
  | [], _ => trivial
  | p :: r, h => ⟨by simp only [SlR, LfR]; rw [hm _ p.1 (idx_get p.1 B (h p (.head _)))], capSl_sound hm r fun q hq => h q (.tail _ hq)⟩

theorem kills_look {B : List Key} : ∀ {S' : Bx} {l : Loc}, (S'.kills B).look l = none → ∀ p ∈ S', ∀ j, l ≠ .leaf (B.getD p.1.1.2 (0, 0)) j
  | [], _, _, p, hp, _ => by cases hp
  | (((o, i), j0), x) :: r, l, h, p, hp, j => by
    simp only [Bx.kills, Dl.look] at h
    split at h
    · cases h
    · rename_i hb
      rcases List.mem_cons.1 hp with rfl | hp
      · rintro rfl
        simp only [Pat.hits, kbeq_iff.2 rfl] at hb
        cases hb
      · exact kills_look h p hp j
theorem kills_none {B : List Key} : ∀ {S' : Bx} {l : Loc} {c : Option Cell}, (S'.kills B).look l = some c → c = none
  | [], _, _, h => by cases h
  | (((o, i), j0), x) :: r, l, c, h => by
    simp only [Bx.kills, Dl.look] at h
    split at h
    · cases h; rfl
    · exact kills_none h

theorem dlook_append {A B : Dl} {l : Loc} : Dl.look (A ++ B) l = match A.look l with
    | some c => some c
    | none => B.look l := by
  induction A with
  | nil => rfl
  | cons p A ih =>
    obtain ⟨p, c⟩ := p
    simp only [List.cons_append, Dl.look]
    cases hb : p.hits l with
    | true => rfl
    | false => exact ih
end
end Go.Proofs.YtccbimcikbbecaaGreat.P1
/- Calls: the theorem. -/
namespace Go.Proofs.YtccbimcikbbecaaGreat.P1
open Go

section
variable {P : Program} {T : TI} {C : Cx} {G G2 : Gh} {look look' : Loc → Option Cell} {a : Act} {w w' : World}

theorem fresh_app {d : Nat} (hf : Fresh d look) {D : Dl} (hD : FrzOk look D) : Fresh d (app look D) := fun l c e k hk => by
  unfold app at e
  split at e
  · rename_i c' hc
    subst e
    obtain ⟨p, hp, hh, hc2⟩ := dl_look_mem hc
    obtain ⟨q, r, rfl, hq, hr'⟩ := hD p hp
    simp only [Option.some.injEq] at hc2
    subst hc2
    have : l = .row q := (Loc.beq_iff.1 hh).symm
    subst this
    exact hf _ _ hq k (by simpa [Cell.keys] using hk)
  · exact hf l c e k hk

theorem app_leaf_frz {D : Dl} (hD : FrzOk look D) (b : Key) (j : Nat) : app look D (.leaf b j) = look (.leaf b j) := by
  unfold app
  split
  · rename_i c hc
    obtain ⟨p, hp, hh, _⟩ := dl_look_mem hc
    obtain ⟨q, r, rfl, _⟩ := hD p hp
    simp [Pat.hits, Loc.beq] at hh
  · rfl

theorem memK_iff {b : Key} : ∀ {B : List Key}, memK b B = false → ∀ i : Nat, B[i]? ≠ some b
  | [], _, i, h => by simp at h
  | k :: r, hm, i, h => by
    simp only [memK] at hm
    split at hm
    · cases hm
    · rename_i hb
      cases i with
      | zero => simp at h; subst h; rw [kbeq_iff.2 rfl] at hb; cases hb
      | succ i => exact memK_iff hm i (by simpa using h)
theorem nodup_idx : ∀ {B : List Key} {i j : Nat} {b : Key}, nodupK B = true → B[i]? = some b → B[j]? = some b → i = j
  | [], _, _, _, _, h, _ => by simp at h
  | k :: r, i, j, b, hn, hi, hj => by
    simp only [nodupK] at hn
    split at hn
    · cases hn
    · rename_i hm
      cases i with
      | zero =>
        cases j with
        | zero => rfl
        | succ j =>
          simp at hi
          subst hi
          exact (memK_iff hm j (by simpa using hj)).elim
      | succ i =>
        cases j with
        | zero =>
          simp at hj
          subst hj
          exact (memK_iff hm i (by simpa using hi)).elim
        | succ j => exact congrArg (· + 1) (nodup_idx (B := r) (b := b) hn (by simpa using hi) (by simpa using hj))

theorem op_call (hr : Rel C G look a w) {o : Oper} {d : Nat} (hdst : o.dst = some d) (hd : d < C.n) (hf : Fresh d look) {c : Call} (ho : o.op = .call c) {x : Operand} (hc : c.callee = .value x) {g : FuncId} {caps : List (Key × Nat)}
    (hx : LfR G w (a.eval x) (.fn g caps)) {k : Dl → List Loc → Prop} (h : callW P g c.args.toList caps d look k) : OpOk P C o look a w k := by
  unfold callW at h
  obtain ⟨ss, B0, R, D1, ⟨S, r, N, S', hct, h⟩, hD1, _, hargs⟩ := argsW_sound hr h
  obtain ⟨R', D2, h2, hD2, hS⟩ := hasS_sound hr.toMemR h
  clear h
  split at h2
  case h_2 => exact h2.elim
  rename_i hchk
  simp only [Bool.and_eq_true] at hchk
  obtain ⟨⟨⟨hk0, hNz⟩, hsub⟩, hnd⟩ := hchk
  generalize hB : capKeys caps B0 = B at *
  obtain ⟨E, hE⟩ := capKeys_ext caps B0
  have hD := hD1.append hD2
  have hrF := hr.freeze hD
  obtain ⟨hfn, hcall⟩ := hct
  -- what is handed over
  let m' : Key → Nat := fun k => G.m (B.getD k.2 (0, 0))
  let F' : Nat → Prop := fun b => G.F b ∨ frzB G (D1 ++ D2) b
  have hand : Handed G B m' := fun i b hb => by simp [m', List.getD_eq_getElem?_getD, hb]
  have hvals : SlsR ⟨m', fun _ => undef, F'⟩ w (c.args.toList.map a.eval ++ caps.map fun p => Value.pointer (some ⟨G.m p.1, p.2, none⟩)) (ss ++ capSl B caps) := by
    refine slsR_append (hargs m' _ F' ?_ (fun _ hb => .inl hb) (fun b hb => .inr (frzB_append_l hb))) (capSl_sound hand caps fun p hp => by rw [← hB]; exact capKeys_mem caps B0 p hp)
    rw [← hB, hE] at hand
    exact Handed.of_ext hand
  have hSm : ∀ p ∈ S, ∃ b l u cur T, B[p.1.1.2]? = some b ∧ m' p.1.1 = G.m b ∧ look (.leaf b p.1.2) = some (.l l) ∧ w.heap[G.m b]? = some (.cells cur T (0, 0)) ∧ cur[p.1.2]? = some u ∧ Rd w F' u p.2 := fun p hp => by
    obtain ⟨_, b, l, u, cur, T, h2, h3, h4, h5, h6⟩ := hS p hp
    exact ⟨b, l, u, cur, T, h2, by simp [m', List.getD_eq_getElem?_getD, h2], h3, h4, h5, h6 F' (fun _ hb => .inl hb) (fun b hb => .inr (frzB_append_r hb))⟩
  have hcoldL : ∀ b j l, look (.leaf b j) = some (.l l) → ¬ F' (G.m b) := fun b j l hl hF => hrF.cold (.leaf b j) (.l l) (G.m b) (by rw [app_leaf_frz hD]; exact hl) rfl hF
  have hbox : BoxIn m' F' w S :=
  { cell := fun p hp => by
      obtain ⟨b, l, u, cur, T, _, h2, _, h4, h5, h6⟩ := hSm p hp
      exact ⟨u, cur, T, by rw [h2]; exact h4, h5, h6⟩
    inj := fun p hp q hq he => by
      obtain ⟨b, l, _, _, _, h1, h2, h3, _⟩ := hSm p hp
      obtain ⟨b', l', _, _, _, h1', h2', h3', _⟩ := hSm q hq
      obtain ⟨e1, _⟩ := hS p hp
      obtain ⟨e2, _⟩ := hS q hq
      have he2 : G.m b = G.m b' := h2.symm.trans (he.trans h2')
      have : b = b' := hr.sep _ _ _ _ _ h3 h3' (show G.blk (.leaf b p.1.2) (.l l) = some (G.m b) from rfl) (show G.blk (.leaf b' q.1.2) (.l l') = some (G.m b) by rw [he2]; rfl)
      subst this
      have hi : p.1.1.2 = q.1.1.2 := nodup_idx (b := b) hnd h1 h1'
      exact Prod.ext (e1.trans e2.symm) hi
    cold := fun p hp => by
      obtain ⟨b, l, _, _, _, _, h2, h3, _⟩ := hSm p hp
      rw [h2]
      exact hcoldL b _ l h3 }
  have hF'lt : ∀ b, F' b → b < w.heap.size := hrF.Flt
  have hcalls := hcall m' (fun _ => undef) F' w _ hbox hF'lt hvals
  have hrun := exec_call (P := P) (w := w) ho hc (show a.eval x = .func (.func g) #[] (caps.map fun p => Value.pointer (some ⟨G.m p.1, p.2, none⟩)).toArray from hx) hfn
  · split at h2
    · -- a flat result
      rename_i hflat
      simp only [Bool.and_eq_true, List.isEmpty_iff] at hflat
      obtain ⟨⟨hflat, hN⟩, hS'⟩ := hflat
      subst hN hS'
      refine ⟨_, _, h2, fun K Q hK => wp_enter hrun (hcalls.mono fun e w' ⟨v, G', he, hp⟩ => ⟨v, he, hK _ _ ⟨G, ?_⟩⟩)⟩
      have hfr : Fr w (fun _ => False) w' := hp.fr.mono fun i ⟨p, hpp, _⟩ => by cases hpp
      have hsame : ∀ b, b < w.heap.size → w'.heap[b]? = w.heap[b]? := fun b hb => hfr.block b hb id
      have h1 : Rel C G look a w' := hr.frame ⟨fun b hF => hsame b (hr.Flt b hF), fun _ h => h⟩ (fun l c g e hb => hsame g (hr.toMemR.blk_lt e hb)) (fun _ _ _ _ _ => ⟨rfl, rfl⟩) hr.cold
        (fun b hF => Nat.lt_of_lt_of_le (hr.Flt b hF) hfr.size) (hr.fr.trans hfr fun _ h => h.elim) (fun _ h => .inl h) (fun _ => rfl)
      have h2 := h1.put (v := v) (Nat.lt_of_lt_of_le hd hr.size) (sl_flat (φ := rk d) hp.res hflat)
      rw [hdst]
      have : app look (resD d r []) = setS look d (r.ren (rk d)) := by
        have := app_toD look d (r.ren (rk d))
        simpa [resD, St.dl, toD] using this
      rw [this]
      exact h2
    · -- in general
      refine ⟨_, _, h2, fun K Q hK => wp_enter hrun (hcalls.mono fun e w' ⟨v, G', he, hp⟩ => ⟨v, he, hK _ _ ?_⟩)⟩
      rw [hdst]
      have hSub : ∀ p ∈ S', ∃ q ∈ S, q.1 = p.1 := fun p hp' => by
        have := List.all_eq_true.1 hsub p hp'
        obtain ⟨q, hq, hh⟩ := List.any_eq_true.1 this
        simp only [Bool.and_eq_true] at hh
        exact ⟨q, hq, Prod.ext (kbeq_iff.1 hh.1).symm (Nat.eq_of_beq_eq_true hh.2).symm⟩
      have hS'1 : ∀ p ∈ S', p.1.1.1 = 1 := fun p hp' => by
        obtain ⟨q, hq, he⟩ := hSub p hp'
        rw [← he]; exact (hS q hq).1
      have hS'b : ∀ p ∈ S', ∃ b l, B.getD p.1.1.2 (0, 0) = b ∧ look (.leaf b p.1.2) = some (.l l) ∧ m' p.1.1 = G.m b := fun p hp' => by
        obtain ⟨q, hq, he⟩ := hSub p hp'
        obtain ⟨b, l, _, _, _, h1, h2, h3, _⟩ := hSm q hq
        rw [he] at h1 h2 h3
        exact ⟨b, l, by simp [List.getD_eq_getElem?_getD, h1], h3, h2⟩
      let look1 : Loc → Option Cell := fun l => match l with
        | .leaf b j => match (S'.kills B).look (.leaf b j) with
          | some _ => none
          | none => look (.leaf b j)
        | l => app look (D1 ++ D2) l
      have hless : Less look1 (app look (D1 ++ D2)) := fun l c ee => by
        cases l with
        | leaf b j =>
          simp only [look1] at ee
          split at ee
          · cases ee
          · rw [app_leaf_frz hD]; exact ee
        | slot => exact ee
        | row => exact ee
      have hr1 := hrF.less hless
      have hf1 : Fresh d look1 := fun l c ee k hk => fresh_app hf hD l c (hless _ _ ee) k hk
      -- blocks of look1 are none of the boxes that were handed to be changed
      have hne : ∀ l c g, look1 l = some c → G.blk l c = some g → ∀ p ∈ S', g ≠ m' p.1.1 := fun l c g ee hb p hp' hg => by
        obtain ⟨b, l0, h1, h2, h3⟩ := hS'b p hp'
        rw [h3] at hg
        subst hg
        have hsame := hrF.sep l (.leaf b p.1.2) c (.l l0) (G.m b) (hless _ _ ee) (by rw [app_leaf_frz hD]; exact h2) hb rfl
        cases l with
        | leaf b' j =>
          have hbb : b' = b := hsame
          subst hbb
          simp only [look1] at ee
          split at ee
          · cases ee
          · rename_i hk
            exact kills_look hk p hp' j (by rw [h1])
        | slot => exact hsame.elim
        | row => exact hsame.elim
      have hFne : ∀ g, F' g → ∀ p ∈ S', g ≠ m' p.1.1 := fun g hF p hp' hg => by
        obtain ⟨b, l0, h1, h2, h3⟩ := hS'b p hp'
        rw [h3] at hg
        exact hcoldL b _ l0 h2 (hg ▸ hF)
      have hblk : ∀ g, g < w.heap.size → (∀ p ∈ S', g ≠ m' p.1.1) → w'.heap[g]? = w.heap[g]? := fun g hg hn => hp.fr.block g hg fun ⟨p, hp', he⟩ => hn p hp' he
      let G2 : Gh := ⟨fun k => if k.1 = d then G'.m (0, k.2) else G.m k, fun k => if k.1 = d then G'.ρ (0, k.2) else G.ρ k, G'.F⟩
      have hG2 : ∀ c, G2.m (d, c) = G'.m (0, c) ∧ G2.ρ (d, c) = G'.ρ (0, c) := fun c => by simp [G2]
      have hkeep : ∀ l c, look1 l = some c → ∀ k, k ∈ l.keys ∨ k ∈ c.keys → G2.m k = G.m k ∧ G2.ρ k = G.ρ k := fun l c ee k hk => by
        have := hf1 l c ee k hk
        simp [G2, this]
      have hstep : Step ⟨G.m, G.ρ, F'⟩ G2 w w' := ⟨fun b hF => hblk b (hF'lt b hF) (hFne b hF), hp.F1⟩
      have hmineS : ∀ p ∈ S', C.w0.heap.size ≤ m' p.1.1 ∨ C.M (m' p.1.1) := fun p hp' => by
        obtain ⟨b, l0, h1, h2, h3⟩ := hS'b p hp'
        rw [h3]
        exact (hr.mine _ _ _ h2 (show G.blk _ _ = some (G.m b) from rfl)).imp id fun h => h.1
      have hR1 : Rel C G2 look1 a w' := hr1.frame hstep (fun l c g ee hb => hblk g (hr1.toMemR.blk_lt ee hb) (hne l c g ee hb)) hkeep
        (fun l c g ee hb hF => (hp.F2 g hF).elim (fun h => hr1.cold l c g ee hb h) fun h => by have := hr1.toMemR.blk_lt ee hb; omega)
        hp.mem.Flt (hr.fr.trans hp.fr fun i ⟨p, hp', he⟩ => (hmineS p hp').elim (fun h => .inr (by rw [he]; exact h)) fun h => .inl (by rw [he]; exact h))
        (fun b hF => (hp.F2 b hF).imp id fun h => Nat.le_trans hr.fr.size h) (fun i => if_neg (Nat.ne_of_gt hd))
      -- what is new
      let look2 : Loc → Option Cell := fun l => match (N.dl d).look l with
        | some c => c
        | none => match (S'.sets B).look l with
          | some c => c
          | none => none
      have hl2 : ∀ l c, look2 l = some c → (∃ l0 c0, N.look l0 = some c0 ∧ l = l0.ren (rk d) ∧ c = c0.ren (rk d) ∧ (l0, c0) ∈ N) ∨
          (∃ p ∈ S', l = .leaf (B.getD p.1.1.2 (0, 0)) p.1.2 ∧ c = .l (.av p.2) ∧ St.look S'.st (.leaf p.1.1 p.1.2) = some (.l (.av p.2))) := fun l c ee => by
        simp only [look2] at ee
        split at ee
        · rename_i c' hc'
          subst ee
          obtain ⟨l0, c0, e1, e2, e3, e4⟩ := ndl_look d hc'
          simp only [Option.some.injEq] at e3
          exact .inl ⟨l0, c0, e1, e2, e3, e4⟩
        · split at ee
          · rename_i c' hc'
            subst ee
            obtain ⟨p, hp', e1, e2, e3⟩ := sets_first hc'
            simp only [Option.some.injEq] at e2
            exact .inr ⟨p, hp', e1, e2, e3 hS'1⟩
          · cases ee
      have hNkey : ∀ l0 c0, (l0, c0) ∈ N → ∀ b j, l0 = .leaf b j → b.1 = 0 := fun l0 c0 hm b j e => by
        rcases zk_mem hNz _ _ hm with ⟨b', j', x, e1, _, e2, _⟩ | ⟨b', r', e1, _⟩
        · rw [e] at e1; cases e1; exact e2
        · rw [e] at e1; cases e1
      have hSlook : ∀ p ∈ S', St.look S'.st (.leaf p.1.1 p.1.2) = some (.l (.av p.2)) → St.look (N ++ S'.st) (.leaf p.1.1 p.1.2) = some (.l (.av p.2)) := fun p hp' hh => by
        rw [look_append_right]
        · exact hh
        · cases hn : N.look (.leaf p.1.1 p.1.2) with
          | none => rfl
          | some c0 =>
            have := hNkey _ _ (mem_of_look hn) _ _ rfl
            rw [hS'1 p hp'] at this
            cases this
      have hbkey : ∀ p ∈ S', (B.getD p.1.1.2 (0, 0)).1 ≠ d := fun p hp' => by
        obtain ⟨b, l0, h1, h2, h3⟩ := hS'b p hp'
        rw [h1]
        exact hf _ _ h2 b (.inl (by simp [Loc.keys]))
      have hG2S : ∀ p ∈ S', G2.m (B.getD p.1.1.2 (0, 0)) = G'.m p.1.1 := fun p hp' => by
        have e := hbkey p hp'
        obtain ⟨b, l0, h1, h2, h3⟩ := hS'b p hp'
        rw [hp.old p hp', h3, ← h1]
        show (if _ then _ else _) = _
        rw [if_neg e]
      -- the block of a place, here and there
      have hsrc : ∀ l c g, look2 l = some c → G2.blk l c = some g → ∃ l0 c0, St.look (N ++ S'.st) l0 = some c0 ∧ G'.blk l0 c0 = some g ∧
          ((N.look l0 = some c0 ∧ l = l0.ren (rk d) ∧ (l0, c0) ∈ N) ∨ ∃ p ∈ S', l0 = .leaf p.1.1 p.1.2 ∧ l = .leaf (B.getD p.1.1.2 (0, 0)) p.1.2) := fun l c g ee hb => by
        rcases hl2 l c ee with ⟨l0, c0, e1, rfl, rfl, e4⟩ | ⟨p, hp', rfl, rfl, e3⟩
        · refine ⟨l0, c0, look_append_left e1, ?_, .inl ⟨e1, rfl, e4⟩⟩
          rcases zk_mem hNz _ _ e4 with ⟨b, j, xx, rfl, rfl, hb0, _⟩ | ⟨b, rr, rfl, rfl, hb0⟩
          · obtain ⟨b1, b2⟩ := b
            simp only at hb0
            subst hb0
            simp only [Loc.ren, Cell.ren, Gh.blk, rk, (hG2 b2).1] at hb ⊢
            exact hb
          · obtain ⟨b1, b2⟩ := b
            simp only at hb0
            subst hb0
            simp only [Loc.ren, Cell.ren, Gh.blk, rk, (hG2 b2).2] at hb ⊢
            exact hb
        · refine ⟨_, _, hSlook p hp' e3, ?_, .inr ⟨p, hp', rfl, rfl⟩⟩
          simp only [Gh.blk, hG2S p hp'] at hb ⊢
          exact hb
      have hM2 : MemR G2 look2 w' :=
      { leaf := fun b j l ee => by
          rcases hl2 _ _ ee with ⟨l0, c0, e1, e2, e3, e4⟩ | ⟨p, hp', e1, e2, e3⟩
          · rcases zk_mem hNz _ _ e4 with ⟨b', j', xx, rfl, rfl, hb0, hxk⟩ | ⟨b', rr, rfl, rfl, _⟩
            · obtain ⟨b1, b2⟩ := b'
              simp only at hb0
              subst hb0
              simp only [Loc.ren, Loc.leaf.injEq] at e2
              obtain ⟨rfl, rfl⟩ := e2
              simp only [Cell.ren, Cell.l.injEq] at e3
              subst e3
              obtain ⟨u, cur, TT, h1, h2, h3⟩ := hp.mem.leaf _ _ _ (look_append_left e1)
              exact ⟨u, cur, TT, by simp only [rk]; rw [(hG2 b2).1]; exact h1, h2, lfR_ren hG2 rfl h3 hxk⟩
            · simp [Loc.ren] at e2
          · simp only [Loc.leaf.injEq] at e1
            obtain ⟨rfl, rfl⟩ := e1
            simp only [Cell.l.injEq] at e2
            subst e2
            obtain ⟨u, cur, TT, h1, h2, h3⟩ := hp.mem.leaf _ _ _ (hSlook p hp' e3)
            exact ⟨u, cur, TT, by rw [hG2S p hp']; exact h1, h2, h3⟩
        row := fun q r' ee => by
          rcases hl2 _ _ ee with ⟨l0, c0, e1, e2, e3, e4⟩ | ⟨p, hp', e1, e2, e3⟩
          · rcases zk_mem hNz _ _ e4 with ⟨b', j', xx, rfl, rfl, hb0, hxk⟩ | ⟨b', rr, rfl, rfl, hb0⟩
            · simp [Loc.ren] at e2
            · obtain ⟨b1, b2⟩ := b'
              simp only at hb0
              subst hb0
              simp only [Loc.ren, Loc.row.injEq] at e2
              subst e2
              simp only [Cell.ren, Cell.r.injEq] at e3
              subst e3
              have := hp.mem.row _ _ (look_append_left e1)
              simp only [rk, (hG2 b2).2]
              exact this
          · cases e1
        sep := fun l l' c c' g ee ee' hb hb' => by
          obtain ⟨l0, c0, h1, h2, h3⟩ := hsrc l c g ee hb
          obtain ⟨l0', c0', h1', h2', h3'⟩ := hsrc l' c' g ee' hb'
          have hs := hp.mem.sep l0 l0' c0 c0' g h1 h1' h2 h2'
          rcases h3 with ⟨_, rfl, hm⟩ | ⟨p, hp', rfl, rfl⟩ <;> rcases h3' with ⟨_, rfl, hm'⟩ | ⟨p', hpp', rfl, rfl⟩
          · cases l0 <;> cases l0' <;> simp only [Loc.same, Loc.ren] at hs ⊢ <;> first | exact hs.elim | rw [hs]
          · cases l0 <;> simp only [Loc.same, Loc.ren] at hs ⊢ <;> try exact hs.elim
            have := hNkey _ _ hm _ _ rfl
            rw [hs, hS'1 p' hpp'] at this
            cases this
          · cases l0' <;> simp only [Loc.same, Loc.ren] at hs ⊢ <;> try exact hs.elim
            have := hNkey _ _ hm' _ _ rfl
            rw [← hs, hS'1 p hp'] at this
            cases this
          · simp only [Loc.same] at hs ⊢
            rw [hs]
        cold := fun l c g ee hb hF => by
          obtain ⟨l0, c0, h1, h2, _⟩ := hsrc l c g ee hb
          exact hp.mem.cold l0 c0 g h1 h2 hF
        Flt := hp.mem.Flt }
      have hadd := hR1.add hM2 (fun t => by
        cases hh : look2 (.slot t) with
        | none => rfl
        | some c0 =>
          rcases hl2 _ _ hh with ⟨l0, c1, e1, e2, e3, e4⟩ | ⟨p, hp', e1, _⟩
          · rcases zk_mem hNz _ _ e4 with ⟨b', j', xx, rfl, _⟩ | ⟨b', rr, rfl, _⟩ <;> simp [Loc.ren] at e2
          · cases e1) (fun l l' c c' g ee ee' hb hb' _ => by
        exfalso
        have hb'' : G.blk l' c' = some g := by
          rw [← Gh.blk_eq (G := G) (G2 := G2) fun k hk => hkeep _ _ ee' k (.inl hk)]
          exact hb'
        obtain ⟨l0, c0, h1, h2, h3⟩ := hsrc l c g ee hb
        rcases h3 with ⟨e1, _, _⟩ | ⟨p, hp', rfl, rfl⟩
        · have h5 := hp.new l0 c0 g e1 h2
          have h6 := hr1.toMemR.blk_lt ee' hb''
          omega
        · have : g = m' p.1.1 := by
            have := hsrc
            rcases hl2 _ _ ee with ⟨l1, c1, e1, e2, e3, e4⟩ | ⟨p2, hp2, e1, e2, e3⟩
            · rcases zk_mem hNz _ _ e4 with ⟨b', j', xx, rfl, _⟩ | ⟨b', rr, rfl, _⟩
              · simp only [Loc.ren, Loc.leaf.injEq] at e2
                exact absurd (show (B.getD p.1.1.2 (0, 0)).1 = d by rw [e2.1]; rfl) (hbkey p hp')
              · simp [Loc.ren] at e2
            · subst e2
              simp only [Gh.blk, Option.some.injEq] at hb
              rw [← hb, hG2S p hp', hp.old p hp']
          exact hne l' c' g ee' hb'' p hp' this) (fun l c g ee hb => by
        obtain ⟨l0, c0, h1, h2, h3⟩ := hsrc l c g ee hb
        rcases h3 with ⟨e1, _, _⟩ | ⟨p, hp', rfl, rfl⟩
        · exact .inl (Nat.le_trans hr.fr.size (hp.new l0 c0 g e1 h2))
        · have hg : g = m' p.1.1 := by
            rcases hl2 _ _ ee with ⟨l1, c1, e1, e2, e3, e4⟩ | ⟨p2, hp2, e1, e2, e3⟩
            · rcases zk_mem hNz _ _ e4 with ⟨b', j', xx, rfl, _⟩ | ⟨b', rr, rfl, _⟩
              · simp only [Loc.ren, Loc.leaf.injEq] at e2
                exact absurd (show (B.getD p.1.1.2 (0, 0)).1 = d by rw [e2.1]; rfl) (hbkey p hp')
              · simp [Loc.ren] at e2
            · subst e2
              simp only [Gh.blk, Option.some.injEq] at hb
              rw [← hb, hG2S p hp', hp.old p hp']
          rw [hg]
          exact (hmineS p hp').imp id fun h => ⟨h, _, _, rfl⟩)
      have hfin := hadd.put (v := v) (Nat.lt_of_lt_of_le hd hr.size) (slR_ren (G2 := G2) hG2 rfl hp.res (slr_keys0 hk0))
      refine ⟨G2, hfin.less fun l c ee => ?_⟩
      -- the state that is told says no more
      simp only [resD, List.cons_append, app, Dl.look, Pat.hits] at ee
      unfold setS
      cases hb : (Loc.slot d).beq l with
      | true =>
        rw [hb] at ee
        simpa using ee
      | false =>
        rw [hb] at ee
        simp only [dlook_append] at ee
        simp only [over, look2]
        cases h1 : (N.dl d).look l with
        | some c1 =>
          rw [h1] at ee
          simp only at ee ⊢
          rw [ee]
        | none =>
          rw [h1] at ee
          simp only at ee ⊢
          cases h2 : (S'.sets B).look l with
          | some c2 =>
            rw [h2] at ee
            simp only at ee ⊢
            rw [ee]
          | none =>
            rw [h2] at ee
            simp only at ee ⊢
            cases h3 : (S'.kills B).look l with
            | some c3 =>
              rw [h3] at ee
              have := kills_none h3
              subst this
              cases ee
            | none =>
              rw [h3] at ee
              simp only at ee
              have happ : app look (D1 ++ D2) l = some c := by
                simp only [app, dlook_append]
                exact ee
              cases l with
              | leaf b j =>
                simp only [look1, h3]
                rw [app_leaf_frz hD] at happ
                exact happ
              | slot => exact happ
              | row => exact happ
end
end Go.Proofs.YtccbimcikbbecaaGreat.P1
/- An operation looks at no other places than those that it tells. -/
namespace Go.Proofs.YtccbimcikbbecaaGreat.P1
open Go

def Ag (look' look : Loc → Option Cell) (R : List Loc) : Prop := ∀ l ∈ R, look' l = look l
section
variable {P : Program} {T : TI} {look look' : Loc → Option Cell} {R R' : List Loc}
theorem Ag.left (h : Ag look' look (R ++ R')) : Ag look' look R := fun l hl => h l (List.mem_append_left _ hl)
theorem Ag.right (h : Ag look' look (R ++ R')) : Ag look' look R' := fun l hl => h l (List.mem_append_right _ hl)
theorem Ag.tail {x : Loc} (h : Ag look' look (x :: R)) : Ag look' look R := fun l hl => h l (.tail _ hl)
theorem Ag.head {x : Loc} (h : Ag look' look (x :: R)) : look' x = look x := h x (.head _)

theorem rdS_loc {x : Operand} {k : Sl → List Loc → Prop} (h : rdS look x k) : ∃ s R, k s R ∧ ∀ look', Ag look' look R → ∀ k' : Sl → List Loc → Prop, k' s R → rdS look' x k' := by
  unfold rdS at h
  split at h
  · split at h
    · rename_i s hs
      exact ⟨_, _, h, fun look' ha k' hk => by simp only [rdS, ha.head, hs]; exact hk⟩
    · exact h.elim
  · split at h
    · rename_i s hs
      exact ⟨_, _, h, fun look' ha k' hk => by simp only [rdS, hs]; exact hk⟩
    · exact h.elim
  · exact ⟨_, _, h, fun look' ha k' hk => hk⟩
  · exact h.elim

theorem leaves_loc {b : Key} : ∀ {n j : Nat} {k : List Lf → List Loc → Prop}, leaves look b n j k → ∃ ls R, k ls R ∧ ∀ look', Ag look' look R → ∀ k' : List Lf → List Loc → Prop, k' ls R → leaves look' b n j k'
  | 0, _, _, h => ⟨_, _, h, fun _ _ _ hk => hk⟩
  | n + 1, j, k, h => by
    simp only [leaves] at h
    split at h
    · rename_i l hl
      obtain ⟨ls, R, h1, h2⟩ := leaves_loc h
      exact ⟨_, _, h1, fun look' ha k' hk => by simp only [leaves, ha.head, hl]; exact h2 look' ha.tail _ hk⟩
    · exact h.elim

theorem capsW_loc : ∀ {l : List Operand} {k : List (Key × Nat) → List Loc → Prop}, capsW look l k → ∃ cs R, k cs R ∧ ∀ look', Ag look' look R → ∀ k' : List (Key × Nat) → List Loc → Prop, k' cs R → capsW look' l k'
  | [], _, h => ⟨_, _, h, fun _ _ _ hk => hk⟩
  | x :: r, k, h => by
    simp only [capsW] at h
    obtain ⟨s, R, h1, h2⟩ := rdS_loc h
    split at h1
    · obtain ⟨cs, R', h3, h4⟩ := capsW_loc h1
      exact ⟨_, _, h3, fun look' ha k' hk => by simp only [capsW]; exact h2 look' ha.left _ (h4 look' ha.right _ hk)⟩
    · exact h1.elim

theorem bndW_loc {x : Option Operand} {dflt : Nat} {k : Int → List Loc → Prop} (h : bndW look x dflt k) : ∃ n R, k n R ∧ ∀ look', Ag look' look R → ∀ k' : Int → List Loc → Prop, k' n R → bndW look' x dflt k' := by
  cases x with
  | none => exact ⟨_, _, h, fun _ _ _ hk => hk⟩
  | some x =>
    simp only [bndW] at h
    obtain ⟨s, R, h1, h2⟩ := rdS_loc h
    split at h1
    · exact ⟨_, _, h1, fun look' ha k' hk => by simp only [bndW]; exact h2 look' ha _ hk⟩
    · exact h1.elim

theorem partsW_loc {fs : List (Nat × Nat × Bool)} : ∀ {l : List (Nat × Operand)} {ls : List Lf} {k : List Lf → List Loc → Prop}, partsW look fs l ls k → ∃ ls' R, k ls' R ∧ ∀ look', Ag look' look R → ∀ k' : List Lf → List Loc → Prop, k' ls' R → partsW look' fs l ls k'
  | [], _, _, h => ⟨_, _, h, fun _ _ _ hk => hk⟩
  | (i, x) :: r, ls, k, h => by
    simp only [partsW] at h
    split at h
    · rename_i f hf
      obtain ⟨s, R, h1, h2⟩ := rdS_loc h
      split at h1
      · rename_i vs hvs
        split at h1
        · rename_i hb
          obtain ⟨ls', R', h3, h4⟩ := partsW_loc h1
          exact ⟨_, _, h3, fun look' ha k' hk => by simp only [partsW, hf]; exact h2 look' ha.left _ (by simp only [hvs, hb]; exact h4 look' ha.right _ hk)⟩
        · exact h1.elim
      · exact h1.elim
    · exact h.elim

theorem intOp_loc {op : BinOp} {kk : IntKind} {a b : Int} {K : AV → Prop} (h : intOp op kk a b K) : ∃ v, K v ∧ ∀ K' : AV → Prop, K' v → intOp op kk a b K' := by
  cases op <;> first | exact ⟨_, h, fun _ hk => hk⟩ | exact ⟨_, h.2, fun _ hk => ⟨h.1, hk⟩⟩ | exact h.elim
theorem strOp_loc {op : BinOp} {a b : List UInt8} {K : AV → Prop} (h : strOp op a b K) : ∃ v, K v ∧ ∀ K' : AV → Prop, K' v → strOp op a b K' := by
  cases op <;> first | exact ⟨_, h, fun _ hk => hk⟩ | exact ⟨_, h.2, fun _ hk => ⟨h.1, hk⟩⟩ | exact h.elim
theorem binA_loc {op : BinOp} {t : TypeId} {x y : AV} {K : AV → Prop} (h : binA T op t x y K) : ∃ v, K v ∧ ∀ K' : AV → Prop, K' v → binA T op t x y K' := by
  unfold binA at h
  split at h
  · split at h
    · rename_i hd
      obtain ⟨v, h1, h2⟩ := intOp_loc h
      exact ⟨v, h1, fun K' hk => by simp only [binA, hd]; exact h2 K' hk⟩
    · exact h.elim
  · exact strOp_loc h
  · split at h
    · rename_i d hd
      split at h
      · rename_i hk1
        exact ⟨_, h, fun K' hk => by simp only [binA, hd, hk1]; exact hk⟩
      · rename_i hk1
        exact ⟨_, h, fun K' hk => by simp only [binA, hd, hk1]; exact hk⟩
      · exact h.elim
    · exact h.elim
  · exact h.elim
theorem getFields_loc {t : TypeId} {f : Nat} {K : Nat → Nat → Bool → Prop} (h : getFields T t f K) : ∃ off n ag, K off n ag ∧ ∀ K' : Nat → Nat → Bool → Prop, K' off n ag → getFields T t f K' := by
  unfold getFields at h
  split at h
  · rename_i d hd
    split at h
    · rename_i fs hk1
      split at h
      · rename_i x hx
        exact ⟨_, _, _, h, fun K' hk => by simp only [getFields, hd, hk1, hx]; exact hk⟩
      · exact h.elim
    · exact h.elim
  · exact h.elim

/-- What a locality statement says. -/
def LocV (f : (Loc → Option Cell) → (Sl → List Loc → Prop) → Prop) (look : Loc → Option Cell) (k : Sl → List Loc → Prop) : Prop :=
  ∃ s R, k s R ∧ ∀ look', Ag look' look R → ∀ k' : Sl → List Loc → Prop, k' s R → f look' k'

theorem valW_loc {op : Op} {k : Sl → List Loc → Prop} (h : valW T op look k) : LocV (fun look k => valW T op look k) look k := by
  unfold valW at h
  split at h
  · exact rdS_loc h
  · exact rdS_loc h
  · -- pick
    obtain ⟨s, R, h1, h2⟩ := rdS_loc h
    split at h1
    · obtain ⟨s', R', h3, h4⟩ := rdS_loc h1
      exact ⟨_, _, h3, fun look' ha k' hk => by simp only [valW]; exact h2 look' ha.left _ (h4 look' ha.right _ hk)⟩
    · obtain ⟨s', R', h3, h4⟩ := rdS_loc h1
      exact ⟨_, _, h3, fun look' ha k' hk => by simp only [valW]; exact h2 look' ha.left _ (h4 look' ha.right _ hk)⟩
    · rename_i cb
      cases hcb : cb with
      | true =>
        obtain ⟨s', R', h3, h4⟩ := rdS_loc (h1.1 hcb)
        exact ⟨_, _, h3, fun look' ha k' hk => by simp only [valW]; exact h2 look' ha.left _ ⟨fun _ => h4 look' ha.right _ hk, fun h => by rw [hcb] at h; cases h⟩⟩
      | false =>
        obtain ⟨s', R', h3, h4⟩ := rdS_loc (h1.2 hcb)
        exact ⟨_, _, h3, fun look' ha k' hk => by simp only [valW]; exact h2 look' ha.left _ ⟨(fun h => by rw [hcb] at h; cases h), fun _ => h4 look' ha.right _ hk⟩⟩
    · exact h1.elim
  · -- load
    split at h
    · rename_i d hd
      obtain ⟨s, R, h1, h2⟩ := rdS_loc h
      split at h1
      · split at h1
        · rename_i hag
          obtain ⟨ls, R', h3, h4⟩ := leaves_loc h1
          exact ⟨_, _, h3, fun look' ha k' hk => by simp only [valW, hd]; exact h2 look' ha.left _ (by simp only [hag]; exact h4 look' ha.right _ hk)⟩
        · rename_i hag
          obtain ⟨ls, R', h3, h4⟩ := leaves_loc h1
          split at h3
          · exact ⟨_, _, h3, fun look' ha k' hk => by simp only [valW, hd]; exact h2 look' ha.left _ (by simp only [hag]; exact h4 look' ha.right _ hk)⟩
          · exact h3.elim
      · split at h1
        · rename_i hag
          split at h1
          · rename_i hb
            exact ⟨_, _, h1, fun look' ha k' hk => by simp only [valW, hd]; exact h2 look' ha _ (by simp only [hag, hb]; exact hk)⟩
          · exact h1.elim
        · rename_i hag
          split at h1
          · exact ⟨_, _, h1, fun look' ha k' hk => by simp only [valW, hd]; exact h2 look' ha _ (by simp only [hag]; exact hk)⟩
          · exact h1.elim
      · split at h1
        · rename_i r hr
          split at h1
          · rename_i hb
            obtain ⟨e, he, h1⟩ := h1
            split at h1
            · rename_i hag
              split at h1
              · rename_i hb2
                exact ⟨_, _, h1, fun look' ha k' hk => by simp only [valW, hd]; exact h2 look' ha.tail _ (by simp only [ha.head, hr, hb, hag]; exact ⟨e, he, by simp only [hb2]; exact hk⟩)⟩
              · exact h1.elim
            · rename_i hag
              split at h1
              · rename_i hdr
                exact ⟨_, _, h1, fun look' ha k' hk => by simp only [valW, hd]; exact h2 look' ha.tail _ (by simp only [ha.head, hr, hb, hag]; exact ⟨e, he, by simp only [hdr]; exact hk⟩)⟩
              · exact h1.elim
          · exact h1.elim
        · exact h1.elim
      · exact h1.elim
    · exact h.elim
  · -- nilCheck
    obtain ⟨s, R, h1, h2⟩ := rdS_loc h
    split at h1
    · exact ⟨_, _, h1, fun look' ha k' hk => by simp only [valW]; exact h2 look' ha _ hk⟩
    · exact ⟨_, _, h1, fun look' ha k' hk => by simp only [valW]; exact h2 look' ha _ hk⟩
    · exact h1.elim
  · -- binOp
    obtain ⟨s, R, h1, h2⟩ := rdS_loc h
    obtain ⟨s', R', h3, h4⟩ := rdS_loc h1
    split at h3
    · split at h3
      · rename_i hx hy
        obtain ⟨v, h5, h6⟩ := binA_loc h3
        exact ⟨_, _, h5, fun look' ha k' hk => by simp only [valW]; exact h2 look' ha.left _ (h4 look' ha.right _ (by simp only [hx, hy]; exact h6 _ hk))⟩
      · exact h3.elim
    · exact h3.elim
  · -- unOp
    obtain ⟨s, R, h1, h2⟩ := rdS_loc h
    split at h1
    · split at h1
      · exact ⟨_, _, h1, fun look' ha k' hk => by simp only [valW]; exact h2 look' ha _ hk⟩
      · exact ⟨_, _, h1, fun look' ha k' hk => by simp only [valW]; exact h2 look' ha _ hk⟩
    · exact ⟨_, _, h1, fun look' ha k' hk => by simp only [valW]; exact h2 look' ha _ hk⟩
    · exact ⟨_, _, h1, fun look' ha k' hk => by simp only [valW]; exact h2 look' ha _ hk⟩
    · exact h1.elim
  · -- makeFunc
    split at h
    · rename_i hf
      obtain ⟨cs, R, h1, h2⟩ := capsW_loc h
      exact ⟨_, _, h1, fun look' ha k' hk => by simp only [valW, hf]; exact h2 look' ha _ hk⟩
    · exact h.elim
  · -- fieldAddr
    obtain ⟨s, R, h1, h2⟩ := rdS_loc h
    obtain ⟨off, n, ag, h3, h4⟩ := getFields_loc h1
    split at h3
    · exact ⟨_, _, h3, fun look' ha k' hk => by simp only [valW]; exact h2 look' ha _ (h4 _ hk)⟩
    · exact ⟨_, _, h3, fun look' ha k' hk => by simp only [valW]; exact h2 look' ha _ (h4 _ hk)⟩
    · exact ⟨_, _, h3, fun look' ha k' hk => by simp only [valW]; exact h2 look' ha _ (h4 _ hk)⟩
    · exact h3.elim
  · -- field
    obtain ⟨s, R, h1, h2⟩ := rdS_loc h
    obtain ⟨off, n, ag, h3, h4⟩ := getFields_loc h1
    split at h3
    · split at h3
      · rename_i hb
        split at h3
        · exact ⟨_, _, h3, fun look' ha k' hk => by simp only [valW]; exact h2 look' ha _ (h4 _ (by simp only [hb]; exact hk))⟩
        · split at h3
          · rename_i hdr
            exact ⟨_, _, h3, fun look' ha k' hk => by simp only [valW]; exact h2 look' ha _ (h4 _ (by simp only [hb, hdr]; exact hk))⟩
          · exact h3.elim
      · exact h3.elim
    · exact h3.elim
  · -- indexAddr
    split at h
    · rename_i d hd
      split at h
      · rename_i e hk1
        split at h
        · rename_i de hde
          obtain ⟨s, R, h1, h2⟩ := rdS_loc h
          obtain ⟨s', R', h3, h4⟩ := rdS_loc h1
          split at h3
          · obtain ⟨x, e1, e2, e3, h3⟩ := h3
            exact ⟨_, _, h3, fun look' ha k' hk => by simp only [valW, hd, hk1, hde]; exact h2 look' ha.left _ (h4 look' ha.right _ ⟨x, e1, e2, e3, hk⟩)⟩
          · split at h3
            · rename_i r hr
              split at h3
              · rename_i hb
                obtain ⟨e1, e2, h3⟩ := h3
                exact ⟨_, _, h3, fun look' ha k' hk => by simp only [valW, hd, hk1, hde]; exact h2 look' ha.tail.left _ (h4 look' ha.tail.right _ (by simp only [ha.head, hr, hb]; exact ⟨e1, e2, hk⟩))⟩
              · exact h3.elim
            · exact h3.elim
          · exact h3.elim
        · exact h.elim
      · exact h.elim
    · exact h.elim
  · -- index
    split at h
    · rename_i d hd
      split at h
      · rename_i hk1
        obtain ⟨s, R, h1, h2⟩ := rdS_loc h
        obtain ⟨s', R', h3, h4⟩ := rdS_loc h1
        split at h3
        · obtain ⟨x, e1, e2, h3⟩ := h3
          exact ⟨_, _, h3, fun look' ha k' hk => by simp only [valW, hd, hk1]; exact h2 look' ha.left _ (h4 look' ha.right _ ⟨x, e1, e2, hk⟩)⟩
        · exact h3.elim
      · exact h.elim
    · exact h.elim
  · -- extract
    obtain ⟨s, R, h1, h2⟩ := rdS_loc h
    split at h1
    · split at h1
      · rename_i hs
        exact ⟨_, _, h1, fun look' ha k' hk => by simp only [valW]; exact h2 look' ha _ (by simp only [hs]; exact hk)⟩
      · exact h1.elim
    · exact h1.elim
  · -- build
    split at h
    · rename_i d hd
      split at h
      · rename_i fs hk1
        obtain ⟨ls, R, h1, h2⟩ := partsW_loc h
        exact ⟨_, _, h1, fun look' ha k' hk => by simp only [valW, hd, hk1]; exact h2 look' ha _ hk⟩
      · exact h.elim
    · exact h.elim
  · -- slice
    split at h
    · exact h.elim
    split at h
    · rename_i d hd
      obtain ⟨s, R, h1, h2⟩ := rdS_loc h
      split at h1
      · rename_i hk1
        obtain ⟨l, R', h3, h4⟩ := bndW_loc h1
        obtain ⟨hh, R'', h5, h6⟩ := bndW_loc h3
        obtain ⟨e1, e2, e3, h5⟩ := h5
        exact ⟨_, _, h5, fun look' ha k' hk => by simp only [valW, hd]; exact h2 look' ha.left _ (by simp only [hk1]; exact h4 look' ha.right.left _ (h6 look' ha.right.right _ ⟨e1, e2, e3, hk⟩))⟩
      · rename_i hk1
        split at h1
        · rename_i de hde
          obtain ⟨l, R', h3, h4⟩ := bndW_loc h1
          obtain ⟨hh, R'', h5, h6⟩ := bndW_loc h3
          obtain ⟨e1, e2, e3, e4, h5⟩ := h5
          exact ⟨_, _, h5, fun look' ha k' hk => by simp only [valW, hd]; exact h2 look' ha.left _ (by simp only [hk1, hde]; exact h4 look' ha.right.left _ (h6 look' ha.right.right _ ⟨e1, e2, e3, e4, hk⟩))⟩
        · exact h1.elim
      · exact h1.elim
    · exact h.elim
  · -- convert
    split at h
    · rename_i d hd
      split at h
      · rename_i kd hk1
        obtain ⟨s, R, h1, h2⟩ := rdS_loc h
        split at h1
        · exact ⟨_, _, h1, fun look' ha k' hk => by simp only [valW, hd, hk1]; exact h2 look' ha _ hk⟩
        · exact h1.elim
      · exact h.elim
    · exact h.elim
  · exact h.elim
end
end Go.Proofs.YtccbimcikbbecaaGreat.P1
