/- Part 3 of what the row leans on: X, VB, Y, Z, AA, AB, AC, AD, AE. No statement of the program stands here by itself. -/
import Derived.Test.YtccbimcikbbecaaGreatW2
import Derived.Lib.LazyBuf
set_option linter.all false
set_option linter.unusedVariables false
set_option linter.unusedSimpArgs false
/- An operation looks at no other places than those that it tells: the other operations. -/
namespace Go.Proofs.YtccbimcikbbecaaGreat.P1
open Go
section
variable {P : Program} {T : TI} {look look' : Loc → Option Cell} {R R' : List Loc}

theorem avOf_loc {l : Lf} {k : AV → List Loc → Dl → Prop} (h : avOf look l k) : ∃ x R D, k x R D ∧ ∀ look', Ag look' look R → ∀ k' : AV → List Loc → Dl → Prop, k' x R D → avOf look' l k' := by
  unfold avOf at h
  split at h
  · exact ⟨_, _, _, h, fun _ _ _ hk => hk⟩
  · exact ⟨_, _, _, h, fun _ _ _ hk => hk⟩
  · exact ⟨_, _, _, h, fun _ _ _ hk => hk⟩
  · split at h
    · rename_i r hr
      split at h
      · rename_i hh
        exact ⟨_, _, _, h, fun look' ha k' hk => by simp only [avOf, ha.head, hr, hh]; exact hk⟩
      · rename_i hh
        exact ⟨_, _, _, h, fun look' ha k' hk => by simp only [avOf, ha.head, hr, hh]; exact hk⟩
    · exact h.elim
  · exact h.elim

theorem avsOf_loc : ∀ {ls : List Lf} {k : List AV → List Loc → Dl → Prop}, avsOf look ls k → ∃ xs R D, k xs R D ∧ ∀ look', Ag look' look R → ∀ k' : List AV → List Loc → Dl → Prop, k' xs R D → avsOf look' ls k'
  | [], _, h => ⟨_, _, _, h, fun _ _ _ hk => hk⟩
  | l :: ls, k, h => by
    simp only [avsOf] at h
    obtain ⟨x, R, D, h1, h2⟩ := avOf_loc h
    obtain ⟨xs, R', D', h3, h4⟩ := avsOf_loc h1
    exact ⟨_, _, _, h3, fun look' ha k' hk => by simp only [avsOf]; exact h2 look' ha.left _ (h4 look' ha.right _ hk)⟩

theorem elemsW_loc {size : Nat} : ∀ {l : List (Nat × Operand)} {n : Nat} {k : List (List AV) → List Loc → Dl → Prop}, elemsW look size l n k → ∃ xs R D, k xs R D ∧ ∀ look', Ag look' look R → ∀ k' : List (List AV) → List Loc → Dl → Prop, k' xs R D → elemsW look' size l n k'
  | [], _, _, h => ⟨_, _, _, h, fun _ _ _ hk => hk⟩
  | (i, x) :: r, n, k, h => by
    simp only [elemsW] at h
    split at h
    · rename_i hi
      obtain ⟨s, R, h1, h2⟩ := rdS_loc h
      split at h1
      · rename_i ls hls
        split at h1
        · rename_i hb
          obtain ⟨xs, R', D, h3, h4⟩ := avsOf_loc h1
          obtain ⟨es, R'', D', h5, h6⟩ := elemsW_loc h3
          exact ⟨_, _, _, h5, fun look' ha k' hk => by simp only [elemsW, hi]; exact h2 look' ha.left _ (by simp only [hls, hb]; exact h4 look' ha.right.left _ (h6 look' ha.right.right _ hk))⟩
        · exact h1.elim
      · exact h1.elim
    · exact h.elim

theorem rowOf_loc {s : Sl} {k : List (List AV) → List Loc → Prop} (h : rowOf look s k) : ∃ es R, k es R ∧ ∀ look', Ag look' look R → ∀ k' : List (List AV) → List Loc → Prop, k' es R → rowOf look' s k' := by
  unfold rowOf at h
  split at h
  · exact ⟨_, _, h, fun _ _ _ hk => hk⟩
  · exact ⟨_, _, h, fun _ _ _ hk => hk⟩
  · split at h
    · rename_i r hr
      exact ⟨_, _, h, fun look' ha k' hk => by simp only [rowOf, ha.head, hr]; exact hk⟩
    · exact h.elim
  · exact h.elim

theorem argLf_loc {l : Lf} {B : List Key} {k : Lf → List Key → List Loc → Dl → Prop} (h : argLf look l B k) : ∃ l' B' R D, k l' B' R D ∧ ∀ look', Ag look' look R → ∀ k' : Lf → List Key → List Loc → Dl → Prop, k' l' B' R D → argLf look' l B k' := by
  unfold argLf at h
  split at h
  · exact ⟨_, _, _, _, h, fun _ _ _ hk => hk⟩
  · exact ⟨_, _, _, _, h, fun _ _ _ hk => hk⟩
  · rename_i h1 h2
    obtain ⟨x, R, D, h3, h4⟩ := avOf_loc h
    refine ⟨_, _, _, _, h3, fun look' ha k' hk => ?_⟩
    cases l <;> first | exact h4 look' ha (fun x R D => k' (.av x) B R D) hk | (exfalso; exact h1 _ _ rfl) | (exfalso; exact h2 _ _ rfl)

theorem argLfs_loc : ∀ {ls : List Lf} {B : List Key} {k : List Lf → List Key → List Loc → Dl → Prop}, argLfs look ls B k → ∃ ls' B' R D, k ls' B' R D ∧ ∀ look', Ag look' look R → ∀ k' : List Lf → List Key → List Loc → Dl → Prop, k' ls' B' R D → argLfs look' ls B k'
  | [], _, _, h => ⟨_, _, _, _, h, fun _ _ _ hk => hk⟩
  | l :: ls, B, k, h => by
    simp only [argLfs] at h
    obtain ⟨l', B', R, D, h1, h2⟩ := argLf_loc h
    obtain ⟨ls', B'', R', D', h3, h4⟩ := argLfs_loc h1
    exact ⟨_, _, _, _, h3, fun look' ha k' hk => by simp only [argLfs]; exact h2 look' ha.left _ (h4 look' ha.right _ hk)⟩

theorem argSl_loc {s : Sl} {B : List Key} {k : Sl → List Key → List Loc → Dl → Prop} (h : argSl look s B k) : ∃ s' B' R D, k s' B' R D ∧ ∀ look', Ag look' look R → ∀ k' : Sl → List Key → List Loc → Dl → Prop, k' s' B' R D → argSl look' s B k' := by
  cases s with
  | lf l =>
    simp only [argSl] at h
    obtain ⟨l', B', R, D, h1, h2⟩ := argLf_loc h
    exact ⟨_, _, _, _, h1, fun look' ha k' hk => by simp only [argSl]; exact h2 look' ha _ hk⟩
  | agg ls =>
    simp only [argSl] at h
    obtain ⟨l', B', R, D, h1, h2⟩ := argLfs_loc h
    exact ⟨_, _, _, _, h1, fun look' ha k' hk => by simp only [argSl]; exact h2 look' ha _ hk⟩
  | tup ss => exact h.elim

theorem argsW_loc : ∀ {xs : List Operand} {B : List Key} {k : List Sl → List Key → List Loc → Dl → Prop}, argsW look xs B k → ∃ ss B' R D, k ss B' R D ∧ ∀ look', Ag look' look R → ∀ k' : List Sl → List Key → List Loc → Dl → Prop, k' ss B' R D → argsW look' xs B k'
  | [], _, _, h => ⟨_, _, _, _, h, fun _ _ _ hk => hk⟩
  | x :: xs, B, k, h => by
    simp only [argsW] at h
    obtain ⟨s, R, h1, h2⟩ := rdS_loc h
    obtain ⟨s', B', R', D, h3, h4⟩ := argSl_loc h1
    obtain ⟨ss, B'', R'', D', h5, h6⟩ := argsW_loc h3
    exact ⟨_, _, _, _, h5, fun look' ha k' hk => by simp only [argsW]; exact h2 look' ha.left _ (h4 look' ha.right.left _ (h6 look' ha.right.right _ hk))⟩

theorem hasS_loc {B : List Key} : ∀ {S : Bx} {k : List Loc → Dl → Prop}, hasS look B S k → ∃ R D, k R D ∧ ∀ look', Ag look' look R → ∀ k' : List Loc → Dl → Prop, k' R D → hasS look' B S k'
  | [], _, h => ⟨_, _, h, fun _ _ _ hk => hk⟩
  | (((o, i), j), x) :: r, k, h => by
    simp only [hasS] at h
    split at h
    · exact h.elim
    · rename_i ho
      split at h
      · exact h.elim
      · rename_i b hb
        split at h
        · rename_i l hl
          obtain ⟨x', R, D, ⟨hx, h1⟩, h2⟩ := avOf_loc h
          obtain ⟨R', D', h3, h4⟩ := hasS_loc h1
          exact ⟨_, _, h3, fun look' ha k' hk => by simp only [hasS, ho, hb, ha.head, hl]; exact h2 look' ha.tail.left _ ⟨hx, h4 look' ha.tail.right _ hk⟩⟩
        · exact h.elim

def LocD (f : (Loc → Option Cell) → (Dl → List Loc → Prop) → Prop) (look : Loc → Option Cell) (k : Dl → List Loc → Prop) : Prop :=
  ∃ D R, k D R ∧ ∀ look', Ag look' look R → ∀ k' : Dl → List Loc → Prop, k' D R → f look' k'

theorem callW_loc {f : FuncId} {args : List Operand} {caps : List (Key × Nat)} {d : Nat} {k : Dl → List Loc → Prop} (h : callW P f args caps d look k) : LocD (fun look k => callW P f args caps d look k) look k := by
  unfold callW at h
  obtain ⟨ss, B, R, D, ⟨S, r, N, S', hct, h1⟩, h2⟩ := argsW_loc h
  obtain ⟨R', D', h3, h4⟩ := hasS_loc h1
  split at h3
  · rename_i hb
    split at h3
    · rename_i hc
      exact ⟨_, _, h3, fun look' ha k' hk => h2 look' ha.left _ ⟨S, r, N, S', hct, h4 look' ha.right _ (by simp only [hb, hc]; exact hk)⟩⟩
    · rename_i hc
      exact ⟨_, _, h3, fun look' ha k' hk => h2 look' ha.left _ ⟨S, r, N, S', hct, h4 look' ha.right _ (by simp only [hb, hc]; exact hk)⟩⟩
  · exact h3.elim

theorem rowCallW_loc {f : FuncId} {args : List Operand} {d : Nat} {k : Dl → List Loc → Prop} (h : rowCallW P f args d look k) : LocD (fun look k => rowCallW P f args d look k) look k := by
  unfold rowCallW at h
  split at h
  · exact h.elim
  · rename_i x xs
    obtain ⟨s, R, h1, h2⟩ := rdS_loc h
    split at h1
    · rename_i q
      split at h1
      · rename_i r hr
        split at h1
        · rename_i hh
          obtain ⟨ss, B, R', D, h3, h4⟩ := argsW_loc h1
          split at h3
          · obtain ⟨b, es', hct, h3⟩ := h3
            cases b with
            | true => exact ⟨_, _, h3, fun look' ha k' hk => by simp only [rowCallW]; exact h2 look' ha.tail.left _ (by simp only [ha.head, hr, hh]; exact h4 look' ha.tail.right _ ⟨true, es', hct, hk⟩)⟩
            | false => exact ⟨_, _, h3, fun look' ha k' hk => by simp only [rowCallW]; exact h2 look' ha.tail.left _ (by simp only [ha.head, hr, hh]; exact h4 look' ha.tail.right _ ⟨false, es', hct, hk⟩)⟩
          · exact h3.elim
        · exact h1.elim
      · exact h1.elim
    · exact h1.elim

theorem anyCallW_loc {f : FuncId} {args : List Operand} {caps : List (Key × Nat)} {d : Nat} {k : Dl → List Loc → Prop} (h : anyCallW P f args caps d look k) : LocD (fun look k => anyCallW P f args caps d look k) look k := by
  rcases h with h | ⟨hc, h⟩
  · obtain ⟨D, R, h1, h2⟩ := callW_loc h
    exact ⟨D, R, h1, fun look' ha k' hk => .inl (h2 look' ha k' hk)⟩
  · obtain ⟨D, R, h1, h2⟩ := rowCallW_loc h
    exact ⟨D, R, h1, fun look' ha k' hk => .inr ⟨hc, h2 look' ha k' hk⟩⟩

theorem LocV.toD {f : (Loc → Option Cell) → (Sl → List Loc → Prop) → Prop} {d : Option Nat} {k : Dl → List Loc → Prop} (h : LocV f look fun s R => k (toD d s) R) :
    LocD (fun look k => f look fun s R => k (P1.toD d s) R) look k := by
  obtain ⟨s, R, h1, h2⟩ := h
  exact ⟨_, _, h1, fun look' ha k' hk => h2 look' ha _ hk⟩

theorem blt_loc {b : Builtin} {args : List Operand} {ts : List TypeId} {k : Sl → List Loc → Prop} (h : blt T b args ts look k) : LocV (fun look k => blt T b args ts look k) look k := by
  unfold blt at h
  split at h
  · split at h
    · rename_i d hd
      obtain ⟨s, R, h1, h2⟩ := rdS_loc h
      split at h1
      · rename_i hk1
        obtain ⟨es, R', h3, h4⟩ := rowOf_loc h1
        exact ⟨_, _, h3, fun look' ha k' hk => by simp only [blt, hd]; exact h2 look' ha.left _ (by simp only [hk1]; exact h4 look' ha.right _ hk)⟩
      · rename_i hk1
        exact ⟨_, _, h1, fun look' ha k' hk => by simp only [blt, hd]; exact h2 look' ha _ (by simp only [hk1]; exact hk)⟩
      · exact h1.elim
    · exact h.elim
  · obtain ⟨s, R, h1, h2⟩ := rdS_loc h
    obtain ⟨s', R', h3, h4⟩ := rdS_loc h1
    split at h3
    · split at h3
      · rename_i hd
        exact ⟨_, _, h3, fun look' ha k' hk => by simp only [blt]; exact h2 look' ha.left _ (h4 look' ha.right _ (by simp only [hd]; exact hk))⟩
      · exact h3.elim
    · exact h3.elim
  · obtain ⟨s, R, h1, h2⟩ := rdS_loc h
    obtain ⟨s', R', h3, h4⟩ := rdS_loc h1
    split at h3
    · split at h3
      · rename_i hd
        exact ⟨_, _, h3, fun look' ha k' hk => by simp only [blt]; exact h2 look' ha.left _ (h4 look' ha.right _ (by simp only [hd]; exact hk))⟩
      · exact h3.elim
    · exact h3.elim
  · exact h.elim

theorem apW_loc {d : Nat} {s x : Operand} {t : TypeId} {k : Dl → List Loc → Prop} (h : apW T d s x t look k) : LocD (fun look k => apW T d s x t look k) look k := by
  unfold apW at h
  split at h
  · rename_i td htd
    split at h
    · rename_i e hk1
      split at h
      · rename_i de hde
        obtain ⟨ss, R, h1, h2⟩ := rdS_loc h
        obtain ⟨sx, R', h3, h4⟩ := rdS_loc h1
        obtain ⟨es, R'', h5, h6⟩ := rowOf_loc h3
        split at h5
        · obtain ⟨e1, e2, h5⟩ := h5
          exact ⟨_, _, h5, fun look' ha k' hk => by simp only [apW, htd, hk1, hde]; exact h2 look' ha.left _ (h4 look' ha.right.left _ (h6 look' ha.right.right _ ⟨e1, e2, hk⟩))⟩
        · split at h5
          · rename_i r hr
            split at h5
            · rename_i hb
              obtain ⟨e1, e2, h5⟩ := h5
              exact ⟨_, _, h5, fun look' ha k' hk => by simp only [apW, htd, hk1, hde]; exact h2 look' ha.tail.left _ (h4 look' ha.tail.right.left _ (h6 look' ha.tail.right.right _ (by simp only [ha.head, hr, hb]; exact ⟨e1, e2, hk⟩)))⟩
            · exact h5.elim
          · exact h5.elim
        · exact h5.elim
      · exact h.elim
    · exact h.elim
  · exact h.elim

theorem there_loc {b : Key} : ∀ {n j : Nat}, there look b j n = true → Ag look' look (leafLocs b j n) → there look' b j n = true
  | 0, _, _, _ => rfl
  | n + 1, j, h, ha => by
    simp only [there] at h ⊢
    simp only [leafLocs] at ha
    split at h
    · rename_i l hl
      simp only [ha.head, hl]
      exact there_loc h ha.tail
    · cases h

theorem opW_loc {o : Oper} {k : Dl → List Loc → Prop} (h : opW P T o look k) : LocD (fun look k => opW P T o look k) look k := by
  unfold opW at h
  split at h
  · -- alloc
    rename_i t ho
    split at h
    · rename_i d td hd ht
      split at h
      · rename_i hz
        exact ⟨_, _, h, fun look' ha k' hk => by simp only [opW, ho, hd, ht, hz]; exact hk⟩
      · exact h.elim
    · exact h.elim
  · -- box
    rename_i x ho
    split at h
    · rename_i d hd
      obtain ⟨s, R, h1, h2⟩ := rdS_loc h
      split at h1
      · rename_i ls hls
        exact ⟨_, _, h1, fun look' ha k' hk => by simp only [opW, ho, hd]; exact h2 look' ha _ (by simp only [hls]; exact hk)⟩
      · exact h1.elim
    · exact h.elim
  · -- buildSlice
    rename_i t len parts ho
    split at h
    · rename_i d td hd ht
      split at h
      · rename_i e hk1
        split at h
        · rename_i de hde
          split at h
          · rename_i hb
            obtain ⟨es, R, D, h1, h2⟩ := elemsW_loc h
            exact ⟨_, _, h1, fun look' ha k' hk => by simp only [opW, ho, hd, ht, hk1, hde, hb]; exact h2 look' ha _ hk⟩
          · exact h.elim
        · exact h.elim
      · exact h.elim
    · exact h.elim
  · -- makeSlice
    rename_i t l c ho
    split at h
    · rename_i d td hd ht
      split at h
      · rename_i e hk1
        split at h
        · rename_i de hde
          split at h
          · rename_i z hz
            obtain ⟨s, R, h1, h2⟩ := rdS_loc h
            obtain ⟨s', R', h3, h4⟩ := rdS_loc h1
            split at h3
            · obtain ⟨e1, e2, e3, h3⟩ := h3
              exact ⟨_, _, h3, fun look' ha k' hk => by simp only [opW, ho, hd, ht, hk1, hde, hz]; exact h2 look' ha.left _ (h4 look' ha.right _ ⟨e1, e2, e3, hk⟩)⟩
            · exact h3.elim
          · exact h.elim
        · exact h.elim
      · exact h.elim
    · exact h.elim
  · -- store
    rename_i t x v ho
    split at h
    · rename_i td hd ht
      obtain ⟨sx, R, h1, h2⟩ := rdS_loc h
      obtain ⟨sv, R', h3, h4⟩ := rdS_loc h1
      split at h3
      · rename_i ls hls
        split at h3
        · rename_i hb
          split at h3
          · split at h3
            · rename_i hth
              exact ⟨_, _, h3, fun look' ha k' hk => by simp only [opW, ho, hd, ht]; exact h2 look' ha.right.left _ (h4 look' ha.right.right _ (by simp only [hls, hb, there_loc hth ha.left]; exact hk))⟩
            · exact h3.elim
          · split at h3
            · rename_i r hr
              split at h3
              · rename_i hh
                obtain ⟨xs, R'', D, h5, h6⟩ := avsOf_loc h3
                obtain ⟨e, e1, e2, e3, h5⟩ := h5
                exact ⟨_, _, h5, fun look' ha k' hk => by simp only [opW, ho, hd, ht]; exact h2 look' ha.tail.left _ (h4 look' ha.tail.right.left _ (by simp only [hls, hb, ha.head, hr, hh]; exact h6 look' ha.tail.right.right _ ⟨e, e1, e2, e3, hk⟩))⟩
              · exact h3.elim
            · exact h3.elim
          · exact h3.elim
        · exact h3.elim
      · exact h3.elim
    · exact h.elim
  · -- call
    rename_i c ho
    split at h
    · rename_i hc
      split at h
      · rename_i d s x t t' hd hargs hts
        split at h
        · rename_i hb
          obtain ⟨D, R, h1, h2⟩ := apW_loc h
          exact ⟨D, R, h1, fun look' ha k' hk => by simp only [opW, ho, hc, hd, hargs, hts, hb]; exact h2 look' ha _ hk⟩
        · exact h.elim
      · exact h.elim
    · rename_i b hna hc
      obtain ⟨D, R, h1, h2⟩ := (blt_loc h).toD
      refine ⟨D, R, h1, fun look' ha k' hk => ?_⟩
      have := h2 look' ha _ hk
      cases b <;> first | (simp only [opW, ho, hc]; exact this) | (exact (hna rfl).elim)
    · rename_i f hc
      split at h
      · rename_i d hd
        obtain ⟨s, R, h1, h2⟩ := rdS_loc h
        split at h1
        · obtain ⟨D, R', h3, h4⟩ := anyCallW_loc h1
          exact ⟨D, _, h3, fun look' ha k' hk => by simp only [opW, ho, hc, hd]; exact h2 look' ha.left _ (h4 look' ha.right _ hk)⟩
        · exact h1.elim
      · exact h.elim
    · exact h.elim
  · -- values
    obtain ⟨D, R, h1, h2⟩ := (valW_loc h).toD
    refine ⟨D, R, h1, fun look' ha k' hk => ?_⟩
    have := h2 look' ha _ hk
    unfold opW
    split
    all_goals first
      | exact this
      | (rename_i h1 h2 h3 h4 h5 h6 _ _ ho; exfalso; first | exact h1 _ ho | exact h2 _ _ ho | exact h3 _ _ _ ho | exact h4 _ _ _ ho | exact h5 _ _ _ ho | exact h6 _ ho)
      | (simp_all; done)
      | skip
end
end Go.Proofs.YtccbimcikbbecaaGreat.P1
/- Calls of functions that change the slice that they are handed. -/
namespace Go.Proofs.YtccbimcikbbecaaGreat.P1
open Go

section
variable {P : Program} {T : TI} {C : Cx} {G G2 : Gh} {look look' : Loc → Option Cell} {a : Act} {w w' : World}

theorem RowR.gh {G G' : Gh} (hF : G'.F = G.F) {v : Value} {r : Row} (h : RowR G w v r) : RowR G' w v r := by
  unfold RowR at h ⊢
  rw [hF]; exact h

theorem less_drop {q : Key} : Less (app look [(.at (.row q), none)]) look := fun l c ee => by
  simp only [app, Dl.look, Pat.hits] at ee
  split at ee
  · rename_i hh
    split at hh <;> first | (cases hh; cases ee; done) | cases hh
  · exact ee
theorem drop_none {q : Key} : ∀ c, app look [(.at (.row q), none)] (.row q) ≠ some c := fun c ee => by
  simp [app, Dl.look, Pat.hits, Loc.beq_self] at ee

/-- A row's contents anew: in place. -/
theorem Rel.reRow {q : Key} (hr : Rel C G (app look [(.at (.row q), none)]) a w) {r : Row} (hh : r.hot = true) (hR : RowR G w (G.ρ q) r)
    (hg : ∀ g, (G.ρ q).ownBlock = some g → C.w0.heap.size ≤ g ∧ ¬ G.F g ∧ ∀ l c, app look [(.at (.row q), none)] l = some c → G.blk l c ≠ some g) :
    Rel C G (app look [(.at (.row q), some (.r r))]) a w := by
  have h2 : MemR G (rwLook q r) w :=
  { leaf := fun b j l e => by cases (rwLook_some e).1
    row := fun k r' e => by
      obtain ⟨e1, e2⟩ := rwLook_some e
      cases e1; cases e2
      exact hR
    sep := fun l l' c c' g e e' _ _ => by
      obtain ⟨rfl, _⟩ := rwLook_some e
      obtain ⟨rfl, _⟩ := rwLook_some e'
      rfl
    cold := fun l c g e hb hF => by
      obtain ⟨rfl, rfl⟩ := rwLook_some e
      simp only [Gh.blk, hh, if_true] at hb
      exact (hg g hb).2.1 hF
    Flt := hr.Flt }
  refine (hr.add h2 (fun t => rfl) (fun l l' c c' g e e' hb hb' _ => ?_) (fun l c g e hb => ?_)).less fun l c ee => ?_
  · obtain ⟨rfl, rfl⟩ := rwLook_some e
    simp only [Gh.blk, hh, if_true] at hb
    exact ((hg g hb).2.2 _ _ e' hb').elim
  · obtain ⟨rfl, rfl⟩ := rwLook_some e
    simp only [Gh.blk, hh, if_true] at hb
    exact .inl (hg g hb).1
  · rw [app_rowD, app_nil] at ee
    unfold over at ee ⊢
    split at ee
    · exact ee
    · rename_i hn
      simp only [app, Dl.look, Pat.hits]
      cases hb : (Loc.row q).beq l with
      | true =>
        have := Loc.beq_iff.1 hb
        subst this
        simp [rwLook, kbeq_iff.2] at hn
      | false => exact ee

theorem op_rowcall (hr : Rel C G look a w) {o : Oper} {d : Nat} (hdst : o.dst = some d) (hd : d < C.n) (hf : Fresh d look) {c : Call} (ho : o.op = .call c) {x : Operand} (hc : c.callee = .value x) {g : FuncId}
    (hx : LfR G w (a.eval x) (.fn g [])) {k : Dl → List Loc → Prop} (h : rowCallW P g c.args.toList d look k) : OpOk P C o look a w k := by
  unfold rowCallW at h
  split at h
  · exact h.elim
  rename_i x0 xs hargs
  obtain ⟨s, R, h1, hs⟩ := rdS_sound hr h
  clear h
  split at h1
  case h_2 => exact h1.elim
  rename_i q
  split at h1
  case h_2 => exact h1.elim
  rename_i r hrow
  split at h1
  case h_2 => exact h1.elim
  rename_i hhot
  obtain ⟨ss, B, R', D, h2, _, _, hvals⟩ := argsW_sound hr h1
  clear h1
  split at h2
  case h_2 => exact h2.elim
  obtain ⟨b, es', ⟨hfn, hcall⟩, h3⟩ := h2
  obtain ⟨hsv, hone⟩ : a.eval x0 = G.ρ q ∧ (a.eval x0).oneCell' = true := hs
  rw [hsv] at hone
  have hR := hr.row q r hrow
  have hblk : ∀ gg, (G.ρ q).ownBlock = some gg → G.blk (.row q) (.r r) = some gg := fun gg hg => by simp [Gh.blk, hhot, hg]
  have hcold : ∀ gg, (G.ρ q).ownBlock = some gg → ¬ G.F gg := fun gg hg => hr.cold _ _ _ hrow (hblk gg hg)
  have hbase : ∀ gg, (G.ρ q).ownBlock = some gg → C.w0.heap.size ≤ gg := fun gg hg => (hr.mine _ _ _ hrow (hblk gg hg)).elim id (fun h => by obtain ⟨_, _, _, hh⟩ := h; cases hh)
  have hne : ∀ gg, (G.ρ q).ownBlock = some gg → ∀ l c, app look [(.at (.row q), none)] l = some c → G.blk l c ≠ some gg := fun gg hg l c ee hb => by
    have := hr.sep _ _ _ _ _ hrow (less_drop _ _ ee) (hblk gg hg) hb
    cases l with
    | row p =>
      have hp : q = p := this
      subst hp
      exact drop_none _ ee
    | slot => exact this.elim
    | leaf => exact this.elim
  have hcalls := hcall G.F w (G.ρ q) (xs.map a.eval) hr.Flt (hR.gh rfl) hone hcold (hvals _ _ _ (fun i b hb => by simp at hb) (fun _ h => h) (fun b ⟨p, hp, _⟩ => by cases hp))
  have hrun := exec_call (P := P) (w := w) ho hc (cs := []) (show a.eval x = .func (.func g) #[] ([] : List Value).toArray from hx) hfn
  have hv : (c.args.toList.map a.eval ++ ([] : List Value)).toArray = (G.ρ q :: xs.map a.eval).toArray := by rw [hargs]; simp [hsv]
  rw [hv] at hrun
  have hr1 := hr.less (less_drop (look := look) (q := q))
  have hf1 : Fresh d (app look [(.at (.row q), none)]) := fun l c ee k hk => hf l c (less_drop _ _ ee) k hk
  have hstep0 : ∀ {w'}, Fr w (fun i => (G.ρ q).ownBlock = some i) w' → ∀ gg, G.F gg → w'.heap[gg]? = w.heap[gg]? := fun hfr gg hF => hfr.block gg (hr.Flt gg hF) fun hh => hcold gg hh hF
  have hsame : ∀ {w'}, Fr w (fun i => (G.ρ q).ownBlock = some i) w' → ∀ l c gg, app look [(.at (.row q), none)] l = some c → G.blk l c = some gg → w'.heap[gg]? = w.heap[gg]? := fun hfr l c gg ee hb =>
    hfr.block gg (hr1.toMemR.blk_lt ee hb) fun hh => hne gg hh l c ee hb
  have hfr2 : ∀ {w'}, Fr w (fun i => (G.ρ q).ownBlock = some i) w' → Fr C.w0 C.M w' := fun hfr => hr.fr.trans hfr fun i hi => .inr (hbase i hi)
  cases b with
  | true =>
    refine ⟨_, _, h3, fun K Q hK => wp_enter hrun (hcalls.mono fun e w' ⟨v, he, hfr, hrow', hone', hown, _⟩ => ⟨v, he, hK _ _ ⟨G.with d (fun _ => 0) (fun _ => v) G.F, ?_⟩⟩)⟩
    have hρ : (G.with d (fun _ => 0) (fun _ => v) G.F).ρ (d, 0) = v := by simp [Gh.with]
    have h4 : Rel C (G.with d (fun _ => 0) (fun _ => v) G.F) (app look [(.at (.row q), none)]) a w' := hr1.frame ⟨hstep0 hfr, fun _ h => h⟩ (hsame hfr) (Gh.with_ne hf1) hr1.cold
      (fun b hb => Nat.lt_of_lt_of_le (hr.Flt b hb) hfr.size) (hfr2 hfr) (fun _ hb => .inl hb) (fun i => if_neg (Nat.ne_of_gt hd))
    have h5 := h4.newRow (d := d) hd (r := ⟨r.e, r.sz, true, es'⟩) rfl (by rw [hρ]; exact hrow'.gh rfl) (by rw [hρ]; exact hone') (fun gg hg => by
      rw [hρ] at hg
      refine ⟨hbase gg (hown gg hg), hcold gg (hown gg hg), fun l c ee hb => ?_⟩
      rw [Gh.blk_eq (G := G) fun k hk' => Gh.with_ne hf1 _ _ ee k (.inl hk')] at hb
      exact hne gg (hown gg hg) l c ee hb)
    rw [hρ] at h5
    rw [hdst, app_row]
    exact h5
  | false =>
    refine ⟨_, _, h3, fun K Q hK => wp_enter hrun (hcalls.mono fun e w' ⟨v, he, hfr, hrow', hone', hown, hv0⟩ => ⟨.tuple #[], he, hK _ _ ⟨G, ?_⟩⟩)⟩
    obtain rfl := hv0 rfl
    have h4 : Rel C G (app look [(.at (.row q), none)]) a w' := hr1.frame ⟨hstep0 hfr, fun _ h => h⟩ (hsame hfr) (fun _ _ _ _ _ => ⟨rfl, rfl⟩) hr1.cold
      (fun b hb => Nat.lt_of_lt_of_le (hr.Flt b hb) hfr.size) (hfr2 hfr) (fun _ hb => .inl hb) (fun i => rfl)
    have h5 := h4.reRow (r := ⟨r.e, r.sz, true, es'⟩) rfl (hrow'.gh rfl) (fun gg hg => ⟨hbase gg hg, hcold gg hg, hne gg hg⟩)
    have h6 := h5.put (d := d) (v := .tuple #[]) (s := .tup []) (Nat.lt_of_lt_of_le hd hr.size) ⟨[], rfl, trivial⟩
    rw [hdst]
    refine h6.less fun l c ee => ?_
    simp only [app, Dl.look, Pat.hits] at ee
    unfold setS
    cases hb : (Loc.slot d).beq l with
    | true =>
      rw [hb] at ee
      simpa using ee
    | false =>
      rw [hb] at ee
      simpa [app, Dl.look, Pat.hits] using ee

theorem op_anycall (hr : Rel C G look a w) {o : Oper} {d : Nat} (hdst : o.dst = some d) (hd : d < C.n) (hf : Fresh d look) {c : Call} (ho : o.op = .call c) {x : Operand} (hc : c.callee = .value x) {g : FuncId} {caps : List (Key × Nat)}
    (hx : LfR G w (a.eval x) (.fn g caps)) {k : Dl → List Loc → Prop} (h : anyCallW P g c.args.toList caps d look k) : OpOk P C o look a w k := by
  rcases h with h | ⟨rfl, h⟩
  · exact op_call hr hdst hd hf ho hc hx h
  · exact op_rowcall hr hdst hd hf ho hc hx h
end
end Go.Proofs.YtccbimcikbbecaaGreat.P1
/- Every operation; states that are brought up to date; one operation of a region with its guard. -/
namespace Go.Proofs.YtccbimcikbbecaaGreat.P1
open Go

/-- Operations that make memory. -/
def makes : Op → Bool
  | .alloc _ | .box _ _ | .buildSlice _ _ _ | .makeSlice _ _ _ => true
  | .call c => match c.callee with
    | .builtin .append | .value _ => true
    | _ => false
  | _ => false

section
variable {P : Program} {T : TI} {C : Cx} {G : Gh} {look look' : Loc → Option Cell} {a : Act} {w w' : World}

theorem op_sound (hT : TOk P T) {o : Oper} (hc : convOk P o) (hr : Rel C G look a w) (hd : ∀ d, o.dst = some d → d < C.n) (hf : makes o.op = true → ∀ d, o.dst = some d → Fresh d look)
    {k : Dl → List Loc → Prop} (h : opW P T o look k) : OpOk P C o look a w k := by
  have h0 := h
  unfold opW at h
  split at h
  · rename_i t ho
    exact op_alloc hT hr hd (hf (by simp [ho, makes])) ho h0
  · rename_i t x ho
    exact op_box hr hd (hf (by simp [ho, makes])) ho h0
  · rename_i t len parts ho
    exact op_buildSlice hT hr hd (hf (by simp [ho, makes])) ho h0
  · rename_i t l c ho
    exact op_makeSlice hT hr hd (hf (by simp [ho, makes])) ho h0
  · rename_i t x v ho
    exact op_store hT hr ho h0
  · rename_i c ho
    split at h
    · rename_i hcal
      split at h
      · rename_i d s x t t' hdst hargs hts
        split at h
        · rename_i hb
          have : t = t' := Nat.eq_of_beq_eq_true hb
          subst this
          exact op_append hT hr hdst (hd d hdst) (hf (by simp [ho, makes, hcal]) d hdst) ho hcal (Array.toList_inj.1 (by simpa using hargs)) (Array.toList_inj.1 (by simpa using hts)) h
        · exact h.elim
      · exact h.elim
    · rename_i b hna hcal
      exact op_val hT hr hd (fun s R hk => hk) (blt_sound hT hr ho hcal h)
    · rename_i f hcal
      split at h
      · rename_i d hdst
        obtain ⟨s, R, h1, h2⟩ := rdS_sound hr h
        split at h1
        · obtain ⟨D, R', h3, h4⟩ := op_anycall hr hdst (hd d hdst) (hf (by simp [ho, makes, hcal]) d hdst) ho hcal h2 h1
          exact ⟨D, _, h3, h4⟩
        · exact h1.elim
      · exact h.elim
    · exact h.elim
  · exact op_val hT hr hd (fun s R hk => hk) (valW_sound hT hr hc h)
end

/-! ### A state after a step -/
def hitBy : List Pat → Loc → Bool
  | [], _ => false
  | p :: ps, l => match p.hits l with
    | true => true
    | false => hitBy ps l
def St.upd1 : List Pat → Dl → St → St
  | _, [], σ => σ
  | ps, (p, c) :: r, σ => match p, c with
    | .at l, some c => match hitBy ps l with
      | true => St.upd1 (p :: ps) r σ
      | false => (l, c) :: St.upd1 (p :: ps) r σ
    | _, _ => St.upd1 (p :: ps) r σ
def Dl.hitAt : Dl → Loc → Bool
  | [], _ => false
  | p :: ps, l => match p.1.hits l with
    | true => true
    | false => Dl.hitAt ps l
def St.sweep (D : Dl) : St → St
  | [] => []
  | (l, c) :: r => match D.hitAt l with
    | true => St.sweep D r
    | false => (l, c) :: St.sweep D r
def St.upd (σ : St) (D : Dl) : St := St.upd1 [] D (σ.sweep D)
def Dl.ok : Dl → Bool
  | [] => true
  | (.box _, some _) :: _ => false
  | _ :: r => Dl.ok r

theorem look_none_of_hitAt {D : Dl} {l : Loc} (h : D.hitAt l = false) : D.look l = none := by
  induction D with
  | nil => rfl
  | cons p D ih =>
    obtain ⟨p, c⟩ := p
    simp only [Dl.hitAt] at h
    split at h
    · cases h
    · rename_i hp
      simp only [Dl.look, hp]
      exact ih h
theorem hitAt_of_look {D : Dl} {l : Loc} (h : D.hitAt l = true) : ∃ c, D.look l = some c := by
  induction D with
  | nil => cases h
  | cons p D ih =>
    obtain ⟨p, c⟩ := p
    simp only [Dl.hitAt] at h
    simp only [Dl.look]
    split at h
    · rename_i hp; simp [hp]
    · rename_i hp; simp only [hp]; exact ih h

theorem sweep_look {D : Dl} : ∀ (σ : St) (l : Loc), (σ.sweep D).look l = if D.hitAt l then none else σ.look l
  | [], l => by simp [St.sweep, St.look]
  | (l', c) :: r, l => by
    simp only [St.sweep]
    cases hh : D.hitAt l' with
    | true =>
      simp only [St.look, sweep_look r l]
      cases hl : l'.beq l with
      | true => have := Loc.beq_iff.1 hl; subst this; simp [hh]
      | false => rfl
    | false =>
      simp only [St.look, sweep_look r l]
      cases hl : l'.beq l with
      | true => have := Loc.beq_iff.1 hl; subst this; simp [hh]
      | false => rfl

theorem upd1_look : ∀ (D : Dl) (ps : List Pat) (σ : St) (l : Loc), Dl.ok D = true → (St.upd1 ps D σ).look l = match (if hitBy ps l then none else D.look l) with
    | some (some c) => some c
    | _ => σ.look l := by
  intro D
  induction D with
  | nil => intro ps σ l _; simp [St.upd1, Dl.look]
  | cons p D ih =>
    intro ps σ l hok
    obtain ⟨p, c⟩ := p
    have hok' : Dl.ok D = true := by cases p <;> cases c <;> simp_all [Dl.ok]
    have ih' := ih (p :: ps) σ l hok'
    cases p with
    | box b =>
      cases c with
      | some c => simp [Dl.ok] at hok
      | none =>
        simp only [St.upd1, Dl.look, hitBy] at ih' ⊢
        rw [ih']
        rcases Bool.eq_false_or_eq_true ((Pat.box b).hits l) with hp | hp <;> rcases Bool.eq_false_or_eq_true (hitBy ps l) with hs | hs <;> simp [hp, hs]
    | «at» l' =>
      cases c with
      | none =>
        simp only [St.upd1, Dl.look, hitBy] at ih' ⊢
        rw [ih']
        rcases Bool.eq_false_or_eq_true ((Pat.at l').hits l) with hp | hp <;> rcases Bool.eq_false_or_eq_true (hitBy ps l) with hs | hs <;> simp [hp, hs]
      | some c =>
        simp only [St.upd1, Dl.look]
        cases hs' : hitBy ps l' with
        | true =>
          simp only [hitBy] at ih' ⊢
          rw [ih']
          rcases Bool.eq_false_or_eq_true ((Pat.at l').hits l) with hp | hp
          · have := Loc.beq_iff.1 hp
            subst this
            simp [hp, hs']
          · rcases Bool.eq_false_or_eq_true (hitBy ps l) with hs | hs <;> simp [hp, hs]
        | false =>
          simp only [St.look, hitBy, Pat.hits] at ih' ⊢
          rw [ih']
          rcases Bool.eq_false_or_eq_true (l'.beq l) with hp | hp
          · have := Loc.beq_iff.1 hp
            subst this
            simp [hp, hs']
          · rcases Bool.eq_false_or_eq_true (hitBy ps l) with hs | hs <;> simp [hp, hs]

theorem upd_look {σ : St} {D : Dl} (h : Dl.ok D = true) : (σ.upd D).look = app σ.look D := by
  funext l
  simp only [St.upd, upd1_look D [] _ l h, hitBy, sweep_look, app]
  cases hh : D.hitAt l with
  | true =>
    obtain ⟨c, hc⟩ := hitAt_of_look hh
    rw [hc]
    cases c <;> simp
  | false =>
    rw [look_none_of_hitAt hh]
    simp

/-! ### Values that are brought to their heads -/
def Lf.nf (l : Lf) (k : Lf → Prop) : Prop := match l with
  | .av x => k (.av x)
  | .lit b => match b with
    | true => k (.lit true)
    | false => k (.lit false)
  | .nil => k .nil
  | .own q => k (.own q)
  | .ptr b j => k (.ptr b j)
  | .fptr ls => k (.fptr ls)
  | .optr q sz i j => k (.optr q sz i j)
  | .fn f cs => k (.fn f cs)
def Lf.nfL : List Lf → (List Lf → Prop) → Prop
  | [], k => k []
  | l :: ls, k => l.nf fun l => Lf.nfL ls fun ls => k (l :: ls)
mutual
def Sl.nf : Sl → (Sl → Prop) → Prop
  | .lf l, k => l.nf fun l => k (.lf l)
  | .agg ls, k => Lf.nfL ls fun ls => k (.agg ls)
  | .tup ss, k => Sl.nfL ss fun ss => k (.tup ss)
def Sl.nfL : List Sl → (List Sl → Prop) → Prop
  | [], k => k []
  | s :: ss, k => s.nf fun s => Sl.nfL ss fun ss => k (s :: ss)
end
def Cell.nf (c : Cell) (k : Cell → Prop) : Prop := match c with
  | .s x => x.nf fun x => k (.s x)
  | .l x => x.nf fun x => k (.l x)
  | .r x => match x with
    | ⟨e, sz, hot, es⟩ => match hot with
      | true => k (.r ⟨e, sz, true, es⟩)
      | false => k (.r ⟨e, sz, false, es⟩)
def Loc.nf (l : Loc) (k : Loc → Prop) : Prop := match l with
  | .slot t => k (.slot t)
  | .leaf (a, b) j => k (.leaf (a, b) j)
  | .row (a, b) => k (.row (a, b))
def St.nf : St → (St → Prop) → Prop
  | [], k => k []
  | (l, c) :: r, k => l.nf fun l => c.nf fun c => St.nf r fun r => k ((l, c) :: r)

theorem Lf.nf_eq {l : Lf} {k : Lf → Prop} : l.nf k = k l := by
  cases l <;> try rfl
  rename_i b; cases b <;> rfl
theorem Lf.nfL_eq : ∀ {l : List Lf} {k : List Lf → Prop}, Lf.nfL l k = k l
  | [], _ => rfl
  | _ :: _, _ => by simp only [Lf.nfL, Lf.nf_eq, Lf.nfL_eq]
mutual
theorem Sl.nf_eq : ∀ {s : Sl} {k : Sl → Prop}, s.nf k = k s
  | .lf _, _ => by simp only [Sl.nf, Lf.nf_eq]
  | .agg _, _ => by simp only [Sl.nf, Lf.nfL_eq]
  | .tup _, _ => by simp only [Sl.nf]; exact Sl.nfL_eq
theorem Sl.nfL_eq : ∀ {s : List Sl} {k : List Sl → Prop}, Sl.nfL s k = k s
  | [], _ => by simp only [Sl.nfL]
  | s :: ss, k => by
    simp only [Sl.nfL]
    rw [Sl.nf_eq (s := s)]
    exact Sl.nfL_eq
end
theorem Cell.nf_eq {c : Cell} {k : Cell → Prop} : c.nf k = k c := by
  cases c with
  | s x => simp only [Cell.nf, Sl.nf_eq]
  | l x => simp only [Cell.nf, Lf.nf_eq]
  | r x =>
    obtain ⟨e, sz, hot, es⟩ := x
    cases hot <;> rfl
theorem Loc.nf_eq {l : Loc} {k : Loc → Prop} : l.nf k = k l := by
  cases l <;> rfl
theorem St.nf_eq : ∀ {σ : St} {k : St → Prop}, σ.nf k = k σ
  | [], _ => rfl
  | (l, c) :: r, k => by simp only [St.nf, Loc.nf_eq, Cell.nf_eq, St.nf_eq]

def Pat.nf (p : Pat) (k : Pat → Prop) : Prop := match p with
  | .at l => l.nf fun l => k (.at l)
  | .box (a, b) => k (.box (a, b))
def Dl.nf : Dl → (Dl → Prop) → Prop
  | [], k => k []
  | (p, none) :: r, k => p.nf fun p => Dl.nf r fun r => k ((p, none) :: r)
  | (p, some c) :: r, k => p.nf fun p => c.nf fun c => Dl.nf r fun r => k ((p, some c) :: r)
def Loc.nfL : List Loc → (List Loc → Prop) → Prop
  | [], k => k []
  | l :: r, k => l.nf fun l => Loc.nfL r fun r => k (l :: r)
theorem Pat.nf_eq {p : Pat} {k : Pat → Prop} : p.nf k = k p := by
  cases p
  · simp only [Pat.nf, Loc.nf_eq]
  · rfl
theorem Dl.nf_eq : ∀ {D : Dl} {k : Dl → Prop}, Dl.nf D k = k D
  | [], _ => rfl
  | (p, none) :: r, k => by simp only [Dl.nf, Pat.nf_eq, Dl.nf_eq]
  | (p, some c) :: r, k => by simp only [Dl.nf, Pat.nf_eq, Cell.nf_eq, Dl.nf_eq]
theorem Loc.nfL_eq : ∀ {l : List Loc} {k : List Loc → Prop}, Loc.nfL l k = k l
  | [], _ => rfl
  | _ :: _, _ => by simp only [Loc.nfL, Loc.nf_eq, Loc.nfL_eq]


/-! ### A state brought up to date, forced -/
def St.sweepK (D : Dl) : St → (St → Prop) → Prop
  | [], k => k []
  | (l, c) :: r, k => match D.hitAt l with
    | true => St.sweepK D r k
    | false => St.sweepK D r fun r' => k ((l, c) :: r')
def St.upd1K : List Pat → Dl → St → (St → Prop) → Prop
  | _, [], σ, k => k σ
  | ps, (p, c) :: r, σ, k => match p, c with
    | .at l, some c => match hitBy ps l with
      | true => St.upd1K (p :: ps) r σ k
      | false => St.upd1K (p :: ps) r σ fun σ' => k ((l, c) :: σ')
    | _, _ => St.upd1K (p :: ps) r σ k
def St.updK (σ : St) (D : Dl) (k : St → Prop) : Prop := σ.sweepK D fun σ => St.upd1K [] D σ k
theorem St.sweepK_eq {D : Dl} : ∀ {σ : St} {k : St → Prop}, σ.sweepK D k = k (σ.sweep D)
  | [], _ => rfl
  | (l, c) :: r, k => by
    simp only [St.sweepK, St.sweep]
    cases D.hitAt l <;> simp only [St.sweepK_eq (σ := r)]
theorem St.upd1K_eq : ∀ {D : Dl} {ps : List Pat} {σ : St} {k : St → Prop}, St.upd1K ps D σ k = k (St.upd1 ps D σ)
  | [], _, _, _ => rfl
  | (p, c) :: D, ps, σ, k => by
    cases p <;> cases c <;> simp only [St.upd1K, St.upd1, St.upd1K_eq (D := D)]
    split <;> rfl
theorem St.updK_eq {σ : St} {D : Dl} {k : St → Prop} : σ.updK D k = k (σ.upd D) := by
  simp only [St.updK, St.upd, St.sweepK_eq, St.upd1K_eq]

/-! ### One operation of a region -/
def gslot (ops : List Oper) (g : Nat) : Option Nat := match ops[g]? with
  | some o => o.dst
  | none => none
/-- A bool that guards is split: each way is gone alone. -/
def lits (D : Dl) (k : Dl → Prop) : Prop := match D with
  | [(.at (.slot d), some (.s (.lf (.av (.bool b)))))] => (b = true → k [(.at (.slot d), some (.s (.lf (.lit true))))]) ∧ (b = false → k [(.at (.slot d), some (.s (.lf (.lit false))))])
  | D => k D

def skipD (d : Option Nat) : Dl := match d with
  | some d => [(.at (.slot d), some (.s (.tup [])))]
  | none => []

def guardW (ops : List Oper) (o : Oper) (look : Loc → Option Cell) (k : Bool → List Loc → Prop) : Prop := match o.guard with
  | none => k true []
  | some (g, want) => match gslot ops g with
    | some t => match look (.slot t) with
      | some (.s (.lf (.lit b))) => match b, want with
        | true, true => k true [.slot t]
        | false, false => k true [.slot t]
        | _, _ => k false [.slot t]
      | some (.s (.tup [])) => k false [.slot t]
      | _ => False
    | none => False

def stepB (P : Program) (T : TI) (ops : List Oper) (gd : Bool) (o : Oper) (look : Loc → Option Cell) (k : Dl → List Loc → Prop) : Prop :=
  guardW ops o look fun b R => match b with
    | true => opW P T o look fun D R' => match gd with
      | true => lits D fun D => k D (R ++ R')
      | false => k D (R ++ R')
    | false => k (skipD o.dst) R

def mkOf (o : Oper) : Option Nat := match makes o.op with
  | true => o.dst
  | false => none
def freshD (d : Option Nat) (σ : St) : Bool := match d with
  | some d => σ.fresh d
  | none => true

def stepW (P : Program) (T : TI) (ops : List Oper) (gd : Bool) (o : Oper) (σ : St) (k : Dl → List Loc → Prop) : Prop :=
  match freshD (mkOf o) σ with
  | true => stepB P T ops gd o σ.look k
  | false => False

/-- Of each step: is it a guard; how far before it the steps lie that are not ordered with it (0: the one before). -/
abbrev Hs := List (Bool × List Nat)

/-- A test of a slice against nil. -/
def nilT (T : TI) (o : Oper) : Option (Nat × Operand) := match o.op with
  | .binOp .eql t x (.const (.slice none 0 0)) _ => match o.guard, o.dst, T t with
    | none, some d, some td => match td.k with
      | .slice _ => some (d, x)
      | _ => none
    | _, _, _ => none
  | _ => none
def nilW (look : Loc → Option Cell) (d : Nat) (x : Operand) (k : Dl → Prop) : Prop := rdS look x fun s _ => match s with
  | .lf (.av (.row es)) => ∀ b : Bool, (es ≠ [] → b = false) → k [(.at (.slot d), some (.s (.lf (.av (.bool b)))))]
  | .lf .nil => k [(.at (.slot d), some (.s (.lf (.lit true))))]
  | _ => False
def seqStep (P : Program) (T : TI) (ops : List Oper) (gd : Bool) (o : Oper) (σ : St) (k : Dl → Prop) : Prop := match nilT T o with
  | some (d, x) => nilW σ.look d x k
  | none => stepW P T ops gd o σ fun D _ => k D

def seqW (P : Program) (T : TI) (ops : List Oper) : List Oper → Hs → St → (St → Prop) → Prop
  | [], _, σ, k => k σ
  | o :: r, [], σ, k => seqStep P T ops false o σ fun D => match Dl.ok D with
    | true => Dl.nf D fun D => σ.updK D fun σ => seqW P T ops r [] σ k
    | false => False
  | o :: r, (gd, _) :: A, σ, k => seqStep P T ops gd o σ fun D => match Dl.ok D with
    | true => Dl.nf D fun D => σ.updK D fun σ => seqW P T ops r A σ k
    | false => False

section
variable {P : Program} {T : TI} {C : Cx} {G : Gh} {look look' : Loc → Option Cell} {a : Act} {w w' : World}

open Classical in
theorem rel_toD {d : Nat} {s s' : Sl} (h : RelE C (app look [(.at (.slot d), some (.s s))]) a w) (hs : ∀ (G : Gh) (u : Value), SlR G w u s → SlR G w u s') : RelE C (app look [(.at (.slot d), some (.s s'))]) a w := by
  obtain ⟨G, h⟩ := h
  have key : ∀ (x : Sl) (l : Loc), app look [(.at (.slot d), some (.s x))] l = if Loc.slot d = l then some (.s x) else look l := by
    intro x l
    simp only [app, Dl.look, Pat.hits]
    by_cases e : Loc.slot d = l
    · subst e; simp [Loc.beq_self]
    · simp [Loc.beq_ne e, e]
  have back : ∀ l c, app look [(.at (.slot d), some (.s s'))] l = some c → (∀ t, l ≠ .slot t) → app look [(.at (.slot d), some (.s s))] l = some c := by
    intro l c e hn
    rw [key] at e ⊢
    rw [if_neg (fun he => hn d he.symm)] at e ⊢
    exact e
  have nblk : ∀ l c g, G.blk l c = some g → ∀ t, l ≠ .slot t := by
    intro l c g e t ht
    subst ht
    simp [Gh.blk] at e
  exact ⟨G, {
    leaf := fun b j l e => h.leaf b j l (back _ _ e (by intro t ht; cases ht))
    row := fun k r e => h.row k r (back _ _ e (by intro t ht; cases ht))
    sep := fun l l' c c' g e e' hg hg' => h.sep l l' c c' g (back _ _ e (nblk _ _ _ hg)) (back _ _ e' (nblk _ _ _ hg')) hg hg'
    cold := fun l c g e hg => h.cold l c g (back _ _ e (nblk _ _ _ hg)) hg
    Flt := h.Flt
    slot := fun t x e => by
      rw [key] at e
      split at e
      · rename_i hd
        cases hd; cases e
        have := h.slot d s (by rw [key, if_pos rfl])
        exact ⟨this.1, hs G _ this.2⟩
      · rename_i hd
        exact h.slot t x (by rw [key, if_neg hd]; exact e)
    mine := fun l c g e hg => h.mine l c g (back _ _ e (nblk _ _ _ hg)) hg
    fr := h.fr
    F0 := h.F0
    Fnew := h.Fnew
    defers := h.defers
    size := h.size
    pin := h.pin }⟩

theorem lits_sound {D : Dl} {k : Dl → Prop} (h : lits D k) : ∃ D', k D' ∧ ∀ (C : Cx) (look : Loc → Option Cell) a w, RelE C (app look D) a w → RelE C (app look D') a w := by
  unfold lits at h
  split at h
  · rename_i d b
    cases hb : b with
    | true =>
      refine ⟨_, h.1 hb, fun C look a w hr => rel_toD hr fun G u hu => ?_⟩
      simp only [SlR, LfR] at hu ⊢
      cases hu; rfl
    | false =>
      refine ⟨_, h.2 hb, fun C look a w hr => rel_toD hr fun G u hu => ?_⟩
      simp only [SlR, LfR] at hu ⊢
      cases hu; rfl
  · exact ⟨_, h, fun _ _ _ _ h => h⟩

theorem guardW_sound {ops : Array Oper} {o : Oper} (hr : Rel C G look a w) {k : Bool → List Loc → Prop} (h : guardW ops.toList o look k) : ∃ b R, k b R ∧ Region.wanted o (yielded ops a.tmps) = b := by
  unfold guardW at h
  unfold Region.wanted
  split at h
  · rename_i hg
    exact ⟨_, _, h, by simp [hg]⟩
  · rename_i g want hg
    simp only [hg]
    split at h
    · rename_i t ht
      have hy : yielded ops a.tmps g = match a.tmps[t]? with | some (.bool b) => some b | _ => none := by
        unfold yielded
        unfold gslot at ht
        split at ht
        · rename_i og hog
          simp only [Array.getElem?_toList] at hog
          simp only [hog, Option.bind_some, ht]
          rfl
        · cases ht
      split at h
      · rename_i b hs
        obtain ⟨hlt, hv⟩ := hr.slot _ _ hs
        simp only [SlR, LfR] at hv
        have : a.tmps[t]? = some (.bool b) := by
          rw [Array.getElem?_eq_getElem hlt]
          simp only [Array.getD_eq_getD_getElem?, Array.getElem?_eq_getElem hlt, Option.getD_some] at hv
          rw [hv]
        rw [hy, this]
        split at h
        · exact ⟨_, _, h, by simp⟩
        · exact ⟨_, _, h, by simp⟩
        · rename_i h1 h2
          refine ⟨_, _, h, ?_⟩
          cases b <;> cases want <;> simp_all
      · rename_i hs
        obtain ⟨hlt, us, hv, hu⟩ := hr.slot _ _ hs
        have : a.tmps[t]? = some (.tuple us.toArray) := by
          rw [Array.getElem?_eq_getElem hlt]
          simp only [Array.getD_eq_getD_getElem?, Array.getElem?_eq_getElem hlt, Option.getD_some] at hv
          rw [hv]
        rw [hy, this]
        exact ⟨_, _, h, by simp⟩
      · exact h.elim
    · exact h.elim

/-- What a step of a region does. -/
def StepOk (P : Program) (C : Cx) (ops : Array Oper) (o : Oper) (look : Loc → Option Cell) (a : Act) (w : World) (k : Dl → List Loc → Prop) : Prop :=
  ∃ D R, k D R ∧ ∀ (K : Act → World → Prop) (Q : Exit → Act → World → Prop), (∀ a' w', RelE C (app look D) a' w' → K a' w') →
    if Region.wanted o (yielded ops a.tmps) then o.wp P a w K Q else K (a.put o.dst undef) w

theorem stepB_sound (hT : TOk P T) {ops : Array Oper} {o : Oper} (hc : convOk P o) (hr : Rel C G look a w) (hd : ∀ d, o.dst = some d → d < C.n) (hf : ∀ d, mkOf o = some d → Fresh d look)
    {k : Dl → List Loc → Prop} {gd : Bool} (h : stepB P T ops.toList gd o look k) : StepOk P C ops o look a w k := by
  obtain ⟨b, R, h1, h2⟩ := guardW_sound hr h
  cases b with
  | false =>
    refine ⟨_, _, h1, fun K Q hK => ?_⟩
    rw [h2]
    simp only [Bool.false_eq_true, if_false]
    refine hK _ _ ⟨G, ?_⟩
    cases hdst : o.dst with
    | none => exact hr
    | some d =>
      have := hr.toD (o := o) hd (u := undef) (s := .tup []) ⟨[], rfl, trivial⟩
      rw [hdst] at this
      exact this
  | true =>
    obtain ⟨D, R', h3, h4⟩ := op_sound hT hc hr hd (fun hm d hd => hf d (by simp only [mkOf, hm]; exact hd)) h1
    cases gd with
    | false =>
      refine ⟨_, _, h3, fun K Q hK => ?_⟩
      rw [h2]
      simp only [if_true]
      exact h4 K Q hK
    | true =>
      obtain ⟨D', h5, h6⟩ := lits_sound h3
      refine ⟨_, _, h5, fun K Q hK => ?_⟩
      rw [h2]
      simp only [if_true]
      exact h4 K Q fun a' w' hh => hK a' w' (h6 _ _ _ _ hh)

theorem freshD_sound {d : Option Nat} {σ : St} (h : freshD d σ = true) : ∀ d', d = some d' → Fresh d' σ.look := by
  rintro d' rfl
  exact St.fresh_sound h

/-- What is checked of each operation, once for all. -/
def operOk (P : Program) (n : Nat) (o : Oper) : Bool :=
  (match o.dst with | some d => Nat.blt d n | none => true) && (match o.op with | .convert src _ _ => (P.underlying src).isSome | _ => true)
theorem operOk_dst {n : Nat} {o : Oper} (h : operOk P n o = true) : ∀ d, o.dst = some d → d < n := by
  intro d hd
  simp only [operOk, hd, Bool.and_eq_true] at h
  exact Nat.le_of_ble_eq_true h.1
theorem operOk_conv {n : Nat} {o : Oper} (h : operOk P n o = true) : convOk P o := by
  intro src dst x ho
  simp only [operOk, ho, Bool.and_eq_true] at h
  exact Option.isSome_iff_exists.1 h.2

theorem nilT_spec {o : Oper} {d : Nat} {x : Operand} (h : nilT T o = some (d, x)) : ∃ t yt td e, o.op = .binOp .eql t x (.const (.slice none 0 0)) yt ∧ o.guard = none ∧ o.dst = some d ∧ T t = some td ∧ td.k = .slice e := by
  unfold nilT at h
  split at h
  · rename_i t x' yt ho
    split at h
    · rename_i d' td hg hd ht
      split at h
      · rename_i e hk
        cases h
        exact ⟨t, yt, td, e, ho, hg, hd, ht, hk⟩
      · cases h
    · cases h
  · cases h

theorem seqStep_sound (hT : TOk P T) {ops : Array Oper} {gd : Bool} {o : Oper} {σ : St} (hok : operOk P C.n o = true) (hr : RelE C σ.look a w) {k : Dl → Prop} (h : seqStep P T ops.toList gd o σ k) :
    ∃ D, k D ∧ ∀ (K : Act → World → Prop) (Q : Exit → Act → World → Prop), (∀ a' w', RelE C (app σ.look D) a' w' → K a' w') → if Region.wanted o (yielded ops a.tmps) then o.wp P a w K Q else K (a.put o.dst undef) w := by
  obtain ⟨G, hr⟩ := hr
  unfold seqStep at h
  split at h
  · rename_i d x hn
    obtain ⟨t, yt, td, e, ho, hg, hd, ht, hk⟩ := nilT_spec hn
    have hf := hT.facts ht
    have hu := hf.rSlice hk
    obtain ⟨s, R, h1, hs⟩ := rdS_sound hr (show rdS σ.look x _ from h)
    have hw : Region.wanted o (yielded ops a.tmps) = true := by simp [Region.wanted, hg]
    have hrun : ∀ A n c, a.eval x = .slice A n c → (execOp a.eval o).run P w = .ok (.value (.bool A.isNone)) w := fun A n c hx => by
      have hc : a.eval (.const (.slice none 0 0)) = .slice none 0 0 := rfl
      simp [execOp, ho, hx, hc, eqGuard_at_slice, run_eql_slice_nil w t e A n c hu]
    split at h1
    · rename_i es
      have hs : Rd w G.F (a.eval x) (.row es) := hs
      have hex : ∃ A n c, a.eval x = .slice A n c ∧ (es ≠ [] → A.isNone = false) := by
        generalize a.eval x = u at hs
        cases hs with
        | emp hA => exact ⟨_, _, _, rfl, fun h => absurd rfl h⟩
        | row => exact ⟨_, _, _, rfl, fun _ => rfl⟩
      obtain ⟨A, n, c, hx, hne⟩ := hex
      refine ⟨_, h1 A.isNone hne, fun K Q hK => ?_⟩
      rw [if_pos hw]
      refine wp_value (hrun A n c hx) (hK _ _ ⟨G, ?_⟩)
      have := hr.toD (o := o) (operOk_dst hok) (u := .bool A.isNone) (s := .lf (.av (.bool A.isNone))) Rd.bool
      rw [hd] at this ⊢
      exact this
    · have hs : a.eval x = .slice none 0 0 := hs
      refine ⟨_, h1, fun K Q hK => ?_⟩
      rw [if_pos hw]
      refine wp_value (hrun none 0 0 hs) (hK _ _ ⟨G, ?_⟩)
      have := hr.toD (o := o) (operOk_dst hok) (u := .bool true) (s := .lf (.lit true)) rfl
      rw [hd] at this ⊢
      exact this
    · exact h1.elim
  · simp only [stepW] at h
    split at h
    · rename_i hfr
      obtain ⟨D, R, h1, h2⟩ := stepB_sound hT (operOk_conv hok) hr (operOk_dst hok) (freshD_sound hfr) h
      exact ⟨D, h1, h2⟩
    · exact h.elim

theorem seqW_sound (hT : TOk P T) {ops : Array Oper} {Q : Exit → Act → World → Prop} {k : St → Prop} (hQ : ∀ σ a w, k σ → RelE C σ.look a w → Q .normal a w) :
    ∀ (l : List Oper) (A : Hs) (i : Nat) (σ : St) (a : Act) (w : World), (∀ j o, l[j]? = some o → ops[i + j]? = some o ∧ operOk P C.n o = true) → RelE C σ.look a w → seqW P T ops.toList l A σ k → wpOps P ops Q (List.range' i l.length) a w
  | [], A, i, σ, a, w, _, hr, h => hQ _ _ _ (by simpa [seqW] using h) hr
  | o :: r, A, i, σ, a, w, hl, hr, h => by
    obtain ⟨ho, hok⟩ := hl 0 o (by simp)
    simp only [Nat.add_zero] at ho
    simp only [List.length_cons, List.range'_succ, wpOps, ho]
    have h0 : ∃ gd A', seqStep P T ops.toList gd o σ fun D => match Dl.ok D with
        | true => seqW P T ops.toList r A' (σ.upd D) k
        | false => False := by
      cases A with
      | nil => exact ⟨false, [], by simpa only [seqW, Dl.nf_eq, St.updK_eq] using h⟩
      | cons g A => exact ⟨g.1, A, by obtain ⟨g, x⟩ := g; simpa only [seqW, Dl.nf_eq, St.updK_eq] using h⟩
    clear h
    obtain ⟨gd, A', h⟩ := h0
    obtain ⟨D, h1, h2⟩ := seqStep_sound hT hok hr h
    split at h1
    · rename_i hD
      have ih : ∀ a' w', RelE C (app σ.look D) a' w' → wpOps P ops Q (List.range' (i + 1) r.length) a' w' := fun a' w' hr' =>
        seqW_sound hT hQ r A' (i + 1) (σ.upd D) a' w' (fun j o' hj => by have := hl (j + 1) o' (by simpa using hj); rwa [show i + 1 + j = i + (j + 1) by omega]) (by rw [upd_look hD]; exact hr') h1
      have := h2 _ Q ih
      split
      · rename_i hw; rw [if_pos hw] at this; exact .inl this
      · rename_i hw; rw [if_neg hw] at this; exact this
    · exact h1.elim

theorem lits_loc {D : Dl} {k : Dl → Prop} (h : lits D k) : ∃ D', k D' ∧ ∀ k' : Dl → Prop, k' D' → lits D k' := by
  unfold lits at h
  split at h
  · rename_i d b
    cases hb : b with
    | true => exact ⟨_, h.1 hb, fun k' hk => by simp only [lits]; exact ⟨fun _ => hk, (fun h => by cases h)⟩⟩
    | false => exact ⟨_, h.2 hb, fun k' hk => by simp only [lits]; exact ⟨(fun h => by cases h), fun _ => hk⟩⟩
  · rename_i hn
    refine ⟨_, h, fun k' hk => ?_⟩
    unfold lits
    split
    · exact (hn _ _ rfl).elim
    · exact hk

theorem guardW_loc {ops : List Oper} {o : Oper} {k : Bool → List Loc → Prop} (h : guardW ops o look k) : ∃ b R, k b R ∧ ∀ look', Ag look' look R → ∀ k' : Bool → List Loc → Prop, k' b R → guardW ops o look' k' := by
  unfold guardW at h
  split at h
  · rename_i hg
    exact ⟨_, _, h, fun look' ha k' hk => by simp only [guardW, hg]; exact hk⟩
  · rename_i g want hg
    split at h
    · rename_i t ht
      split at h
      · rename_i b hs
        split at h
        · exact ⟨_, _, h, fun look' ha k' hk => by simp only [guardW, hg, ht, ha.head, hs]; exact hk⟩
        · exact ⟨_, _, h, fun look' ha k' hk => by simp only [guardW, hg, ht, ha.head, hs]; exact hk⟩
        · rename_i h1 h2
          refine ⟨_, _, h, fun look' ha k' hk => ?_⟩
          simp only [guardW, hg, ht, ha.head, hs]
          exact hk
      · rename_i hs
        exact ⟨_, _, h, fun look' ha k' hk => by simp only [guardW, hg, ht, ha.head, hs]; exact hk⟩
      · exact h.elim
    · exact h.elim

theorem stepB_loc {ops : List Oper} {gd : Bool} {o : Oper} {k : Dl → List Loc → Prop} (h : stepB P T ops gd o look k) : LocD (fun look k => stepB P T ops gd o look k) look k := by
  unfold stepB at h
  obtain ⟨b, R, h1, h2⟩ := guardW_loc h
  cases b with
  | false => exact ⟨_, _, h1, fun look' ha k' hk => by simp only [stepB]; exact h2 look' ha _ hk⟩
  | true =>
    obtain ⟨D, R', h3, h4⟩ := opW_loc h1
    cases gd with
    | false => exact ⟨_, _, h3, fun look' ha k' hk => by simp only [stepB]; exact h2 look' ha.left _ (h4 look' ha.right _ hk)⟩
    | true =>
      obtain ⟨D', h5, h6⟩ := lits_loc h3
      exact ⟨_, _, h5, fun look' ha k' hk => by simp only [stepB]; exact h2 look' ha.left _ (h4 look' ha.right _ (h6 _ hk))⟩
end
end Go.Proofs.YtccbimcikbbecaaGreat.P1
/- Regions that draw their order: any order ends in the same state. -/
namespace Go.Proofs.YtccbimcikbbecaaGreat.P1
open Go

/-! ### Who must come first -/
inductive Anc (ops : Array Oper) (j : Nat) : Nat → Prop
  | one {i o e} (ho : ops[i]? = some o) (he : e ∈ o.after) (hb : Region.binds .any e = true) (hj : e.on = j) : Anc ops j i
  | more {i o e} (ho : ops[i]? = some o) (he : e ∈ o.after) (hb : Region.binds .any e = true) (h : Anc ops j e.on) : Anc ops j i

def emask (ms : List Nat) : List Edge → Nat
  | [] => 0
  | e :: r => match Region.binds .any e with
    | true => (2 ^ e.on ||| ms.getD e.on 0) ||| emask ms r
    | false => emask ms r
def masks : List Oper → List Nat → List Nat
  | [], ms => ms
  | o :: r, ms => masks r (ms ++ [emask ms o.after.toList])
def backOk : List Oper → Nat → Bool
  | [], _ => true
  | o :: r, i => (o.after.toList.all fun e => !Region.binds .any e || Nat.blt e.on i) && backOk r (i + 1)
def unordAt (m : Nat) (js : List Nat) (i : Nat) : Bool := (List.range i).all fun j => m.testBit j || js.contains (i - 1 - j)
def unordOk (ops : List Oper) (A : Hs) : Bool :=
  backOk ops 0 && (List.range ops.length).all fun i => unordAt ((masks ops []).getD i 0) (A.getD i (false, [])).2 i

theorem emask_bit {ops : Array Oper} {ms : List Nat} {i j : Nat} {o : Oper} (ho : ops[i]? = some o) (hm : ∀ i j, (ms.getD i 0).testBit j = true → Anc ops j i) :
    ∀ (l : List Edge), (∀ e ∈ l, e ∈ o.after) → (emask ms l).testBit j = true → Anc ops j i
  | [], _, h => by simp [emask] at h
  | e :: r, hl, h => by
    simp only [emask] at h
    split at h
    · rename_i hb
      simp only [Nat.testBit_or, Bool.or_eq_true] at h
      rcases h with (h | h) | h
      · exact .one ho (hl e (.head _)) hb (by rw [Nat.testBit_two_pow] at h; simpa using h)
      · exact .more ho (hl e (.head _)) hb (hm _ _ h)
      · exact emask_bit ho hm r (fun e he => hl e (.tail _ he)) h
    · exact emask_bit ho hm r (fun e he => hl e (.tail _ he)) h

theorem masks_bit {ops : Array Oper} : ∀ (l : List Oper) (ms : List Nat), (∀ i o, l[i]? = some o → ops[ms.length + i]? = some o) → (∀ i j, (ms.getD i 0).testBit j = true → Anc ops j i) →
    ∀ i j, ((masks l ms).getD i 0).testBit j = true → Anc ops j i
  | [], ms, _, hm, i, j, h => hm i j h
  | o :: r, ms, hl, hm, i, j, h => by
    simp only [masks] at h
    refine masks_bit r _ (fun i o' ho => ?_) (fun i j hb => ?_) i j h
    · have := hl (i + 1) o' (by simpa using ho)
      simpa [Nat.add_assoc, Nat.add_comm 1 i] using this
    · simp only [List.getD_eq_getElem?_getD] at hb
      by_cases h1 : i < ms.length
      · rw [List.getElem?_append_left h1] at hb
        exact hm i j (by simpa [List.getD_eq_getElem?_getD] using hb)
      · rw [List.getElem?_append_right (by omega)] at hb
        by_cases h2 : i - ms.length = 0
        · have hi : i = ms.length := by omega
          subst hi
          simp at hb
          exact emask_bit (hl 0 o (by simp)) hm _ (fun e he => by simpa using he) hb
        · rw [List.getElem?_eq_none (by simp; omega)] at hb
          simp at hb

theorem unord_sound {ops : Array Oper} {A : Hs} (h : unordOk ops.toList A = true) {i j : Nat} (hi : i < ops.size) (hj : j < i) : Anc ops j i ∨ (i - 1 - j) ∈ (A.getD i (false, [])).2 := by
  simp only [unordOk, unordAt, Bool.and_eq_true, List.all_eq_true, List.mem_range, Bool.or_eq_true, List.contains_iff_mem] at h
  rcases h.2 i (by simpa using hi) j hj with h | h
  · exact .inl (masks_bit ops.toList [] (fun i o ho => by simpa using ho) (fun i j h => by simp at h) i j h)
  · exact .inr h

theorem back_sound {ops : Array Oper} : ∀ (l : List Oper) (n : Nat), (∀ i o, l[i]? = some o → ops[n + i]? = some o) → backOk l n = true → ∀ i o, l[i]? = some o → ∀ e ∈ o.after, Region.binds .any e = true → e.on < n + i
  | [], _, _, _, i, o, ho => by simp at ho
  | x :: r, n, hl, h, i, o, ho => by
    simp only [backOk, Bool.and_eq_true, List.all_eq_true] at h
    intro e he hb
    cases i with
    | zero =>
      simp at ho
      subst ho
      have := h.1 e (by simpa using he)
      simp only [hb, Bool.not_true, Bool.false_or] at this
      have := Nat.le_of_ble_eq_true this
      omega
    | succ i =>
      have := back_sound r (n + 1) (fun i o ho => by have := hl (i + 1) o (by simpa using ho); rwa [show n + 1 + i = n + (i + 1) by omega]) h.2 i o (by simpa using ho) e he hb
      omega

/-! ### What two steps must leave each other -/
def patMeet : Pat → Pat → Bool
  | .at l, p => p.hits l
  | .box b, .at l => (Pat.box b).hits l
  | .box b, .box b' => kbeq b b'
def patIn (p : Pat) : Dl → Bool
  | [] => false
  | q :: D => match patMeet p q.1 with
    | true => true
    | false => patIn p D
def meetW : Dl → Dl → Bool
  | [], _ => false
  | p :: D, D' => match patIn p.1 D' with
    | true => true
    | false => meetW D D'
def meetR (D : Dl) : List Loc → Bool
  | [] => false
  | l :: R => match D.hitAt l with
    | true => true
    | false => meetR D R

structure Ent where
  dk : Option Nat
  D : Dl
  R : List Loc
def Ent.fr (x y : Ent) : Bool := match x.dk with
  | some d => Dl.fresh d y.D
  | none => true
def pairOk (x y : Ent) : Bool := match meetW x.D y.D || meetR x.D y.R || meetR y.D x.R with
  | true => false
  | false => x.fr y
def nthE : List Ent → Nat → Option Ent
  | [], _ => none
  | x :: _, 0 => some x
  | _ :: r, n + 1 => nthE r n
theorem nthE_eq : ∀ {l : List Ent} {n : Nat}, nthE l n = l[n]?
  | [], _ => by simp [nthE]
  | _ :: _, 0 => by simp [nthE]
  | _ :: r, n + 1 => by simp [nthE, nthE_eq (l := r)]
def pairsOk (acc : List Ent) (y : Ent) : List Nat → Bool
  | [] => true
  | j :: js => match nthE acc j with
    | some x => match pairOk x y with
      | true => pairsOk acc y js
      | false => false
    | none => false
def freshAll1 (y : Ent) : List Ent → Bool
  | [] => true
  | x :: r => match y.fr x with
    | true => freshAll1 y r
    | false => false
def freshAll (y : Ent) (acc : List Ent) : Bool := match y.dk with
  | none => true
  | some _ => freshAll1 y acc
theorem patMeet_spec {p q : Pat} (h : patMeet p q = false) (l : Loc) : ¬ (p.hits l = true ∧ q.hits l = true) := by
  rintro ⟨h1, h2⟩
  cases p with
  | «at» l' =>
    have := Loc.beq_iff.1 h1
    subst this
    simp only [patMeet] at h
    rw [h] at h2; cases h2
  | box b =>
    cases q with
    | «at» l' =>
      have := Loc.beq_iff.1 h2
      subst this
      simp only [patMeet] at h
      rw [h] at h1; cases h1
    | box b' =>
      cases l with
      | leaf b'' j =>
        have h3 := kbeq_iff.1 h1
        have h4 := kbeq_iff.1 h2
        subst h3; subst h4
        simp only [patMeet] at h
        rw [kbeq_iff.2 rfl] at h; cases h
      | _ => simp [Pat.hits] at h1
theorem patIn_spec {p : Pat} : ∀ {D : Dl}, patIn p D = false → ∀ l, ¬ (p.hits l = true ∧ D.hitAt l = true)
  | [], _, l, h => by simp [Dl.hitAt] at h
  | q :: D, h, l, h1 => by
    simp only [patIn] at h
    split at h
    · cases h
    · rename_i hm
      simp only [Dl.hitAt] at h1
      by_cases hq : q.1.hits l = true
      · exact patMeet_spec hm l ⟨h1.1, hq⟩
      · simp only [Bool.not_eq_true] at hq
        simp only [hq] at h1
        exact patIn_spec h l h1
theorem meetW_spec : ∀ {D D' : Dl}, meetW D D' = false → ∀ l, ¬ (D.hitAt l = true ∧ D'.hitAt l = true)
  | [], _, _, l, h => by simp [Dl.hitAt] at h
  | p :: D, D', h, l, h1 => by
    simp only [meetW] at h
    split at h
    · cases h
    · rename_i hm
      simp only [Dl.hitAt] at h1
      by_cases hp : p.1.hits l = true
      · exact patIn_spec hm l ⟨hp, h1.2⟩
      · simp only [Bool.not_eq_true] at hp
        simp only [hp] at h1
        exact meetW_spec h l h1
theorem meetR_spec {D : Dl} : ∀ {R : List Loc}, meetR D R = false → ∀ l ∈ R, D.hitAt l = false
  | [], _, l, h => by cases h
  | x :: R, h, l, hl => by
    simp only [meetR] at h
    split at h
    · cases h
    · rename_i hx
      rcases List.mem_cons.1 hl with rfl | hl
      · exact hx
      · exact meetR_spec h l hl

theorem app_miss {look : Loc → Option Cell} {D : Dl} {l : Loc} (h : D.hitAt l = false) : app look D l = look l := by
  simp [app, look_none_of_hitAt h]
theorem app_hit {look look' : Loc → Option Cell} {D : Dl} {l : Loc} (h : D.hitAt l = true) : app look D l = app look' D l := by
  obtain ⟨c, hc⟩ := hitAt_of_look h
  simp [app, hc]
theorem app_comm {look : Loc → Option Cell} {D D' : Dl} (h : ∀ l, ¬ (D.hitAt l = true ∧ D'.hitAt l = true)) : app (app look D) D' = app (app look D') D := by
  funext l
  rcases Bool.eq_false_or_eq_true (D.hitAt l) with h1 | h1
  · have h2 : D'.hitAt l = false := by
      rcases Bool.eq_false_or_eq_true (D'.hitAt l) with h2 | h2
      · exact absurd ⟨h1, h2⟩ (h l)
      · exact h2
    rw [app_miss h2]
    exact app_hit h1
  · rw [app_miss (D := D) h1]
    rcases Bool.eq_false_or_eq_true (D'.hitAt l) with h2 | h2
    · exact app_hit h2
    · rw [app_miss h2, app_miss h2, app_miss h1]

/-! ### The state after some of the steps -/
def stS (look : Loc → Option Cell) (D : Nat → Dl) (m : Nat → Bool) : Nat → Loc → Option Cell
  | 0 => look
  | k + 1 => match m k with
    | true => app (stS look D m k) (D k)
    | false => stS look D m k

def setB (m : Nat → Bool) (i : Nat) (j : Nat) : Bool := if j = i then true else m j

section
variable {look : Loc → Option Cell} {D : Nat → Dl}

theorem stS_congr {m m' : Nat → Bool} : ∀ {k : Nat}, (∀ j, j < k → m j = m' j) → stS look D m k = stS look D m' k
  | 0, _ => rfl
  | k + 1, h => by
    simp only [stS, h k (by omega)]
    rw [stS_congr (k := k) fun j hj => h j (by omega)]

theorem stS_agree {R : List Loc} {i n : Nat} {m : Nat → Bool} (hi : i < n) (hm : m i = false)
    (h1 : ∀ j, j < i → m j = false → ∀ l ∈ R, (D j).hitAt l = false) (h2 : ∀ j, i < j → j < n → m j = true → ∀ l ∈ R, (D j).hitAt l = false) :
    ∀ l ∈ R, stS look D m n l = stS look D (fun _ => true) i l := by
  intro l hl
  have a : ∀ k, k ≤ i → stS look D m k l = stS look D (fun _ => true) k l := by
    intro k
    induction k with
    | zero => intro _; rfl
    | succ k ih =>
      intro hk
      have ih := ih (by omega)
      simp only [stS]
      cases hmk : m k with
      | true =>
        simp only
        rcases Bool.eq_false_or_eq_true ((D k).hitAt l) with h | h
        · exact app_hit h
        · rw [app_miss h, app_miss h, ih]
      | false =>
        simp only
        rw [app_miss (h1 k (by omega) hmk l hl), ih]
  have b : ∀ k, i ≤ k → k ≤ n → stS look D m k l = stS look D m i l := by
    intro k
    induction k with
    | zero => intro h _; rw [Nat.le_zero.1 h]
    | succ k ih =>
      intro hk hn
      by_cases hki : i = k + 1
      · rw [hki]
      · rw [← ih (by omega) (by omega)]
        simp only [stS]
        cases hmk : m k with
        | true =>
          simp only
          have hne : k ≠ i := by rintro rfl; rw [hm] at hmk; cases hmk
          rw [app_miss (h2 k (by omega) (by omega) hmk l hl)]
        | false => rfl
  rw [b n (by omega) (Nat.le_refl _), a i (Nat.le_refl _)]

theorem stS_set {i n : Nat} {m : Nat → Bool} (hi : i < n) (hm : m i = false)
    (h : ∀ j, i < j → j < n → m j = true → ∀ l, ¬ ((D i).hitAt l = true ∧ (D j).hitAt l = true)) :
    stS look D (setB m i) n = app (stS look D m n) (D i) := by
  have b : ∀ k, i < k → k ≤ n → stS look D (setB m i) k = app (stS look D m k) (D i) := by
    intro k
    induction k with
    | zero => intro h _; omega
    | succ k ih =>
      intro hk hn
      by_cases hki : k = i
      · subst hki
        simp only [stS, setB, if_true, hm]
        rw [stS_congr (m := setB m k) (m' := m)]
        intro j hj
        simp only [setB]
        rw [if_neg (by omega)]
      · have ih := ih (by omega) (by omega)
        simp only [stS]
        have : setB m i k = m k := by simp only [setB]; rw [if_neg hki]
        rw [this]
        cases hmk : m k with
        | true => simp only; rw [ih, app_comm (h k (by omega) (by omega) hmk)]
        | false => simp only; exact ih
  exact b n hi (Nat.le_refl _)

theorem stS_from {n : Nat} {m : Nat → Bool} {l : Loc} {c : Cell} (h : stS look D m n l = some c) : look l = some c ∨ ∃ j, j < n ∧ m j = true ∧ (D j).look l = some (some c) := by
  induction n with
  | zero => exact .inl h
  | succ n ih =>
    simp only [stS] at h
    cases hm : m n with
    | true =>
      rw [hm] at h
      simp only [app] at h
      cases hd : (D n).look l with
      | none => rw [hd] at h; exact (ih h).imp id fun ⟨j, a, b, c⟩ => ⟨j, by omega, b, c⟩
      | some x => rw [hd] at h; simp only at h; exact .inr ⟨n, by omega, hm, by rw [hd, h]⟩
    | false =>
      rw [hm] at h
      exact (ih h).imp id fun ⟨j, a, b, c⟩ => ⟨j, by omega, b, c⟩
end

theorem dlfresh_sound {d : Nat} : ∀ {D : Dl} {l : Loc} {c : Cell}, Dl.fresh d D = true → D.look l = some (some c) → ∀ k, k ∈ l.keys ∨ k ∈ c.keys → k.1 ≠ d
  | [], _, _, _, h => by simp [Dl.look] at h
  | (p, x) :: D, l, c, hf, h => by
    simp only [Dl.look] at h
    unfold Dl.fresh at hf
    split at hf
    · rename_i hp
      split at h
      · rename_i hh
        cases h
        simp only at hf
        split at hf
        · rename_i hc
          intro k hk
          rcases hk with hk | hk
          · refine notIn_sound hp k ?_
            cases p with
            | «at» l' => have := Loc.beq_iff.1 hh; subst this; exact hk
            | box b =>
              cases l with
              | leaf b' j =>
                have := kbeq_iff.1 hh
                subst this
                simpa [Loc.keys, Pat.keys] using hk
              | _ => simp [Pat.hits] at hh
          · exact notIn_sound hc k hk
        · cases hf
      · refine dlfresh_sound ?_ h
        split at hf
        · split at hf
          · exact hf
          · cases hf
        · exact hf
    · cases hf
end Go.Proofs.YtccbimcikbbecaaGreat.P1
/- Regions that draw their order: the evaluation, and that every order is covered. -/
namespace Go.Proofs.YtccbimcikbbecaaGreat.P1
open Go

def entOk (σ0 : St) (acc : List Ent) (y : Ent) (js : List Nat) : Bool := match Dl.ok y.D with
  | true => match freshD y.dk σ0 with
    | true => match freshAll y acc with
      | true => pairsOk acc y js
      | false => false
    | false => false
  | false => false

def mkN (o : Oper) (k : Option Nat → Prop) : Prop := match mkOf o with
  | some d => k (some d)
  | none => k none
theorem mkN_eq {o : Oper} {k : Option Nat → Prop} : mkN o k = k (mkOf o) := by
  unfold mkN; cases mkOf o <;> rfl

/-- acc: the steps that are gone, the last first. -/
def drawW (P : Program) (T : TI) (ops : List Oper) (σ0 : St) : List Oper → Hs → St → List Ent → (St → Prop) → Prop
  | [], _, σ, _, k => k σ
  | _ :: _, [], _, _, _ => False
  | o :: r, (gd, js) :: A, σ, acc, k => stepW P T ops gd o σ fun D R => Dl.nf D fun D => Loc.nfL R fun R => mkN o fun dk =>
    match entOk σ0 acc ⟨dk, D, R⟩ js with
    | true => σ.updK D fun σ => drawW P T ops σ0 r A σ (⟨dk, D, R⟩ :: acc) k
    | false => False

def dOf (L : List Ent) (j : Nat) : Dl := match L[j]? with
  | some e => e.D
  | none => []

structure EntF (P : Program) (C : Cx) (ops : Array Oper) (A : Hs) (look0 : Loc → Option Cell) (L : List Ent) (i : Nat) (e : Ent) : Prop where
  ok : Dl.ok e.D = true
  fr0 : ∀ d, e.dk = some d → Fresh d look0
  frE : ∀ j x, j < i → L[j]? = some x → e.fr x = true
  pair : ∀ j x, j < i → (i - 1 - j) ∈ (A.getD i (false, [])).2 → L[j]? = some x → pairOk x e = true
  dk : ∀ o, ops[i]? = some o → e.dk = mkOf o
  step : ∀ look', Ag look' (stS look0 (dOf L) (fun _ => true) i) e.R → ∀ G a w o, ops[i]? = some o → (∀ d, mkOf o = some d → Fresh d look') → Rel C G look' a w → StepOk P C ops o look' a w (fun D _ => D = e.D)

section
variable {P : Program} {T : TI} {C : Cx} {G : Gh} {look look' : Loc → Option Cell} {a : Act} {w w' : World}

theorem freshAll1_sound {y : Ent} : ∀ {L : List Ent}, freshAll1 y L = true → ∀ x ∈ L, y.fr x = true
  | [], _, x, h => by cases h
  | z :: L, h, x, hx => by
    simp only [freshAll1] at h
    split at h
    · rename_i hz
      rcases List.mem_cons.1 hx with rfl | hx
      · exact hz
      · exact freshAll1_sound h x hx
    · cases h
theorem freshAll_sound {y : Ent} {L : List Ent} (h : freshAll y L = true) (x : Ent) (hx : x ∈ L) : y.fr x = true := by
  unfold freshAll at h
  split at h
  · rename_i hd; simp only [Ent.fr, hd]
  · exact freshAll1_sound h x hx
theorem pairsOk_sound {acc : List Ent} {y : Ent} : ∀ {js : List Nat}, pairsOk acc y js = true → ∀ j ∈ js, ∃ x, acc[j]? = some x ∧ pairOk x y = true
  | [], _, j, h => by cases h
  | z :: js, h, j, hj => by
    simp only [pairsOk] at h
    split at h
    · rename_i x hx
      rw [nthE_eq] at hx
      split at h
      · rename_i hp
        rcases List.mem_cons.1 hj with rfl | hj
        · exact ⟨x, hx, hp⟩
        · exact pairsOk_sound h j hj
      · cases h
    · cases h

theorem dOf_append {L M : List Ent} {j : Nat} (h : j < L.length) : dOf (L ++ M) j = dOf L j := by
  simp only [dOf, List.getElem?_append_left h]
theorem stS_ext {look0 : Loc → Option Cell} {D D' : Nat → Dl} {m : Nat → Bool} : ∀ {k : Nat}, (∀ j, j < k → D j = D' j) → stS look0 D m k = stS look0 D' m k
  | 0, _ => rfl
  | k + 1, h => by
    simp only [stS, h k (by omega)]
    rw [stS_ext (k := k) fun j hj => h j (by omega)]

theorem entOk_spec {σ0 : St} {acc : List Ent} {y : Ent} {js : List Nat} (h : entOk σ0 acc y js = true) :
    Dl.ok y.D = true ∧ (∀ d, y.dk = some d → Fresh d σ0.look) ∧ (∀ x ∈ acc, y.fr x = true) ∧ ∀ j ∈ js, ∃ x, acc[j]? = some x ∧ pairOk x y = true := by
  unfold entOk at h
  split at h
  · rename_i h1
    split at h
    · rename_i h2
      split at h
      · rename_i h3
        exact ⟨h1, freshD_sound h2, freshAll_sound h3, pairsOk_sound h⟩
      · cases h
    · cases h
  · cases h

theorem drawW_facts (hT : TOk P T) {ops : Array Oper} {A : Hs} {σ0 : St} {k : St → Prop} :
    ∀ (l : List Oper) (B : Hs) (i : Nat) (σ : St) (bcc acc : List Ent), bcc = acc.reverse → A.drop i = B → (∀ j o, l[j]? = some o → ops[i + j]? = some o ∧ operOk P C.n o = true) → acc.length = i →
      (∀ j e, acc[j]? = some e → EntF P C ops A σ0.look acc j e) → σ.look = stS σ0.look (dOf acc) (fun _ => true) i → drawW P T ops.toList σ0 l B σ bcc k →
      ∃ (L : List Ent) (σ' : St), k σ' ∧ L.length = i + l.length ∧ (∀ j e, L[j]? = some e → EntF P C ops A σ0.look L j e) ∧ σ'.look = stS σ0.look (dOf L) (fun _ => true) (i + l.length)
  | [], B, i, σ, bcc, acc, _, _, _, hi, hF, hs, h => ⟨acc, σ, by simpa [drawW] using h, by simpa using hi, hF, by simpa using hs⟩
  | o :: r, [], i, σ, bcc, acc, _, _, _, hi, hF, hs, h => by simp [drawW] at h
  | o :: r, (gd, js) :: B, i, σ, bcc, acc, hrev, hB, hl, hi, hF, hs, h => by
    obtain ⟨ho, hok⟩ := hl 0 o (by simp)
    simp only [Nat.add_zero] at ho
    have hAi : A.getD i (false, []) = (gd, js) := by
      have : (A.drop i)[0]? = some (gd, js) := by rw [hB]; rfl
      rw [List.getElem?_drop] at this
      simp only [Nat.add_zero] at this
      simp [List.getD_eq_getElem?_getD, this]
    have hB' : A.drop (i + 1) = B := by
      rw [← List.drop_drop, hB]; rfl
    simp only [drawW, stepW, mkN_eq, Dl.nf_eq, Loc.nfL_eq, St.updK_eq] at h
    split at h
    · rename_i hfr
      obtain ⟨D, R, h1, h2⟩ := stepB_loc h
      split at h1
      · rename_i hE
        obtain ⟨e1, e2, e3, e4⟩ := entOk_spec hE
        have hd : ∀ j, j < i → dOf (acc ++ [⟨mkOf o, D, R⟩]) j = dOf acc j := fun j hj => dOf_append (by omega)
        have hst : ∀ j, j ≤ i → stS σ0.look (dOf (acc ++ [⟨mkOf o, D, R⟩])) (fun _ => true) j = stS σ0.look (dOf acc) (fun _ => true) j := fun j hj => stS_ext fun j' hj' => hd j' (by omega)
        have := drawW_facts hT r B (i + 1) (σ.upd D) (⟨mkOf o, D, R⟩ :: bcc) (acc ++ [⟨mkOf o, D, R⟩]) (by rw [hrev]; simp) hB' (fun j o' hj => by have := hl (j + 1) o' (by simpa using hj); rwa [show i + 1 + j = i + (j + 1) by omega])
          (by simp [hi]) (fun j e he => ?_) ?_ h1
        · obtain ⟨L, σ', g1, g2, g3, g4⟩ := this
          refine ⟨L, σ', g1, ?_, g3, ?_⟩
          · simp only [List.length_cons]; omega
          · rw [g4]; simp only [List.length_cons]; rw [show i + 1 + r.length = i + (r.length + 1) by omega]
        · by_cases hj : j < acc.length
          · rw [List.getElem?_append_left hj] at he
            have F := hF j e he
            exact {
              ok := F.ok
              fr0 := F.fr0
              frE := fun j' x hj' hx => F.frE j' x hj' (by rwa [List.getElem?_append_left (by omega)] at hx)
              pair := fun j' x hlt hj' hx => F.pair j' x hlt hj' (by rwa [List.getElem?_append_left (by omega)] at hx)
              dk := F.dk
              step := fun look' ha => F.step look' (by rw [hst j (by omega)] at ha; exact ha) }
          · have hj' : j = i := by
              have := (List.getElem?_eq_some_iff.1 he).1
              simp at this; omega
            subst hj'
            rw [List.getElem?_append_right (by omega)] at he
            simp [hi] at he
            subst he
            exact {
              ok := e1
              fr0 := e2
              frE := fun j' x hj' hx => by
                rw [List.getElem?_append_left (by omega)] at hx
                exact e3 x (by rw [hrev, List.mem_reverse]; exact List.mem_of_getElem? hx)
              pair := fun j' x hlt hj' hx => by
                rw [hAi] at hj'
                obtain ⟨x', hx', hp⟩ := e4 _ hj'
                rw [hrev, List.getElem?_reverse (by omega), show acc.length - 1 - (j - 1 - j') = j' by omega] at hx'
                rw [List.getElem?_append_left (by omega), hx'] at hx
                cases hx
                exact hp
              dk := fun o' ho' => by rw [ho] at ho'; cases ho'; rfl
              step := fun look' ha G a w o' ho' hf hr => by
                rw [ho] at ho'; cases ho'
                rw [hst j (Nat.le_refl _), ← hs] at ha
                have := h2 look' ha (fun D' _ => D' = D) rfl
                exact stepB_sound hT (operOk_conv hok) hr (operOk_dst hok) hf this }
        · rw [upd_look e1]
          simp only [stS]
          rw [hst i (Nat.le_refl _), ← hs]
          simp [dOf, ← hi]
      · exact h1.elim
    · exact h.elim

theorem Rel.draw (h : Rel C G look a w) (n : Nat) (hn : w.drawn ≤ n) : Rel C G look a { w with drawn := n } := by
  have hrd : ∀ {F : Nat → Prop} {u : Value} {x : AV}, Rd w F u x → Rd { w with drawn := n } F u x := fun h => h.mono (fun _ _ => rfl) (fun _ h => h)
  have hs : Step G G w { w with drawn := n } := ⟨fun _ _ => rfl, fun _ h => h⟩
  exact {
    leaf := fun b j l e => by
      obtain ⟨u, cur, T, h1, h2, h3⟩ := h.leaf b j l e
      exact ⟨u, cur, T, h1, h2, h3.keep hs fun _ _ => ⟨rfl, rfl⟩⟩
    row := fun k r e => (h.row k r e).keep hs fun _ _ _ => rfl
    sep := h.sep
    cold := h.cold
    Flt := h.Flt
    slot := fun t s e => ⟨(h.slot t s e).1, SlR.keep hs (h.slot t s e).2 fun _ _ => ⟨rfl, rfl⟩⟩
    mine := h.mine
    fr := ⟨h.fr.os, h.fr.tape, h.fr.output, h.fr.size, h.fr.block, Nat.le_trans h.fr.drawn hn⟩
    F0 := h.F0
    Fnew := h.Fnew
    defers := h.defers
    size := h.size
    pin := h.pin }

theorem pairOk_spec {x y : Ent} (h : pairOk x y = true) : (∀ l, ¬ (x.D.hitAt l = true ∧ y.D.hitAt l = true)) ∧ (∀ l ∈ y.R, x.D.hitAt l = false) ∧ (∀ l ∈ x.R, y.D.hitAt l = false) ∧ x.fr y = true := by
  unfold pairOk at h
  split at h
  · cases h
  · rename_i hb
    simp only [Bool.or_eq_false_iff] at hb
    exact ⟨meetW_spec hb.1.1, meetR_spec hb.1.2, meetR_spec hb.2, h⟩

theorem fr_fresh {x y : Ent} {d : Nat} (h : x.fr y = true) (hd : x.dk = some d) {l : Loc} {c : Cell} (hl : y.D.look l = some (some c)) : ∀ k, k ∈ l.keys ∨ k ∈ c.keys → k.1 ≠ d := by
  simp only [Ent.fr, hd] at h
  exact dlfresh_sound h hl

def mOf (listed : Array Bool) (i : Nat) : Bool := listed.getD i false

theorem mOf_set {listed : Array Bool} {i : Nat} (h : i < listed.size) : mOf (listed.setIfInBounds i true) = setB (mOf listed) i := by
  funext j
  simp only [mOf, setB, Array.getD_eq_getD_getElem?]
  by_cases hj : j = i
  · subst hj; simp [h]
  · rw [if_neg hj, Array.getElem?_setIfInBounds_ne (Ne.symm hj)]

theorem draw_any {ops : Array Oper} {A : Hs} {look0 : Loc → Option Cell} {L : List Ent} (hA : unordOk ops.toList A = true) (hL : L.length = ops.size)
    (hF : ∀ j e, L[j]? = some e → EntF P C ops A look0 L j e) {Q : Exit → Act → World → Prop} (hQ : ∀ a w, RelE C (stS look0 (dOf L) (fun _ => true) ops.size) a w → Q .normal a w) :
    ∀ (fuel : Nat) (listed : Array Bool) (U : List Nat) (a : Act) (w : World), listed.size = ops.size → (∀ i, i < ops.size → mOf listed i = false → i ∈ U) → U.length ≤ fuel →
      (∀ i j, mOf listed i = true → Anc ops j i → mOf listed j = true) → RelE C (stS look0 (dOf L) (mOf listed) ops.size) a w → wpAny P .any ops Q fuel listed a w := by
  have hback : ∀ i o, ops[i]? = some o → ∀ e ∈ o.after, Region.binds .any e = true → e.on < i := by
    intro i o ho e he hb
    simp only [unordOk, Bool.and_eq_true] at hA
    have := back_sound (ops := ops) ops.toList 0 (fun i o h => by simpa using h) hA.1 i o (by simpa using ho) e he hb
    omega
  have hall : ∀ listed : Array Bool, listed.size = ops.size → Region.ready .any ops listed = [] → ∀ i, i < ops.size → mOf listed i = true := by
    intro listed hsz hre i
    induction i using Nat.strongRecOn with
    | _ i ih =>
      intro hi
      rcases Bool.eq_false_or_eq_true (mOf listed i) with h | h
      · exact h
      · have : i ∈ Region.ready .any ops listed := by
          rw [mem_ready]
          refine ⟨?_, ops[i], by simp [hi], fun e he hb => ?_⟩
          · simp only [mOf, Array.getD_eq_getD_getElem?] at h ⊢
            rw [Array.getElem?_eq_getElem (by omega)] at h ⊢
            simpa using h
          · have := hback i ops[i] (by simp [hi]) e he hb
            exact ih e.on this (by omega)
        rw [hre] at this
        cases this
  have hend : ∀ (listed : Array Bool) a w, listed.size = ops.size → Region.ready .any ops listed = [] → RelE C (stS look0 (dOf L) (mOf listed) ops.size) a w → Q .normal a w := by
    intro listed a w hsz hre hr
    refine hQ a w ?_
    rw [← stS_congr (m := mOf listed) fun j hj => hall listed hsz hre j hj]
    exact hr
  intro fuel
  induction fuel with
  | zero =>
    intro listed U a w hsz hU hlen hcl hr
    have hre : Region.ready .any ops listed = [] := by
      rw [List.eq_nil_iff_forall_not_mem]
      intro i hi
      obtain ⟨h0, o, ho, _⟩ := mem_ready.1 hi
      have hlt : i < ops.size := (Array.getElem?_eq_some_iff.1 ho).1
      have : i ∈ U := hU i hlt (by
        simp only [mOf, Array.getD_eq_getD_getElem?] at h0 ⊢
        rw [Array.getElem?_eq_getElem (by omega)] at h0 ⊢
        simpa using h0)
      rw [List.length_eq_zero_iff.1 (Nat.le_zero.1 hlen)] at this
      cases this
    exact ⟨hre, hend listed a w hsz hre hr⟩
  | succ fuel ih =>
    intro listed U a w hsz hU hlen hcl hr
    refine ⟨fun hre => hend listed a w hsz hre hr, fun i hi => ?_⟩
    obtain ⟨h0, o, ho, hpre⟩ := mem_ready.1 hi
    have hlt : i < ops.size := (Array.getElem?_eq_some_iff.1 ho).1
    have hmi : mOf listed i = false := by
      simp only [mOf, Array.getD_eq_getD_getElem?] at h0 ⊢
      rw [Array.getElem?_eq_getElem (by omega)] at h0 ⊢
      simpa using h0
    obtain ⟨e, he⟩ : ∃ e, L[i]? = some e := ⟨L[i], by simp [hL, hlt]⟩
    have F := hF i e he
    -- who is unordered with i
    have hanc : ∀ j, Anc ops j i → mOf listed j = true := by
      intro j hj
      cases hj with
      | one ho' he' hb hj => rw [ho] at ho'; cases ho'; rw [← hj]; exact hpre _ he' hb
      | more ho' he' hb hj => rw [ho] at ho'; cases ho'; exact hcl _ _ (hpre _ he' hb) hj
    have hbefore : ∀ j, j < i → mOf listed j = false → ∃ x, L[j]? = some x ∧ pairOk x e = true := by
      intro j hj hm
      rcases unord_sound hA hlt hj with h | h
      · rw [hanc j h] at hm; cases hm
      · exact ⟨L[j]'(by omega), by simp, F.pair j _ hj h (by simp)⟩
    have hafter : ∀ j, i < j → j < ops.size → mOf listed j = true → ∃ x, L[j]? = some x ∧ pairOk e x = true := by
      intro j hj hjn hm
      rcases unord_sound hA hjn hj with h | h
      · rw [hcl j i hm h] at hmi; cases hmi
      · exact ⟨L[j]'(by omega), by simp, (hF j _ (by simp)).pair i e hj h he⟩
    have hD : dOf L i = e.D := by simp [dOf, he]
    have hDj : ∀ j x, L[j]? = some x → dOf L j = x.D := fun j x hx => by simp [dOf, hx]
    have hag : Ag (stS look0 (dOf L) (mOf listed) ops.size) (stS look0 (dOf L) (fun _ => true) i) e.R :=
      stS_agree hlt hmi (fun j hj hm l hl => by
        obtain ⟨x, hx, hp⟩ := hbefore j hj hm
        rw [hDj j x hx]
        exact (pairOk_spec hp).2.1 l hl) (fun j hj hjn hm l hl => by
        obtain ⟨x, hx, hp⟩ := hafter j hj hjn hm
        rw [hDj j x hx]
        exact (pairOk_spec hp).2.2.1 l hl)
    have hfresh : ∀ d, mkOf o = some d → Fresh d (stS look0 (dOf L) (mOf listed) ops.size) := by
      intro d hd l c hl k hk
      have hdk : e.dk = some d := by rw [F.dk o ho, hd]
      rcases stS_from hl with h | ⟨j, hj, hm, h⟩
      · exact F.fr0 d hdk l c h k hk
      · obtain ⟨x, hx⟩ : ∃ x, L[j]? = some x := ⟨L[j], by simp [hL, hj]⟩
        rw [hDj j x hx] at h
        by_cases hji : j < i
        · exact fr_fresh (F.frE j x hji hx) hdk h k hk
        · have hne : j ≠ i := by rintro rfl; rw [hmi] at hm; cases hm
          obtain ⟨x', hx', hp⟩ := hafter j (by omega) hj hm
          rw [hx] at hx'; cases hx'
          exact fr_fresh (pairOk_spec hp).2.2.2 hdk h k hk
    obtain ⟨G, hr⟩ := hr
    obtain ⟨D, R, rfl, hstep⟩ := F.step _ hag G a w o ho hfresh hr
    have hnext : ∀ a' w', RelE C (app (stS look0 (dOf L) (mOf listed) ops.size) e.D) a' w' → wpAny P .any ops Q fuel (listed.setIfInBounds i true) a' w' := by
      intro a' w' hr'
      refine ih _ (U.erase i) a' w' (by simpa using hsz) (fun j hj hm => ?_) ?_ ?_ ?_
      · rw [mOf_set (by omega)] at hm
        simp only [setB] at hm
        split at hm
        · cases hm
        · rename_i hne
          exact (List.mem_erase_of_ne hne).2 (hU j hj hm)
      · rw [List.length_erase_of_mem (hU i hlt hmi)]; omega
      · intro i' j hm hanc'
        rw [mOf_set (by omega)] at hm ⊢
        simp only [setB] at hm ⊢
        split
        · rfl
        · split at hm
          · rename_i hi'; subst hi'; exact hanc j hanc'
          · exact hcl i' j hm hanc'
      · rw [mOf_set (by omega), stS_set hlt hmi, hD]
        · exact hr'
        · intro j hj hjn hm l
          obtain ⟨x, hx, hp⟩ := hafter j hj hjn hm
          rw [hD, hDj j x hx]
          exact (pairOk_spec hp).1 l
    have := hstep _ Q hnext
    unfold wpOp
    simp only [ho]
    split
    · rename_i hw; rw [if_pos hw] at this; exact .inl this
    · rename_i hw; rw [if_neg hw] at this; exact this

theorem draw_region (hP : P.follows .mixedOrders = true) (hT : TOk P T) {ops : Array Oper} {A : Hs} (hA : unordOk ops.toList A = true) {id : Nat} (hops : ∀ o ∈ ops, operOk P C.n o = true)
    {σ : St} (hr : RelE C σ.look a w) {k : St → Prop} (h : drawW P T ops.toList σ ops.toList A σ [] k) {Q : Exit → Act → World → Prop} (hQ : ∀ σ a w, k σ → RelE C σ.look a w → Q .normal a w) :
    (Code.region id ops true).wp P Q a w := by
  obtain ⟨L, σ', h1, h2, h3, h4⟩ := drawW_facts (C := C) (A := A) hT ops.toList A 0 σ [] [] rfl (by simp) (fun j o hj => by
    simp only [Array.getElem?_toList] at hj
    simp only [Nat.zero_add]
    exact ⟨hj, hops o (Array.mem_of_getElem? hj)⟩) rfl (fun j e he => by simp at he) rfl h
  simp only [Nat.zero_add, Array.length_toList] at h2 h4
  obtain ⟨G, hr⟩ := hr
  refine wp_region_any hP (draw_any hA h2 h3 (fun a' w' hr' => hQ σ' a' w' h1 (by rw [h4]; exact hr')) ops.size _ (List.range ops.size) a _ (by simp) (fun i hi _ => by simpa using hi) (by simp) ?_ ⟨G, ?_⟩)
  · intro i j hm
    exfalso
    simp only [mOf, Array.getD_eq_getD_getElem?] at hm
    by_cases hi : i < ops.size
    · simp [hi] at hm
    · simp [hi] at hm
  · have : stS σ.look (dOf L) (mOf (Array.replicate ops.size false)) ops.size = σ.look := by
      have key : ∀ n, stS σ.look (dOf L) (mOf (Array.replicate ops.size false)) n = σ.look := by
        intro n
        induction n with
        | zero => rfl
        | succ n ih =>
          have : mOf (Array.replicate ops.size false) n = false := by
            simp only [mOf, Array.getD_eq_getD_getElem?]
            by_cases hi : n < ops.size <;> simp [hi]
          simp only [stS, this]
          exact ih
      exact key _
    rw [this]
    exact hr.draw _ (Nat.le_succ _)

theorem seq_region (hT : TOk P T) {ops : Array Oper} {id : Nat} (hops : ∀ o ∈ ops, operOk P C.n o = true) {σ : St} (hr : RelE C σ.look a w) {k : St → Prop} {A : Hs} (h : seqW P T ops.toList ops.toList A σ k)
    {Q : Exit → Act → World → Prop} (hQ : ∀ σ a w, k σ → RelE C σ.look a w → Q .normal a w) : (Code.region id ops false).wp P Q a w := by
  have := seqW_sound hT (ops := ops) hQ ops.toList A 0 σ a w (fun j o hj => by
    simp only [Array.getElem?_toList] at hj
    simp only [Nat.zero_add]
    exact ⟨hj, hops o (Array.mem_of_getElem? hj)⟩) hr h
  exact wp_region (by rw [List.range_eq_range']; simpa using this)
end
end Go.Proofs.YtccbimcikbbecaaGreat.P1
/- What code does to a state: the conditions under which it ends as told. -/
namespace Go.Proofs.YtccbimcikbbecaaGreat.P1
open Go

inductive Ex where
  | normal
  | exit (id : Nat)
  | ret

def post (C : Cx) (E : Ex → St → Prop) : Exit → Act → World → Prop
  | .normal, a, w => ∃ σ, E .normal σ ∧ RelE C σ.look a w
  | .exit id, a, w => ∃ σ, E (.exit id) σ ∧ RelE C σ.look a w
  | .ret, a, w => ∃ σ, E .ret σ ∧ RelE C σ.look a w
  | _, _, _ => False

/-- From a state, code ends in states of E. -/
def VC (P : Program) (n : Nat) (c : Code) (E : Ex → St → Prop) (σ : St) : Prop :=
  ∀ (C : Cx), C.n = n → ∀ a w, RelE C σ.look a w → c.wp P (post C E) a w

/-- The same of a loop: a rule of its own opens it. -/
structure LoopVC (P : Program) (n : Nat) (b : Code) (E : Ex → St → Prop) (σ : St) : Prop where
  h : VC P n (.loop b) E σ

/-- A region's hints: the unordered earlier steps of each step; the slots that nobody reads any more. -/
structure Hint where
  un : Hs
  dead : List Nat
def hintOf : List (Nat × Hint) → Nat → Hint
  | [], _ => ⟨[], []⟩
  | (i, h) :: r, id => match Nat.beq i id with
    | true => h
    | false => hintOf r id

def isDead (l : Loc) : List Nat → Bool
  | [] => false
  | t :: ts => match (Loc.slot t).beq l with
    | true => true
    | false => isDead l ts
def St.drop' (dead : List Nat) : St → St
  | [] => []
  | (l, c) :: r => match isDead l dead with
    | true => St.drop' dead r
    | false => (l, c) :: St.drop' dead r

def St.dropK (dead : List Nat) : St → (St → Prop) → Prop
  | [], k => k []
  | (l, c) :: r, k => match isDead l dead with
    | true => St.dropK dead r k
    | false => St.dropK dead r fun r' => k ((l, c) :: r')
theorem St.dropK_eq {dead : List Nat} : ∀ {σ : St} {k : St → Prop}, σ.dropK dead k = k (σ.drop' dead)
  | [], _ => rfl
  | (l, c) :: r, k => by
    simp only [St.dropK, St.drop']
    cases isDead l dead <;> simp only [St.dropK_eq (σ := r)]

def condW (σ : St) (c : Operand) (x y : St → Prop) : Prop := match c with
  | .tmp t => match σ.look (.slot t) with
    | some (.s (.lf (.lit true))) => x σ
    | some (.s (.lf (.lit false))) => y σ
    | some (.s (.lf (.av (.bool b)))) => (b = true → σ.updK [(.at (.slot t), some (.s (.lf (.lit true))))] x) ∧ (b = false → σ.updK [(.at (.slot t), some (.s (.lf (.lit false))))] y)
    | _ => False
  | .const (.bool true) => x σ
  | .const (.bool false) => y σ
  | _ => False

def thenE (E : Ex → St → Prop) (k : St → Prop) : Ex → St → Prop
  | .normal, σ => k σ
  | .exit i, σ => E (.exit i) σ
  | .ret, σ => E .ret σ
def blockE (E : Ex → St → Prop) (id : Nat) : Ex → St → Prop
  | .normal, σ => E .normal σ
  | .exit i, σ => match Nat.beq i id with
    | true => E .normal σ
    | false => E (.exit i) σ
  | .ret, σ => E .ret σ

def vc (P : Program) (T : TI) (n : Nat) (H : List (Nat × Hint)) : Code → (Ex → St → Prop) → St → Prop
  | .skip, E, σ => E .normal σ
  | .region id ops draw, E, σ => match draw with
    | true => drawW P T ops.toList σ ops.toList (hintOf H id).un σ [] fun σ => σ.dropK (hintOf H id).dead fun σ => E .normal σ
    | false => seqW P T ops.toList ops.toList (hintOf H id).un σ fun σ => σ.dropK (hintOf H id).dead fun σ => E .normal σ
  | .seq x y, E, σ => vc P T n H x (thenE E fun σ => vc P T n H y E σ) σ
  | .cond c x y, E, σ => condW σ c (fun σ => vc P T n H x E σ) (fun σ => vc P T n H y E σ)
  | .block id b, E, σ => vc P T n H b (blockE E id) σ
  | .loop b, E, σ => LoopVC P n b E σ
  | .exit id, E, σ => E (.exit id) σ
  | .ret, E, σ => E .ret σ
  | .label _, E, σ => E .normal σ
  | _, _, _ => False

def codeOk (P : Program) (n : Nat) (H : List (Nat × Hint)) : Code → Bool
  | .region id ops draw => (ops.toList.all fun o => operOk P n o) && (!draw || unordOk ops.toList (hintOf H id).un)
  | .seq x y => codeOk P n H x && codeOk P n H y
  | .cond _ x y => codeOk P n H x && codeOk P n H y
  | .block _ b => codeOk P n H b
  | .loop b => codeOk P n H b
  | _ => true

section
variable {P : Program} {T : TI} {n : Nat} {H : List (Nat × Hint)} {C : Cx} {G : Gh} {look look' : Loc → Option Cell} {a : Act} {w w' : World}

theorem isDead_slot {l : Loc} : ∀ {dead : List Nat}, isDead l dead = true → ∃ t, l = .slot t
  | [], hd => by cases hd
  | t :: ts, hd => by
    simp only [isDead] at hd
    split at hd
    · rename_i hb; exact ⟨t, (Loc.beq_iff.1 hb).symm⟩
    · exact isDead_slot hd
theorem least {J : Nat → Prop} : ∀ n, J n → ∃ m, J m ∧ ∀ m', J m' → m ≤ m' := by
  intro n
  induction n using Nat.strongRecOn with
  | _ n ih =>
    intro h
    by_cases hx : ∃ m, J m ∧ m < n
    · obtain ⟨m, h1, h2⟩ := hx; exact ih m h2 h1
    · exact ⟨n, h, fun m' h' => Nat.le_of_not_lt fun hlt => hx ⟨m', h', hlt⟩⟩

theorem drop_look {dead : List Nat} : ∀ {σ : St}, Less (σ.drop' dead).look σ.look
  | [], l, c, h => h
  | (l', x) :: r, l, c, h => by
    simp only [St.drop'] at h
    split at h
    · rename_i hd
      simp only [St.look]
      have h1 := drop_look (σ := r) l c h
      split
      · rename_i hb
        have := Loc.beq_iff.1 hb
        subst this
        exfalso
        have h2 : ∀ {σ : St}, (σ.drop' dead).look l' = none := by
          intro σ
          induction σ with
          | nil => rfl
          | cons p σ ih =>
            obtain ⟨l2, c2⟩ := p
            simp only [St.drop']
            split
            · exact ih
            · rename_i hd2
              simp only [St.look]
              split
              · rename_i hb2
                have := Loc.beq_iff.1 hb2
                subst this
                rw [hd] at hd2; cases hd2
              · exact ih
        rw [h2] at h
        cases h
      · exact h1
    · simp only [St.look] at h ⊢
      split
      · rename_i hb; simp only [hb] at h; exact h
      · rename_i hb; simp only [hb] at h; exact drop_look (σ := r) l c h

theorem RelE.less (h : RelE C look a w) (hl : Less look' look) : RelE C look' a w := h.elim fun G h => ⟨G, h.less hl⟩

theorem post_then {E : Ex → St → Prop} {k : St → Prop} {y : Code} (hy : ∀ σ a w, k σ → RelE C σ.look a w → y.wp P (post C E) a w) :
    ∀ e a w, post C (thenE E k) e a w → Exit.then (y.wp P (post C E)) (post C E) e a w := by
  intro e a w h
  cases e with
  | normal => obtain ⟨σ, h1, h2⟩ := h; exact hy σ a w h1 h2
  | exit i => exact h
  | ret => exact h
  | _ => exact h.elim

theorem post_block {E : Ex → St → Prop} {id : Nat} : ∀ e a w, post C (blockE E id) e a w → Exit.inBlock id (post C E) e a w := by
  intro e a w h
  cases e with
  | normal => exact h
  | exit i =>
    obtain ⟨σ, h1, h2⟩ := h
    simp only [blockE] at h1
    simp only [Exit.inBlock]
    split at h1
    · rename_i hb
      rw [if_pos (Nat.eq_of_beq_eq_true hb)]
      exact ⟨σ, h1, h2⟩
    · rename_i hb
      rw [if_neg (fun he => by rw [he, Nat.beq_refl] at hb; cases hb)]
      exact ⟨σ, h1, h2⟩
  | ret => exact h
  | _ => exact h.elim

theorem lit_of_av {t : Nat} {σ : St} {b : Bool} (hr : RelE C σ.look a w) (hs : σ.look (.slot t) = some (.s (.lf (.av (.bool b))))) : RelE C (σ.upd [(.at (.slot t), some (.s (.lf (.lit b))))]).look a w := by
  rw [upd_look rfl]
  refine rel_toD (s := .lf (.av (.bool b))) ?_ (fun G u hu => by simp only [SlR, LfR] at hu ⊢; cases hu; rfl)
  refine hr.less fun l c h => ?_
  simp only [app, Dl.look, Pat.hits] at h
  by_cases e : Loc.slot t = l
  · subst e; simp only [Loc.beq_self] at h; cases h; exact hs
  · rw [Loc.beq_ne e] at h; exact h

theorem vc_sound (hP : P.follows .mixedOrders = true) (hT : TOk P T) : ∀ (c : Code) (E : Ex → St → Prop) (σ : St), codeOk P n H c = true → vc P T n H c E σ → VC P n c E σ
  | .skip, E, σ, _, h => fun C hC a w hr => wp_skip ⟨σ, h, hr⟩
  | .label _, E, σ, _, h => fun C hC a w hr => wp_label ⟨σ, h, hr⟩
  | .region id ops draw, E, σ, hok, h => fun C hC a w hr => by
    simp only [codeOk, Bool.and_eq_true, List.all_eq_true, Bool.or_eq_true, Bool.not_eq_true'] at hok
    subst hC
    cases draw with
    | true =>
      simp only [vc, St.dropK_eq] at h
      exact draw_region hP hT (by simpa using hok.2) (fun o ho => hok.1 o (by simpa using ho)) hr h fun σ a w hk hr => ⟨_, hk, hr.less drop_look⟩
    | false =>
      simp only [vc, St.dropK_eq] at h
      exact seq_region hT (fun o ho => hok.1 o (by simpa using ho)) hr h fun σ a w hk hr => ⟨_, hk, hr.less drop_look⟩
  | .seq x y, E, σ, hok, h => fun C hC a w hr => by
    simp only [codeOk, Bool.and_eq_true] at hok
    simp only [vc] at h
    exact wp_seq (wp_mono (vc_sound hP hT x _ σ hok.1 h C hC a w hr) (post_then fun σ a w hk hr => vc_sound hP hT y E σ hok.2 hk C hC a w hr))
  | .cond c x y, E, σ, hok, h => fun C hC a w hr => by
    simp only [codeOk, Bool.and_eq_true] at hok
    simp only [vc, condW] at h
    split at h
    · rename_i t
      split at h
      · rename_i hs
        obtain ⟨G, hr'⟩ := id hr
        exact wp_cond_true (hr'.slot _ _ hs).2 (vc_sound hP hT x E σ hok.1 h C hC a w hr)
      · rename_i hs
        obtain ⟨G, hr'⟩ := id hr
        exact wp_cond_false (hr'.slot _ _ hs).2 (vc_sound hP hT y E σ hok.2 h C hC a w hr)
      · rename_i b hs
        obtain ⟨G, hr'⟩ := id hr
        have hv : a.eval (.tmp t) = .bool b := by
          have := (hr'.slot _ _ hs).2
          simp only [SlR, LfR] at this
          simp only [Act.eval]
          generalize a.tmps.getD t undef = u at this
          cases this; rfl
        rw [St.updK_eq, St.updK_eq] at h
        cases b with
        | true => exact wp_cond_true hv (vc_sound hP hT x E _ hok.1 (h.1 rfl) C hC a w (lit_of_av hr hs))
        | false => exact wp_cond_false hv (vc_sound hP hT y E _ hok.2 (h.2 rfl) C hC a w (lit_of_av hr hs))
      · exact h.elim
    · exact wp_cond_true rfl (vc_sound hP hT x E σ hok.1 h C hC a w hr)
    · exact wp_cond_false rfl (vc_sound hP hT y E σ hok.2 h C hC a w hr)
    · exact h.elim
  | .block id b, E, σ, hok, h => fun C hC a w hr => by
    simp only [codeOk] at hok
    simp only [vc] at h
    exact wp_block (wp_mono (vc_sound hP hT b _ σ hok h C hC a w hr) post_block)
  | .loop b, E, σ, _, h => h.h
  | .exit id, E, σ, _, h => fun C hC a w hr => wp_exit ⟨σ, h, hr⟩
  | .ret, E, σ, _, h => fun C hC a w hr => wp_ret ⟨σ, h, hr⟩
  | .rangeFunc .., _, _, _, h => h.elim
  | .scope _, _, _, _, h => h.elim
  | .goto _, _, _, _, h => h.elim
  | .refuse _, _, _, _, h => h.elim

/-- Less is known, under other names. -/
def Wk (n : Nat) (σ τ : St) : Prop := ∀ C, C.n = n → ∀ a w, RelE C σ.look a w → RelE C τ.look a w
theorem Wk.refl (n : Nat) (σ : St) : Wk n σ σ := fun _ _ _ _ h => h

theorem loop_rule (hP : P.follows .mixedOrders = true) (hT : TOk P T) (H : List (Nat × Hint)) {I : Type} (mk : I → St) (Inv : I → Prop) (μ : I → Nat) {b : Code} (hok : codeOk P n H b = true) {E : Ex → St → Prop} {σ : St} (i0 : I) (hi : Inv i0) (h0 : Wk n σ (mk i0))
    (hb : ∀ i, Inv i → vc P T n H b (thenE E fun σ' => ∃ i', Inv i' ∧ μ i' < μ i ∧ Wk n σ' (mk i')) (mk i)) : LoopVC P n b E σ := by
  classical
  refine ⟨fun C hC a w hr => ?_⟩
  let J : Act → World → Nat → Prop := fun a w m => ∃ i, Inv i ∧ μ i = m ∧ RelE C (mk i).look a w
  let ν : Act → World → Nat := fun a w => if h : ∃ m, J a w m ∧ ∀ m', J a w m' → m ≤ m' then Classical.choose h else 0
  refine wp_loop (fun a w => ∃ m, J a w m) ν ⟨_, i0, hi, rfl, h0 C hC a w hr⟩ fun a w hJ => ?_
  have hν : ∀ a w, (∃ m, J a w m) → J a w (ν a w) ∧ ∀ m', J a w m' → ν a w ≤ m' := by
    intro a w ⟨m, hm⟩
    have hx := least m hm
    simp only [ν]
    rw [dif_pos hx]
    exact Classical.choose_spec hx
  obtain ⟨⟨i, hi, hμ, hr⟩, _⟩ := hν a w hJ
  refine wp_mono (vc_sound hP hT b _ (mk i) hok (hb i hi) C hC a w hr) fun e a' w' h => ?_
  cases e with
  | normal =>
    obtain ⟨σ', ⟨i', hi', hlt, hwk⟩, hr'⟩ := h
    have hJ' : ∃ m, J a' w' m := ⟨μ i', i', hi', rfl, hwk C hC a' w' hr'⟩
    refine ⟨hJ', ?_⟩
    rw [← hμ]
    exact Nat.lt_of_le_of_lt ((hν a' w' hJ').2 _ ⟨i', hi', rfl, hwk C hC a' w' hr'⟩) hlt
  | exit id => exact h
  | ret => exact h
  | _ => exact h.elim
end
end Go.Proofs.YtccbimcikbbecaaGreat.P1
/- Functions: a contract from what the body does to the state at the entry. -/
namespace Go.Proofs.YtccbimcikbbecaaGreat.P1
open Go

/-! ### Data are well formed -/
inductive Wf : AV → Prop
  | int {k n} (h : (Lit.int k n).wf = true) : Wf (.int k n)
  | bool {b} : Wf (.bool b)
  | str {s : List UInt8} (h : s.length ≤ lim) : Wf (.str s)
  | row {es : List (List AV)} (h : es.length ≤ lim) (he : ∀ e ∈ es, ∀ x ∈ e, Wf x) : Wf (.row es)
theorem Rd.wf {w : World} {F : Nat → Prop} {u : Value} {x : AV} (h : Rd w F u x) : Wf x := by
  induction h with
  | int h => exact .int h
  | bool => exact .bool
  | str h => exact .str h
  | emp hA => exact .row (by simp) (by simp)
  | row cv hb hn hc hl h0 hsz hcell _ ih =>
    refine .row (by omega) fun e he x hx => ?_
    obtain ⟨i, hi, rfl⟩ := List.getElem_of_mem he
    obtain ⟨j, hj, rfl⟩ := List.getElem_of_mem hx
    exact ih i j hi hj
def Lf.Wf : Lf → Prop
  | .av x => P1.Wf x
  | _ => True
def Sl.Wf : Sl → Prop
  | .lf l => l.Wf
  | .agg ls => ∀ l ∈ ls, l.Wf
  | .tup _ => True

/-! ### The state at the entry -/
def slotsOf (n : Nat) : Nat → List Sl → St
  | _, [] => []
  | i, s :: ss => (.slot i, .s (s.ren (rk n))) :: slotsOf n (i + 1) ss
def boxesOf (n : Nat) : Bx → St
  | [] => []
  | p :: S => (.leaf (n, p.1.1.2) p.1.2, .l (.av p.2)) :: boxesOf n S
def ent (n : Nat) (args : List Sl) (S : Bx) : St := slotsOf n 0 args ++ boxesOf n S

/-! ### Results -/
def resV (T : TI) (look : Loc → Option Cell) (r : ResultVar) (k : Sl → Prop) : Prop := match r with
  | .tmp t => match look (.slot t) with
    | some (.s s) => k s
    | _ => False
  | .cell a t => match look (.slot a) with
    | some (.s (.lf (.ptr b j))) => match T t with
      | some d => leaves look b d.size j fun ls _ => match d.agg with
        | true => k (.agg ls)
        | false => match ls with
          | l :: _ => k (.lf l)
          | [] => False
      | none => False
    | _ => False
def resL (T : TI) (look : Loc → Option Cell) : List ResultVar → (List Sl → Prop) → Prop
  | [], k => k []
  | r :: rs, k => resV T look r fun s => resL T look rs fun ss => k (s :: ss)
def resW (T : TI) (look : Loc → Option Cell) (rs : List ResultVar) (k : Sl → Prop) : Prop := resL T look rs fun ss => match ss with
  | [s] => k s
  | ss => k (.tup ss)

def frzLf (look : Loc → Option Cell) (r l : Lf) : Dl := match r, l with
  | .av _, .own q => match look (.row q) with
    | some (.r ⟨e, sz, hot, es⟩) => match hot with
      | true => [(.at (.row q), some (.r ⟨e, sz, false, es⟩))]
      | false => []
    | _ => []
  | _, _ => []
def frzL (look : Loc → Option Cell) : List Lf → List Lf → Dl
  | r :: rs, l :: ls => frzLf look r l ++ frzL look rs ls
  | _, _ => []
mutual
def frzSl (look : Loc → Option Cell) : Sl → Sl → Dl
  | .lf r, .lf l => frzLf look r l
  | .agg rs, .agg ls => frzL look rs ls
  | .tup rs, .tup ss => frzSs look rs ss
  | _, _ => []
def frzSs (look : Loc → Option Cell) : List Sl → List Sl → Dl
  | r :: rs, s :: ss => frzSl look r s ++ frzSs look rs ss
  | _, _ => []
end
def frzB' (look : Loc → Option Cell) (n : Nat) : Bx → Dl
  | [] => []
  | p :: S => (match look (.leaf (n, p.1.1.2) p.1.2) with
    | some (.l l) => frzLf look (.av p.2) l
    | _ => []) ++ frzB' look n S

/-- A cell of the result is as the contract says; ψ: what stands for the contract's own rows. -/
def mtLf (look : Loc → Option Cell) (r l : Lf) (ψ : List Key) (k : List Key → Prop) : Prop := match r, l with
  | .av x, .av x' => x' = x ∧ k ψ
  | .av x, .lit b => AV.bool b = x ∧ k ψ
  | .av x, .nil => AV.row [] = x ∧ k ψ
  | .av x, .own q => match look (.row q) with
    | some (.r ⟨_, _, hot, es⟩) => match hot with
      | false => AV.row es = x ∧ k ψ
      | true => False
    | _ => False
  | .lit b, .lit b' => b' = b ∧ k ψ
  | .nil, .nil => k ψ
  | .own (z, c), .own q => match Nat.beq z 0 with
    | true => match ψ[c]? with
      | some q' => match kbeq q' q with
        | true => k ψ
        | false => False
      | none => match Nat.beq c ψ.length && !memK q ψ with
        | true => k (ψ ++ [q])
        | false => False
    | false => False
  | _, _ => False
def mtL (look : Loc → Option Cell) : List Lf → List Lf → List Key → (List Key → Prop) → Prop
  | [], [], ψ, k => k ψ
  | r :: rs, l :: ls, ψ, k => mtLf look r l ψ fun ψ => mtL look rs ls ψ k
  | _, _, _, _ => False
mutual
def mtSl (look : Loc → Option Cell) : Sl → Sl → List Key → (List Key → Prop) → Prop
  | .lf r, .lf l, ψ, k => mtLf look r l ψ k
  | .agg rs, .agg ls, ψ, k => mtL look rs ls ψ k
  | .tup rs, .tup ss, ψ, k => mtSs look rs ss ψ k
  | _, _, _, _ => False
def mtSs (look : Loc → Option Cell) : List Sl → List Sl → List Key → (List Key → Prop) → Prop
  | [], [], ψ, k => k ψ
  | r :: rs, s :: ss, ψ, k => mtSl look r s ψ fun ψ => mtSs look rs ss ψ k
  | _, _, _, _ => False
end
def mtN (look : Loc → Option Cell) (ψ : List Key) : St → Prop → Prop
  | [], k => k
  | (.row (z, c), .r ⟨e, sz, hot, es⟩) :: N, k => match Nat.beq z 0 with
    | true => match ψ[c]? with
      | some q => match look (.row q) with
        | some (.r ⟨e', sz', hot', es'⟩) => match Nat.beq e e' && Nat.beq sz sz' && hot == hot' with
          | true => es' = es ∧ mtN look ψ N k
          | false => False
        | _ => False
      | none => False
    | false => False
  | _, _ => False
def mtB (look : Loc → Option Cell) (n : Nat) : Bx → Prop
  | [] => True
  | p :: S => match Nat.beq p.1.1.1 1 with
    | true => match look (.leaf (n, p.1.1.2) p.1.2) with
      | some (.l l) => mtLf look (.av p.2) l [] fun _ => mtB look n S
      | _ => False
    | false => False

/-- The function ends as its contract says. -/
def finW (T : TI) (n : Nat) (rs : List ResultVar) (r : Sl) (N : St) (S' : Bx) (σ : St) : Prop :=
  resW T σ.look rs fun s => (σ.upd (frzSl σ.look r s ++ frzB' σ.look n S')).nf fun σ' => mtSl σ'.look r s [] fun ψ => mtN σ'.look ψ N (mtB σ'.look n S')
def finE (T : TI) (n : Nat) (rs : List ResultVar) (r : Sl) (N : St) (S' : Bx) : Ex → St → Prop
  | .normal, σ => finW T n rs r N S' σ
  | .ret, σ => finW T n rs r N S' σ
  | .exit _, _ => False

def entChk (args : List Sl) (S S' : Bx) : Bool :=
  (args.all fun s => s.keys.all fun k => Nat.beq k.1 1) && (S.all fun p => Nat.beq p.1.1.1 1) && S.all fun p => S'.any fun q => kbeq p.1.1 q.1.1

section
variable {P : Program} {T : TI} {C : Cx} {G G' : Gh} {look : Loc → Option Cell} {a : Act} {w : World}

theorem lfR_map {φ : Key → Key} {u : Value} {l : Lf} (h : LfR G w u l) (hF : G'.F = G.F) (hk : ∀ k ∈ l.keys, G'.m (φ k) = G.m k ∧ G'.ρ (φ k) = G.ρ k) : LfR G' w u (l.ren φ) := by
  cases l with
  | av x => simp only [Lf.ren, LfR] at h ⊢; rw [hF]; exact h
  | fptr ls => simp only [Lf.ren, LfR] at h ⊢; rw [hF]; exact h
  | lit b => exact h
  | nil => exact h
  | own k => exact ⟨Eq.trans h.1 (hk k (by simp [Lf.keys])).2.symm, h.2⟩
  | ptr b j => have := (hk b (by simp [Lf.keys])).1; simp only [Lf.ren, LfR, this] at h ⊢; exact h
  | optr k sz i j => have := (hk k (by simp [Lf.keys])).2; simp only [Lf.ren, LfR, this] at h ⊢; exact h
  | fn f caps =>
    simp only [Lf.ren, LfR, List.map_map] at h ⊢
    rw [h]
    congr 2
    refine List.map_congr_left fun p hp => ?_
    simp only [Function.comp]
    rw [(hk p.1 (by simp only [Lf.keys, List.mem_map]; exact ⟨p, hp, rfl⟩)).1]
theorem lfsR_map {φ : Key → Key} (hF : G'.F = G.F) {us : List Value} {ls : List Lf} (h : All2 (LfR G w) us ls) (hk : ∀ l ∈ ls, ∀ k ∈ l.keys, G'.m (φ k) = G.m k ∧ G'.ρ (φ k) = G.ρ k) : All2 (LfR G' w) us (ls.map (Lf.ren φ)) := by
  induction h with
  | nil => exact .nil
  | cons h1 _ ih => exact .cons (lfR_map h1 hF (hk _ (.head _))) (ih fun l hl => hk l (.tail _ hl))
mutual
theorem slR_map {φ : Key → Key} (hF : G'.F = G.F) : ∀ {u : Value} {s : Sl}, SlR G w u s → (∀ k ∈ s.keys, G'.m (φ k) = G.m k ∧ G'.ρ (φ k) = G.ρ k) → SlR G' w u (s.ren φ)
  | _, .lf _, h, hk => lfR_map h hF (by simpa [Sl.keys] using hk)
  | _, .agg _, h, hk => by
    obtain ⟨us, e, hl⟩ := h
    exact ⟨us, e, lfsR_map hF hl fun l hl k hkk => hk k (by simp only [Sl.keys, List.mem_flatMap]; exact ⟨l, hl, hkk⟩)⟩
  | _, .tup _, h, hk => by
    obtain ⟨us, e, hl⟩ := h
    exact ⟨us, e, slsR_map hF hl (by simpa [Sl.keys] using hk)⟩
theorem slsR_map {φ : Key → Key} (hF : G'.F = G.F) : ∀ {us : List Value} {ss : List Sl}, SlsR G w us ss → (∀ k ∈ Sl.keysL ss, G'.m (φ k) = G.m k ∧ G'.ρ (φ k) = G.ρ k) → SlsR G' w us (Sl.renL φ ss)
  | [], [], _, _ => trivial
  | _ :: _, _ :: _, h, hk => ⟨slR_map hF h.1 fun k hkk => hk k (by simp only [Sl.keysL, List.mem_append]; exact .inl hkk), slsR_map hF h.2 fun k hkk => hk k (by simp only [Sl.keysL, List.mem_append]; exact .inr hkk)⟩
  | [], _ :: _, h, _ => h.elim
  | _ :: _, [], h, _ => h.elim
end

theorem slot_look (n : Nat) : ∀ {args : List Sl} {i : Nat} {l : Loc} {c : Cell}, St.look (slotsOf n i args) l = some c → ∃ j s, args[j]? = some s ∧ l = .slot (i + j) ∧ c = .s (s.ren (rk n))
  | [], i, l, c, h => by cases h
  | s :: ss, i, l, c, h => by
    simp only [slotsOf, St.look] at h
    split at h
    · rename_i hb
      cases h
      exact ⟨0, s, by simp, (Loc.beq_iff.1 hb).symm, rfl⟩
    · obtain ⟨j, s', h1, h2, h3⟩ := slot_look n h
      exact ⟨j + 1, s', by simpa using h1, by rw [h2]; congr 1; omega, h3⟩
theorem box_look (n : Nat) : ∀ {S : Bx} {l : Loc} {c : Cell}, St.look (boxesOf n S) l = some c → ∃ p ∈ S, l = .leaf (n, p.1.1.2) p.1.2 ∧ c = .l (.av p.2)
  | [], l, c, h => by cases h
  | p :: S, l, c, h => by
    simp only [boxesOf, St.look] at h
    split at h
    · rename_i hb
      cases h
      exact ⟨p, .head _, (Loc.beq_iff.1 hb).symm, rfl⟩
    · obtain ⟨q, h1, h2, h3⟩ := box_look n h
      exact ⟨q, .tail _ h1, h2, h3⟩
theorem ent_look {n : Nat} {args : List Sl} {S : Bx} {l : Loc} {c : Cell} (h : (ent n args S).look l = some c) :
    (∃ j s, args[j]? = some s ∧ l = .slot j ∧ c = .s (s.ren (rk n))) ∨ ∃ p ∈ S, l = .leaf (n, p.1.1.2) p.1.2 ∧ c = .l (.av p.2) := by
  cases hs : St.look (slotsOf n 0 args) l with
  | some c' =>
    have := look_append_left (B := boxesOf n S) hs
    rw [ent] at h
    rw [this] at h
    cases h
    obtain ⟨j, s, h1, h2, h3⟩ := slot_look n hs
    exact .inl ⟨j, s, h1, by rw [h2]; congr 1; omega, h3⟩
  | none =>
    rw [ent, look_append_right hs] at h
    exact .inr (box_look n h)

theorem slsR_get : ∀ {us : List Value} {ss : List Sl}, SlsR G w us ss → ∀ (j : Nat) (s : Sl), ss[j]? = some s → ∃ u, us[j]? = some u ∧ SlR G w u s
  | [], [], _, j, s, h => by simp at h
  | u :: us, s' :: ss, hh, j, s, h => by
    cases j with
    | zero => simp at h; subst h; exact ⟨u, by simp, hh.1⟩
    | succ j => simpa using slsR_get hh.2 j s (by simpa using h)
  | [], _ :: _, hh, _, _, _ => hh.elim
  | _ :: _, [], hh, _, _, _ => hh.elim

theorem ent_rel {m : Key → Nat} {ρ : Key → Value} {F : Nat → Prop} {vals : List Value} {args : List Sl} {S S' : Bx} (hbox : BoxIn m F w S) (hlt : ∀ b, F b → b < w.heap.size) (hargs : SlsR ⟨m, ρ, F⟩ w vals args) (hchk : entChk args S S' = true) (n : Nat) :
    RelE ⟨w, fun i => ∃ p ∈ S, i = m p.1.1, F, n, fun i => some (m (1, i))⟩ (ent n args S).look { tmps := vals.toArray ++ Array.replicate (n - vals.toArray.size) undef, defers := [] } w := by
  simp only [entChk, Bool.and_eq_true, List.all_eq_true] at hchk
  obtain ⟨⟨hk1, hS1⟩, _⟩ := hchk
  have hS : ∀ p ∈ S, p.1.1 = (1, p.1.1.2) := fun p hp => Prod.ext (Nat.eq_of_beq_eq_true (hS1 p hp)) rfl
  let G : Gh := ⟨fun k => m (1, k.2), fun k => ρ (1, k.2), F⟩
  have hm : ∀ p ∈ S, G.m (n, p.1.1.2) = m p.1.1 := fun p hp => by simp only [G]; rw [← hS p hp]
  refine ⟨G, ?_⟩
  exact {
    leaf := fun b j l e => by
      rcases ent_look e with ⟨_, _, _, h, _⟩ | ⟨p, hp, h1, h2⟩
      · cases h
      · cases h1; cases h2
        obtain ⟨u, cur, T, h3, h4, h5⟩ := hbox.cell p hp
        exact ⟨u, cur, T, by rw [hm p hp]; exact h3, h4, h5⟩
    row := fun k r e => by
      rcases ent_look e with ⟨_, _, _, h, _⟩ | ⟨p, hp, h1, h2⟩
      · cases h
      · cases h1
    sep := fun l l' c c' g e e' hb hb' => by
      rcases ent_look e with ⟨_, _, _, rfl, _⟩ | ⟨p, hp, rfl, rfl⟩
      · simp [Gh.blk] at hb
      · rcases ent_look e' with ⟨_, _, _, rfl, _⟩ | ⟨q, hq, rfl, rfl⟩
        · simp [Gh.blk] at hb'
        · simp only [Gh.blk, Option.some.injEq] at hb hb'
          rw [hm p hp] at hb
          rw [hm q hq] at hb'
          have := hbox.inj p hp q hq (hb.trans hb'.symm)
          simp only [Loc.same]
          rw [this]
    cold := fun l c g e hb => by
      rcases ent_look e with ⟨_, _, _, rfl, _⟩ | ⟨p, hp, rfl, rfl⟩
      · simp [Gh.blk] at hb
      · simp only [Gh.blk, Option.some.injEq] at hb
        rw [hm p hp] at hb
        rw [← hb]
        exact hbox.cold p hp
    Flt := hlt
    slot := fun t s e => by
      rcases ent_look e with ⟨j, s', h1, h2, h3⟩ | ⟨p, hp, h1, h2⟩
      · cases h2; cases h3
        obtain ⟨u, hu, hs⟩ := slsR_get hargs t s' h1
        have ht : t < vals.length := (List.getElem?_eq_some_iff.1 hu).1
        refine ⟨by simp; omega, ?_⟩
        have : (vals.toArray ++ Array.replicate (n - vals.toArray.size) undef).getD t undef = u := by
          simp [Array.getD_eq_getD_getElem?, Array.getElem?_append, ht] at hu ⊢
          exact hu
        rw [this]
        refine slR_map (G := ⟨m, ρ, F⟩) (G' := G) (φ := rk n) rfl hs fun k hk => ?_
        have : k = (1, k.2) := Prod.ext (Nat.eq_of_beq_eq_true (hk1 s' (List.mem_of_getElem? h1) k hk)) rfl
        simp only [G, rk]
        rw [← this]
        exact ⟨rfl, rfl⟩
      · cases h1
    mine := fun l c g e hb => by
      rcases ent_look e with ⟨_, _, _, rfl, _⟩ | ⟨p, hp, rfl, rfl⟩
      · simp [Gh.blk] at hb
      · simp only [Gh.blk, Option.some.injEq] at hb
        rw [hm p hp] at hb
        exact .inr ⟨⟨p, hp, hb.symm⟩, _, _, rfl⟩
    fr := Fr.refl _ _
    F0 := fun b hb => hb
    Fnew := fun b hb => .inl hb
    defers := rfl
    size := by simp; omega
    pin := fun i g h => by simp only [Option.some.injEq] at h; exact h }
end
end Go.Proofs.YtccbimcikbbecaaGreat.P1
/- Functions: the contract from the verification condition of the body. -/
namespace Go.Proofs.YtccbimcikbbecaaGreat.P1
open Go
section
variable {P : Program} {T : TI} {C : Cx} {G G' : Gh} {look : Loc → Option Cell} {a : Act} {w : World}

def readR (tmps : Array Value) : ResultVar → Sem Value
  | .tmp t => pure (tmps.getD t undef)
  | .cell ad t => do loadVar t (← asAddr (tmps.getD ad undef))
theorem results_readR (fn : Func) (tmps : Array Value) : results fn tmps = (do
    let vs ← fn.results.mapM (readR tmps)
    pure (if h : vs.size = 1 then vs[0] else .tuple vs)) := by
  unfold results
  congr 1

theorem resV_sound (hT : TOk P T) (hr : Rel C G look a w) {r : ResultVar} {k : Sl → Prop} (h : resV T look r k) :
    ∃ s v, k s ∧ SlR G w v s ∧ (readR a.tmps r).run P w = .ok v w := by
  cases r with
  | tmp t =>
    simp only [resV] at h
    split at h
    · rename_i hs
      exact ⟨_, _, h, (hr.slot _ _ hs).2, rfl⟩
    · exact h.elim
  | cell ad t =>
    simp only [resV] at h
    split at h
    · rename_i hs
      split at h
      · rename_i d hd
        have hf := hT.facts hd
        obtain ⟨ls, R, us, hk, hn, hc, ha⟩ := leaves_sound hr.toMemR h
        have hv := (hr.slot _ _ hs).2
        simp only [SlR, LfR] at hv
        split at hk
        · rename_i hag
          refine ⟨_, .agg us.toArray, hk, ⟨us, rfl, ha⟩, ?_⟩
          simp only [readR, hv, asAddr, Sem.run_bind, Sem.run_pure, Result.andThen_ok]
          rw [run_loadVar hf hn hc, hag]
          rfl
        · rename_i hag
          split at hk
          · cases ha with
            | cons h1 h2 =>
              rename_i u us'
              refine ⟨_, u, hk, h1, ?_⟩
              simp only [readR, hv, asAddr, Sem.run_bind, Sem.run_pure, Result.andThen_ok]
              rw [run_loadVar hf hn hc, hag]
              rfl
          · exact hk.elim
      · exact h.elim
    · exact h.elim

theorem resL_sound (hT : TOk P T) (hr : Rel C G look a w) : ∀ {rs : List ResultVar} {k : List Sl → Prop}, resL T look rs k →
    ∃ ss vs, k ss ∧ SlsR G w vs ss ∧ (rs.mapM (m := Sem) (readR a.tmps)).run P w = .ok vs w
  | [], _, h => ⟨[], [], h, trivial, rfl⟩
  | r :: rs, k, h => by
    simp only [resL] at h
    obtain ⟨s, v, h1, h2, h3⟩ := resV_sound hT hr h
    obtain ⟨ss, vs, h4, h5, h6⟩ := resL_sound hT hr h1
    refine ⟨s :: ss, v :: vs, h4, ⟨h2, h5⟩, ?_⟩
    simp only [List.mapM_cons, Sem.run_bind, Sem.run_pure]
    rw [h3]
    simp only [Result.andThen_ok]
    rw [h6]
    rfl

theorem resW_sound (hT : TOk P T) (hr : Rel C G look a w) {fn : Func} {k : Sl → Prop} (h : resW T look fn.results.toList k) :
    ∃ s v, k s ∧ SlR G w v s ∧ (results fn a.tmps).run P w = .ok v w := by
  unfold resW at h
  obtain ⟨ss, vs, h1, h2, h3⟩ := resL_sound hT hr h
  have hres : (results fn a.tmps).run P w = .ok (if h : vs.toArray.size = 1 then vs.toArray[0] else .tuple vs.toArray) w := by
    rw [results_readR, Array.mapM_eq_mapM_toList]
    simp only [Sem.run_bind, Sem.run_map]
    rw [h3]
    rfl
  match ss, vs, h1, h2, hres with
  | [], [], h1, _, hres => exact ⟨_, _, h1, ⟨[], rfl, trivial⟩, hres⟩
  | [s], [v], h1, h2, hres => exact ⟨_, _, h1, h2.1, hres⟩
  | s :: s' :: ss, v :: v' :: vs, h1, h2, hres =>
    refine ⟨_, .tuple (v :: v' :: vs).toArray, h1, ⟨_, rfl, h2⟩, ?_⟩
    rw [hres, dif_neg (by simp)]
  | [], _ :: _, _, h2, _ => exact h2.elim
  | _ :: _, [], _, h2, _ => exact h2.elim
  | [_], _ :: _ :: _, _, h2, _ => exact h2.2.elim
  | _ :: _ :: _, [_], _, h2, _ => exact h2.2.elim

/-! ### Freezing at the end -/
theorem frzLf_ok {r l : Lf} : FrzOk look (frzLf look r l) := by
  unfold frzLf
  split
  · split
    · rename_i e sz hot es hq
      split
      · intro p hp
        simp only [List.mem_singleton] at hp
        subst hp
        exact ⟨_, ⟨e, sz, true, es⟩, rfl, hq, rfl⟩
      · exact FrzOk.nil
    · exact FrzOk.nil
  · exact FrzOk.nil
theorem frzL_ok : ∀ {rs ls : List Lf}, FrzOk look (frzL look rs ls)
  | [], _ => by simp only [frzL]; exact FrzOk.nil
  | _ :: _, [] => by simp only [frzL]; exact FrzOk.nil
  | _ :: _, _ :: _ => by simp only [frzL]; exact frzLf_ok.append frzL_ok
mutual
theorem frzSl_ok : ∀ {r s : Sl}, FrzOk look (frzSl look r s)
  | .lf _, .lf _ => by simp only [frzSl]; exact frzLf_ok
  | .agg _, .agg _ => by simp only [frzSl]; exact frzL_ok
  | .tup _, .tup _ => by simp only [frzSl]; exact frzSs_ok
  | .lf _, .agg _ => by simp only [frzSl]; exact FrzOk.nil
  | .lf _, .tup _ => by simp only [frzSl]; exact FrzOk.nil
  | .agg _, .lf _ => by simp only [frzSl]; exact FrzOk.nil
  | .agg _, .tup _ => by simp only [frzSl]; exact FrzOk.nil
  | .tup _, .lf _ => by simp only [frzSl]; exact FrzOk.nil
  | .tup _, .agg _ => by simp only [frzSl]; exact FrzOk.nil
theorem frzSs_ok : ∀ {rs ss : List Sl}, FrzOk look (frzSs look rs ss)
  | [], _ => by simp only [frzSs]; exact FrzOk.nil
  | _ :: _, [] => by simp only [frzSs]; exact FrzOk.nil
  | _ :: _, _ :: _ => by simp only [frzSs]; exact frzSl_ok.append frzSs_ok
end
theorem frzB'_ok {n : Nat} : ∀ {S : Bx}, FrzOk look (frzB' look n S)
  | [] => FrzOk.nil
  | p :: S => by
    simp only [frzB']
    refine FrzOk.append ?_ frzB'_ok
    split
    · exact frzLf_ok
    · exact FrzOk.nil
theorem FrzOk.dok {D : Dl} (h : FrzOk look D) : Dl.ok D = true := by
  induction D with
  | nil => rfl
  | cons p D ih =>
    obtain ⟨q, r, rfl, _⟩ := h p (.head _)
    simp only [Dl.ok]
    exact ih fun p hp => h p (.tail _ hp)

/-! ### The result's cells -/
def LM (look : Loc → Option Cell) (ψ : List Key) (r l : Lf) : Prop := match r, l with
  | .av x, .av x' => x' = x
  | .av x, .lit b => AV.bool b = x
  | .av x, .nil => AV.row [] = x
  | .av x, .own q => ∃ e sz es, look (.row q) = some (.r ⟨e, sz, false, es⟩) ∧ AV.row es = x
  | .lit b, .lit b' => b' = b
  | .nil, .nil => True
  | .own (z, c), .own q => z = 0 ∧ ψ[c]? = some q
  | _, _ => False
theorem LM.ext {ψ E : List Key} {r l : Lf} (h : LM look ψ r l) : LM look (ψ ++ E) r l := by
  unfold LM at h ⊢
  split at h <;> try exact h
  obtain ⟨h1, h2⟩ := h
  exact ⟨h1, by rw [List.getElem?_append_left (List.getElem?_eq_some_iff.1 h2).1]; exact h2⟩

theorem memK_false {b : Key} : ∀ {B : List Key}, memK b B = false → b ∉ B
  | [], _, h => by cases h
  | k :: r, hm, h => by
    simp only [memK] at hm
    split at hm
    · cases hm
    · rename_i hb
      rcases List.mem_cons.1 h with rfl | h
      · rw [kbeq_iff.2 rfl] at hb; cases hb
      · exact memK_false hm h

theorem mtLf_sound {r l : Lf} {ψ : List Key} {k : List Key → Prop} (h : mtLf look r l ψ k) : ∃ E, k (ψ ++ E) ∧ LM look (ψ ++ E) r l ∧ (ψ.Nodup → (ψ ++ E).Nodup) := by
  unfold mtLf at h
  split at h
  · exact ⟨[], by simpa using h.2, h.1, by simp⟩
  · exact ⟨[], by simpa using h.2, h.1, by simp⟩
  · exact ⟨[], by simpa using h.2, h.1, by simp⟩
  · split at h
    · rename_i hq
      split at h
      · exact ⟨[], by simpa using h.2, ⟨_, _, _, hq, h.1⟩, by simp⟩
      · exact h.elim
    · exact h.elim
  · exact ⟨[], by simpa using h.2, h.1, by simp⟩
  · exact ⟨[], by simpa using h, trivial, by simp⟩
  · split at h
    · rename_i hz
      have hz := Nat.eq_of_beq_eq_true hz
      split at h
      · rename_i hq
        split at h
        · rename_i hb
          have := kbeq_iff.1 hb
          subst this
          exact ⟨[], by simpa using h, ⟨hz, by simpa using hq⟩, by simp⟩
        · exact h.elim
      · split at h
        · rename_i hb
          simp only [Bool.and_eq_true, Bool.not_eq_true'] at hb
          have hc := Nat.eq_of_beq_eq_true hb.1
          refine ⟨[_], h, ⟨hz, by rw [hc]; simp⟩, fun hn => ?_⟩
          rw [List.nodup_append]
          refine ⟨hn, by simp, fun x hx y hy => ?_⟩
          simp only [List.mem_singleton] at hy
          subst hy
          rintro rfl
          exact memK_false hb.2 hx
        · exact h.elim
    · exact h.elim
  · exact h.elim

theorem mtL_sound : ∀ {rs ls : List Lf} {ψ : List Key} {k : List Key → Prop}, mtL look rs ls ψ k → ∃ E, k (ψ ++ E) ∧ (∀ E', All2 (LM look (ψ ++ E ++ E')) rs ls) ∧ (ψ.Nodup → (ψ ++ E).Nodup)
  | [], [], ψ, k, h => ⟨[], by simpa [mtL] using h, fun _ => .nil, by simp⟩
  | r :: rs, l :: ls, ψ, k, h => by
    simp only [mtL] at h
    obtain ⟨E, h1, h2, h3⟩ := mtLf_sound h
    obtain ⟨E2, h4, h5, h6⟩ := mtL_sound h1
    refine ⟨E ++ E2, by simpa using h4, fun E' => .cons ?_ ?_, fun hn => by simpa using h6 (h3 hn)⟩
    · have := h2.ext (E := E2 ++ E'); simpa using this
    · have := h5 E'; simpa using this
  | [], _ :: _, _, _, h => h.elim
  | _ :: _, [], _, _, h => h.elim

mutual
inductive SM (look : Loc → Option Cell) (ψ : List Key) : Sl → Sl → Prop
  | lf {r l} (h : LM look ψ r l) : SM look ψ (.lf r) (.lf l)
  | agg {rs ls} (h : All2 (LM look ψ) rs ls) : SM look ψ (.agg rs) (.agg ls)
  | tup {rs ss} (h : SMs look ψ rs ss) : SM look ψ (.tup rs) (.tup ss)
inductive SMs (look : Loc → Option Cell) (ψ : List Key) : List Sl → List Sl → Prop
  | nil : SMs look ψ [] []
  | cons {r s rs ss} (h : SM look ψ r s) (t : SMs look ψ rs ss) : SMs look ψ (r :: rs) (s :: ss)
end

mutual
theorem mtSl_sound : ∀ {r s : Sl} {ψ : List Key} {k : List Key → Prop}, mtSl look r s ψ k → ∃ E, k (ψ ++ E) ∧ (∀ E', SM look (ψ ++ E ++ E') r s) ∧ (ψ.Nodup → (ψ ++ E).Nodup)
  | .lf r, .lf l, ψ, k, h => by
    simp only [mtSl] at h
    obtain ⟨E, h1, h2, h3⟩ := mtLf_sound h
    exact ⟨E, h1, fun E' => .lf h2.ext, h3⟩
  | .agg rs, .agg ls, ψ, k, h => by
    simp only [mtSl] at h
    obtain ⟨E, h1, h2, h3⟩ := mtL_sound h
    exact ⟨E, h1, fun E' => .agg (h2 E'), h3⟩
  | .tup rs, .tup ss, ψ, k, h => by
    simp only [mtSl] at h
    obtain ⟨E, h1, h2, h3⟩ := mtSs_sound h
    exact ⟨E, h1, fun E' => .tup (h2 E'), h3⟩
  | .lf _, .agg _, _, _, h => by simp [mtSl] at h
  | .lf _, .tup _, _, _, h => by simp [mtSl] at h
  | .agg _, .lf _, _, _, h => by simp [mtSl] at h
  | .agg _, .tup _, _, _, h => by simp [mtSl] at h
  | .tup _, .lf _, _, _, h => by simp [mtSl] at h
  | .tup _, .agg _, _, _, h => by simp [mtSl] at h
theorem mtSs_sound : ∀ {rs ss : List Sl} {ψ : List Key} {k : List Key → Prop}, mtSs look rs ss ψ k → ∃ E, k (ψ ++ E) ∧ (∀ E', SMs look (ψ ++ E ++ E') rs ss) ∧ (ψ.Nodup → (ψ ++ E).Nodup)
  | [], [], ψ, k, h => ⟨[], by simpa [mtSs] using h, fun _ => .nil, by simp⟩
  | r :: rs, s :: ss, ψ, k, h => by
    simp only [mtSs] at h
    obtain ⟨E, h1, h2, h3⟩ := mtSl_sound h
    obtain ⟨E2, h4, h5, h6⟩ := mtSs_sound h1
    refine ⟨E ++ E2, by simpa using h4, fun E' => .cons ?_ ?_, fun hn => by simpa using h6 (h3 hn)⟩
    · have := h2 (E2 ++ E'); simpa using this
    · have := h5 E'; simpa using this
  | [], _ :: _, _, _, h => by simp [mtSs] at h
  | _ :: _, [], _, _, h => by simp [mtSs] at h
end

theorem mtN_sound {ψ : List Key} : ∀ {N : St} {k : Prop}, mtN look ψ N k → k ∧ ∀ l c, (l, c) ∈ N → ∃ i q r, l = .row (0, i) ∧ c = .r r ∧ ψ[i]? = some q ∧ look (.row q) = some (.r r)
  | [], k, h => ⟨h, fun l c hm => by cases hm⟩
  | (l0, c0) :: N, k, h => by
    unfold mtN at h
    split at h
    · rename_i heq; cases heq
    · rename_i z i e sz hot es N' k' heq
      cases heq
      split at h
      · rename_i hz
        have hz := Nat.eq_of_beq_eq_true hz
        subst hz
        split at h
        · rename_i q hq
          split at h
          · rename_i e' sz' hot' es' hl
            split at h
            · rename_i hb
              simp only [Bool.and_eq_true, beq_iff_eq] at hb
              obtain ⟨⟨hb1, hb2⟩, hb3⟩ := hb
              have hb1 := Nat.eq_of_beq_eq_true hb1
              have hb2 := Nat.eq_of_beq_eq_true hb2
              obtain ⟨h1, h2⟩ := h
              subst hb1 hb2 hb3 h1
              obtain ⟨h3, h4⟩ := mtN_sound h2
              refine ⟨h3, fun l c hm => ?_⟩
              rcases List.mem_cons.1 hm with hm | hm
              · cases hm; exact ⟨_, q, _, rfl, rfl, hq, hl⟩
              · exact h4 l c hm
            · exact h.elim
          · exact h.elim
        · exact h.elim
      · exact h.elim
    · exact h.elim

theorem mtB_sound {n : Nat} : ∀ {S : Bx}, mtB look n S → ∀ p ∈ S, p.1.1.1 = 1 ∧ ∃ l, look (.leaf (n, p.1.1.2) p.1.2) = some (.l l) ∧ LM look [] (.av p.2) l
  | [], _, p, hp => by cases hp
  | q :: S, h, p, hp => by
    simp only [mtB] at h
    split at h
    · rename_i h1
      split at h
      · rename_i l hl
        have hh := h
        obtain ⟨E, h2, h3, _⟩ := mtLf_sound h
        rcases List.mem_cons.1 hp with rfl | hp
        · refine ⟨Nat.eq_of_beq_eq_true h1, l, hl, ?_⟩
          unfold LM at h3 ⊢
          cases l <;> simp at h3 ⊢ <;> exact h3
        · exact mtB_sound h2 p hp
      · exact h.elim
    · exact h.elim

theorem LM.rel (hr : MemR G look w) {ψ : List Key} {r l : Lf} (h : LM look ψ r l) {u : Value} (hu : LfR G w u l) (hF : G'.F = G.F) (hρ : ∀ c q, ψ[c]? = some q → G'.ρ (0, c) = G.ρ q) : LfR G' w u r := by
  unfold LM at h
  split at h
  · subst h; simp only [LfR] at hu ⊢; rw [hF]; exact hu
  · subst h; simp only [LfR] at hu ⊢; subst hu; exact .bool
  · subst h; simp only [LfR] at hu ⊢; subst hu; exact .emp fun _ => rfl
  · obtain ⟨e, sz, es, h1, rfl⟩ := h
    have h2 := hr.row _ _ h1
    simp only [LfR] at hu ⊢
    rw [hu.1]
    exact row_rd h2 (fun b hb => by rw [hF]; exact hb) (fun g hg => by rw [hF]; exact h2.2.2.2.1 rfl g hg)
  · subst h; exact hu
  · exact hu
  · obtain ⟨rfl, h2⟩ := h
    simp only [LfR] at hu ⊢
    rw [hρ _ _ h2]
    exact hu
  · exact h.elim
theorem LMs.rel (hr : MemR G look w) {ψ : List Key} (hF : G'.F = G.F) (hρ : ∀ c q, ψ[c]? = some q → G'.ρ (0, c) = G.ρ q) {us : List Value} {ls : List Lf} (hu : All2 (LfR G w) us ls) : ∀ {rs : List Lf}, All2 (LM look ψ) rs ls → All2 (LfR G' w) us rs := by
  induction hu with
  | nil => intro rs h; cases h; exact .nil
  | cons h1 _ ih => intro rs h; cases h with | cons h2 h3 => exact .cons (h2.rel hr h1 hF hρ) (ih h3)
mutual
theorem SM.rel (hr : MemR G look w) {ψ : List Key} (hF : G'.F = G.F) (hρ : ∀ c q, ψ[c]? = some q → G'.ρ (0, c) = G.ρ q) : ∀ {r s : Sl} {u : Value}, SM look ψ r s → SlR G w u s → SlR G' w u r
  | .lf _, .lf _, _, h, hu => by cases h with | lf h => exact h.rel hr hu hF hρ
  | .agg _, .agg _, _, h, hu => by
    cases h with
    | agg h =>
      obtain ⟨us, e, hl⟩ := hu
      exact ⟨us, e, LMs.rel hr hF hρ hl h⟩
  | .tup _, .tup _, _, h, hu => by
    cases h with
    | tup h =>
      obtain ⟨us, e, hl⟩ := hu
      exact ⟨us, e, SMs.rel hr hF hρ h hl⟩
  | .lf _, .agg _, _, h, _ => by cases h
  | .lf _, .tup _, _, h, _ => by cases h
  | .agg _, .lf _, _, h, _ => by cases h
  | .agg _, .tup _, _, h, _ => by cases h
  | .tup _, .lf _, _, h, _ => by cases h
  | .tup _, .agg _, _, h, _ => by cases h
theorem SMs.rel (hr : MemR G look w) {ψ : List Key} (hF : G'.F = G.F) (hρ : ∀ c q, ψ[c]? = some q → G'.ρ (0, c) = G.ρ q) : ∀ {rs ss : List Sl} {us : List Value}, SMs look ψ rs ss → SlsR G w us ss → SlsR G' w us rs
  | [], [], [], _, _ => trivial
  | _ :: _, _ :: _, _ :: _, h, hu => by cases h with | cons h1 h2 => exact ⟨SM.rel hr hF hρ h1 hu.1, SMs.rel hr hF hρ h2 hu.2⟩
  | [], _ :: _, _, h, _ => by cases h
  | _ :: _, [], _, h, _ => by cases h
  | [], [], _ :: _, _, hu => hu.elim
  | _ :: _, _ :: _, [], _, hu => hu.elim
end
end
end Go.Proofs.YtccbimcikbbecaaGreat.P1
/- A function's contract from the verification condition of its body. -/
namespace Go.Proofs.YtccbimcikbbecaaGreat.P1
open Go
section
variable {P : Program} {T : TI}

theorem bxst_mem {S' : Bx} {l : Loc} {c : Cell} (h : St.look S'.st l = some c) : ∃ p ∈ S', l = .leaf p.1.1 p.1.2 ∧ c = .l (.av p.2) := by
  have := mem_of_look h
  simp only [Bx.st, List.mem_map] at this
  obtain ⟨p, hp, he⟩ := this
  cases he
  exact ⟨p, hp, rfl, rfl⟩

theorem nodup_loc {ψ : List Key} (hnd : ψ.Nodup) {i i' : Nat} {q : Key} (h4 : ψ[i]? = some q) (h4' : ψ[i']? = some q) : (Loc.row (0, i)).same (.row (0, i')) := by
  obtain ⟨h7, h7'⟩ := List.getElem?_eq_some_iff.1 h4
  obtain ⟨h8, h8'⟩ := List.getElem?_eq_some_iff.1 h4'
  have hpw := List.pairwise_iff_getElem.1 hnd
  have : i = i' := by
    rcases Nat.lt_trichotomy i i' with hlt | heq | hlt
    · exact absurd (h7'.trans h8'.symm) (hpw i i' h7 h8 hlt)
    · exact heq
    · exact absurd (h8'.trans h7'.symm) (hpw i' i h8 h7 hlt)
  subst this
  exact (rfl : ((0 : Nat), i) = (0, i))

theorem fin_post (hT : TOk P T) {m : Key → Nat} {F : Nat → Prop} {w w' : World} {S S' : Bx} {n : Nat} {a : Act} {fn : Func} {r : Sl} {N : St} {σ : St} (hcov : ∀ p ∈ S, ∃ q ∈ S', p.1.1 = q.1.1)
    (hr : RelE ⟨w, fun i => ∃ p ∈ S, i = m p.1.1, F, n, fun i => some (m (1, i))⟩ σ.look a w') (h : finW T n fn.results.toList r N S' σ) :
    ∃ v, (results fn a.tmps).run P w' = .ok v w' ∧ ∃ G', Post m F w S' r N G' v w' := by
  obtain ⟨G, hr⟩ := hr
  unfold finW at h
  obtain ⟨s, v, h1, h2, h3⟩ := resW_sound hT hr h
  refine ⟨v, h3, ?_⟩
  have hfz : FrzOk σ.look (frzSl σ.look r s ++ frzB' σ.look n S') := frzSl_ok.append frzB'_ok
  generalize frzSl σ.look r s ++ frzB' σ.look n S' = D at h1 hfz
  rw [St.nf_eq, upd_look hfz.dok] at h1
  have hrF := hr.freeze hfz
  have hsF : SlR ⟨G.m, G.ρ, fun b => G.F b ∨ frzB G D b⟩ w' v s := SlR.keep (G := G) (G' := ⟨G.m, G.ρ, fun b => G.F b ∨ frzB G D b⟩) ⟨fun _ _ => rfl, fun b hb => Or.inl hb⟩ h2 fun _ _ => ⟨rfl, rfl⟩
  generalize hG : (⟨G.m, G.ρ, fun b => G.F b ∨ frzB G D b⟩ : Gh) = G1 at hrF hsF
  clear hr h2 hG hfz
  obtain ⟨ψ, hk, hSM, hnd⟩ := mtSl_sound h1
  simp only [List.nil_append] at hk hSM hnd
  have hnd := hnd List.nodup_nil
  obtain ⟨hB, hN⟩ := mtN_sound hk
  have hB := mtB_sound hB
  have hSM : SM (app σ.look D) ψ r s := by have := hSM []; simpa using this
  let G' : Gh := ⟨fun k => G1.m (n, k.2), fun k => G1.ρ (ψ.getD k.2 (0, 0)), G1.F⟩
  have hρ : ∀ c q, ψ[c]? = some q → G'.ρ (0, c) = G1.ρ q := fun c q hq => by simp [G', List.getD_eq_getElem?_getD, hq]
  have hS1 : ∀ p ∈ S', p.1.1 = (1, p.1.1.2) := fun p hp => Prod.ext (hB p hp).1 rfl
  -- where the entries come from
  have look : ∀ l c, St.look (N ++ S'.st) l = some c → (∃ i q r, l = .row (0, i) ∧ c = .r r ∧ ψ[i]? = some q ∧ app σ.look D (.row q) = some (.r r)) ∨ ∃ p ∈ S', l = .leaf (1, p.1.1.2) p.1.2 ∧ c = .l (.av p.2) := fun l c e => by
    cases hl : St.look N l with
    | some c' =>
      rw [look_append_left hl] at e
      cases e
      exact .inl (hN l _ (mem_of_look hl))
    | none =>
      rw [look_append_right hl] at e
      obtain ⟨p, hp, h4, h5⟩ := bxst_mem e
      exact .inr ⟨p, hp, by rw [h4, ← hS1 p hp], h5⟩
  have hblk : ∀ l c g, St.look (N ++ S'.st) l = some c → G'.blk l c = some g → (∃ i q r, l = .row (0, i) ∧ c = .r r ∧ ψ[i]? = some q ∧ app σ.look D (.row q) = some (.r r) ∧ G1.blk (.row q) (.r r) = some g) ∨
      ∃ p ∈ S', ∃ l0, l = .leaf (1, p.1.1.2) p.1.2 ∧ app σ.look D (.leaf (n, p.1.1.2) p.1.2) = some (.l l0) ∧ G1.blk (.leaf (n, p.1.1.2) p.1.2) (.l l0) = some g := fun l c g e hb => by
    rcases look l c e with ⟨i, q, r, rfl, rfl, h4, h5⟩ | ⟨p, hp, rfl, rfl⟩
    · refine .inl ⟨i, q, r, rfl, rfl, h4, h5, ?_⟩
      simp only [Gh.blk] at hb ⊢
      rw [hρ i q h4] at hb
      exact hb
    · obtain ⟨_, l0, h4, _⟩ := hB p hp
      exact .inr ⟨p, hp, l0, rfl, h4, hb⟩
  refine ⟨G', {
    res := SM.rel (G' := G') hrF.toMemR rfl hρ hSM hsF
    mem := {
      leaf := fun b j l e => ?_
      row := fun k x e => ?_
      sep := fun l l' c c' g e e' hb hb' => ?_
      cold := fun l c g e hb hF => ?_
      Flt := hrF.Flt }
    old := fun p hp => ?_
    new := fun l c g e hb => ?_
    fr := ?_
    F1 := fun b hb => hrF.F0 b hb
    F2 := fun b hb => hrF.Fnew b hb }⟩
  · rcases look _ _ e with ⟨_, _, _, h, _⟩ | ⟨p, hp, h4, h5⟩
    · cases h
    · cases h4; cases h5
      obtain ⟨_, l0, h6, h7⟩ := hB p hp
      obtain ⟨u, cur, T', h8, h9, h10⟩ := hrF.leaf _ _ _ h6
      exact ⟨u, cur, T', h8, h9, LM.rel (G' := G') (ψ := []) hrF.toMemR h7 h10 rfl fun c q hq => by simp at hq⟩
  · rcases look _ _ e with ⟨i, q, r', h, h4, h5, h6⟩ | ⟨p, hp, h4, h5⟩
    · cases h; cases h4
      rw [hρ i q h5]
      exact hrF.row q _ h6
    · cases h4
  · rcases hblk l c g e hb with ⟨i, q, r1, rfl, rfl, h4, h5, h6⟩ | ⟨p, hp, l0, rfl, h5, h6⟩ <;> rcases hblk l' c' g e' hb' with ⟨i', q', r2, rfl, rfl, h4', h5', h6'⟩ | ⟨p', hp', l0', rfl, h5', h6'⟩
    · have := hrF.sep _ _ _ _ g h5 h5' h6 h6'
      have hq : q = q' := this
      subst hq
      exact nodup_loc hnd h4 h4'
    · exact (hrF.sep _ _ _ _ g h5 h5' h6 h6').elim
    · exact (hrF.sep _ _ _ _ g h5 h5' h6 h6').elim
    · have h7 := hrF.sep _ _ _ _ g h5 h5' h6 h6'
      simp only [Loc.same, Prod.mk.injEq, true_and] at h7 ⊢
      exact h7
  · rcases hblk l c g e hb with ⟨i, q, r1, rfl, rfl, h4, h5, h6⟩ | ⟨p, hp, l0, rfl, h5, h6⟩
    · exact hrF.cold _ _ g h5 h6 hF
    · exact hrF.cold _ _ g h5 h6 hF
  · have := hrF.pin p.1.1.2 (m (1, p.1.1.2)) rfl
    simp only [G']
    rw [this, ← hS1 p hp]
  · have e' := look_append_left (B := S'.st) e
    rcases hblk l c g e' hb with ⟨i, q, r1, rfl, rfl, h4, h5, h6⟩ | ⟨p, hp, l0, rfl, h5, h6⟩
    · rcases hrF.mine _ _ g h5 h6 with h | ⟨_, _, _, h⟩
      · exact h
      · cases h
    · obtain ⟨_, _, _, h, _⟩ := hN _ _ (mem_of_look e)
      cases h
  · refine hrF.fr.mono fun i ⟨p, hp, hi⟩ => ?_
    obtain ⟨q, hq, hpq⟩ := hcov p hp
    exact ⟨q, hq, by rw [hi, hpq]⟩

/-- The contract of a function: its body's condition, from the state at its entry. -/
theorem ct_of_vc (hP : P.follows .mixedOrders = true) (hT : TOk P T) {f : FuncId} {fn : Func} {c : Code} (H : List (Nat × Hint)) (hf : P.funcs[f]? = some fn) (hb : fn.body = some c) (hn : (fn.name == "runtime.NumGoroutine") = false)
    (hok : codeOk P fn.ntmps H c = true) {args : List Sl} {S : Bx} {r : Sl} {N : St} {S' : Bx} (hchk : entChk args S S' = true)
    (h : (∀ s ∈ args, s.Wf) → (∀ p ∈ S, Wf p.2) → vc P T fn.ntmps H c (finE T fn.ntmps fn.results.toList r N S') (ent fn.ntmps args S)) : Ct P f args S r N S' := by
  refine ⟨⟨fn, c, hf, hb, hn⟩, fun m ρ F w vals hbox hlt hargs => ?_⟩
  have hwS : ∀ p ∈ S, Wf p.2 := fun p hp => by
    obtain ⟨u, cur, T', _, _, h⟩ := hbox.cell p hp
    exact h.wf
  have hwl : ∀ {u : Value} {l : Lf}, LfR ⟨m, ρ, F⟩ w u l → l.Wf := fun {u l} hu => by
    cases l <;> simp only [Lf.Wf]
    exact Rd.wf hu
  have hws : ∀ s ∈ args, s.Wf := fun s hs => by
    obtain ⟨i, hi⟩ := List.getElem?_of_mem hs
    obtain ⟨u, _, hu⟩ := slsR_get hargs i s hi
    cases s with
    | lf l => exact hwl hu
    | agg ls =>
      obtain ⟨us, _, hl⟩ := hu
      intro l hll
      obtain ⟨j, hj⟩ := List.getElem?_of_mem hll
      obtain ⟨u, _, hu⟩ := hl.get j l hj
      exact hwl hu
    | tup ss => trivial
  have hcov : ∀ p ∈ S, ∃ q ∈ S', p.1.1 = q.1.1 := fun p hp => by
    simp only [entChk, Bool.and_eq_true, List.all_eq_true, List.any_eq_true] at hchk
    obtain ⟨q, hq, hpq⟩ := hchk.2 p hp
    exact ⟨q, hq, kbeq_iff.1 hpq⟩
  have hrel := ent_rel hbox hlt hargs hchk fn.ntmps
  refine calls_of_wp hf hb (wp_mono (vc_sound hP hT c _ _ hok (h hws hwS) _ rfl _ w hrel) fun e a w' hpost => ?_)
  have fin : ∀ σ, finW T fn.ntmps fn.results.toList r N S' σ → RelE ⟨w, fun i => ∃ p ∈ S, i = m p.1.1, F, fn.ntmps, fun i => some (m (1, i))⟩ σ.look a w' →
      a.defers = [] ∧ ∃ v, (results fn a.tmps).run P w' = .ok v w' ∧ ∃ v' G', Ending.returned v = .returned v' ∧ Post m F w S' r N G' v' w' := fun σ h1 h2 => by
    obtain ⟨v, h3, G', h4⟩ := fin_post hT hcov h2 h1
    obtain ⟨G, h2⟩ := h2
    exact ⟨h2.defers, v, h3, v, G', rfl, h4⟩
  cases e with
  | normal => obtain ⟨σ, h1, h2⟩ := hpost; exact fin σ h1 h2
  | ret => obtain ⟨σ, h1, h2⟩ := hpost; exact fin σ h1 h2
  | exit id => obtain ⟨σ, h1, h2⟩ := hpost; exact h1.elim
  | _ => exact hpost.elim
end
end Go.Proofs.YtccbimcikbbecaaGreat.P1
