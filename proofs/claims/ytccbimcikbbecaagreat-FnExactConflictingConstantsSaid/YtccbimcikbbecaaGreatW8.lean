/- Part 8 of what the row leans on: Mat, Act. No statement of the program stands here by itself. -/
import Derived.Test.YtccbimcikbbecaaGreatW7
set_option linter.all false
set_option linter.unusedVariables false
set_option linter.unusedSimpArgs false
/- Matches of atoms among facts. -/
namespace Go.Proofs.YtccbimcikbbecaaGreat
open Go P1
def fitP (b : List Int) : List Int → List Int → List Int × Bool
  | t :: ts, v :: vs => if t < 0 then (if -1 - t = v then fitP b ts vs else (b, false)) else if b.getD t.toNat 0 ≠ 10 ∧ b.getD t.toNat 0 ≠ v then (b, false) else fitP (b.set t.toNat v) ts vs
  | _, _ => (b, true)
def fitR (a : Atom) (f : Fact) (b : List Int) : List Int × Bool := if a.rel = f.rel ∧ a.terms.length = f.vals.length then fitP b a.terms f.vals else (b, false)
theorem fitP_step {b ts vs : List Int} {i : Nat} (h : i < ts.length) (h' : i < vs.length) : fitP b (ts.drop i) (vs.drop i) = if ts[i] < 0 then (if -1 - ts[i] = vs[i] then fitP b (ts.drop (i + 1)) (vs.drop (i + 1)) else (b, false)) else if b.getD ts[i].toNat 0 ≠ 10 ∧ b.getD ts[i].toNat 0 ≠ vs[i] then (b, false) else fitP (b.set ts[i].toNat vs[i]) (ts.drop (i + 1)) (vs.drop (i + 1)) := by
  rw [List.drop_eq_getElem_cons h, List.drop_eq_getElem_cons h']; rfl
theorem fitP_end {b ts vs : List Int} {i : Nat} (h : ts.length ≤ i) : fitP b (ts.drop i) (vs.drop i) = (b, true) := by
  rw [List.drop_of_length_le h]; rfl
theorem getD_eq {b : List Int} {t : Nat} (h : t < b.length) : b.getD t 0 = b[t] := by
  simp only [List.getD_eq_getElem?_getD, List.getElem?_eq_getElem h, Option.getD_some]
theorem fitP_neg {b ts vs : List Int} {i : Nat} (h : i < ts.length) (h' : i < vs.length) (h0 : ts[i] < 0) (he : -1 - ts[i] = vs[i]) : fitP b (ts.drop i) (vs.drop i) = fitP b (ts.drop (i + 1)) (vs.drop (i + 1)) := by
  rw [fitP_step h h', if_pos h0, if_pos he]
theorem fitP_negb {b ts vs : List Int} {i : Nat} (h : i < ts.length) (h' : i < vs.length) (h0 : ts[i] < 0) (he : ¬ -1 - ts[i] = vs[i]) : fitP b (ts.drop i) (vs.drop i) = (b, false) := by
  rw [fitP_step h h', if_pos h0, if_neg he]
theorem fitP_posb {b ts vs : List Int} {i : Nat} (h : i < ts.length) (h' : i < vs.length) (h0 : 0 ≤ ts[i]) (hl : ts[i].toNat < b.length) (h1 : ¬ b[ts[i].toNat] = 10) (h2 : ¬ b[ts[i].toNat] = vs[i]) : fitP b (ts.drop i) (vs.drop i) = (b, false) := by
  rw [fitP_step h h', if_neg (Int.not_lt.2 h0), getD_eq hl, if_pos ⟨h1, h2⟩]
theorem fitP_pos {b ts vs : List Int} {i : Nat} (h : i < ts.length) (h' : i < vs.length) (h0 : 0 ≤ ts[i]) (hl : ts[i].toNat < b.length) (h1 : b[ts[i].toNat] = 10 ∨ b[ts[i].toNat] = vs[i]) : fitP b (ts.drop i) (vs.drop i) = fitP (b.set ts[i].toNat vs[i]) (ts.drop (i + 1)) (vs.drop (i + 1)) := by
  rw [fitP_step h h', if_neg (Int.not_lt.2 h0), getD_eq hl, if_neg (by rintro ⟨h3, h4⟩; exact h1.elim h3 h4)]
theorem fitP_pose {b ts vs : List Int} {i : Nat} (h : i < ts.length) (h' : i < vs.length) (h0 : 0 ≤ ts[i]) (hl : ts[i].toNat < b.length) (h1 : b[ts[i].toNat] = vs[i]) : fitP b (ts.drop i) (vs.drop i) = fitP b (ts.drop (i + 1)) (vs.drop (i + 1)) := by
  rw [fitP_pos h h' h0 hl (.inr h1), ← h1, List.set_getElem_self]
theorem termOk_lt {l : List Int} (h : l.all termOk = true) {i : Nat} (hi : i < l.length) : -10 ≤ l[i] ∧ l[i] ≤ 4 := inR_iff.1 (List.all_eq_true.1 h _ (List.getElem_mem hi))
def H189 : List (Nat × Hint) := [(0, ⟨[], [0, 1, 6, 7]⟩), (1, ⟨[], [2, 11, 12, 13]⟩), (2, ⟨[(false, []), (false, []), (false, []), (false, []), (false, []), (true, []), (false, []), (false, []), (false, []), (false, []), (false, []), (false, []), (false, []), (false, [])], [14, 15, 16, 17, 18, 19, 20, 21, 22, 23, 24, 25, 26]⟩), (3, ⟨[], [8, 28]⟩), (5, ⟨[], [29, 30, 31, 32]⟩), (6, ⟨[], [34, 35]⟩), (7, ⟨[], [36, 37, 38, 39, 40]⟩), (8, ⟨[], [41]⟩), (9, ⟨[], [10, 43, 44, 45, 46, 47, 48, 49]⟩), (10, ⟨[], [8, 51]⟩), (11, ⟨[(false, []), (false, [0]), (false, []), (false, []), (false, [0, 1, 2, 3]), (false, []), (true, []), (false, []), (false, [0]), (false, []), (false, []), (false, [0, 1, 2, 3]), (false, [1, 2, 3, 4]), (false, [0, 1, 2, 3, 4, 5]), (false, [3, 4, 5, 6]), (false, [4, 5, 6, 7]), (false, []), (false, [])], [52, 53, 54, 55, 56, 57, 58, 59, 60, 61, 62, 63, 64, 65, 66, 67, 68]⟩), (12, ⟨[], [8, 70]⟩), (13, ⟨[], [10, 71, 72, 73, 74, 75, 76, 77, 78]⟩), (14, ⟨[], [8, 79]⟩)]
set_option maxHeartbeats 4000000 in
set_option maxRecDepth 100000 in
theorem ct_l11Fit (a : Atom) (f : Fact) (b : List Int) (ha : a.terms.all termOk = true) (hb : b.length = 5) (hsm : a.terms.length ≤ 1000000) : Ct Tryz.prog 189 [ag a.av, ag f.av, sl (ints b)] [] (.tup [sl (ints (fitR a f b).1), sl (.bool (fitR a f b).2)]) [] [] := by
  refine ct_of_vc mixed tab_ok H189 Tryz.func189 rfl (by kernel_rfl) (by kernel_rfl) (by rfl) ?_
  intro hw _
  have hlf : f.vals.length ≤ 1125899906842624 := Wf.lenI (hw (ag f.av) (.tail _ (.head _)) (.av (ints f.vals)) (by simp [Fact.av]))
  clear hw
  conv => whnf
  repeat' (first
    | exact trivial
    | (refine ⟨rfl, ?_⟩; (conv => whnf))
    | (refine ⟨fun h => ?_, fun h => ?_⟩ <;> (try simp at h) <;> (try (exfalso; omega)) <;> (conv => whnf))
    | (intro b hb; (conv => whnf))
    | (refine And.intro ?_ ?_; (focus (rw [wrap64 (by omega) (by omega)] <;> rfl)); (conv => whnf))
    | (refine And.intro ?_ (And.intro ?_ (And.intro ?_ (And.intro ?_ ?_))); (focus (first | omega | (rw [wrap64 (by omega) (by omega)] <;> first | omega | rfl) | (simp; omega))); (focus (first | omega | (rw [wrap64 (by omega) (by omega)] <;> first | omega | rfl) | (simp; omega))); (focus (first | omega | (rw [wrap64 (by omega) (by omega)] <;> first | omega | rfl) | (simp; omega))); (focus ((repeat' (first | exact sz_nil | exact sz_map fun _ => rfl | apply sz_take | apply sz_drop | apply sz_append | apply sz_cons rfl)); done)); (conv => whnf))
    | (refine And.intro ?_ (And.intro ?_ ?_); (focus (first | omega | (rw [wrap64 (by omega) (by omega)] <;> first | omega | rfl) | (simp; omega))); (focus ((repeat' (first | exact sz_nil | exact sz_map fun _ => rfl | apply sz_take | apply sz_drop | apply sz_append | apply sz_cons rfl)); done)); (conv => whnf))
    | (refine And.intro ?_ (And.intro ?_ ?_); (focus (first | omega | (rw [wrap64 (by omega) (by omega)] <;> first | omega | rfl) | (simp; omega))); (focus (first | omega | (rw [wrap64 (by omega) (by omega)] <;> first | omega | rfl) | (simp; omega))); (conv => whnf))
    | (refine And.intro ?_ ?_; (focus (first | (have e : fitR a f b = (b, false) := (by simp only [fitR]; rw [if_neg (by omega)]); rw [e] <;> rfl) | (have e : fitR a f b = (b, false) := (by simp only [fitR]; rw [if_neg (fun hh => by first | exact absurd hh.1 (by assumption) | omega)]); rw [e] <;> rfl))); (conv => whnf))
    | (rw [beq_g]; (conv => whnf))
    | fail)
  have hlen : a.terms.length = f.vals.length := by omega
  have hR : fitR a f b = fitP b a.terms f.vals := by simp only [fitR]; rw [if_pos ⟨by assumption, hlen⟩]
  rw [hR]
  refine loop_rule mixed tab_ok H189 (I := Nat × List Int) (fun p => [(.slot 8, .s (.lf (.own (13, 0)))), (.row (13, 0), .r ⟨3, 1, true, p.2.map ielem⟩), (.slot 9, iv p.1), (.slot 3, .s (.lf (.ptr (3, 0) 0))), (.leaf (3, 0) 0, .l (.av (i64 a.rel))), (.leaf (3, 0) 1, .l (.av (ints a.terms))), (.slot 4, .s (.lf (.ptr (4, 0) 0))), (.leaf (4, 0) 0, .l (.av (i64 f.rel))), (.leaf (4, 0) 1, .l (.av (ints f.vals)))]) (fun p => p.1 ≤ a.terms.length ∧ p.2.length = 5 ∧ fitP p.2 (a.terms.drop p.1) (f.vals.drop p.1) = fitP b a.terms f.vals) (fun p => a.terms.length - p.1) (by kernel_rfl) (0, b) ⟨by simp, hb, by simp⟩ (wk_sound (ψ := []) ?_) ?_
  · conv => whnf
    repeat' (first
      | exact trivial
      | (refine ⟨rfl, ?_⟩; (conv => whnf))
      | (refine ⟨fun h => ?_, fun h => ?_⟩ <;> (try simp at h) <;> (try (exfalso; omega)) <;> (conv => whnf))
      | (intro b hb; (conv => whnf))
      | (refine And.intro ?_ ?_; (focus (rw [wrap64 (by omega) (by omega)] <;> rfl)); (conv => whnf))
      | (refine And.intro ?_ (And.intro ?_ (And.intro ?_ (And.intro ?_ ?_))); (focus (first | omega | (rw [wrap64 (by omega) (by omega)] <;> first | omega | rfl) | (simp; omega))); (focus (first | omega | (rw [wrap64 (by omega) (by omega)] <;> first | omega | rfl) | (simp; omega))); (focus (first | omega | (rw [wrap64 (by omega) (by omega)] <;> first | omega | rfl) | (simp; omega))); (focus ((repeat' (first | exact sz_nil | exact sz_map fun _ => rfl | apply sz_take | apply sz_drop | apply sz_append | apply sz_cons rfl)); done)); (conv => whnf))
      | (refine And.intro ?_ (And.intro ?_ ?_); (focus (first | omega | (rw [wrap64 (by omega) (by omega)] <;> first | omega | rfl) | (simp; omega))); (focus ((repeat' (first | exact sz_nil | exact sz_map fun _ => rfl | apply sz_take | apply sz_drop | apply sz_append | apply sz_cons rfl)); done)); (conv => whnf))
      | (refine And.intro ?_ (And.intro ?_ ?_); (focus (first | omega | (rw [wrap64 (by omega) (by omega)] <;> first | omega | rfl) | (simp; omega))); (focus (first | omega | (rw [wrap64 (by omega) (by omega)] <;> first | omega | rfl) | (simp; omega))); (conv => whnf))
      | (rw [beq_g]; (conv => whnf))
      | fail)
  rintro ⟨i, c⟩ ⟨hi, hc, hf⟩
  dsimp only at hi hc hf
  conv => whnf
  refine ⟨fun hlt => ?_, fun hlt => ?_⟩ <;> (try simp at hlt) <;> (conv => whnf)
  · have ht := termOk_lt ha hlt
    have hlt2 : i < f.vals.length := by omega
    have hwr : IntKind.i64.wrap (-1 - a.terms[i]) = -1 - a.terms[i] := wrap64 (by omega) (by omega)
    have hq : a.terms[i].toNat < c.length := by omega
    repeat' (first
      | exact trivial
      | (refine ⟨rfl, ?_⟩; (conv => whnf))
      | (refine ⟨fun h => ?_, fun h => ?_⟩ <;> (try simp at h) <;> (try (exfalso; omega)) <;> (conv => whnf))
      | (intro b hb; (conv => whnf))
      | (refine .inl ?_; (conv => whnf); first | (refine ⟨_, _, _, _, ct_l11None, ?_⟩; (conv => whnf)) | fail)
      | (refine And.intro ?_ ?_; (focus (rw [wrap64 (by omega) (by omega)] <;> rfl)); (conv => whnf))
      | (refine ⟨[i64 a.terms[i]], ?_, map_getI ?_ ?_, rfl, ?_⟩; (focus (first | omega | (rw [wrap64 (by omega) (by omega)] <;> first | omega | rfl) | (simp; omega))); (focus (first | rfl | omega | (rw [wrap64 (by omega) (by omega)] <;> first | omega | rfl))); (focus omega); (conv => whnf))
      | (refine ⟨[i64 a.terms[i]], map_getI ?_ ?_, ?_, ?_, ?_⟩; (focus (first | rfl | omega | (rw [wrap64 (by omega) (by omega)] <;> first | omega | rfl))); (focus omega); (focus (simp; done)); (focus (simp; done)); (conv => whnf))
      | (refine ⟨[i64 a.terms[i]], map_getI ?_ ?_, ?_⟩; (focus (first | rfl | omega | (rw [wrap64 (by omega) (by omega)] <;> first | omega | rfl))); (focus omega); (conv => whnf))
      | (refine ⟨[i64 f.vals[i]], ?_, map_getI ?_ ?_, rfl, ?_⟩; (focus (first | omega | (rw [wrap64 (by omega) (by omega)] <;> first | omega | rfl) | (simp; omega))); (focus (first | rfl | omega | (rw [wrap64 (by omega) (by omega)] <;> first | omega | rfl))); (focus omega); (conv => whnf))
      | (refine ⟨[i64 f.vals[i]], map_getI ?_ ?_, ?_, ?_, ?_⟩; (focus (first | rfl | omega | (rw [wrap64 (by omega) (by omega)] <;> first | omega | rfl))); (focus omega); (focus (simp; done)); (focus (simp; done)); (conv => whnf))
      | (refine ⟨[i64 f.vals[i]], map_getI ?_ ?_, ?_⟩; (focus (first | rfl | omega | (rw [wrap64 (by omega) (by omega)] <;> first | omega | rfl))); (focus omega); (conv => whnf))
      | (refine ⟨[i64 c[a.terms[i].toNat]], ?_, map_getI ?_ ?_, rfl, ?_⟩; (focus (first | omega | (rw [wrap64 (by omega) (by omega)] <;> first | omega | rfl) | (simp; omega))); (focus (first | rfl | omega | (rw [wrap64 (by omega) (by omega)] <;> first | omega | rfl))); (focus omega); (conv => whnf))
      | (refine ⟨[i64 c[a.terms[i].toNat]], map_getI ?_ ?_, ?_, ?_, ?_⟩; (focus (first | rfl | omega | (rw [wrap64 (by omega) (by omega)] <;> first | omega | rfl))); (focus omega); (focus (simp; done)); (focus (simp; done)); (conv => whnf))
      | (refine ⟨[i64 c[a.terms[i].toNat]], map_getI ?_ ?_, ?_⟩; (focus (first | rfl | omega | (rw [wrap64 (by omega) (by omega)] <;> first | omega | rfl))); (focus omega); (conv => whnf))
      | (refine And.intro ?_ (And.intro ?_ (And.intro ?_ (And.intro ?_ ?_))); (focus (first | omega | (rw [wrap64 (by omega) (by omega)] <;> first | omega | rfl) | (simp; omega))); (focus (first | omega | (rw [wrap64 (by omega) (by omega)] <;> first | omega | rfl) | (simp; omega))); (focus (first | omega | (rw [wrap64 (by omega) (by omega)] <;> first | omega | rfl) | (simp; omega))); (focus ((repeat' (first | exact sz_nil | exact sz_map fun _ => rfl | apply sz_take | apply sz_drop | apply sz_append | apply sz_cons rfl)); done)); (conv => whnf))
      | (refine And.intro ?_ (And.intro ?_ ?_); (focus (first | omega | (rw [wrap64 (by omega) (by omega)] <;> first | omega | rfl) | (simp; omega))); (focus ((repeat' (first | exact sz_nil | exact sz_map fun _ => rfl | apply sz_take | apply sz_drop | apply sz_append | apply sz_cons rfl)); done)); (conv => whnf))
      | (refine And.intro ?_ (And.intro ?_ ?_); (focus (first | omega | (rw [wrap64 (by omega) (by omega)] <;> first | omega | rfl) | (simp; omega))); (focus (first | omega | (rw [wrap64 (by omega) (by omega)] <;> first | omega | rfl) | (simp; omega))); (conv => whnf))
      | (refine ⟨(i + 1, c), ?_, ?_, wk_sound (ψ := []) ?_⟩; (focus (exact ⟨hlt, hc, (fitP_neg hlt hlt2 (by assumption) (by rw [← hwr]; assumption)).symm.trans hf⟩)); (focus (first | omega | (rw [wrap64 (by omega) (by omega)] <;> first | omega | rfl) | (simp; omega))); (conv => whnf); (fail_if_success show False))
      | (refine ⟨(i + 1, c.set a.terms[i].toNat f.vals[i]), ?_, ?_, wk_sound (ψ := []) ?_⟩; (focus (exact ⟨hlt, by simpa using hc, (fitP_pos hlt hlt2 (by assumption) (by omega) (by first | exact .inl (by assumption) | exact .inr (by assumption))).symm.trans hf⟩)); (focus (first | omega | (rw [wrap64 (by omega) (by omega)] <;> first | omega | rfl) | (simp; omega))); (conv => whnf); (fail_if_success show False))
      | (refine And.intro ?_ ?_; (focus (first | (rw [← hf, fitP_negb hlt hlt2 (by assumption) (by rw [← hwr]; assumption)] <;> rfl) | (rw [← hf, fitP_posb hlt hlt2 (by assumption) (by omega) (by assumption) (by assumption)] <;> rfl) | (rw [List.map_set] <;> rfl))); (conv => whnf))
      | (rw [beq_g]; (conv => whnf))
      | fail)
  · rw [← hf, fitP_end hlt]
    repeat' (first
      | exact trivial
      | (refine ⟨rfl, ?_⟩; (conv => whnf))
      | (refine ⟨fun h => ?_, fun h => ?_⟩ <;> (try simp at h) <;> (try (exfalso; omega)) <;> (conv => whnf))
      | (intro b hb; (conv => whnf))
      | (refine And.intro ?_ ?_; (focus (rw [wrap64 (by omega) (by omega)] <;> rfl)); (conv => whnf))
      | (refine And.intro ?_ (And.intro ?_ (And.intro ?_ (And.intro ?_ ?_))); (focus (first | omega | (rw [wrap64 (by omega) (by omega)] <;> first | omega | rfl) | (simp; omega))); (focus (first | omega | (rw [wrap64 (by omega) (by omega)] <;> first | omega | rfl) | (simp; omega))); (focus (first | omega | (rw [wrap64 (by omega) (by omega)] <;> first | omega | rfl) | (simp; omega))); (focus ((repeat' (first | exact sz_nil | exact sz_map fun _ => rfl | apply sz_take | apply sz_drop | apply sz_append | apply sz_cons rfl)); done)); (conv => whnf))
      | (refine And.intro ?_ (And.intro ?_ ?_); (focus (first | omega | (rw [wrap64 (by omega) (by omega)] <;> first | omega | rfl) | (simp; omega))); (focus ((repeat' (first | exact sz_nil | exact sz_map fun _ => rfl | apply sz_take | apply sz_drop | apply sz_append | apply sz_cons rfl)); done)); (conv => whnf))
      | (refine And.intro ?_ (And.intro ?_ ?_); (focus (first | omega | (rw [wrap64 (by omega) (by omega)] <;> first | omega | rfl) | (simp; omega))); (focus (first | omega | (rw [wrap64 (by omega) (by omega)] <;> first | omega | rfl) | (simp; omega))); (conv => whnf))
      | (rw [beq_g]; (conv => whnf))
      | fail)
def walk (fs : List Fact) : List Atom → List Int → List (List Int)
  | [], b => [b]
  | a :: ar, b => fs.flatMap fun f => if (fitR a f b).2 then walk fs ar (fitR a f b).1 else []
def mOne (fs : List Fact) (a : Atom) (ar : List Atom) (b : List Int) (f : Fact) : List (List Int) := if (fitR a f b).2 then walk fs ar (fitR a f b).1 else []
def mPart (fs : List Fact) (a : Atom) (ar : List Atom) (b : List Int) (i : Nat) : List (List Int) := (fs.take i).flatMap (mOne fs a ar b)
theorem mPart_snoc {fs : List Fact} {a : Atom} {ar : List Atom} {b : List Int} {i : Nat} (h : i < fs.length) : mPart fs a ar b (i + 1) = mPart fs a ar b i ++ mOne fs a ar b fs[i] := by
  simp only [mPart]; rw [take_snoc h, List.flatMap_append]; simp
theorem mPart_end {fs : List Fact} {a : Atom} {ar : List Atom} {b : List Int} {i : Nat} (h : fs.length ≤ i) : mPart fs a ar b i = walk fs (a :: ar) b := by
  simp only [mPart]; rw [List.take_of_length_le h]; rfl
theorem flatMap_le {α β : Type} {g : α → List β} {K : Nat} : ∀ {l : List α}, (∀ x ∈ l, (g x).length ≤ K) → (l.flatMap g).length ≤ l.length * K
  | [], _ => by simp
  | x :: l, h => by
    have h1 := h x (by simp)
    have h2 := flatMap_le (l := l) fun y hy => h y (by simp [hy])
    rw [List.flatMap_cons, List.length_append, List.length_cons, Nat.succ_mul]
    omega
theorem walk_len {fs : List Fact} (hf : fs.length ≤ 30) : ∀ (ar : List Atom) (b : List Int), (walk fs ar b).length ≤ 30 ^ ar.length
  | [], b => by simp [walk]
  | a :: ar, b => by
    have h1 := flatMap_le (l := fs) (g := mOne fs a ar b) (K := 30 ^ ar.length) fun f _ => by
      simp only [mOne]; split
      · exact walk_len hf ar _
      · simp
    have h2 : walk fs (a :: ar) b = fs.flatMap (mOne fs a ar b) := rfl
    have h3 : fs.length * 30 ^ ar.length ≤ 30 * 30 ^ ar.length := Nat.mul_le_mul_right _ hf
    rw [h2, List.length_cons, Nat.pow_succ]
    omega
theorem walk_len3 {fs : List Fact} (hf : fs.length ≤ 30) {ar : List Atom} (ha : ar.length ≤ 3) (b : List Int) : (walk fs ar b).length ≤ 27000 :=
  Nat.le_trans (walk_len hf ar b) (Nat.pow_le_pow_right (by omega) ha)
theorem mPart_len {fs : List Fact} (hf : fs.length ≤ 30) {a : Atom} {ar : List Atom} (ha : ar.length ≤ 3) (b : List Int) (i : Nat) : (mPart fs a ar b i).length ≤ 810000 := by
  have h1 := flatMap_le (l := fs.take i) (g := mOne fs a ar b) (K := 27000) fun f _ => by
    simp only [mOne]; split
    · exact walk_len3 hf ha _
    · simp
  have h2 : (fs.take i).length ≤ 30 := by simp; omega
  have h3 : mPart fs a ar b i = (fs.take i).flatMap (mOne fs a ar b) := rfl
  rw [h3]
  have h4 : (fs.take i).length * 27000 ≤ 30 * 27000 := Nat.mul_le_mul_right _ h2
  omega
theorem fitP_length : ∀ {ts vs b : List Int}, (fitP b ts vs).1.length = b.length
  | [], vs, b => by simp [fitP]
  | _ :: _, [], b => by simp [fitP]
  | t :: ts, v :: vs, b => by
    simp only [fitP]
    split
    · split
      · exact fitP_length
      · rfl
    · split
      · rfl
      · rw [fitP_length, List.length_set]
theorem fitR_length {a : Atom} {f : Fact} {b : List Int} : (fitR a f b).1.length = b.length := by
  simp only [fitR]; split
  · exact fitP_length
  · rfl
abbrev lelem : List Int → List AV := fun c => [ints c]
theorem drop_cons {α : Type} {l : List α} {n : Nat} (h : n < l.length) : l.drop n = l[n] :: l.drop (n + 1) := List.drop_eq_getElem_cons h
def H157 : List (Nat × Hint) := [(0, ⟨[], [0, 8]⟩), (1, ⟨[], [13, 14, 15]⟩), (2, ⟨[], [3, 17, 18, 19, 20]⟩), (3, ⟨[], [21]⟩), (5, ⟨[], [22, 23, 24, 25]⟩), (6, ⟨[], [27, 28]⟩), (7, ⟨[(false, []), (false, [0]), (false, []), (false, []), (false, [0, 1, 2, 3]), (false, [1, 2, 3, 4]), (false, [0, 1, 2, 3, 4, 5]), (false, [3, 4, 5, 6]), (false, [4, 5, 6, 7]), (false, [0, 1, 2, 3, 4, 5, 6, 7, 8]), (false, []), (false, []), (false, []), (false, [0]), (false, [0]), (false, [])], [29, 30, 31, 32, 33, 34, 35, 36, 37, 38, 39, 40, 41, 42]⟩), (8, ⟨[], [12]⟩), (9, ⟨[], [11, 44, 45, 46, 47, 48, 49, 50, 51]⟩), (10, ⟨[], [9, 52]⟩)]
set_option maxHeartbeats 4000000 in
set_option maxRecDepth 100000 in
theorem ct_l11Walk_step (x : Inst) (l : List Atom) (n : Nat) (b : List Int) (hn : n ≤ l.length) (hl : ∀ a ∈ l, a.terms.all termOk = true ∧ a.terms.length ≤ 1000000) (hb : b.length = 5) (hx : x.facts.length ≤ 30) (hd : l.length ≤ 3) (ih : n < l.length → ∀ (b' : List Int) (m : Int), b'.length = 5 → m = n + 1 → Ct Tryz.prog 157 [ag x.av, sl (.row (l.map Atom.av)), sl (i64 m), sl (ints b')] [] (sl (.row ((walk x.facts (l.drop (n + 1)) b').map lelem))) [] []) : Ct Tryz.prog 157 [ag x.av, sl (.row (l.map Atom.av)), sl (i64 n), sl (ints b)] [] (sl (.row ((walk x.facts (l.drop n) b).map lelem))) [] [] := by
  refine ct_of_vc mixed tab_ok H157 Tryz.func157 rfl (by kernel_rfl) (by kernel_rfl) (by rfl) ?_
  intro hw _
  clear hw
  conv => whnf
  refine ⟨fun hnl => ?_, fun hnl => ?_⟩ <;> (try simp at hnl) <;> (conv => whnf)
  · have e : n = l.length := by omega
    rw [e, List.drop_length]
    repeat' (first
      | exact trivial
      | (refine ⟨rfl, ?_⟩; (conv => whnf))
      | (refine ⟨fun h => ?_, fun h => ?_⟩ <;> (try simp at h) <;> (try (exfalso; omega)) <;> (conv => whnf))
      | (intro b hb; (conv => whnf))
      | (refine And.intro ?_ ?_; (focus (rw [wrap64 (by omega) (by omega)] <;> rfl)); (conv => whnf))
      | (refine And.intro ?_ (And.intro ?_ (And.intro ?_ (And.intro ?_ ?_))); (focus (first | omega | (rw [wrap64 (by omega) (by omega)] <;> first | omega | rfl) | (simp; omega))); (focus (first | omega | (rw [wrap64 (by omega) (by omega)] <;> first | omega | rfl) | (simp; omega))); (focus (first | omega | (rw [wrap64 (by omega) (by omega)] <;> first | omega | rfl) | (simp; omega))); (focus ((repeat' (first | exact sz_nil | exact sz_map fun _ => rfl | apply sz_take | apply sz_drop | apply sz_append | apply sz_cons rfl)); done)); (conv => whnf))
      | (refine And.intro ?_ (And.intro ?_ ?_); (focus (first | omega | (rw [wrap64 (by omega) (by omega)] <;> first | omega | rfl) | (simp; omega))); (focus ((repeat' (first | exact sz_nil | exact sz_map fun _ => rfl | apply sz_take | apply sz_drop | apply sz_append | apply sz_cons rfl)); done)); (conv => whnf))
      | (refine And.intro ?_ (And.intro ?_ ?_); (focus (first | omega | (rw [wrap64 (by omega) (by omega)] <;> first | omega | rfl) | (simp; omega))); (focus (first | omega | (rw [wrap64 (by omega) (by omega)] <;> first | omega | rfl) | (simp; omega))); (conv => whnf))
      | (rw [beq_g]; (conv => whnf))
      | fail)
  have hlt : n < l.length := by omega
  have hal := hl l[n] (List.getElem_mem hlt)
  rw [drop_cons hlt]
  refine loop_rule mixed tab_ok H157 (I := Nat) (fun i => [(.slot 9, .s (.lf (.own (21, 0)))), (.row (21, 0), .r ⟨73, 1, true, (mPart x.facts l[n] (l.drop (n + 1)) b i).map lelem⟩), (.slot 10, iv i), (.slot 1, .s (sl (.row (l.map Atom.av)))), (.slot 2, iv n), (.slot 3, .s (sl (ints b))), (.slot 4, .s (.lf (.ptr (4, 0) 0))), (.leaf (4, 0) 0, .l (.av (.row (x.rels.map Relation.av)))), (.leaf (4, 0) 1, .l (.av (.row (x.facts.map Fact.av))))]) (fun i => i ≤ x.facts.length) (fun i => x.facts.length - i) (by kernel_rfl) 0 (by omega) (wk_sound (ψ := []) ?_) ?_
  · conv => whnf
    repeat' (first
      | exact trivial
      | (refine ⟨rfl, ?_⟩; (conv => whnf))
      | (refine ⟨fun h => ?_, fun h => ?_⟩ <;> (try simp at h) <;> (try (exfalso; omega)) <;> (conv => whnf))
      | (intro b hb; (conv => whnf))
      | (refine And.intro ?_ ?_; (focus (rw [wrap64 (by omega) (by omega)] <;> rfl)); (conv => whnf))
      | (refine And.intro ?_ (And.intro ?_ (And.intro ?_ (And.intro ?_ ?_))); (focus (first | omega | (rw [wrap64 (by omega) (by omega)] <;> first | omega | rfl) | (simp; omega))); (focus (first | omega | (rw [wrap64 (by omega) (by omega)] <;> first | omega | rfl) | (simp; omega))); (focus (first | omega | (rw [wrap64 (by omega) (by omega)] <;> first | omega | rfl) | (simp; omega))); (focus ((repeat' (first | exact sz_nil | exact sz_map fun _ => rfl | apply sz_take | apply sz_drop | apply sz_append | apply sz_cons rfl)); done)); (conv => whnf))
      | (refine And.intro ?_ (And.intro ?_ ?_); (focus (first | omega | (rw [wrap64 (by omega) (by omega)] <;> first | omega | rfl) | (simp; omega))); (focus ((repeat' (first | exact sz_nil | exact sz_map fun _ => rfl | apply sz_take | apply sz_drop | apply sz_append | apply sz_cons rfl)); done)); (conv => whnf))
      | (refine And.intro ?_ (And.intro ?_ ?_); (focus (first | omega | (rw [wrap64 (by omega) (by omega)] <;> first | omega | rfl) | (simp; omega))); (focus (first | omega | (rw [wrap64 (by omega) (by omega)] <;> first | omega | rfl) | (simp; omega))); (conv => whnf))
      | (rw [beq_g]; (conv => whnf))
      | fail)
  intro i hi
  have hln : (l.drop (n + 1)).length ≤ 3 := by simp; omega
  have hm := mPart_len hx (a := l[n]) hln b i
  have hw2 := walk_len3 hx hln
  conv => whnf
  refine ⟨fun hi2 => ?_, fun hi2 => ?_⟩ <;> (try simp at hi2) <;> (conv => whnf)
  · have hw3 := hw2 (fitR l[n] x.facts[i] b).1
    repeat' (first
      | exact trivial
      | (refine ⟨rfl, ?_⟩; (conv => whnf))
      | (refine ⟨fun h => ?_, fun h => ?_⟩ <;> (try simp at h) <;> (try (exfalso; omega)) <;> (conv => whnf))
      | (intro b hb; (conv => whnf))
      | (refine .inl ?_; (conv => whnf); first | (refine ⟨_, _, _, _, ct_l11Fit _ _ _ hal.1 hb hal.2, ?_⟩; (conv => whnf)) | (refine ⟨_, _, _, _, ih hlt _ _ (fitR_length.trans hb) (wrap64 (by omega) (by omega)), ?_⟩; (conv => whnf)) | fail)
      | (refine And.intro ?_ ?_; (focus (rw [wrap64 (by omega) (by omega)] <;> rfl)); (conv => whnf))
      | (refine ⟨x.facts[i].av, ?_, map_getI ?_ ?_, rfl, ?_⟩; (focus (first | omega | (rw [wrap64 (by omega) (by omega)] <;> first | omega | rfl) | (simp; omega))); (focus (first | rfl | omega | (rw [wrap64 (by omega) (by omega)] <;> first | omega | rfl))); (focus omega); (conv => whnf))
      | (refine ⟨x.facts[i].av, map_getI ?_ ?_, ?_, ?_, ?_⟩; (focus (first | rfl | omega | (rw [wrap64 (by omega) (by omega)] <;> first | omega | rfl))); (focus omega); (focus (simp; done)); (focus (simp; done)); (conv => whnf))
      | (refine ⟨x.facts[i].av, map_getI ?_ ?_, ?_⟩; (focus (first | rfl | omega | (rw [wrap64 (by omega) (by omega)] <;> first | omega | rfl))); (focus omega); (conv => whnf))
      | (refine ⟨l[n].av, ?_, map_getI ?_ ?_, rfl, ?_⟩; (focus (first | omega | (rw [wrap64 (by omega) (by omega)] <;> first | omega | rfl) | (simp; omega))); (focus (first | rfl | omega | (rw [wrap64 (by omega) (by omega)] <;> first | omega | rfl))); (focus omega); (conv => whnf))
      | (refine ⟨l[n].av, map_getI ?_ ?_, ?_, ?_, ?_⟩; (focus (first | rfl | omega | (rw [wrap64 (by omega) (by omega)] <;> first | omega | rfl))); (focus omega); (focus (simp; done)); (focus (simp; done)); (conv => whnf))
      | (refine ⟨l[n].av, map_getI ?_ ?_, ?_⟩; (focus (first | rfl | omega | (rw [wrap64 (by omega) (by omega)] <;> first | omega | rfl))); (focus omega); (conv => whnf))
      | (refine And.intro ?_ (And.intro ?_ (And.intro ?_ (And.intro ?_ ?_))); (focus (first | omega | (rw [wrap64 (by omega) (by omega)] <;> first | omega | rfl) | (simp; omega))); (focus (first | omega | (rw [wrap64 (by omega) (by omega)] <;> first | omega | rfl) | (simp; omega))); (focus (first | omega | (rw [wrap64 (by omega) (by omega)] <;> first | omega | rfl) | (simp; omega))); (focus ((repeat' (first | exact sz_nil | exact sz_map fun _ => rfl | apply sz_take | apply sz_drop | apply sz_append | apply sz_cons rfl)); done)); (conv => whnf))
      | (refine And.intro ?_ (And.intro ?_ ?_); (focus (first | omega | (rw [wrap64 (by omega) (by omega)] <;> first | omega | rfl) | (simp; omega))); (focus ((repeat' (first | exact sz_nil | exact sz_map fun _ => rfl | apply sz_take | apply sz_drop | apply sz_append | apply sz_cons rfl)); done)); (conv => whnf))
      | (refine And.intro ?_ (And.intro ?_ ?_); (focus (first | omega | (rw [wrap64 (by omega) (by omega)] <;> first | omega | rfl) | (simp; omega))); (focus (first | omega | (rw [wrap64 (by omega) (by omega)] <;> first | omega | rfl) | (simp; omega))); (conv => whnf))
      | (refine ⟨i + 1, ?_, ?_, wk_sound (ψ := [((21, 0), (51, 0))]) ?_⟩; (focus (omega)); (focus (first | omega | (rw [wrap64 (by omega) (by omega)] <;> first | omega | rfl) | (simp; omega))); (conv => whnf); (fail_if_success show False))
      | (refine ⟨i + 1, ?_, ?_, wk_sound (ψ := []) ?_⟩; (focus (omega)); (focus (first | omega | (rw [wrap64 (by omega) (by omega)] <;> first | omega | rfl) | (simp; omega))); (conv => whnf); (fail_if_success show False))
      | (refine And.intro ?_ ?_; (focus (rw [mPart_snoc hi2, List.map_append]; first | (simp only [mOne, if_pos h]; done) | (simp [mOne, h]; done))); (conv => whnf))
      | (rw [beq_g]; (conv => whnf))
      | fail)
  · rw [mPart_end hi2]
    repeat' (first
      | exact trivial
      | (refine ⟨rfl, ?_⟩; (conv => whnf))
      | (refine ⟨fun h => ?_, fun h => ?_⟩ <;> (try simp at h) <;> (try (exfalso; omega)) <;> (conv => whnf))
      | (intro b hb; (conv => whnf))
      | (refine And.intro ?_ ?_; (focus (rw [wrap64 (by omega) (by omega)] <;> rfl)); (conv => whnf))
      | (refine And.intro ?_ (And.intro ?_ (And.intro ?_ (And.intro ?_ ?_))); (focus (first | omega | (rw [wrap64 (by omega) (by omega)] <;> first | omega | rfl) | (simp; omega))); (focus (first | omega | (rw [wrap64 (by omega) (by omega)] <;> first | omega | rfl) | (simp; omega))); (focus (first | omega | (rw [wrap64 (by omega) (by omega)] <;> first | omega | rfl) | (simp; omega))); (focus ((repeat' (first | exact sz_nil | exact sz_map fun _ => rfl | apply sz_take | apply sz_drop | apply sz_append | apply sz_cons rfl)); done)); (conv => whnf))
      | (refine And.intro ?_ (And.intro ?_ ?_); (focus (first | omega | (rw [wrap64 (by omega) (by omega)] <;> first | omega | rfl) | (simp; omega))); (focus ((repeat' (first | exact sz_nil | exact sz_map fun _ => rfl | apply sz_take | apply sz_drop | apply sz_append | apply sz_cons rfl)); done)); (conv => whnf))
      | (refine And.intro ?_ (And.intro ?_ ?_); (focus (first | omega | (rw [wrap64 (by omega) (by omega)] <;> first | omega | rfl) | (simp; omega))); (focus (first | omega | (rw [wrap64 (by omega) (by omega)] <;> first | omega | rfl) | (simp; omega))); (conv => whnf))
      | (rw [beq_g]; (conv => whnf))
      | fail)
theorem ct_l11Walk {x : Inst} {l : List Atom} (hl : ∀ a ∈ l, a.terms.all termOk = true ∧ a.terms.length ≤ 1000000) (hx : x.facts.length ≤ 30) (hd : l.length ≤ 3) : ∀ (k n : Nat) (b : List Int), n + k = l.length → b.length = 5 →
    Ct Tryz.prog 157 [ag x.av, sl (.row (l.map Atom.av)), sl (i64 n), sl (ints b)] [] (sl (.row ((walk x.facts (l.drop n) b).map lelem))) [] []
  | 0, n, b, hk, hb => ct_l11Walk_step x l n b (by omega) hl hb hx hd (fun h => by omega)
  | k + 1, n, b, hk, hb => ct_l11Walk_step x l n b (by omega) hl hb hx hd (fun h b' m hb' hm => by
    have := ct_l11Walk hl hx hd k (n + 1) b' (by omega) hb'
    rwa [show ((n + 1 : Nat) : Int) = m by omega] at this)
def bindV (a : Atom) (f : Fact) (b : List Int) : List Int := if (fitR a f b).2 then (fitR a f b).1 else []
def H205 : List (Nat × Hint) := [(0, ⟨[], [1, 2, 6, 7]⟩), (1, ⟨[], [12, 13, 14, 15]⟩), (3, ⟨[], [0, 17, 18]⟩), (4, ⟨[], [4, 19]⟩), (6, ⟨[], [24, 25, 26]⟩), (7, ⟨[], [9, 27, 28, 29, 30, 31]⟩), (8, ⟨[], [33, 34]⟩), (9, ⟨[], [10, 11, 35, 36, 37]⟩), (11, ⟨[], [40, 41, 42, 43, 44]⟩), (12, ⟨[], [10, 11, 45, 46, 47, 48]⟩), (13, ⟨[], [10, 11, 50, 51, 52, 53, 54, 55]⟩), (15, ⟨[], [56]⟩), (16, ⟨[], [8, 57]⟩)]
set_option maxHeartbeats 4000000 in
set_option maxRecDepth 100000 in
theorem ct_bind (a : Atom) (f : Fact) (b : List Int) (ha : a.terms.all termOk = true) (hb : b.length = 5) (hsm : a.terms.length ≤ 1000000) (hrl : a.rel = f.rel → a.terms.length = f.vals.length) : Ct Tryz.prog 205 [sl (ints b), ag a.av, ag f.av] [] (.tup [sl (ints (bindV a f b)), sl (.bool (fitR a f b).2)]) [] [] := by
  refine ct_of_vc mixed tab_ok H205 Tryz.func205 rfl (by kernel_rfl) (by kernel_rfl) (by rfl) ?_
  intro hw _
  clear hw
  have hb0 : b ≠ [] := fun h => by subst h; simp at hb
  conv => whnf
  repeat' (first
    | exact trivial
    | (refine ⟨rfl, ?_⟩; (conv => whnf))
    | (refine ⟨fun h => ?_, fun h => ?_⟩ <;> (try simp at h) <;> (try (exfalso; omega)) <;> (conv => whnf))
    | (intro b hb; (conv => whnf))
    | (refine .inl ?_; (conv => whnf); first | (refine ⟨_, _, _, _, ct_CloneIo b (by omega) hb0, ?_⟩; (conv => whnf)) | fail)
    | (refine And.intro ?_ ?_; (focus (rw [wrap64 (by omega) (by omega)] <;> rfl)); (conv => whnf))
    | (refine And.intro ?_ (And.intro ?_ (And.intro ?_ (And.intro ?_ ?_))); (focus (first | omega | (rw [wrap64 (by omega) (by omega)] <;> first | omega | rfl) | (simp; omega))); (focus (first | omega | (rw [wrap64 (by omega) (by omega)] <;> first | omega | rfl) | (simp; omega))); (focus (first | omega | (rw [wrap64 (by omega) (by omega)] <;> first | omega | rfl) | (simp; omega))); (focus ((repeat' (first | exact sz_nil | exact sz_map fun _ => rfl | apply sz_take | apply sz_drop | apply sz_append | apply sz_cons rfl)); done)); (conv => whnf))
    | (refine And.intro ?_ (And.intro ?_ ?_); (focus (first | omega | (rw [wrap64 (by omega) (by omega)] <;> first | omega | rfl) | (simp; omega))); (focus ((repeat' (first | exact sz_nil | exact sz_map fun _ => rfl | apply sz_take | apply sz_drop | apply sz_append | apply sz_cons rfl)); done)); (conv => whnf))
    | (refine And.intro ?_ (And.intro ?_ ?_); (focus (first | omega | (rw [wrap64 (by omega) (by omega)] <;> first | omega | rfl) | (simp; omega))); (focus (first | omega | (rw [wrap64 (by omega) (by omega)] <;> first | omega | rfl) | (simp; omega))); (conv => whnf))
    | (refine And.intro ?_ ?_; (focus ((have e : fitR a f b = (b, false) := (by simp only [fitR]; rw [if_neg (fun hh => absurd hh.1 (by assumption))]); first | (rw [bindV, e] <;> rfl) | (rw [e] <;> rfl)))); (conv => whnf))
    | (rw [beq_g]; (conv => whnf))
    | fail)
  have hlen := hrl (by assumption)
  have hR : fitR a f b = fitP b a.terms f.vals := by simp only [fitR]; rw [if_pos ⟨by assumption, hlen⟩]
  have hV : bindV a f b = if (fitP b a.terms f.vals).2 then (fitP b a.terms f.vals).1 else [] := by simp only [bindV, hR]
  rw [hR, hV]
  refine loop_rule mixed tab_ok H205 (I := Nat × List Int) (fun p => [(.slot 8, .s (.lf (.own (18, 0)))), (.row (18, 0), .r ⟨3, 1, true, p.2.map ielem⟩), (.slot 22, iv p.1), (.slot 21, iv a.terms.length), (.slot 20, .s (sl (ints a.terms))), (.slot 5, .s (.lf (.ptr (5, 0) 0))), (.leaf (5, 0) 0, .l (.av (i64 f.rel))), (.leaf (5, 0) 1, .l (.av (ints f.vals)))]) (fun p => p.1 ≤ a.terms.length ∧ p.2.length = 5 ∧ fitP p.2 (a.terms.drop p.1) (f.vals.drop p.1) = fitP b a.terms f.vals) (fun p => a.terms.length - p.1) (by kernel_rfl) (0, b) ⟨by simp, hb, by simp⟩ (wk_sound (ψ := []) ?_) ?_
  · conv => whnf
    repeat' (first
      | exact trivial
      | (refine ⟨rfl, ?_⟩; (conv => whnf))
      | (refine ⟨fun h => ?_, fun h => ?_⟩ <;> (try simp at h) <;> (try (exfalso; omega)) <;> (conv => whnf))
      | (intro b hb; (conv => whnf))
      | (refine And.intro ?_ ?_; (focus (rw [wrap64 (by omega) (by omega)] <;> rfl)); (conv => whnf))
      | (refine And.intro ?_ (And.intro ?_ (And.intro ?_ (And.intro ?_ ?_))); (focus (first | omega | (rw [wrap64 (by omega) (by omega)] <;> first | omega | rfl) | (simp; omega))); (focus (first | omega | (rw [wrap64 (by omega) (by omega)] <;> first | omega | rfl) | (simp; omega))); (focus (first | omega | (rw [wrap64 (by omega) (by omega)] <;> first | omega | rfl) | (simp; omega))); (focus ((repeat' (first | exact sz_nil | exact sz_map fun _ => rfl | apply sz_take | apply sz_drop | apply sz_append | apply sz_cons rfl)); done)); (conv => whnf))
      | (refine And.intro ?_ (And.intro ?_ ?_); (focus (first | omega | (rw [wrap64 (by omega) (by omega)] <;> first | omega | rfl) | (simp; omega))); (focus ((repeat' (first | exact sz_nil | exact sz_map fun _ => rfl | apply sz_take | apply sz_drop | apply sz_append | apply sz_cons rfl)); done)); (conv => whnf))
      | (refine And.intro ?_ (And.intro ?_ ?_); (focus (first | omega | (rw [wrap64 (by omega) (by omega)] <;> first | omega | rfl) | (simp; omega))); (focus (first | omega | (rw [wrap64 (by omega) (by omega)] <;> first | omega | rfl) | (simp; omega))); (conv => whnf))
      | (refine And.intro ?_ ?_; (focus (simp; done)); (conv => whnf))
      | (rw [beq_g]; (conv => whnf))
      | fail)
  rintro ⟨i, c⟩ ⟨hi, hc, hf⟩
  dsimp only at hi hc hf
  conv => whnf
  refine ⟨fun hlt => ?_, fun hlt => ?_⟩ <;> (try simp at hlt) <;> (conv => whnf)
  · have ht := termOk_lt ha hlt
    have hlt2 : i < f.vals.length := by omega
    have hq : a.terms[i].toNat < c.length := by omega
    have hwr : IntKind.i64.wrap (-1 - a.terms[i]) = -1 - a.terms[i] := wrap64 (by omega) (by omega)
    repeat' (first
      | exact trivial
      | (refine ⟨rfl, ?_⟩; (conv => whnf))
      | (refine ⟨fun h => ?_, fun h => ?_⟩ <;> (try simp at h) <;> (try (exfalso; omega)) <;> (conv => whnf))
      | (intro b hb; (conv => whnf))
      | (refine And.intro ?_ ?_; (focus (rw [wrap64 (by omega) (by omega)] <;> rfl)); (conv => whnf))
      | (refine ⟨[i64 a.terms[i]], ?_, map_getI ?_ ?_, rfl, ?_⟩; (focus (first | omega | (rw [wrap64 (by omega) (by omega)] <;> first | omega | rfl) | (simp; omega))); (focus (first | rfl | omega | (rw [wrap64 (by omega) (by omega)] <;> first | omega | rfl))); (focus omega); (conv => whnf))
      | (refine ⟨[i64 a.terms[i]], map_getI ?_ ?_, ?_, ?_, ?_⟩; (focus (first | rfl | omega | (rw [wrap64 (by omega) (by omega)] <;> first | omega | rfl))); (focus omega); (focus (simp; done)); (focus (simp; done)); (conv => whnf))
      | (refine ⟨[i64 a.terms[i]], map_getI ?_ ?_, ?_⟩; (focus (first | rfl | omega | (rw [wrap64 (by omega) (by omega)] <;> first | omega | rfl))); (focus omega); (conv => whnf))
      | (refine ⟨[i64 f.vals[i]], ?_, map_getI ?_ ?_, rfl, ?_⟩; (focus (first | omega | (rw [wrap64 (by omega) (by omega)] <;> first | omega | rfl) | (simp; omega))); (focus (first | rfl | omega | (rw [wrap64 (by omega) (by omega)] <;> first | omega | rfl))); (focus omega); (conv => whnf))
      | (refine ⟨[i64 f.vals[i]], map_getI ?_ ?_, ?_, ?_, ?_⟩; (focus (first | rfl | omega | (rw [wrap64 (by omega) (by omega)] <;> first | omega | rfl))); (focus omega); (focus (simp; done)); (focus (simp; done)); (conv => whnf))
      | (refine ⟨[i64 f.vals[i]], map_getI ?_ ?_, ?_⟩; (focus (first | rfl | omega | (rw [wrap64 (by omega) (by omega)] <;> first | omega | rfl))); (focus omega); (conv => whnf))
      | (refine ⟨[i64 c[a.terms[i].toNat]], ?_, map_getI ?_ ?_, rfl, ?_⟩; (focus (first | omega | (rw [wrap64 (by omega) (by omega)] <;> first | omega | rfl) | (simp; omega))); (focus (first | rfl | omega | (rw [wrap64 (by omega) (by omega)] <;> first | omega | rfl))); (focus omega); (conv => whnf))
      | (refine ⟨[i64 c[a.terms[i].toNat]], map_getI ?_ ?_, ?_, ?_, ?_⟩; (focus (first | rfl | omega | (rw [wrap64 (by omega) (by omega)] <;> first | omega | rfl))); (focus omega); (focus (simp; done)); (focus (simp; done)); (conv => whnf))
      | (refine ⟨[i64 c[a.terms[i].toNat]], map_getI ?_ ?_, ?_⟩; (focus (first | rfl | omega | (rw [wrap64 (by omega) (by omega)] <;> first | omega | rfl))); (focus omega); (conv => whnf))
      | (refine And.intro ?_ (And.intro ?_ (And.intro ?_ (And.intro ?_ ?_))); (focus (first | omega | (rw [wrap64 (by omega) (by omega)] <;> first | omega | rfl) | (simp; omega))); (focus (first | omega | (rw [wrap64 (by omega) (by omega)] <;> first | omega | rfl) | (simp; omega))); (focus (first | omega | (rw [wrap64 (by omega) (by omega)] <;> first | omega | rfl) | (simp; omega))); (focus ((repeat' (first | exact sz_nil | exact sz_map fun _ => rfl | apply sz_take | apply sz_drop | apply sz_append | apply sz_cons rfl)); done)); (conv => whnf))
      | (refine And.intro ?_ (And.intro ?_ ?_); (focus (first | omega | (rw [wrap64 (by omega) (by omega)] <;> first | omega | rfl) | (simp; omega))); (focus ((repeat' (first | exact sz_nil | exact sz_map fun _ => rfl | apply sz_take | apply sz_drop | apply sz_append | apply sz_cons rfl)); done)); (conv => whnf))
      | (refine And.intro ?_ (And.intro ?_ ?_); (focus (first | omega | (rw [wrap64 (by omega) (by omega)] <;> first | omega | rfl) | (simp; omega))); (focus (first | omega | (rw [wrap64 (by omega) (by omega)] <;> first | omega | rfl) | (simp; omega))); (conv => whnf))
      | (refine ⟨(i + 1, c), ?_, ?_, wk_sound (ψ := []) ?_⟩; (focus (exact ⟨hlt, hc, (fitP_neg hlt hlt2 (by assumption) (by rw [← hwr]; exact Eq.symm (by assumption))).symm.trans hf⟩)); (focus (first | omega | (rw [wrap64 (by omega) (by omega)] <;> first | omega | rfl) | (simp; omega))); (conv => whnf); (fail_if_success show False))
      | (refine ⟨(i + 1, c), ?_, ?_, wk_sound (ψ := []) ?_⟩; (focus (exact ⟨hlt, hc, (fitP_pose hlt hlt2 (by assumption) (by omega) (by assumption)).symm.trans hf⟩)); (focus (first | omega | (rw [wrap64 (by omega) (by omega)] <;> first | omega | rfl) | (simp; omega))); (conv => whnf); (fail_if_success show False))
      | (refine ⟨(i + 1, c.set a.terms[i].toNat f.vals[i]), ?_, ?_, wk_sound (ψ := []) ?_⟩; (focus (exact ⟨hlt, by simpa using hc, (fitP_pos hlt hlt2 (by assumption) (by omega) (.inl (by assumption))).symm.trans hf⟩)); (focus (first | omega | (rw [wrap64 (by omega) (by omega)] <;> first | omega | rfl) | (simp; omega))); (conv => whnf); (fail_if_success show False))
      | (refine And.intro ?_ ?_; (focus (first | (rw [← hf, fitP_negb hlt hlt2 (by assumption) (by rw [← hwr]; exact Ne.symm (by assumption))] <;> rfl) | (rw [← hf, fitP_posb hlt hlt2 (by assumption) (by omega) (by assumption) (by assumption)] <;> rfl) | (rw [List.map_set] <;> rfl))); (conv => whnf))
      | (rw [beq_g]; (conv => whnf))
      | fail)
  · rw [← hf, fitP_end hlt]
    repeat' (first
      | exact trivial
      | (refine ⟨rfl, ?_⟩; (conv => whnf))
      | (refine ⟨fun h => ?_, fun h => ?_⟩ <;> (try simp at h) <;> (try (exfalso; omega)) <;> (conv => whnf))
      | (intro b hb; (conv => whnf))
      | (refine And.intro ?_ ?_; (focus (rw [wrap64 (by omega) (by omega)] <;> rfl)); (conv => whnf))
      | (refine And.intro ?_ (And.intro ?_ (And.intro ?_ (And.intro ?_ ?_))); (focus (first | omega | (rw [wrap64 (by omega) (by omega)] <;> first | omega | rfl) | (simp; omega))); (focus (first | omega | (rw [wrap64 (by omega) (by omega)] <;> first | omega | rfl) | (simp; omega))); (focus (first | omega | (rw [wrap64 (by omega) (by omega)] <;> first | omega | rfl) | (simp; omega))); (focus ((repeat' (first | exact sz_nil | exact sz_map fun _ => rfl | apply sz_take | apply sz_drop | apply sz_append | apply sz_cons rfl)); done)); (conv => whnf))
      | (refine And.intro ?_ (And.intro ?_ ?_); (focus (first | omega | (rw [wrap64 (by omega) (by omega)] <;> first | omega | rfl) | (simp; omega))); (focus ((repeat' (first | exact sz_nil | exact sz_map fun _ => rfl | apply sz_take | apply sz_drop | apply sz_append | apply sz_cons rfl)); done)); (conv => whnf))
      | (refine And.intro ?_ (And.intro ?_ ?_); (focus (first | omega | (rw [wrap64 (by omega) (by omega)] <;> first | omega | rfl) | (simp; omega))); (focus (first | omega | (rw [wrap64 (by omega) (by omega)] <;> first | omega | rfl) | (simp; omega))); (conv => whnf))
      | (rw [beq_g]; (conv => whnf))
      | fail)
theorem bindV_ok {a : Atom} {f : Fact} {b : List Int} (h : (fitR a f b).2 = true) : bindV a f b = (fitR a f b).1 := by simp [bindV, h]
theorem bindV_len {a : Atom} {f : Fact} {b : List Int} (h : (fitR a f b).2 = true) (hb : b.length = 5) : (bindV a f b).length = 5 := by rw [bindV_ok h, fitR_length, hb]
def H194 : List (Nat × Hint) := [(0, ⟨[], [6]⟩), (1, ⟨[], [12, 13]⟩), (2, ⟨[], [2, 15, 16]⟩), (3, ⟨[], [17]⟩), (6, ⟨[], [22, 23]⟩), (7, ⟨[(false, []), (false, [0]), (false, [1]), (false, [2]), (false, [0, 1, 2, 3]), (false, []), (false, []), (false, []), (false, [0]), (false, [0]), (false, [])], [9, 24, 25, 26, 27, 28, 29, 30, 31, 32]⟩), (8, ⟨[], [11]⟩), (9, ⟨[], [10, 34, 35, 36, 37, 38, 39, 40]⟩), (10, ⟨[], [41]⟩), (11, ⟨[], [7, 42]⟩)]
set_option maxHeartbeats 4000000 in
set_option maxRecDepth 100000 in
theorem ct_matches_nil (fs : List Fact) (b : List Int) : Ct Tryz.prog 194 [sl (.row (fs.map Fact.av)), sl (.row ([].map Atom.av)), sl (ints b)] [] (sl (.row ((walk fs [] b).map lelem))) [] [] := by
  refine ct_of_vc mixed tab_ok H194 Tryz.func194 rfl (by kernel_rfl) (by kernel_rfl) (by rfl) ?_
  intro hw _
  clear hw
  conv => whnf
  repeat' (first
    | exact trivial
    | (refine ⟨rfl, ?_⟩; (conv => whnf))
    | (refine ⟨fun h => ?_, fun h => ?_⟩ <;> (try simp at h) <;> (try (exfalso; omega)) <;> (conv => whnf))
    | (intro b hb; (conv => whnf))
    | (refine And.intro ?_ ?_; (focus (rw [wrap64 (by omega) (by omega)] <;> rfl)); (conv => whnf))
    | (refine And.intro ?_ (And.intro ?_ (And.intro ?_ (And.intro ?_ ?_))); (focus (first | omega | (rw [wrap64 (by omega) (by omega)] <;> first | omega | rfl) | (simp; omega))); (focus (first | omega | (rw [wrap64 (by omega) (by omega)] <;> first | omega | rfl) | (simp; omega))); (focus (first | omega | (rw [wrap64 (by omega) (by omega)] <;> first | omega | rfl) | (simp; omega))); (focus ((repeat' (first | exact sz_nil | exact sz_map fun _ => rfl | apply sz_take | apply sz_drop | apply sz_append | apply sz_cons rfl)); done)); (conv => whnf))
    | (refine And.intro ?_ (And.intro ?_ ?_); (focus (first | omega | (rw [wrap64 (by omega) (by omega)] <;> first | omega | rfl) | (simp; omega))); (focus ((repeat' (first | exact sz_nil | exact sz_map fun _ => rfl | apply sz_take | apply sz_drop | apply sz_append | apply sz_cons rfl)); done)); (conv => whnf))
    | (refine And.intro ?_ (And.intro ?_ ?_); (focus (first | omega | (rw [wrap64 (by omega) (by omega)] <;> first | omega | rfl) | (simp; omega))); (focus (first | omega | (rw [wrap64 (by omega) (by omega)] <;> first | omega | rfl) | (simp; omega))); (conv => whnf))
    | (rw [beq_g]; (conv => whnf))
    | fail)
set_option maxHeartbeats 4000000 in
set_option maxRecDepth 100000 in
theorem ct_matches_step (fs : List Fact) (a : Atom) (ar : List Atom) (b : List Int) (hl : a.terms.all termOk = true) (hsm : a.terms.length ≤ 1000000) (hrl : ∀ f ∈ fs, a.rel = f.rel → a.terms.length = f.vals.length) (hb : b.length = 5) (hx : fs.length ≤ 30) (hd : ar.length ≤ 3) (ih : ∀ (b' : List Int) (R : List (List AV)), b'.length = 5 → R = ar.map Atom.av → Ct Tryz.prog 194 [sl (.row (fs.map Fact.av)), sl (.row R), sl (ints b')] [] (sl (.row ((walk fs ar b').map lelem))) [] []) : Ct Tryz.prog 194 [sl (.row (fs.map Fact.av)), sl (.row ((a :: ar).map Atom.av)), sl (ints b)] [] (sl (.row ((walk fs (a :: ar) b).map lelem))) [] [] := by
  refine ct_of_vc mixed tab_ok H194 Tryz.func194 rfl (by kernel_rfl) (by kernel_rfl) (by rfl) ?_
  intro hw _
  clear hw
  conv => whnf
  repeat' (first
    | exact trivial
    | (refine ⟨rfl, ?_⟩; (conv => whnf))
    | (refine ⟨fun h => ?_, fun h => ?_⟩ <;> (try simp at h) <;> (try (exfalso; omega)) <;> (conv => whnf))
    | (intro b hb; (conv => whnf))
    | (refine And.intro ?_ ?_; (focus (rw [wrap64 (by omega) (by omega)] <;> rfl)); (conv => whnf))
    | (refine And.intro ?_ (And.intro ?_ (And.intro ?_ (And.intro ?_ ?_))); (focus (first | omega | (rw [wrap64 (by omega) (by omega)] <;> first | omega | rfl) | (simp; omega))); (focus (first | omega | (rw [wrap64 (by omega) (by omega)] <;> first | omega | rfl) | (simp; omega))); (focus (first | omega | (rw [wrap64 (by omega) (by omega)] <;> first | omega | rfl) | (simp; omega))); (focus ((repeat' (first | exact sz_nil | exact sz_map fun _ => rfl | apply sz_take | apply sz_drop | apply sz_append | apply sz_cons rfl)); done)); (conv => whnf))
    | (refine And.intro ?_ (And.intro ?_ ?_); (focus (first | omega | (rw [wrap64 (by omega) (by omega)] <;> first | omega | rfl) | (simp; omega))); (focus ((repeat' (first | exact sz_nil | exact sz_map fun _ => rfl | apply sz_take | apply sz_drop | apply sz_append | apply sz_cons rfl)); done)); (conv => whnf))
    | (refine And.intro ?_ (And.intro ?_ ?_); (focus (first | omega | (rw [wrap64 (by omega) (by omega)] <;> first | omega | rfl) | (simp; omega))); (focus (first | omega | (rw [wrap64 (by omega) (by omega)] <;> first | omega | rfl) | (simp; omega))); (conv => whnf))
    | (rw [beq_g]; (conv => whnf))
    | fail)
  refine loop_rule mixed tab_ok H194 (I := Nat) (fun i => [(.slot 7, .s (.lf (.own (17, 0)))), (.row (17, 0), .r ⟨73, 1, true, (mPart fs a ar b i).map lelem⟩), (.slot 20, iv i), (.slot 19, iv fs.length), (.slot 18, .s (sl (.row (fs.map Fact.av)))), (.slot 0, .s (sl (.row (fs.map Fact.av)))), (.slot 1, .s (sl (.row ((a :: ar).map Atom.av)))), (.slot 2, .s (sl (ints b)))]) (fun i => i ≤ fs.length) (fun i => fs.length - i) (by kernel_rfl) 0 (by omega) (wk_sound (ψ := []) ?_) ?_
  · conv => whnf
    repeat' (first
      | exact trivial
      | (refine ⟨rfl, ?_⟩; (conv => whnf))
      | (refine ⟨fun h => ?_, fun h => ?_⟩ <;> (try simp at h) <;> (try (exfalso; omega)) <;> (conv => whnf))
      | (intro b hb; (conv => whnf))
      | (refine And.intro ?_ ?_; (focus (rw [wrap64 (by omega) (by omega)] <;> rfl)); (conv => whnf))
      | (refine And.intro ?_ (And.intro ?_ (And.intro ?_ (And.intro ?_ ?_))); (focus (first | omega | (rw [wrap64 (by omega) (by omega)] <;> first | omega | rfl) | (simp; omega))); (focus (first | omega | (rw [wrap64 (by omega) (by omega)] <;> first | omega | rfl) | (simp; omega))); (focus (first | omega | (rw [wrap64 (by omega) (by omega)] <;> first | omega | rfl) | (simp; omega))); (focus ((repeat' (first | exact sz_nil | exact sz_map fun _ => rfl | apply sz_take | apply sz_drop | apply sz_append | apply sz_cons rfl)); done)); (conv => whnf))
      | (refine And.intro ?_ (And.intro ?_ ?_); (focus (first | omega | (rw [wrap64 (by omega) (by omega)] <;> first | omega | rfl) | (simp; omega))); (focus ((repeat' (first | exact sz_nil | exact sz_map fun _ => rfl | apply sz_take | apply sz_drop | apply sz_append | apply sz_cons rfl)); done)); (conv => whnf))
      | (refine And.intro ?_ (And.intro ?_ ?_); (focus (first | omega | (rw [wrap64 (by omega) (by omega)] <;> first | omega | rfl) | (simp; omega))); (focus (first | omega | (rw [wrap64 (by omega) (by omega)] <;> first | omega | rfl) | (simp; omega))); (conv => whnf))
      | (refine And.intro ?_ ?_; (focus (simp; done)); (conv => whnf))
      | (rw [beq_g]; (conv => whnf))
      | fail)
  intro i hi
  have hm := mPart_len hx (a := a) hd b i
  have hw2 := walk_len3 hx hd
  conv => whnf
  refine ⟨fun hi2 => ?_, fun hi2 => ?_⟩ <;> (try simp at hi2) <;> (conv => whnf)
  · have hw3 := hw2 (bindV a fs[i] b)
    have hal : (a :: ar)[0]'(by simp) = a := rfl
    repeat' (first
      | exact trivial
      | (refine ⟨rfl, ?_⟩; (conv => whnf))
      | (refine ⟨fun h => ?_, fun h => ?_⟩ <;> (try simp at h) <;> (try (exfalso; omega)) <;> (conv => whnf))
      | (intro b hb; (conv => whnf))
      | (refine .inl ?_; (conv => whnf); first | (refine ⟨_, _, _, _, ct_bind a fs[i] b hl hb hsm (hrl _ (List.getElem_mem hi2)), ?_⟩; (conv => whnf)) | (refine ⟨_, _, _, _, ih _ _ (bindV_len (by assumption) hb) (by simp [take_map_len]), ?_⟩; (conv => whnf)) | fail)
      | (refine And.intro ?_ ?_; (focus (rw [wrap64 (by omega) (by omega)] <;> rfl)); (conv => whnf))
      | (refine ⟨a.av, by omega, rfl, rfl, ?_⟩; (conv => whnf))
      | (refine ⟨fs[i].av, ?_, map_getI ?_ ?_, rfl, ?_⟩; (focus (first | omega | (rw [wrap64 (by omega) (by omega)] <;> first | omega | rfl) | (simp; omega))); (focus (first | rfl | omega | (rw [wrap64 (by omega) (by omega)] <;> first | omega | rfl))); (focus omega); (conv => whnf))
      | (refine ⟨fs[i].av, map_getI ?_ ?_, ?_, ?_, ?_⟩; (focus (first | rfl | omega | (rw [wrap64 (by omega) (by omega)] <;> first | omega | rfl))); (focus omega); (focus (simp; done)); (focus (simp; done)); (conv => whnf))
      | (refine ⟨fs[i].av, map_getI ?_ ?_, ?_⟩; (focus (first | rfl | omega | (rw [wrap64 (by omega) (by omega)] <;> first | omega | rfl))); (focus omega); (conv => whnf))
      | (refine And.intro ?_ (And.intro ?_ (And.intro ?_ (And.intro ?_ ?_))); (focus (first | omega | (rw [wrap64 (by omega) (by omega)] <;> first | omega | rfl) | (simp; omega))); (focus (first | omega | (rw [wrap64 (by omega) (by omega)] <;> first | omega | rfl) | (simp; omega))); (focus (first | omega | (rw [wrap64 (by omega) (by omega)] <;> first | omega | rfl) | (simp; omega))); (focus ((repeat' (first | exact sz_nil | exact sz_map fun _ => rfl | apply sz_take | apply sz_drop | apply sz_append | apply sz_cons rfl)); done)); (conv => whnf))
      | (refine And.intro ?_ (And.intro ?_ ?_); (focus (first | omega | (rw [wrap64 (by omega) (by omega)] <;> first | omega | rfl) | (simp; omega))); (focus ((repeat' (first | exact sz_nil | exact sz_map fun _ => rfl | apply sz_take | apply sz_drop | apply sz_append | apply sz_cons rfl)); done)); (conv => whnf))
      | (refine And.intro ?_ (And.intro ?_ ?_); (focus (first | omega | (rw [wrap64 (by omega) (by omega)] <;> first | omega | rfl) | (simp; omega))); (focus (first | omega | (rw [wrap64 (by omega) (by omega)] <;> first | omega | rfl) | (simp; omega))); (conv => whnf))
      | (refine ⟨i + 1, ?_, ?_, wk_sound (ψ := [((17, 0), (40, 0))]) ?_⟩; (focus (omega)); (focus (first | omega | (rw [wrap64 (by omega) (by omega)] <;> first | omega | rfl) | (simp; omega))); (conv => whnf); (fail_if_success show False))
      | (refine ⟨i + 1, ?_, ?_, wk_sound (ψ := []) ?_⟩; (focus (omega)); (focus (first | omega | (rw [wrap64 (by omega) (by omega)] <;> first | omega | rfl) | (simp; omega))); (conv => whnf); (fail_if_success show False))
      | (refine And.intro ?_ ?_; (focus (rw [mPart_snoc hi2, List.map_append]; first | (simp only [mOne, if_pos h, bindV_ok h]; done) | (simp [mOne, h]; done))); (conv => whnf))
      | (rw [beq_g]; (conv => whnf))
      | fail)
  · rw [mPart_end hi2]
    repeat' (first
      | exact trivial
      | (refine ⟨rfl, ?_⟩; (conv => whnf))
      | (refine ⟨fun h => ?_, fun h => ?_⟩ <;> (try simp at h) <;> (try (exfalso; omega)) <;> (conv => whnf))
      | (intro b hb; (conv => whnf))
      | (refine And.intro ?_ ?_; (focus (rw [wrap64 (by omega) (by omega)] <;> rfl)); (conv => whnf))
      | (refine And.intro ?_ (And.intro ?_ (And.intro ?_ (And.intro ?_ ?_))); (focus (first | omega | (rw [wrap64 (by omega) (by omega)] <;> first | omega | rfl) | (simp; omega))); (focus (first | omega | (rw [wrap64 (by omega) (by omega)] <;> first | omega | rfl) | (simp; omega))); (focus (first | omega | (rw [wrap64 (by omega) (by omega)] <;> first | omega | rfl) | (simp; omega))); (focus ((repeat' (first | exact sz_nil | exact sz_map fun _ => rfl | apply sz_take | apply sz_drop | apply sz_append | apply sz_cons rfl)); done)); (conv => whnf))
      | (refine And.intro ?_ (And.intro ?_ ?_); (focus (first | omega | (rw [wrap64 (by omega) (by omega)] <;> first | omega | rfl) | (simp; omega))); (focus ((repeat' (first | exact sz_nil | exact sz_map fun _ => rfl | apply sz_take | apply sz_drop | apply sz_append | apply sz_cons rfl)); done)); (conv => whnf))
      | (refine And.intro ?_ (And.intro ?_ ?_); (focus (first | omega | (rw [wrap64 (by omega) (by omega)] <;> first | omega | rfl) | (simp; omega))); (focus (first | omega | (rw [wrap64 (by omega) (by omega)] <;> first | omega | rfl) | (simp; omega))); (conv => whnf))
      | (rw [beq_g]; (conv => whnf))
      | fail)
theorem ct_matches {fs : List Fact} (hx : fs.length ≤ 30) : ∀ (l : List Atom) (b : List Int), l.length ≤ 3 → (∀ a ∈ l, a.terms.all termOk = true ∧ a.terms.length ≤ 1000000 ∧ ∀ f ∈ fs, a.rel = f.rel → a.terms.length = f.vals.length) → b.length = 5 →
    Ct Tryz.prog 194 [sl (.row (fs.map Fact.av)), sl (.row (l.map Atom.av)), sl (ints b)] [] (sl (.row ((walk fs l b).map lelem))) [] []
  | [], b, _, _, _ => ct_matches_nil fs b
  | a :: ar, b, hd, hl, hb => by
    have h0 := hl a (by simp)
    have hd' : ar.length ≤ 2 := by simpa using hd
    refine ct_matches_step fs a ar b h0.1 h0.2.1 h0.2.2 hb hx (by omega) (fun b' R hb' hR => ?_)
    subst hR
    exact ct_matches hx ar b' (by omega) (fun a ha => hl a (by simp [ha])) hb'
def matchOk (x : Inst) (l : List Atom) : Bool := validInst x && (decide (l.length ≤ 3) && l.all (validAtom x.rels))
def hasExt (x : Inst) (l : List Atom) (b : List Int) : Bool := matchOk x l && (decide (b.length = 5) && decide (0 < (walk x.facts l b).length))
theorem matchOk_spec {x : Inst} {l : List Atom} (h : matchOk x l = true) : validInst x = true ∧ l.length ≤ 3 ∧ x.facts.length ≤ 30 ∧ ∀ a ∈ l, validAtom x.rels a = true := by
  simp only [matchOk, Bool.and_eq_true, decide_eq_true_eq, List.all_eq_true] at h
  refine ⟨h.1, h.2.1, ?_, h.2.2⟩
  have := h.1
  simp only [validInst, Bool.and_eq_true, decide_eq_true_eq] at this
  exact this.2.2
theorem validAtom_all {rels : List Relation} {a : Atom} (h : validAtom rels a = true) : a.terms.all termOk = true := by
  simp only [validAtom, Bool.and_eq_true] at h; exact h.2
theorem same_len {rels : List Relation} {a : Atom} {f : Fact} (ha : validAtom rels a = true) (hf : validFact rels f = true) (h : a.rel = f.rel) : a.terms.length = f.vals.length := by
  obtain ⟨_, _, h1, h2⟩ := headOk_iff.1 (validAtom_head ha)
  obtain ⟨_, _, h3, h4⟩ := headOk_iff.1 (validFact_head hf)
  have : (rels[a.rel.toNat]'h1).arity = (rels[f.rel.toNat]'h3).arity := by simp only [h]
  omega
theorem matchOk_cons {x : Inst} {l : List Atom} (h0 : l ≠ []) (hv : validInst x = true) : matchOk x l = atomsOk x.rels l 3 := by
  have h1 : 1 ≤ l.length := List.length_pos_iff.2 h0
  have h2 : inR (l.length : Int) 1 3 = decide (l.length ≤ 3) := by
    simp only [inR]; rw [Bool.eq_iff_iff]; simp; omega
  simp only [matchOk, atomsOk, hv, h2, Bool.true_and]
theorem matchOk_len {x : Inst} {l : List Atom} (hv : validInst x = true) (ha : l.all (validAtom x.rels) = true) : matchOk x l = decide ((l.length : Int) ≤ 3) := by
  simp only [matchOk, hv, ha, Bool.true_and, Bool.and_true]
  exact decide_eq_decide.2 (by omega)
def H156 : List (Nat × Hint) := [(0, ⟨[], [0, 4]⟩), (2, ⟨[], [6, 7, 8]⟩), (3, ⟨[], [10, 11]⟩), (4, ⟨[(false, []), (false, []), (false, [0, 1]), (false, [0, 1, 2]), (false, [2, 3]), (false, [3, 4]), (false, []), (false, [])], [12, 13, 14, 15, 16, 17, 18]⟩), (6, ⟨[(false, []), (false, []), (true, []), (false, []), (false, []), (false, []), (false, []), (false, [])], [1, 2, 20, 21, 22, 23, 24, 25, 26]⟩)]
set_option maxHeartbeats 4000000 in
set_option maxRecDepth 100000 in
theorem ct_l11Ok (x : Inst) (l : List Atom) : Ct Tryz.prog 156 [ag x.av, sl (.row (l.map Atom.av))] [] (sl (.bool (matchOk x l))) [] [] := by
  refine ct_of_vc mixed tab_ok H156 Tryz.func156 rfl (by kernel_rfl) (by kernel_rfl) (by rfl) ?_
  intro hw _
  have hl : l.length ≤ 1125899906842624 := Wf.lenM (hw _ (.tail _ (.head _)))
  clear hw
  conv => whnf
  refine loop_rule mixed tab_ok H156 (I := Nat) (fun i => [(.slot 5, iv i), (.slot 1, .s (sl (.row (l.map Atom.av)))), (.slot 2, .s (.lf (.ptr (2, 0) 0))), (.leaf (2, 0) 0, .l (.av (.row (x.rels.map Relation.av)))), (.leaf (2, 0) 1, .l (.av (.row (x.facts.map Fact.av))))]) (fun i => i ≤ l.length ∧ (l.take i).all (validAtom x.rels) = true) (fun i => l.length - i) (by kernel_rfl) 0 (by simp) (wk_sound (ψ := []) ?_) ?_
  · conv => whnf
    repeat' (first
      | exact trivial
      | (refine ⟨rfl, ?_⟩; (conv => whnf))
      | (refine ⟨fun h => ?_, fun h => ?_⟩ <;> (try simp at h) <;> (try (exfalso; omega)) <;> (conv => whnf))
      | (intro b hb; (conv => whnf))
      | (refine And.intro ?_ ?_; (focus (rw [wrap64 (by omega) (by omega)] <;> rfl)); (conv => whnf))
      | (refine And.intro ?_ (And.intro ?_ (And.intro ?_ (And.intro ?_ ?_))); (focus (first | omega | (rw [wrap64 (by omega) (by omega)] <;> first | omega | rfl) | (simp; omega))); (focus (first | omega | (rw [wrap64 (by omega) (by omega)] <;> first | omega | rfl) | (simp; omega))); (focus (first | omega | (rw [wrap64 (by omega) (by omega)] <;> first | omega | rfl) | (simp; omega))); (focus ((repeat' (first | exact sz_nil | exact sz_map fun _ => rfl | apply sz_take | apply sz_drop | apply sz_append | apply sz_cons rfl)); done)); (conv => whnf))
      | (refine And.intro ?_ (And.intro ?_ ?_); (focus (first | omega | (rw [wrap64 (by omega) (by omega)] <;> first | omega | rfl) | (simp; omega))); (focus ((repeat' (first | exact sz_nil | exact sz_map fun _ => rfl | apply sz_take | apply sz_drop | apply sz_append | apply sz_cons rfl)); done)); (conv => whnf))
      | (refine And.intro ?_ (And.intro ?_ ?_); (focus (first | omega | (rw [wrap64 (by omega) (by omega)] <;> first | omega | rfl) | (simp; omega))); (focus (first | omega | (rw [wrap64 (by omega) (by omega)] <;> first | omega | rfl) | (simp; omega))); (conv => whnf))
      | (rw [beq_g]; (conv => whnf))
      | fail)
  rintro i ⟨hi, hok⟩
  conv => whnf
  refine ⟨fun hlt => ?_, fun hlt => ?_⟩ <;> (try simp at hlt) <;> (conv => whnf)
  · repeat' (first
      | exact trivial
      | (refine ⟨rfl, ?_⟩; (conv => whnf))
      | (refine ⟨fun h => ?_, fun h => ?_⟩ <;> (try simp at h) <;> (try (exfalso; omega)) <;> (conv => whnf))
      | (intro b hb; (conv => whnf))
      | (refine .inl ?_; (conv => whnf); first | (refine ⟨_, _, _, _, ct_sIsValidAtom _ _, ?_⟩; (conv => whnf)) | fail)
      | (refine And.intro ?_ ?_; (focus (rw [wrap64 (by omega) (by omega)] <;> rfl)); (conv => whnf))
      | (refine ⟨l[i].av, ?_, map_getI ?_ ?_, rfl, ?_⟩; (focus (first | omega | (rw [wrap64 (by omega) (by omega)] <;> first | omega | rfl) | (simp; omega))); (focus (first | rfl | omega | (rw [wrap64 (by omega) (by omega)] <;> first | omega | rfl))); (focus omega); (conv => whnf))
      | (refine ⟨l[i].av, map_getI ?_ ?_, ?_, ?_, ?_⟩; (focus (first | rfl | omega | (rw [wrap64 (by omega) (by omega)] <;> first | omega | rfl))); (focus omega); (focus (simp; done)); (focus (simp; done)); (conv => whnf))
      | (refine ⟨l[i].av, map_getI ?_ ?_, ?_⟩; (focus (first | rfl | omega | (rw [wrap64 (by omega) (by omega)] <;> first | omega | rfl))); (focus omega); (conv => whnf))
      | (refine And.intro ?_ (And.intro ?_ (And.intro ?_ (And.intro ?_ ?_))); (focus (first | omega | (rw [wrap64 (by omega) (by omega)] <;> first | omega | rfl) | (simp; omega))); (focus (first | omega | (rw [wrap64 (by omega) (by omega)] <;> first | omega | rfl) | (simp; omega))); (focus (first | omega | (rw [wrap64 (by omega) (by omega)] <;> first | omega | rfl) | (simp; omega))); (focus ((repeat' (first | exact sz_nil | exact sz_map fun _ => rfl | apply sz_take | apply sz_drop | apply sz_append | apply sz_cons rfl)); done)); (conv => whnf))
      | (refine And.intro ?_ (And.intro ?_ ?_); (focus (first | omega | (rw [wrap64 (by omega) (by omega)] <;> first | omega | rfl) | (simp; omega))); (focus ((repeat' (first | exact sz_nil | exact sz_map fun _ => rfl | apply sz_take | apply sz_drop | apply sz_append | apply sz_cons rfl)); done)); (conv => whnf))
      | (refine And.intro ?_ (And.intro ?_ ?_); (focus (first | omega | (rw [wrap64 (by omega) (by omega)] <;> first | omega | rfl) | (simp; omega))); (focus (first | omega | (rw [wrap64 (by omega) (by omega)] <;> first | omega | rfl) | (simp; omega))); (conv => whnf))
      | (refine ⟨i + 1, ?_, ?_, wk_sound (ψ := []) ?_⟩; (focus (exact ⟨hlt, all_next hlt hok (by assumption)⟩)); (focus (first | omega | (rw [wrap64 (by omega) (by omega)] <;> first | omega | rfl) | (simp; omega))); (conv => whnf); (fail_if_success show False))
      | (refine And.intro ?_ ?_; (focus (simp only [matchOk]; rw [all_bad (p := validAtom x.rels) hlt (by assumption)]; simp)); (conv => whnf))
      | (rw [beq_g]; (conv => whnf))
      | fail)
  · repeat' (first
      | exact trivial
      | (refine ⟨rfl, ?_⟩; (conv => whnf))
      | (refine ⟨fun h => ?_, fun h => ?_⟩ <;> (try simp at h) <;> (try (exfalso; omega)) <;> (conv => whnf))
      | (intro b hb; (conv => whnf))
      | (refine .inl ?_; (conv => whnf); first | (refine ⟨_, _, _, _, ct_sIsValidInstance x, ?_⟩; (conv => whnf)) | fail)
      | (refine And.intro ?_ ?_; (focus (rw [wrap64 (by omega) (by omega)] <;> rfl)); (conv => whnf))
      | (refine And.intro ?_ (And.intro ?_ (And.intro ?_ (And.intro ?_ ?_))); (focus (first | omega | (rw [wrap64 (by omega) (by omega)] <;> first | omega | rfl) | (simp; omega))); (focus (first | omega | (rw [wrap64 (by omega) (by omega)] <;> first | omega | rfl) | (simp; omega))); (focus (first | omega | (rw [wrap64 (by omega) (by omega)] <;> first | omega | rfl) | (simp; omega))); (focus ((repeat' (first | exact sz_nil | exact sz_map fun _ => rfl | apply sz_take | apply sz_drop | apply sz_append | apply sz_cons rfl)); done)); (conv => whnf))
      | (refine And.intro ?_ (And.intro ?_ ?_); (focus (first | omega | (rw [wrap64 (by omega) (by omega)] <;> first | omega | rfl) | (simp; omega))); (focus ((repeat' (first | exact sz_nil | exact sz_map fun _ => rfl | apply sz_take | apply sz_drop | apply sz_append | apply sz_cons rfl)); done)); (conv => whnf))
      | (refine And.intro ?_ (And.intro ?_ ?_); (focus (first | omega | (rw [wrap64 (by omega) (by omega)] <;> first | omega | rfl) | (simp; omega))); (focus (first | omega | (rw [wrap64 (by omega) (by omega)] <;> first | omega | rfl) | (simp; omega))); (conv => whnf))
      | (refine And.intro ?_ ?_; (focus (first | (rw [matchOk_len (by assumption) (all_end hlt hok), List.length_map]; done) | (simp [matchOk, *]; done))); (conv => whnf))
      | (rw [beq_g]; (conv => whnf))
      | fail)
def H193 : List (Nat × Hint) := [(0, ⟨[], [0, 4]⟩), (1, ⟨[(false, []), (false, []), (true, []), (false, []), (false, []), (false, []), (true, []), (false, []), (false, []), (false, []), (false, []), (false, []), (false, []), (false, [])], [1, 2, 5, 6, 7, 8, 9, 10, 11, 12, 13, 14, 15, 16, 17]⟩)]
set_option maxHeartbeats 4000000 in
set_option maxRecDepth 100000 in
theorem ct_iAreMatchable (x : Inst) (l : List Atom) : Ct Tryz.prog 193 [ag x.av, sl (.row (l.map Atom.av))] [] (sl (.bool (matchOk x l))) [] [] := by
  refine ct_of_vc mixed tab_ok H193 Tryz.func193 rfl (by kernel_rfl) (by kernel_rfl) (by rfl) ?_
  intro hw _
  clear hw
  conv => whnf
  repeat' (first
    | exact trivial
    | (refine ⟨rfl, ?_⟩; (conv => whnf))
    | (refine ⟨fun h => ?_, fun h => ?_⟩ <;> (try simp at h) <;> (try (exfalso; omega)) <;> (conv => whnf))
    | (intro b hb; (conv => whnf))
    | (refine .inl ?_; (conv => whnf); first | (refine ⟨_, _, _, _, ct_iIsValidInstance x, ?_⟩; (conv => whnf)) | (refine ⟨_, _, _, _, ct_iAreAtoms _ _ _, ?_⟩; (conv => whnf)) | fail)
    | (refine And.intro ?_ ?_; (focus (rw [wrap64 (by omega) (by omega)] <;> rfl)); (conv => whnf))
    | (refine And.intro ?_ (And.intro ?_ (And.intro ?_ (And.intro ?_ ?_))); (focus (first | omega | (rw [wrap64 (by omega) (by omega)] <;> first | omega | rfl) | (simp; omega))); (focus (first | omega | (rw [wrap64 (by omega) (by omega)] <;> first | omega | rfl) | (simp; omega))); (focus (first | omega | (rw [wrap64 (by omega) (by omega)] <;> first | omega | rfl) | (simp; omega))); (focus ((repeat' (first | exact sz_nil | exact sz_map fun _ => rfl | apply sz_take | apply sz_drop | apply sz_append | apply sz_cons rfl)); done)); (conv => whnf))
    | (refine And.intro ?_ (And.intro ?_ ?_); (focus (first | omega | (rw [wrap64 (by omega) (by omega)] <;> first | omega | rfl) | (simp; omega))); (focus ((repeat' (first | exact sz_nil | exact sz_map fun _ => rfl | apply sz_take | apply sz_drop | apply sz_append | apply sz_cons rfl)); done)); (conv => whnf))
    | (refine And.intro ?_ (And.intro ?_ ?_); (focus (first | omega | (rw [wrap64 (by omega) (by omega)] <;> first | omega | rfl) | (simp; omega))); (focus (first | omega | (rw [wrap64 (by omega) (by omega)] <;> first | omega | rfl) | (simp; omega))); (conv => whnf))
    | (refine And.intro ?_ ?_; (focus (first | (rw [matchOk_cons (by assumption) (by assumption)]; done) | (simp [matchOk, *]; done) | (have h0 : l = [] := (by cases l <;> simp_all); subst h0; simp [matchOk, *]; done))); (conv => whnf))
    | (rw [beq_g]; (conv => whnf))
    | fail)
def H126 : List (Nat × Hint) := [(0, ⟨[], [0, 6]⟩), (1, ⟨[(false, []), (false, []), (false, []), (true, []), (false, []), (false, []), (false, []), (false, []), (true, []), (false, []), (false, []), (false, []), (false, []), (false, []), (false, []), (false, []), (false, [])], [1, 2, 3, 7, 8, 9, 10, 11, 12, 13, 14, 15, 16, 17, 18, 19, 20, 21, 22]⟩)]
set_option maxHeartbeats 4000000 in
set_option maxRecDepth 100000 in
theorem ct_sHasExtension (x : Inst) (l : List Atom) (b : List Int) : Ct Tryz.prog 126 [ag x.av, sl (.row (l.map Atom.av)), sl (ints b)] [] (sl (.bool (hasExt x l b))) [] [] := by
  refine ct_of_vc mixed tab_ok H126 Tryz.func126 rfl (by kernel_rfl) (by kernel_rfl) (by rfl) ?_
  intro hw _
  clear hw
  conv => whnf
  refine .inl ?_
  conv => whnf
  refine ⟨_, _, _, _, ct_l11Ok x l, ?_⟩
  conv => whnf
  refine ⟨fun h => ?_, fun h => ?_⟩ <;> (try simp at h) <;> (conv => whnf)
  · obtain ⟨_, hl3, hx, hva⟩ := matchOk_spec h
    refine ⟨fun hb => ?_, fun hb => ?_⟩ <;> (try simp at hb) <;> (conv => whnf)
    · have hb5 : b.length = 5 := by omega
      have hc := ct_l11Walk (x := x) (l := l) (fun a ha => ⟨validAtom_all (hva a ha), validAtom_small (hva a ha)⟩) hx hl3 l.length 0 b (by omega) hb5
      repeat' (first
        | exact trivial
        | (refine ⟨rfl, ?_⟩; (conv => whnf))
        | (refine ⟨fun h => ?_, fun h => ?_⟩ <;> (try simp at h) <;> (try (exfalso; omega)) <;> (conv => whnf))
        | (intro b hb; (conv => whnf))
        | (refine .inl ?_; (conv => whnf); first | (refine ⟨_, _, _, _, hc, ?_⟩; (conv => whnf)) | fail)
        | (refine And.intro ?_ ?_; (focus (rw [wrap64 (by omega) (by omega)] <;> rfl)); (conv => whnf))
        | (refine And.intro ?_ (And.intro ?_ (And.intro ?_ (And.intro ?_ ?_))); (focus (first | omega | (rw [wrap64 (by omega) (by omega)] <;> first | omega | rfl) | (simp; omega))); (focus (first | omega | (rw [wrap64 (by omega) (by omega)] <;> first | omega | rfl) | (simp; omega))); (focus (first | omega | (rw [wrap64 (by omega) (by omega)] <;> first | omega | rfl) | (simp; omega))); (focus ((repeat' (first | exact sz_nil | exact sz_map fun _ => rfl | apply sz_take | apply sz_drop | apply sz_append | apply sz_cons rfl)); done)); (conv => whnf))
        | (refine And.intro ?_ (And.intro ?_ ?_); (focus (first | omega | (rw [wrap64 (by omega) (by omega)] <;> first | omega | rfl) | (simp; omega))); (focus ((repeat' (first | exact sz_nil | exact sz_map fun _ => rfl | apply sz_take | apply sz_drop | apply sz_append | apply sz_cons rfl)); done)); (conv => whnf))
        | (refine And.intro ?_ (And.intro ?_ ?_); (focus (first | omega | (rw [wrap64 (by omega) (by omega)] <;> first | omega | rfl) | (simp; omega))); (focus (first | omega | (rw [wrap64 (by omega) (by omega)] <;> first | omega | rfl) | (simp; omega))); (conv => whnf))
        | (refine And.intro ?_ ?_; (focus (simp only [hasExt, h, hb5]; simp)); (conv => whnf))
        | (rw [beq_g]; (conv => whnf))
        | fail)
    · have hb5 : ¬ b.length = 5 := by omega
      repeat' (first
        | exact trivial
        | (refine ⟨rfl, ?_⟩; (conv => whnf))
        | (refine ⟨fun h => ?_, fun h => ?_⟩ <;> (try simp at h) <;> (try (exfalso; omega)) <;> (conv => whnf))
        | (intro b hb; (conv => whnf))
        | (refine And.intro ?_ ?_; (focus (rw [wrap64 (by omega) (by omega)] <;> rfl)); (conv => whnf))
        | (refine And.intro ?_ (And.intro ?_ (And.intro ?_ (And.intro ?_ ?_))); (focus (first | omega | (rw [wrap64 (by omega) (by omega)] <;> first | omega | rfl) | (simp; omega))); (focus (first | omega | (rw [wrap64 (by omega) (by omega)] <;> first | omega | rfl) | (simp; omega))); (focus (first | omega | (rw [wrap64 (by omega) (by omega)] <;> first | omega | rfl) | (simp; omega))); (focus ((repeat' (first | exact sz_nil | exact sz_map fun _ => rfl | apply sz_take | apply sz_drop | apply sz_append | apply sz_cons rfl)); done)); (conv => whnf))
        | (refine And.intro ?_ (And.intro ?_ ?_); (focus (first | omega | (rw [wrap64 (by omega) (by omega)] <;> first | omega | rfl) | (simp; omega))); (focus ((repeat' (first | exact sz_nil | exact sz_map fun _ => rfl | apply sz_take | apply sz_drop | apply sz_append | apply sz_cons rfl)); done)); (conv => whnf))
        | (refine And.intro ?_ (And.intro ?_ ?_); (focus (first | omega | (rw [wrap64 (by omega) (by omega)] <;> first | omega | rfl) | (simp; omega))); (focus (first | omega | (rw [wrap64 (by omega) (by omega)] <;> first | omega | rfl) | (simp; omega))); (conv => whnf))
        | (refine And.intro ?_ ?_; (focus (simp [hasExt, hb5])); (conv => whnf))
        | (rw [beq_g]; (conv => whnf))
        | fail)
  · repeat' (first
      | exact trivial
      | (refine ⟨rfl, ?_⟩; (conv => whnf))
      | (refine ⟨fun h => ?_, fun h => ?_⟩ <;> (try simp at h) <;> (try (exfalso; omega)) <;> (conv => whnf))
      | (intro b hb; (conv => whnf))
      | (refine And.intro ?_ ?_; (focus (rw [wrap64 (by omega) (by omega)] <;> rfl)); (conv => whnf))
      | (refine And.intro ?_ (And.intro ?_ (And.intro ?_ (And.intro ?_ ?_))); (focus (first | omega | (rw [wrap64 (by omega) (by omega)] <;> first | omega | rfl) | (simp; omega))); (focus (first | omega | (rw [wrap64 (by omega) (by omega)] <;> first | omega | rfl) | (simp; omega))); (focus (first | omega | (rw [wrap64 (by omega) (by omega)] <;> first | omega | rfl) | (simp; omega))); (focus ((repeat' (first | exact sz_nil | exact sz_map fun _ => rfl | apply sz_take | apply sz_drop | apply sz_append | apply sz_cons rfl)); done)); (conv => whnf))
      | (refine And.intro ?_ (And.intro ?_ ?_); (focus (first | omega | (rw [wrap64 (by omega) (by omega)] <;> first | omega | rfl) | (simp; omega))); (focus ((repeat' (first | exact sz_nil | exact sz_map fun _ => rfl | apply sz_take | apply sz_drop | apply sz_append | apply sz_cons rfl)); done)); (conv => whnf))
      | (refine And.intro ?_ (And.intro ?_ ?_); (focus (first | omega | (rw [wrap64 (by omega) (by omega)] <;> first | omega | rfl) | (simp; omega))); (focus (first | omega | (rw [wrap64 (by omega) (by omega)] <;> first | omega | rfl) | (simp; omega))); (conv => whnf))
      | (refine And.intro ?_ ?_; (focus (simp [hasExt, h])); (conv => whnf))
      | (rw [beq_g]; (conv => whnf))
      | fail)
def H169 : List (Nat × Hint) := [(0, ⟨[], [0, 6]⟩), (1, ⟨[(false, []), (false, [0]), (false, []), (true, []), (false, []), (false, []), (false, []), (false, []), (true, []), (false, []), (false, []), (false, [0, 1]), (false, [0, 1, 2]), (false, [1, 2, 3]), (false, []), (false, []), (false, []), (false, []), (false, [])], [1, 2, 3, 7, 8, 9, 10, 11, 12, 13, 14, 15, 16, 17, 18, 19, 20, 21, 22, 23, 24]⟩)]
set_option maxHeartbeats 4000000 in
set_option maxRecDepth 100000 in
theorem ct_iHasExtension (x : Inst) (l : List Atom) (b : List Int) : Ct Tryz.prog 169 [ag x.av, sl (.row (l.map Atom.av)), sl (ints b)] [] (sl (.bool (hasExt x l b))) [] [] := by
  refine ct_of_vc mixed tab_ok H169 Tryz.func169 rfl (by kernel_rfl) (by kernel_rfl) (by rfl) ?_
  intro hw _
  clear hw
  conv => whnf
  refine .inl ?_
  conv => whnf
  refine ⟨_, _, _, _, ct_iAreMatchable x l, ?_⟩
  conv => whnf
  refine ⟨fun h => ?_, fun h => ?_⟩ <;> (try simp at h) <;> (conv => whnf)
  · obtain ⟨hvi, hl3, hx, hva⟩ := matchOk_spec h
    refine ⟨fun hb => ?_, fun hb => ?_⟩ <;> (try simp at hb) <;> (conv => whnf)
    · have hb5 : b.length = 5 := by omega
      have hc := ct_matches (fs := x.facts) hx l b hl3 (fun a ha => ⟨validAtom_all (hva a ha), validAtom_small (hva a ha), fun f hf => same_len (hva a ha) (validInst_facts hvi f hf)⟩) hb5
      repeat' (first
        | exact trivial
        | (refine ⟨rfl, ?_⟩; (conv => whnf))
        | (refine ⟨fun h => ?_, fun h => ?_⟩ <;> (try simp at h) <;> (try (exfalso; omega)) <;> (conv => whnf))
        | (intro b hb; (conv => whnf))
        | (refine .inl ?_; (conv => whnf); first | (refine ⟨_, _, _, _, hc, ?_⟩; (conv => whnf)) | (refine ⟨_, _, _, _, ct_CloneI b (by omega), ?_⟩; (conv => whnf)) | fail)
        | (refine And.intro ?_ ?_; (focus (rw [wrap64 (by omega) (by omega)] <;> rfl)); (conv => whnf))
        | (refine And.intro ?_ (And.intro ?_ (And.intro ?_ (And.intro ?_ ?_))); (focus (first | omega | (rw [wrap64 (by omega) (by omega)] <;> first | omega | rfl) | (simp; omega))); (focus (first | omega | (rw [wrap64 (by omega) (by omega)] <;> first | omega | rfl) | (simp; omega))); (focus (first | omega | (rw [wrap64 (by omega) (by omega)] <;> first | omega | rfl) | (simp; omega))); (focus ((repeat' (first | exact sz_nil | exact sz_map fun _ => rfl | apply sz_take | apply sz_drop | apply sz_append | apply sz_cons rfl)); done)); (conv => whnf))
        | (refine And.intro ?_ (And.intro ?_ ?_); (focus (first | omega | (rw [wrap64 (by omega) (by omega)] <;> first | omega | rfl) | (simp; omega))); (focus ((repeat' (first | exact sz_nil | exact sz_map fun _ => rfl | apply sz_take | apply sz_drop | apply sz_append | apply sz_cons rfl)); done)); (conv => whnf))
        | (refine And.intro ?_ (And.intro ?_ ?_); (focus (first | omega | (rw [wrap64 (by omega) (by omega)] <;> first | omega | rfl) | (simp; omega))); (focus (first | omega | (rw [wrap64 (by omega) (by omega)] <;> first | omega | rfl) | (simp; omega))); (conv => whnf))
        | (refine And.intro ?_ ?_; (focus (simp only [hasExt, h, hb5]; simp)); (conv => whnf))
        | (rw [beq_g]; (conv => whnf))
        | fail)
    · have hb5 : ¬ b.length = 5 := by omega
      repeat' (first
        | exact trivial
        | (refine ⟨rfl, ?_⟩; (conv => whnf))
        | (refine ⟨fun h => ?_, fun h => ?_⟩ <;> (try simp at h) <;> (try (exfalso; omega)) <;> (conv => whnf))
        | (intro b hb; (conv => whnf))
        | (refine And.intro ?_ ?_; (focus (rw [wrap64 (by omega) (by omega)] <;> rfl)); (conv => whnf))
        | (refine And.intro ?_ (And.intro ?_ (And.intro ?_ (And.intro ?_ ?_))); (focus (first | omega | (rw [wrap64 (by omega) (by omega)] <;> first | omega | rfl) | (simp; omega))); (focus (first | omega | (rw [wrap64 (by omega) (by omega)] <;> first | omega | rfl) | (simp; omega))); (focus (first | omega | (rw [wrap64 (by omega) (by omega)] <;> first | omega | rfl) | (simp; omega))); (focus ((repeat' (first | exact sz_nil | exact sz_map fun _ => rfl | apply sz_take | apply sz_drop | apply sz_append | apply sz_cons rfl)); done)); (conv => whnf))
        | (refine And.intro ?_ (And.intro ?_ ?_); (focus (first | omega | (rw [wrap64 (by omega) (by omega)] <;> first | omega | rfl) | (simp; omega))); (focus ((repeat' (first | exact sz_nil | exact sz_map fun _ => rfl | apply sz_take | apply sz_drop | apply sz_append | apply sz_cons rfl)); done)); (conv => whnf))
        | (refine And.intro ?_ (And.intro ?_ ?_); (focus (first | omega | (rw [wrap64 (by omega) (by omega)] <;> first | omega | rfl) | (simp; omega))); (focus (first | omega | (rw [wrap64 (by omega) (by omega)] <;> first | omega | rfl) | (simp; omega))); (conv => whnf))
        | (refine And.intro ?_ ?_; (focus (simp [hasExt, hb5])); (conv => whnf))
        | (rw [beq_g]; (conv => whnf))
        | fail)
  · repeat' (first
      | exact trivial
      | (refine ⟨rfl, ?_⟩; (conv => whnf))
      | (refine ⟨fun h => ?_, fun h => ?_⟩ <;> (try simp at h) <;> (try (exfalso; omega)) <;> (conv => whnf))
      | (intro b hb; (conv => whnf))
      | (refine And.intro ?_ ?_; (focus (rw [wrap64 (by omega) (by omega)] <;> rfl)); (conv => whnf))
      | (refine And.intro ?_ (And.intro ?_ (And.intro ?_ (And.intro ?_ ?_))); (focus (first | omega | (rw [wrap64 (by omega) (by omega)] <;> first | omega | rfl) | (simp; omega))); (focus (first | omega | (rw [wrap64 (by omega) (by omega)] <;> first | omega | rfl) | (simp; omega))); (focus (first | omega | (rw [wrap64 (by omega) (by omega)] <;> first | omega | rfl) | (simp; omega))); (focus ((repeat' (first | exact sz_nil | exact sz_map fun _ => rfl | apply sz_take | apply sz_drop | apply sz_append | apply sz_cons rfl)); done)); (conv => whnf))
      | (refine And.intro ?_ (And.intro ?_ ?_); (focus (first | omega | (rw [wrap64 (by omega) (by omega)] <;> first | omega | rfl) | (simp; omega))); (focus ((repeat' (first | exact sz_nil | exact sz_map fun _ => rfl | apply sz_take | apply sz_drop | apply sz_append | apply sz_cons rfl)); done)); (conv => whnf))
      | (refine And.intro ?_ (And.intro ?_ ?_); (focus (first | omega | (rw [wrap64 (by omega) (by omega)] <;> first | omega | rfl) | (simp; omega))); (focus (first | omega | (rw [wrap64 (by omega) (by omega)] <;> first | omega | rfl) | (simp; omega))); (conv => whnf))
      | (refine And.intro ?_ ?_; (focus (simp [hasExt, h])); (conv => whnf))
      | (rw [beq_g]; (conv => whnf))
      | fail)
end Go.Proofs.YtccbimcikbbecaaGreat
/- Active triggers; variables of the head alone. -/
namespace Go.Proofs.YtccbimcikbbecaaGreat
open Go P1
def actRest (x : Inst) (d : Dep) (b : List Int) : Bool := match d.egd with
  | true => !decide (b.getD d.left.toNat 0 = b.getD d.right.toNat 0)
  | false => !hasExt x d.head b
def isAct (x : Inst) (d : Dep) (b : List Int) : Bool := isTrig x d b && actRest x d b
theorem isTrig_spec {x : Inst} {d : Dep} {b : List Int} (h : isTrig x d b = true) : validInst x = true ∧ validDep x.rels d = true ∧ b.length = 5 := by
  simp only [isTrig, Bool.and_eq_true, decide_eq_true_eq] at h
  exact ⟨h.1, h.2.1, h.2.2.1⟩
theorem terms_mem {l : List Atom} {t : Int} : t ∈ terms l ↔ ∃ a ∈ l, t ∈ a.terms := by simp [terms]
theorem vars_lt {rels : List Relation} {l : List Atom} (h : l.all (validAtom rels) = true) {v : Int} (hv : v ∈ vars l) : 0 ≤ v ∧ v ≤ 4 := by
  have h1 := putAll_mem.1 hv
  simp only [pos, List.mem_filter, decide_eq_true_eq] at h1
  obtain ⟨a, ha, ht⟩ := terms_mem.1 h1.1
  have := validAtom_all (List.all_eq_true.1 h a ha)
  have := inR_iff.1 (List.all_eq_true.1 this v ht)
  omega
theorem egd_lt {rels : List Relation} {d : Dep} (h : validDep rels d = true) (he : d.egd = true) : (0 ≤ d.left ∧ d.left ≤ 4) ∧ (0 ≤ d.right ∧ d.right ≤ 4) := by
  have hb := (validDep_body h).2.1
  simp only [validDep, Bool.and_eq_true] at h
  have h2 := h.2.2
  rw [restOk_t he] at h2
  simp only [egdOk, Bool.and_eq_true, decide_eq_true_eq] at h2
  exact ⟨vars_lt hb h2.2.1, vars_lt hb h2.2.2.1⟩
def H98 : List (Nat × Hint) := [(0, ⟨[], [0, 1, 6]⟩), (1, ⟨[], [7, 8, 9, 10]⟩), (3, ⟨[], [12]⟩), (4, ⟨[(false, []), (false, [0]), (false, [1]), (false, []), (false, []), (false, [0, 1, 2, 3, 4]), (false, [0, 1, 2, 3, 4, 5]), (false, [1, 2, 3, 4, 5, 6]), (false, [3, 4, 5, 6, 7]), (false, [4, 5, 6, 7, 8]), (false, []), (false, [])], [2, 4, 14, 15, 16, 17, 18, 19, 20, 21, 22, 23, 24]⟩), (5, ⟨[], [2, 3, 4, 25, 26, 27, 28, 29, 30]⟩)]
set_option maxHeartbeats 4000000 in
set_option maxRecDepth 100000 in
theorem ct_sIsActiveTrigger (x : Inst) (d : Dep) (b : List Int) : Ct Tryz.prog 98 [ag x.av, ag d.av, sl (ints b)] [] (sl (.bool (isAct x d b))) [] [] := by
  refine ct_of_vc mixed tab_ok H98 Tryz.func98 rfl (by kernel_rfl) (by kernel_rfl) (by rfl) ?_
  intro hw _
  clear hw
  conv => whnf
  refine .inl ?_
  conv => whnf
  refine ⟨_, _, _, _, ct_sIsTrigger x d b, ?_⟩
  conv => whnf
  refine ⟨fun ht => ?_, fun ht => ?_⟩ <;> (try simp at ht) <;> (conv => whnf)
  · repeat' (first
      | exact trivial
      | (refine ⟨rfl, ?_⟩; (conv => whnf))
      | (refine ⟨fun h => ?_, fun h => ?_⟩ <;> (try simp at h) <;> (try (exfalso; omega)) <;> (conv => whnf))
      | (intro b hb; (conv => whnf))
      | (refine And.intro ?_ ?_; (focus (rw [wrap64 (by omega) (by omega)] <;> rfl)); (conv => whnf))
      | (refine And.intro ?_ (And.intro ?_ (And.intro ?_ (And.intro ?_ ?_))); (focus (first | omega | (rw [wrap64 (by omega) (by omega)] <;> first | omega | rfl) | (simp; omega))); (focus (first | omega | (rw [wrap64 (by omega) (by omega)] <;> first | omega | rfl) | (simp; omega))); (focus (first | omega | (rw [wrap64 (by omega) (by omega)] <;> first | omega | rfl) | (simp; omega))); (focus ((repeat' (first | exact sz_nil | exact sz_map fun _ => rfl | apply sz_take | apply sz_drop | apply sz_append | apply sz_cons rfl)); done)); (conv => whnf))
      | (refine And.intro ?_ (And.intro ?_ ?_); (focus (first | omega | (rw [wrap64 (by omega) (by omega)] <;> first | omega | rfl) | (simp; omega))); (focus ((repeat' (first | exact sz_nil | exact sz_map fun _ => rfl | apply sz_take | apply sz_drop | apply sz_append | apply sz_cons rfl)); done)); (conv => whnf))
      | (refine And.intro ?_ (And.intro ?_ ?_); (focus (first | omega | (rw [wrap64 (by omega) (by omega)] <;> first | omega | rfl) | (simp; omega))); (focus (first | omega | (rw [wrap64 (by omega) (by omega)] <;> first | omega | rfl) | (simp; omega))); (conv => whnf))
      | (refine And.intro ?_ ?_; (focus (simp [isAct, ht])); (conv => whnf))
      | (rw [beq_g]; (conv => whnf))
      | fail)
  have hr : isAct x d b = actRest x d b := by simp [isAct, ht]
  rw [hr]
  obtain ⟨hvi, hvd, hb⟩ := isTrig_spec ht
  refine ⟨fun he => ?_, fun he => ?_⟩ <;> (try simp at he) <;> (conv => whnf)
  · have hl := egd_lt hvd he
    have h1 : d.left.toNat < b.length := by omega
    have h2 : d.right.toNat < b.length := by omega
    repeat' (first
      | exact trivial
      | (refine ⟨rfl, ?_⟩; (conv => whnf))
      | (refine ⟨fun h => ?_, fun h => ?_⟩ <;> (try simp at h) <;> (try (exfalso; omega)) <;> (conv => whnf))
      | (intro b hb; (conv => whnf))
      | (refine And.intro ?_ ?_; (focus (rw [wrap64 (by omega) (by omega)] <;> rfl)); (conv => whnf))
      | (refine ⟨[i64 b[d.left.toNat]], ?_, map_getI ?_ ?_, rfl, ?_⟩; (focus (first | omega | (rw [wrap64 (by omega) (by omega)] <;> first | omega | rfl) | (simp; omega))); (focus (first | rfl | omega | (rw [wrap64 (by omega) (by omega)] <;> first | omega | rfl))); (focus omega); (conv => whnf))
      | (refine ⟨[i64 b[d.left.toNat]], map_getI ?_ ?_, ?_, ?_, ?_⟩; (focus (first | rfl | omega | (rw [wrap64 (by omega) (by omega)] <;> first | omega | rfl))); (focus omega); (focus (simp; done)); (focus (simp; done)); (conv => whnf))
      | (refine ⟨[i64 b[d.left.toNat]], map_getI ?_ ?_, ?_⟩; (focus (first | rfl | omega | (rw [wrap64 (by omega) (by omega)] <;> first | omega | rfl))); (focus omega); (conv => whnf))
      | (refine ⟨[i64 b[d.right.toNat]], ?_, map_getI ?_ ?_, rfl, ?_⟩; (focus (first | omega | (rw [wrap64 (by omega) (by omega)] <;> first | omega | rfl) | (simp; omega))); (focus (first | rfl | omega | (rw [wrap64 (by omega) (by omega)] <;> first | omega | rfl))); (focus omega); (conv => whnf))
      | (refine ⟨[i64 b[d.right.toNat]], map_getI ?_ ?_, ?_, ?_, ?_⟩; (focus (first | rfl | omega | (rw [wrap64 (by omega) (by omega)] <;> first | omega | rfl))); (focus omega); (focus (simp; done)); (focus (simp; done)); (conv => whnf))
      | (refine ⟨[i64 b[d.right.toNat]], map_getI ?_ ?_, ?_⟩; (focus (first | rfl | omega | (rw [wrap64 (by omega) (by omega)] <;> first | omega | rfl))); (focus omega); (conv => whnf))
      | (refine And.intro ?_ (And.intro ?_ (And.intro ?_ (And.intro ?_ ?_))); (focus (first | omega | (rw [wrap64 (by omega) (by omega)] <;> first | omega | rfl) | (simp; omega))); (focus (first | omega | (rw [wrap64 (by omega) (by omega)] <;> first | omega | rfl) | (simp; omega))); (focus (first | omega | (rw [wrap64 (by omega) (by omega)] <;> first | omega | rfl) | (simp; omega))); (focus ((repeat' (first | exact sz_nil | exact sz_map fun _ => rfl | apply sz_take | apply sz_drop | apply sz_append | apply sz_cons rfl)); done)); (conv => whnf))
      | (refine And.intro ?_ (And.intro ?_ ?_); (focus (first | omega | (rw [wrap64 (by omega) (by omega)] <;> first | omega | rfl) | (simp; omega))); (focus ((repeat' (first | exact sz_nil | exact sz_map fun _ => rfl | apply sz_take | apply sz_drop | apply sz_append | apply sz_cons rfl)); done)); (conv => whnf))
      | (refine And.intro ?_ (And.intro ?_ ?_); (focus (first | omega | (rw [wrap64 (by omega) (by omega)] <;> first | omega | rfl) | (simp; omega))); (focus (first | omega | (rw [wrap64 (by omega) (by omega)] <;> first | omega | rfl) | (simp; omega))); (conv => whnf))
      | (refine And.intro ?_ ?_; (focus (simp only [actRest, he, getD_eq h1, getD_eq h2])); (conv => whnf))
      | (rw [beq_g]; (conv => whnf))
      | fail)
  · repeat' (first
      | exact trivial
      | (refine ⟨rfl, ?_⟩; (conv => whnf))
      | (refine ⟨fun h => ?_, fun h => ?_⟩ <;> (try simp at h) <;> (try (exfalso; omega)) <;> (conv => whnf))
      | (intro b hb; (conv => whnf))
      | (refine .inl ?_; (conv => whnf); first | (refine ⟨_, _, _, _, ct_sHasExtension _ _ _, ?_⟩; (conv => whnf)) | fail)
      | (refine And.intro ?_ ?_; (focus (rw [wrap64 (by omega) (by omega)] <;> rfl)); (conv => whnf))
      | (refine And.intro ?_ (And.intro ?_ (And.intro ?_ (And.intro ?_ ?_))); (focus (first | omega | (rw [wrap64 (by omega) (by omega)] <;> first | omega | rfl) | (simp; omega))); (focus (first | omega | (rw [wrap64 (by omega) (by omega)] <;> first | omega | rfl) | (simp; omega))); (focus (first | omega | (rw [wrap64 (by omega) (by omega)] <;> first | omega | rfl) | (simp; omega))); (focus ((repeat' (first | exact sz_nil | exact sz_map fun _ => rfl | apply sz_take | apply sz_drop | apply sz_append | apply sz_cons rfl)); done)); (conv => whnf))
      | (refine And.intro ?_ (And.intro ?_ ?_); (focus (first | omega | (rw [wrap64 (by omega) (by omega)] <;> first | omega | rfl) | (simp; omega))); (focus ((repeat' (first | exact sz_nil | exact sz_map fun _ => rfl | apply sz_take | apply sz_drop | apply sz_append | apply sz_cons rfl)); done)); (conv => whnf))
      | (refine And.intro ?_ (And.intro ?_ ?_); (focus (first | omega | (rw [wrap64 (by omega) (by omega)] <;> first | omega | rfl) | (simp; omega))); (focus (first | omega | (rw [wrap64 (by omega) (by omega)] <;> first | omega | rfl) | (simp; omega))); (conv => whnf))
      | (refine And.intro ?_ ?_; (focus (simp only [actRest, he])); (conv => whnf))
      | (rw [beq_g]; (conv => whnf))
      | fail)
def H138 : List (Nat × Hint) := [(0, ⟨[], [0, 1, 6]⟩), (1, ⟨[], [7, 8, 9, 10]⟩), (3, ⟨[], [12]⟩), (4, ⟨[(false, []), (false, [0]), (false, [1]), (false, []), (false, []), (false, [0, 1, 2, 3, 4]), (false, [0, 1, 2, 3, 4, 5]), (false, [1, 2, 3, 4, 5, 6]), (false, [3, 4, 5, 6, 7]), (false, [4, 5, 6, 7, 8]), (false, []), (false, [])], [2, 4, 14, 15, 16, 17, 18, 19, 20, 21, 22, 23, 24]⟩), (5, ⟨[], [2, 3, 4, 25, 26, 27, 28, 29, 30]⟩)]
set_option maxHeartbeats 4000000 in
set_option maxRecDepth 100000 in
theorem ct_iIsActiveTrigger (x : Inst) (d : Dep) (b : List Int) : Ct Tryz.prog 138 [ag x.av, ag d.av, sl (ints b)] [] (sl (.bool (isAct x d b))) [] [] := by
  refine ct_of_vc mixed tab_ok H138 Tryz.func138 rfl (by kernel_rfl) (by kernel_rfl) (by rfl) ?_
  intro hw _
  clear hw
  conv => whnf
  refine .inl ?_
  conv => whnf
  refine ⟨_, _, _, _, ct_iIsTrigger x d b, ?_⟩
  conv => whnf
  refine ⟨fun ht => ?_, fun ht => ?_⟩ <;> (try simp at ht) <;> (conv => whnf)
  · repeat' (first
      | exact trivial
      | (refine ⟨rfl, ?_⟩; (conv => whnf))
      | (refine ⟨fun h => ?_, fun h => ?_⟩ <;> (try simp at h) <;> (try (exfalso; omega)) <;> (conv => whnf))
      | (intro b hb; (conv => whnf))
      | (refine And.intro ?_ ?_; (focus (rw [wrap64 (by omega) (by omega)] <;> rfl)); (conv => whnf))
      | (refine And.intro ?_ (And.intro ?_ (And.intro ?_ (And.intro ?_ ?_))); (focus (first | omega | (rw [wrap64 (by omega) (by omega)] <;> first | omega | rfl) | (simp; omega))); (focus (first | omega | (rw [wrap64 (by omega) (by omega)] <;> first | omega | rfl) | (simp; omega))); (focus (first | omega | (rw [wrap64 (by omega) (by omega)] <;> first | omega | rfl) | (simp; omega))); (focus ((repeat' (first | exact sz_nil | exact sz_map fun _ => rfl | apply sz_take | apply sz_drop | apply sz_append | apply sz_cons rfl)); done)); (conv => whnf))
      | (refine And.intro ?_ (And.intro ?_ ?_); (focus (first | omega | (rw [wrap64 (by omega) (by omega)] <;> first | omega | rfl) | (simp; omega))); (focus ((repeat' (first | exact sz_nil | exact sz_map fun _ => rfl | apply sz_take | apply sz_drop | apply sz_append | apply sz_cons rfl)); done)); (conv => whnf))
      | (refine And.intro ?_ (And.intro ?_ ?_); (focus (first | omega | (rw [wrap64 (by omega) (by omega)] <;> first | omega | rfl) | (simp; omega))); (focus (first | omega | (rw [wrap64 (by omega) (by omega)] <;> first | omega | rfl) | (simp; omega))); (conv => whnf))
      | (refine And.intro ?_ ?_; (focus (simp [isAct, ht])); (conv => whnf))
      | (rw [beq_g]; (conv => whnf))
      | fail)
  have hr : isAct x d b = actRest x d b := by simp [isAct, ht]
  rw [hr]
  obtain ⟨hvi, hvd, hb⟩ := isTrig_spec ht
  refine ⟨fun he => ?_, fun he => ?_⟩ <;> (try simp at he) <;> (conv => whnf)
  · have hl := egd_lt hvd he
    have h1 : d.left.toNat < b.length := by omega
    have h2 : d.right.toNat < b.length := by omega
    repeat' (first
      | exact trivial
      | (refine ⟨rfl, ?_⟩; (conv => whnf))
      | (refine ⟨fun h => ?_, fun h => ?_⟩ <;> (try simp at h) <;> (try (exfalso; omega)) <;> (conv => whnf))
      | (intro b hb; (conv => whnf))
      | (refine And.intro ?_ ?_; (focus (rw [wrap64 (by omega) (by omega)] <;> rfl)); (conv => whnf))
      | (refine ⟨[i64 b[d.left.toNat]], ?_, map_getI ?_ ?_, rfl, ?_⟩; (focus (first | omega | (rw [wrap64 (by omega) (by omega)] <;> first | omega | rfl) | (simp; omega))); (focus (first | rfl | omega | (rw [wrap64 (by omega) (by omega)] <;> first | omega | rfl))); (focus omega); (conv => whnf))
      | (refine ⟨[i64 b[d.left.toNat]], map_getI ?_ ?_, ?_, ?_, ?_⟩; (focus (first | rfl | omega | (rw [wrap64 (by omega) (by omega)] <;> first | omega | rfl))); (focus omega); (focus (simp; done)); (focus (simp; done)); (conv => whnf))
      | (refine ⟨[i64 b[d.left.toNat]], map_getI ?_ ?_, ?_⟩; (focus (first | rfl | omega | (rw [wrap64 (by omega) (by omega)] <;> first | omega | rfl))); (focus omega); (conv => whnf))
      | (refine ⟨[i64 b[d.right.toNat]], ?_, map_getI ?_ ?_, rfl, ?_⟩; (focus (first | omega | (rw [wrap64 (by omega) (by omega)] <;> first | omega | rfl) | (simp; omega))); (focus (first | rfl | omega | (rw [wrap64 (by omega) (by omega)] <;> first | omega | rfl))); (focus omega); (conv => whnf))
      | (refine ⟨[i64 b[d.right.toNat]], map_getI ?_ ?_, ?_, ?_, ?_⟩; (focus (first | rfl | omega | (rw [wrap64 (by omega) (by omega)] <;> first | omega | rfl))); (focus omega); (focus (simp; done)); (focus (simp; done)); (conv => whnf))
      | (refine ⟨[i64 b[d.right.toNat]], map_getI ?_ ?_, ?_⟩; (focus (first | rfl | omega | (rw [wrap64 (by omega) (by omega)] <;> first | omega | rfl))); (focus omega); (conv => whnf))
      | (refine And.intro ?_ (And.intro ?_ (And.intro ?_ (And.intro ?_ ?_))); (focus (first | omega | (rw [wrap64 (by omega) (by omega)] <;> first | omega | rfl) | (simp; omega))); (focus (first | omega | (rw [wrap64 (by omega) (by omega)] <;> first | omega | rfl) | (simp; omega))); (focus (first | omega | (rw [wrap64 (by omega) (by omega)] <;> first | omega | rfl) | (simp; omega))); (focus ((repeat' (first | exact sz_nil | exact sz_map fun _ => rfl | apply sz_take | apply sz_drop | apply sz_append | apply sz_cons rfl)); done)); (conv => whnf))
      | (refine And.intro ?_ (And.intro ?_ ?_); (focus (first | omega | (rw [wrap64 (by omega) (by omega)] <;> first | omega | rfl) | (simp; omega))); (focus ((repeat' (first | exact sz_nil | exact sz_map fun _ => rfl | apply sz_take | apply sz_drop | apply sz_append | apply sz_cons rfl)); done)); (conv => whnf))
      | (refine And.intro ?_ (And.intro ?_ ?_); (focus (first | omega | (rw [wrap64 (by omega) (by omega)] <;> first | omega | rfl) | (simp; omega))); (focus (first | omega | (rw [wrap64 (by omega) (by omega)] <;> first | omega | rfl) | (simp; omega))); (conv => whnf))
      | (refine And.intro ?_ ?_; (focus (simp only [actRest, he, getD_eq h1, getD_eq h2])); (conv => whnf))
      | (rw [beq_g]; (conv => whnf))
      | fail)
  · repeat' (first
      | exact trivial
      | (refine ⟨rfl, ?_⟩; (conv => whnf))
      | (refine ⟨fun h => ?_, fun h => ?_⟩ <;> (try simp at h) <;> (try (exfalso; omega)) <;> (conv => whnf))
      | (intro b hb; (conv => whnf))
      | (refine .inl ?_; (conv => whnf); first | (refine ⟨_, _, _, _, ct_iHasExtension _ _ _, ?_⟩; (conv => whnf)) | fail)
      | (refine And.intro ?_ ?_; (focus (rw [wrap64 (by omega) (by omega)] <;> rfl)); (conv => whnf))
      | (refine And.intro ?_ (And.intro ?_ (And.intro ?_ (And.intro ?_ ?_))); (focus (first | omega | (rw [wrap64 (by omega) (by omega)] <;> first | omega | rfl) | (simp; omega))); (focus (first | omega | (rw [wrap64 (by omega) (by omega)] <;> first | omega | rfl) | (simp; omega))); (focus (first | omega | (rw [wrap64 (by omega) (by omega)] <;> first | omega | rfl) | (simp; omega))); (focus ((repeat' (first | exact sz_nil | exact sz_map fun _ => rfl | apply sz_take | apply sz_drop | apply sz_append | apply sz_cons rfl)); done)); (conv => whnf))
      | (refine And.intro ?_ (And.intro ?_ ?_); (focus (first | omega | (rw [wrap64 (by omega) (by omega)] <;> first | omega | rfl) | (simp; omega))); (focus ((repeat' (first | exact sz_nil | exact sz_map fun _ => rfl | apply sz_take | apply sz_drop | apply sz_append | apply sz_cons rfl)); done)); (conv => whnf))
      | (refine And.intro ?_ (And.intro ?_ ?_); (focus (first | omega | (rw [wrap64 (by omega) (by omega)] <;> first | omega | rfl) | (simp; omega))); (focus (first | omega | (rw [wrap64 (by omega) (by omega)] <;> first | omega | rfl) | (simp; omega))); (conv => whnf))
      | (refine And.intro ?_ ?_; (focus (simp only [actRest, he])); (conv => whnf))
      | (rw [beq_g]; (conv => whnf))
      | fail)
def exV (d : Dep) : List Int := (vars d.head).filter fun v => !decide (v ∈ vars d.body)
def exP (V l : List Int) : List Int := l.filter fun v => !decide (v ∈ V)
theorem exP_snoc (V l : List Int) (x : Int) : exP V (l ++ [x]) = if x ∈ V then exP V l else exP V l ++ [x] := by
  simp only [exP, List.filter_append, List.filter_cons, List.filter_nil]
  by_cases h : x ∈ V <;> simp [h]
theorem exP_len (V l : List Int) : (exP V l).length ≤ l.length := List.length_filter_le _ _
theorem vars_len (l : List Atom) : (vars l).length ≤ (terms l).length := Nat.le_trans (putAll_length _) (pos_length _)
def H109 : List (Nat × Hint) := [(0, ⟨[], [0, 2]⟩), (1, ⟨[], [7]⟩), (2, ⟨[], [8, 9, 10]⟩), (3, ⟨[], [1, 11, 12, 13]⟩), (5, ⟨[], [14, 15, 16]⟩), (6, ⟨[], [18, 19]⟩), (7, ⟨[], [20, 21, 22, 23, 24, 25]⟩), (8, ⟨[], [27, 28, 29, 30, 31, 32, 33]⟩), (9, ⟨[], [3, 34]⟩)]
set_option maxHeartbeats 4000000 in
set_option maxRecDepth 100000 in
theorem ct_sExistentialVariables (d : Dep) (hb : (terms d.body).length ≤ 1000000) (hh : (terms d.head).length ≤ 1000000) : Ct Tryz.prog 109 [ag d.av] [] (sl (ints (exV d))) [] [] := by
  refine ct_of_vc mixed tab_ok H109 Tryz.func109 rfl (by kernel_rfl) (by kernel_rfl) (by rfl) ?_
  intro hw _
  clear hw
  conv => whnf
  repeat' (first
    | exact trivial
    | (refine ⟨rfl, ?_⟩; (conv => whnf))
    | (refine ⟨fun h => ?_, fun h => ?_⟩ <;> (try simp at h) <;> (try (exfalso; omega)) <;> (conv => whnf))
    | (intro b hb; (conv => whnf))
    | (refine .inl ?_; (conv => whnf); first | (refine ⟨_, _, _, _, ct_sVariables _ hb, ?_⟩; (conv => whnf)) | (refine ⟨_, _, _, _, ct_sVariables _ hh, ?_⟩; (conv => whnf)) | fail)
    | (refine And.intro ?_ ?_; (focus (rw [wrap64 (by omega) (by omega)] <;> rfl)); (conv => whnf))
    | (refine And.intro ?_ (And.intro ?_ (And.intro ?_ (And.intro ?_ ?_))); (focus (first | omega | (rw [wrap64 (by omega) (by omega)] <;> first | omega | rfl) | (simp; omega))); (focus (first | omega | (rw [wrap64 (by omega) (by omega)] <;> first | omega | rfl) | (simp; omega))); (focus (first | omega | (rw [wrap64 (by omega) (by omega)] <;> first | omega | rfl) | (simp; omega))); (focus ((repeat' (first | exact sz_nil | exact sz_map fun _ => rfl | apply sz_take | apply sz_drop | apply sz_append | apply sz_cons rfl)); done)); (conv => whnf))
    | (refine And.intro ?_ (And.intro ?_ ?_); (focus (first | omega | (rw [wrap64 (by omega) (by omega)] <;> first | omega | rfl) | (simp; omega))); (focus ((repeat' (first | exact sz_nil | exact sz_map fun _ => rfl | apply sz_take | apply sz_drop | apply sz_append | apply sz_cons rfl)); done)); (conv => whnf))
    | (refine And.intro ?_ (And.intro ?_ ?_); (focus (first | omega | (rw [wrap64 (by omega) (by omega)] <;> first | omega | rfl) | (simp; omega))); (focus (first | omega | (rw [wrap64 (by omega) (by omega)] <;> first | omega | rfl) | (simp; omega))); (conv => whnf))
    | (rw [beq_g]; (conv => whnf))
    | fail)
  refine loop_rule mixed tab_ok H109 (I := Nat) (fun i => [(.slot 3, .s (.lf (.own (7, 0)))), (.row (7, 0), .r ⟨3, 1, true, (exP (vars d.body) ((vars d.head).take i)).map ielem⟩), (.slot 6, iv i), (.slot 4, .s (sl (ints (vars d.body)))), (.slot 5, .s (sl (ints (vars d.head))))]) (fun i => i ≤ (vars d.head).length) (fun i => (vars d.head).length - i) (by kernel_rfl) 0 (by omega) (wk_sound (ψ := []) ?_) ?_
  · conv => whnf
    repeat' (first
      | exact trivial
      | (refine ⟨rfl, ?_⟩; (conv => whnf))
      | (refine ⟨fun h => ?_, fun h => ?_⟩ <;> (try simp at h) <;> (try (exfalso; omega)) <;> (conv => whnf))
      | (intro b hb; (conv => whnf))
      | (refine And.intro ?_ ?_; (focus (rw [wrap64 (by omega) (by omega)] <;> rfl)); (conv => whnf))
      | (refine And.intro ?_ (And.intro ?_ (And.intro ?_ (And.intro ?_ ?_))); (focus (first | omega | (rw [wrap64 (by omega) (by omega)] <;> first | omega | rfl) | (simp; omega))); (focus (first | omega | (rw [wrap64 (by omega) (by omega)] <;> first | omega | rfl) | (simp; omega))); (focus (first | omega | (rw [wrap64 (by omega) (by omega)] <;> first | omega | rfl) | (simp; omega))); (focus ((repeat' (first | exact sz_nil | exact sz_map fun _ => rfl | apply sz_take | apply sz_drop | apply sz_append | apply sz_cons rfl)); done)); (conv => whnf))
      | (refine And.intro ?_ (And.intro ?_ ?_); (focus (first | omega | (rw [wrap64 (by omega) (by omega)] <;> first | omega | rfl) | (simp; omega))); (focus ((repeat' (first | exact sz_nil | exact sz_map fun _ => rfl | apply sz_take | apply sz_drop | apply sz_append | apply sz_cons rfl)); done)); (conv => whnf))
      | (refine And.intro ?_ (And.intro ?_ ?_); (focus (first | omega | (rw [wrap64 (by omega) (by omega)] <;> first | omega | rfl) | (simp; omega))); (focus (first | omega | (rw [wrap64 (by omega) (by omega)] <;> first | omega | rfl) | (simp; omega))); (conv => whnf))
      | (rw [beq_g]; (conv => whnf))
      | fail)
  intro i hi
  have hv := vars_len d.head
  have hl := exP_len (vars d.body) ((vars d.head).take i)
  have hl2 : ((vars d.head).take i).length ≤ i := by simp; omega
  conv => whnf
  repeat' (first
    | exact trivial
    | (refine ⟨rfl, ?_⟩; (conv => whnf))
    | (refine ⟨fun h => ?_, fun h => ?_⟩ <;> (try simp at h) <;> (try (exfalso; omega)) <;> (conv => whnf))
    | (intro b hb; (conv => whnf))
    | (refine .inl ?_; (conv => whnf); first | (refine ⟨_, _, _, _, ct_l4Has _ _, ?_⟩; (conv => whnf)) | fail)
    | (refine And.intro ?_ ?_; (focus (rw [wrap64 (by omega) (by omega)] <;> rfl)); (conv => whnf))
    | (refine ⟨[i64 (vars d.head)[i]], ?_, map_getI ?_ ?_, rfl, ?_⟩; (focus (first | omega | (rw [wrap64 (by omega) (by omega)] <;> first | omega | rfl) | (simp; omega))); (focus (first | rfl | omega | (rw [wrap64 (by omega) (by omega)] <;> first | omega | rfl))); (focus omega); (conv => whnf))
    | (refine ⟨[i64 (vars d.head)[i]], map_getI ?_ ?_, ?_, ?_, ?_⟩; (focus (first | rfl | omega | (rw [wrap64 (by omega) (by omega)] <;> first | omega | rfl))); (focus omega); (focus (simp; done)); (focus (simp; done)); (conv => whnf))
    | (refine ⟨[i64 (vars d.head)[i]], map_getI ?_ ?_, ?_⟩; (focus (first | rfl | omega | (rw [wrap64 (by omega) (by omega)] <;> first | omega | rfl))); (focus omega); (conv => whnf))
    | (refine And.intro ?_ (And.intro ?_ (And.intro ?_ (And.intro ?_ ?_))); (focus (first | omega | (rw [wrap64 (by omega) (by omega)] <;> first | omega | rfl) | (simp; omega))); (focus (first | omega | (rw [wrap64 (by omega) (by omega)] <;> first | omega | rfl) | (simp; omega))); (focus (first | omega | (rw [wrap64 (by omega) (by omega)] <;> first | omega | rfl) | (simp; omega))); (focus ((repeat' (first | exact sz_nil | exact sz_map fun _ => rfl | apply sz_take | apply sz_drop | apply sz_append | apply sz_cons rfl)); done)); (conv => whnf))
    | (refine And.intro ?_ (And.intro ?_ ?_); (focus (first | omega | (rw [wrap64 (by omega) (by omega)] <;> first | omega | rfl) | (simp; omega))); (focus ((repeat' (first | exact sz_nil | exact sz_map fun _ => rfl | apply sz_take | apply sz_drop | apply sz_append | apply sz_cons rfl)); done)); (conv => whnf))
    | (refine And.intro ?_ (And.intro ?_ ?_); (focus (first | omega | (rw [wrap64 (by omega) (by omega)] <;> first | omega | rfl) | (simp; omega))); (focus (first | omega | (rw [wrap64 (by omega) (by omega)] <;> first | omega | rfl) | (simp; omega))); (conv => whnf))
    | (refine ⟨i + 1, ?_, ?_, wk_sound (ψ := [((7, 0), (33, 0))]) ?_⟩; (focus (omega)); (focus (first | omega | (rw [wrap64 (by omega) (by omega)] <;> first | omega | rfl) | (simp; omega))); (conv => whnf); (fail_if_success show False))
    | (refine ⟨i + 1, ?_, ?_, wk_sound (ψ := []) ?_⟩; (focus (omega)); (focus (first | omega | (rw [wrap64 (by omega) (by omega)] <;> first | omega | rfl) | (simp; omega))); (conv => whnf); (fail_if_success show False))
    | (refine And.intro ?_ ?_; (focus (first | (rw [List.take_of_length_le (by assumption)]; rfl) | (rw [take_snoc (by assumption), exP_snoc]; simp [*]; done))); (conv => whnf))
    | (rw [beq_g]; (conv => whnf))
    | fail)
def H147 : List (Nat × Hint) := [(0, ⟨[], [0, 4]⟩), (1, ⟨[], [9, 10, 11, 12]⟩), (2, ⟨[], [2, 13, 14]⟩), (4, ⟨[], [19, 20]⟩), (5, ⟨[], [21, 22, 23, 24]⟩), (6, ⟨[], [8, 26, 27, 28, 29]⟩), (7, ⟨[], [30]⟩), (8, ⟨[], [6, 31]⟩)]
set_option maxHeartbeats 4000000 in
set_option maxRecDepth 100000 in
theorem ct_headVariables (d : Dep) (hb : (terms d.body).length ≤ 1000000) (hh : (terms d.head).length ≤ 1000000) : Ct Tryz.prog 147 [ag d.av, sl (.bool false)] [] (sl (ints (exV d))) [] [] := by
  refine ct_of_vc mixed tab_ok H147 Tryz.func147 rfl (by kernel_rfl) (by kernel_rfl) (by rfl) ?_
  intro hw _
  clear hw
  conv => whnf
  repeat' (first
    | exact trivial
    | (refine ⟨rfl, ?_⟩; (conv => whnf))
    | (refine ⟨fun h => ?_, fun h => ?_⟩ <;> (try simp at h) <;> (try (exfalso; omega)) <;> (conv => whnf))
    | (intro b hb; (conv => whnf))
    | (refine .inl ?_; (conv => whnf); first | (refine ⟨_, _, _, _, ct_iVariables _ hb, ?_⟩; (conv => whnf)) | (refine ⟨_, _, _, _, ct_iVariables _ hh, ?_⟩; (conv => whnf)) | fail)
    | (refine And.intro ?_ ?_; (focus (rw [wrap64 (by omega) (by omega)] <;> rfl)); (conv => whnf))
    | (refine And.intro ?_ (And.intro ?_ (And.intro ?_ (And.intro ?_ ?_))); (focus (first | omega | (rw [wrap64 (by omega) (by omega)] <;> first | omega | rfl) | (simp; omega))); (focus (first | omega | (rw [wrap64 (by omega) (by omega)] <;> first | omega | rfl) | (simp; omega))); (focus (first | omega | (rw [wrap64 (by omega) (by omega)] <;> first | omega | rfl) | (simp; omega))); (focus ((repeat' (first | exact sz_nil | exact sz_map fun _ => rfl | apply sz_take | apply sz_drop | apply sz_append | apply sz_cons rfl)); done)); (conv => whnf))
    | (refine And.intro ?_ (And.intro ?_ ?_); (focus (first | omega | (rw [wrap64 (by omega) (by omega)] <;> first | omega | rfl) | (simp; omega))); (focus ((repeat' (first | exact sz_nil | exact sz_map fun _ => rfl | apply sz_take | apply sz_drop | apply sz_append | apply sz_cons rfl)); done)); (conv => whnf))
    | (refine And.intro ?_ (And.intro ?_ ?_); (focus (first | omega | (rw [wrap64 (by omega) (by omega)] <;> first | omega | rfl) | (simp; omega))); (focus (first | omega | (rw [wrap64 (by omega) (by omega)] <;> first | omega | rfl) | (simp; omega))); (conv => whnf))
    | (rw [beq_g]; (conv => whnf))
    | fail)
  refine loop_rule mixed tab_ok H147 (I := Nat) (fun i => [(.slot 6, .s (.lf (.own (12, 0)))), (.row (12, 0), .r ⟨3, 1, true, (exP (vars d.body) ((vars d.head).take i)).map ielem⟩), (.slot 17, iv i), (.slot 16, iv (vars d.head).length), (.slot 15, .s (sl (ints (vars d.head)))), (.slot 5, .s (sl (ints (vars d.body)))), (.slot 1, .s (sl (.bool false)))]) (fun i => i ≤ (vars d.head).length) (fun i => (vars d.head).length - i) (by kernel_rfl) 0 (by omega) (wk_sound (ψ := []) ?_) ?_
  · conv => whnf
    repeat' (first
      | exact trivial
      | (refine ⟨rfl, ?_⟩; (conv => whnf))
      | (refine ⟨fun h => ?_, fun h => ?_⟩ <;> (try simp at h) <;> (try (exfalso; omega)) <;> (conv => whnf))
      | (intro b hb; (conv => whnf))
      | (refine And.intro ?_ ?_; (focus (rw [wrap64 (by omega) (by omega)] <;> rfl)); (conv => whnf))
      | (refine And.intro ?_ (And.intro ?_ (And.intro ?_ (And.intro ?_ ?_))); (focus (first | omega | (rw [wrap64 (by omega) (by omega)] <;> first | omega | rfl) | (simp; omega))); (focus (first | omega | (rw [wrap64 (by omega) (by omega)] <;> first | omega | rfl) | (simp; omega))); (focus (first | omega | (rw [wrap64 (by omega) (by omega)] <;> first | omega | rfl) | (simp; omega))); (focus ((repeat' (first | exact sz_nil | exact sz_map fun _ => rfl | apply sz_take | apply sz_drop | apply sz_append | apply sz_cons rfl)); done)); (conv => whnf))
      | (refine And.intro ?_ (And.intro ?_ ?_); (focus (first | omega | (rw [wrap64 (by omega) (by omega)] <;> first | omega | rfl) | (simp; omega))); (focus ((repeat' (first | exact sz_nil | exact sz_map fun _ => rfl | apply sz_take | apply sz_drop | apply sz_append | apply sz_cons rfl)); done)); (conv => whnf))
      | (refine And.intro ?_ (And.intro ?_ ?_); (focus (first | omega | (rw [wrap64 (by omega) (by omega)] <;> first | omega | rfl) | (simp; omega))); (focus (first | omega | (rw [wrap64 (by omega) (by omega)] <;> first | omega | rfl) | (simp; omega))); (conv => whnf))
      | (refine And.intro ?_ ?_; (focus (simp; done)); (conv => whnf))
      | (rw [beq_g]; (conv => whnf))
      | fail)
  intro i hi
  have hv := vars_len d.head
  have hl := exP_len (vars d.body) ((vars d.head).take i)
  have hl2 : ((vars d.head).take i).length ≤ i := by simp; omega
  conv => whnf
  repeat' (first
    | exact trivial
    | (refine ⟨rfl, ?_⟩; (conv => whnf))
    | (refine ⟨fun h => ?_, fun h => ?_⟩ <;> (try simp at h) <;> (try (exfalso; omega)) <;> (conv => whnf))
    | (intro b hb; (conv => whnf))
    | (refine .inl ?_; (conv => whnf); first | (refine ⟨_, _, _, _, ct_ContainsInt _ _, ?_⟩; (conv => whnf)) | fail)
    | (refine And.intro ?_ ?_; (focus (rw [wrap64 (by omega) (by omega)] <;> rfl)); (conv => whnf))
    | (refine ⟨[i64 (vars d.head)[i]], ?_, map_getI ?_ ?_, rfl, ?_⟩; (focus (first | omega | (rw [wrap64 (by omega) (by omega)] <;> first | omega | rfl) | (simp; omega))); (focus (first | rfl | omega | (rw [wrap64 (by omega) (by omega)] <;> first | omega | rfl))); (focus omega); (conv => whnf))
    | (refine ⟨[i64 (vars d.head)[i]], map_getI ?_ ?_, ?_, ?_, ?_⟩; (focus (first | rfl | omega | (rw [wrap64 (by omega) (by omega)] <;> first | omega | rfl))); (focus omega); (focus (simp; done)); (focus (simp; done)); (conv => whnf))
    | (refine ⟨[i64 (vars d.head)[i]], map_getI ?_ ?_, ?_⟩; (focus (first | rfl | omega | (rw [wrap64 (by omega) (by omega)] <;> first | omega | rfl))); (focus omega); (conv => whnf))
    | (refine And.intro ?_ (And.intro ?_ (And.intro ?_ (And.intro ?_ ?_))); (focus (first | omega | (rw [wrap64 (by omega) (by omega)] <;> first | omega | rfl) | (simp; omega))); (focus (first | omega | (rw [wrap64 (by omega) (by omega)] <;> first | omega | rfl) | (simp; omega))); (focus (first | omega | (rw [wrap64 (by omega) (by omega)] <;> first | omega | rfl) | (simp; omega))); (focus ((repeat' (first | exact sz_nil | exact sz_map fun _ => rfl | apply sz_take | apply sz_drop | apply sz_append | apply sz_cons rfl)); done)); (conv => whnf))
    | (refine And.intro ?_ (And.intro ?_ ?_); (focus (first | omega | (rw [wrap64 (by omega) (by omega)] <;> first | omega | rfl) | (simp; omega))); (focus ((repeat' (first | exact sz_nil | exact sz_map fun _ => rfl | apply sz_take | apply sz_drop | apply sz_append | apply sz_cons rfl)); done)); (conv => whnf))
    | (refine And.intro ?_ (And.intro ?_ ?_); (focus (first | omega | (rw [wrap64 (by omega) (by omega)] <;> first | omega | rfl) | (simp; omega))); (focus (first | omega | (rw [wrap64 (by omega) (by omega)] <;> first | omega | rfl) | (simp; omega))); (conv => whnf))
    | (refine ⟨i + 1, ?_, ?_, wk_sound (ψ := [((12, 0), (29, 0))]) ?_⟩; (focus (omega)); (focus (first | omega | (rw [wrap64 (by omega) (by omega)] <;> first | omega | rfl) | (simp; omega))); (conv => whnf); (fail_if_success show False))
    | (refine ⟨i + 1, ?_, ?_, wk_sound (ψ := []) ?_⟩; (focus (omega)); (focus (first | omega | (rw [wrap64 (by omega) (by omega)] <;> first | omega | rfl) | (simp; omega))); (conv => whnf); (fail_if_success show False))
    | (refine And.intro ?_ ?_; (focus (first | (rw [List.take_of_length_le (by assumption)]; rfl) | (rw [take_snoc (by assumption), exP_snoc]; simp [*]; done))); (conv => whnf))
    | (rw [beq_g]; (conv => whnf))
    | fail)
def H114 : List (Nat × Hint) := [(0, ⟨[], [0, 2]⟩), (1, ⟨[], [1, 3, 4]⟩)]
set_option maxHeartbeats 4000000 in
set_option maxRecDepth 100000 in
theorem ct_iExistentialVariables (d : Dep) (hb : (terms d.body).length ≤ 1000000) (hh : (terms d.head).length ≤ 1000000) : Ct Tryz.prog 114 [ag d.av] [] (sl (ints (exV d))) [] [] := by
  refine ct_of_vc mixed tab_ok H114 Tryz.func114 rfl (by kernel_rfl) (by kernel_rfl) (by rfl) ?_
  intro hw _
  clear hw
  conv => whnf
  repeat' (first
    | exact trivial
    | (refine ⟨rfl, ?_⟩; (conv => whnf))
    | (refine ⟨fun h => ?_, fun h => ?_⟩ <;> (try simp at h) <;> (try (exfalso; omega)) <;> (conv => whnf))
    | (intro b hb; (conv => whnf))
    | (refine .inl ?_; (conv => whnf); first | (refine ⟨_, _, _, _, ct_headVariables d hb hh, ?_⟩; (conv => whnf)) | fail)
    | (refine And.intro ?_ ?_; (focus (rw [wrap64 (by omega) (by omega)] <;> rfl)); (conv => whnf))
    | (refine And.intro ?_ (And.intro ?_ (And.intro ?_ (And.intro ?_ ?_))); (focus (first | omega | (rw [wrap64 (by omega) (by omega)] <;> first | omega | rfl) | (simp; omega))); (focus (first | omega | (rw [wrap64 (by omega) (by omega)] <;> first | omega | rfl) | (simp; omega))); (focus (first | omega | (rw [wrap64 (by omega) (by omega)] <;> first | omega | rfl) | (simp; omega))); (focus ((repeat' (first | exact sz_nil | exact sz_map fun _ => rfl | apply sz_take | apply sz_drop | apply sz_append | apply sz_cons rfl)); done)); (conv => whnf))
    | (refine And.intro ?_ (And.intro ?_ ?_); (focus (first | omega | (rw [wrap64 (by omega) (by omega)] <;> first | omega | rfl) | (simp; omega))); (focus ((repeat' (first | exact sz_nil | exact sz_map fun _ => rfl | apply sz_take | apply sz_drop | apply sz_append | apply sz_cons rfl)); done)); (conv => whnf))
    | (refine And.intro ?_ (And.intro ?_ ?_); (focus (first | omega | (rw [wrap64 (by omega) (by omega)] <;> first | omega | rfl) | (simp; omega))); (focus (first | omega | (rw [wrap64 (by omega) (by omega)] <;> first | omega | rfl) | (simp; omega))); (conv => whnf))
    | (rw [beq_g]; (conv => whnf))
    | fail)
end Go.Proofs.YtccbimcikbbecaaGreat
