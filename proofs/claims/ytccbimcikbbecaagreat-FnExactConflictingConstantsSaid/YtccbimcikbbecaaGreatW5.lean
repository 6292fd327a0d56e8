/- Part 5 of what the row leans on: Atm, Fnc, Slb, Shl, Srt, Ord. No statement of the program stands here by itself. -/
import Derived.Test.YtccbimcikbbecaaGreatW4
import Derived.Sort.Grow
import Derived.Test.YtccbimcikbbecaaGreatProg
import Derived.Shelf.Sort.Plain
import Derived.Shelf.Slices.CompactI
import Derived.Shelf.Slices.In.SortNone
set_option linter.all false
set_option linter.unusedVariables false
set_option linter.unusedSimpArgs false
/- Atoms and dependencies that are valid (the reference's). -/
namespace Go.Proofs.YtccbimcikbbecaaGreat
open Go P1
def arityOk (rels : List Relation) (r : Int) (n : Nat) : Bool := match rels[r.toNat]? with
  | some q => decide ((n : Int) = q.arity)
  | none => false
def headOk (rels : List Relation) (r : Int) (n : Nat) : Bool := validRels rels && (inR r 0 (rels.length - 1) && arityOk rels r n)
theorem headOk_not1 {rels : List Relation} {r : Int} {n : Nat} (h : validRels rels = false) : headOk rels r n = false := by simp [headOk, h]
theorem headOk_not2 {rels : List Relation} {r : Int} {n : Nat} (h : inR r 0 (rels.length - 1) = false) : headOk rels r n = false := by simp [headOk, h]
theorem headOk_eq {rels : List Relation} {r : Int} {n : Nat} (h1 : validRels rels = true) (h2 : inR r 0 (rels.length - 1) = true) (h3 : r.toNat < rels.length) : headOk rels r n = decide ((n : Int) = rels[r.toNat].arity) := by
  simp [headOk, h1, h2, arityOk, List.getElem?_eq_getElem h3]
theorem headOk_iff {rels : List Relation} {r : Int} {n : Nat} : headOk rels r n = true ↔ validRels rels = true ∧ 0 ≤ r ∧ ∃ h : r.toNat < rels.length, (n : Int) = (rels[r.toNat]'h).arity := by
  constructor
  · intro h
    simp only [headOk, Bool.and_eq_true] at h
    have h2 := inR_iff.1 h.2.1
    have h3 : r.toNat < rels.length := by omega
    refine ⟨h.1, h2.1, h3, ?_⟩
    have := h.2.2
    simpa [arityOk, List.getElem?_eq_getElem h3] using this
  · rintro ⟨h1, h2, h3, h4⟩
    rw [headOk_eq h1 (inR_iff.2 ⟨h2, by omega⟩) h3]
    simpa using h4
def termOk (t : Int) : Bool := inR t (-10) 4
def validAtom (rels : List Relation) (a : Atom) : Bool := headOk rels a.rel a.terms.length && a.terms.all termOk
def H76 : List (Nat × Hint) := [(0, ⟨[], [1, 4]⟩), (1, ⟨[(false, []), (false, []), (false, []), (true, []), (false, []), (false, []), (false, [0, 1]), (false, [1, 2]), (false, [2, 3]), (false, []), (false, []), (false, []), (true, []), (false, []), (false, []), (false, []), (false, [0, 1, 2]), (false, [0, 1, 2, 3]), (false, [1, 2, 3, 4]), (false, [3, 4, 5]), (false, [4, 5, 6]), (false, [5, 6, 7]), (false, []), (false, [])], [0, 6, 7, 8, 9, 10, 11, 12, 13, 14, 15, 16, 17, 18, 19, 20, 21, 22, 23, 24, 25, 26, 27, 28]⟩), (4, ⟨[], [30, 31, 32, 33]⟩), (5, ⟨[], [35, 36]⟩), (6, ⟨[], [37, 38, 39, 40, 41, 42]⟩)]
set_option maxHeartbeats 4000000 in
set_option maxRecDepth 100000 in
theorem ct_sIsValidAtom (rels : List Relation) (a : Atom) : Ct Tryz.prog 76 [sl (.row (rels.map Relation.av)), ag a.av] [] (sl (.bool (validAtom rels a))) [] [] := by
  refine ct_of_vc mixed tab_ok H76 Tryz.func76 rfl (by kernel_rfl) (by kernel_rfl) (by rfl) ?_
  intro hw _
  have hl : rels.length ≤ 1125899906842624 := Wf.lenM (hw _ (.head _))
  have hla : a.terms.length ≤ 1125899906842624 := by
    have := hw (ag a.av) (.tail _ (.head _)) (.av (ints a.terms)) (by simp [Atom.av])
    exact Wf.lenI this
  clear hw
  have hwr : IntKind.i64.wrap (↑(rels.map Relation.av).length - 1) = rels.length - 1 := by
    rw [List.length_map]; exact wrap64 (by omega) (by omega)
  conv => whnf
  refine .inl ?_
  conv => whnf
  refine ⟨_, _, _, _, ct_sAreValidRelations rels, ?_⟩
  conv => whnf
  refine ⟨fun h => ?_, fun h => ?_⟩ <;> (try simp at h) <;> (conv => whnf)
  · repeat' (first
      | exact trivial
      | (refine ⟨rfl, ?_⟩; (conv => whnf))
      | (refine ⟨fun h => ?_, fun h => ?_⟩ <;> (try simp at h) <;> (try (exfalso; omega)) <;> (conv => whnf))
      | (intro b hb; (conv => whnf))
      | (refine And.intro ?_ ?_; (focus (rw [wrap64 (by omega) (by omega)] <;> rfl)); (conv => whnf))
      | (refine And.intro ?_ (And.intro ?_ (And.intro ?_ (And.intro ?_ ?_))); (focus (first | omega | (rw [wrap64 (by omega) (by omega)] <;> first | omega | rfl) | (simp; omega))); (focus (first | omega | (rw [wrap64 (by omega) (by omega)] <;> first | omega | rfl) | (simp; omega))); (focus (first | omega | (rw [wrap64 (by omega) (by omega)] <;> first | omega | rfl) | (simp; omega))); (focus ((repeat' (first | exact sz_nil | exact sz_map fun _ => rfl | apply sz_take | apply sz_drop | apply sz_append | apply sz_cons rfl)); done)); (conv => whnf))
      | (refine And.intro ?_ (And.intro ?_ ?_); (focus (first | omega | (rw [wrap64 (by omega) (by omega)] <;> first | omega | rfl) | (simp; omega))); (focus ((repeat' (first | exact sz_nil | exact sz_map fun _ => rfl | apply sz_take | apply sz_drop | apply sz_append | apply sz_cons rfl)); done)); (conv => whnf))
      | (refine And.intro ?_ (And.intro ?_ ?_); (focus (first | omega | (rw [wrap64 (by omega) (by omega)] <;> first | omega | rfl) | (simp; omega))); (focus (first | omega | (rw [wrap64 (by omega) (by omega)] <;> first | omega | rfl) | (simp; omega))); (conv => whnf))
      | (refine And.intro ?_ ?_; (focus (simp [validAtom, headOk_not1 h])); (conv => whnf))
      | (rw [beq_g]; (conv => whnf))
      | fail)
  refine .inl ?_
  conv => whnf
  refine ⟨_, _, _, _, ct_l1In _ _ _, ?_⟩
  conv => whnf
  rw [hwr]
  refine ⟨fun h2 => ?_, fun h2 => ?_⟩ <;> (try simp at h2) <;> (conv => whnf)
  · repeat' (first
      | exact trivial
      | (refine ⟨rfl, ?_⟩; (conv => whnf))
      | (refine ⟨fun h => ?_, fun h => ?_⟩ <;> (try simp at h) <;> (try (exfalso; omega)) <;> (conv => whnf))
      | (intro b hb; (conv => whnf))
      | (refine And.intro ?_ ?_; (focus (rw [wrap64 (by omega) (by omega)] <;> rfl)); (conv => whnf))
      | (refine And.intro ?_ (And.intro ?_ (And.intro ?_ (And.intro ?_ ?_))); (focus (first | omega | (rw [wrap64 (by omega) (by omega)] <;> first | omega | rfl) | (simp; omega))); (focus (first | omega | (rw [wrap64 (by omega) (by omega)] <;> first | omega | rfl) | (simp; omega))); (focus (first | omega | (rw [wrap64 (by omega) (by omega)] <;> first | omega | rfl) | (simp; omega))); (focus ((repeat' (first | exact sz_nil | exact sz_map fun _ => rfl | apply sz_take | apply sz_drop | apply sz_append | apply sz_cons rfl)); done)); (conv => whnf))
      | (refine And.intro ?_ (And.intro ?_ ?_); (focus (first | omega | (rw [wrap64 (by omega) (by omega)] <;> first | omega | rfl) | (simp; omega))); (focus ((repeat' (first | exact sz_nil | exact sz_map fun _ => rfl | apply sz_take | apply sz_drop | apply sz_append | apply sz_cons rfl)); done)); (conv => whnf))
      | (refine And.intro ?_ (And.intro ?_ ?_); (focus (first | omega | (rw [wrap64 (by omega) (by omega)] <;> first | omega | rfl) | (simp; omega))); (focus (first | omega | (rw [wrap64 (by omega) (by omega)] <;> first | omega | rfl) | (simp; omega))); (conv => whnf))
      | (refine And.intro ?_ ?_; (focus (simp [validAtom, headOk_not2 h2])); (conv => whnf))
      | (rw [beq_g]; (conv => whnf))
      | fail)
  have h3 := inR_iff.1 h2
  have hi : a.rel.toNat < rels.length := by omega
  have hh := headOk_eq (n := a.terms.length) h h2 hi
  repeat' (first
    | exact trivial
    | (refine ⟨rfl, ?_⟩; (conv => whnf))
    | (refine ⟨fun h => ?_, fun h => ?_⟩ <;> (try simp at h) <;> (try (exfalso; omega)) <;> (conv => whnf))
    | (intro b hb; (conv => whnf))
    | (refine And.intro ?_ ?_; (focus (rw [wrap64 (by omega) (by omega)] <;> rfl)); (conv => whnf))
    | (refine ⟨rels[a.rel.toNat].av, ?_, map_getI ?_ ?_, rfl, ?_⟩; (focus (first | omega | (rw [wrap64 (by omega) (by omega)] <;> first | omega | rfl) | (simp; omega))); (focus (first | rfl | omega | (rw [wrap64 (by omega) (by omega)] <;> first | omega | rfl))); (focus omega); (conv => whnf))
    | (refine ⟨rels[a.rel.toNat].av, map_getI ?_ ?_, ?_, ?_, ?_⟩; (focus (first | rfl | omega | (rw [wrap64 (by omega) (by omega)] <;> first | omega | rfl))); (focus omega); (focus (simp; done)); (focus (simp; done)); (conv => whnf))
    | (refine ⟨rels[a.rel.toNat].av, map_getI ?_ ?_, ?_⟩; (focus (first | rfl | omega | (rw [wrap64 (by omega) (by omega)] <;> first | omega | rfl))); (focus omega); (conv => whnf))
    | (refine And.intro ?_ (And.intro ?_ (And.intro ?_ (And.intro ?_ ?_))); (focus (first | omega | (rw [wrap64 (by omega) (by omega)] <;> first | omega | rfl) | (simp; omega))); (focus (first | omega | (rw [wrap64 (by omega) (by omega)] <;> first | omega | rfl) | (simp; omega))); (focus (first | omega | (rw [wrap64 (by omega) (by omega)] <;> first | omega | rfl) | (simp; omega))); (focus ((repeat' (first | exact sz_nil | exact sz_map fun _ => rfl | apply sz_take | apply sz_drop | apply sz_append | apply sz_cons rfl)); done)); (conv => whnf))
    | (refine And.intro ?_ (And.intro ?_ ?_); (focus (first | omega | (rw [wrap64 (by omega) (by omega)] <;> first | omega | rfl) | (simp; omega))); (focus ((repeat' (first | exact sz_nil | exact sz_map fun _ => rfl | apply sz_take | apply sz_drop | apply sz_append | apply sz_cons rfl)); done)); (conv => whnf))
    | (refine And.intro ?_ (And.intro ?_ ?_); (focus (first | omega | (rw [wrap64 (by omega) (by omega)] <;> first | omega | rfl) | (simp; omega))); (focus (first | omega | (rw [wrap64 (by omega) (by omega)] <;> first | omega | rfl) | (simp; omega))); (conv => whnf))
    | (refine And.intro ?_ ?_; (focus ((simp [validAtom, hh]; simp_all))); (conv => whnf))
    | (rw [beq_g]; (conv => whnf))
    | fail)
  have hv : validAtom rels a = a.terms.all termOk := by simp only [validAtom, hh]; simp [h]
  rw [hv]
  refine loop_rule mixed tab_ok H76 (I := Nat) (fun i => [(.slot 5, iv i), (.slot 3, .s (.lf (.ptr (3, 0) 0))), (.leaf (3, 0) 0, .l (.av (i64 a.rel))), (.leaf (3, 0) 1, .l (.av (ints a.terms)))]) (fun i => i ≤ a.terms.length ∧ (a.terms.take i).all termOk = true) (fun i => a.terms.length - i) (by kernel_rfl) 0 (by simp) (wk_sound (ψ := []) ?_) ?_
  · conv => whnf
    repeat' (first
      | exact trivial
      | (refine ⟨rfl, ?_⟩; (conv => whnf))
      | (refine ⟨fun h => ?_, fun h => ?_⟩ <;> (try simp at h) <;> (try (exfalso; omega)) <;> (conv => whnf))
      | (intro b hb; (conv => whnf))
      | (refine And.intro ?_ ?_; (focus (rw [wrap64 (by omega) (by omega)] <;> rfl)); (conv => whnf))
      | (refine And.intro ?_ (And.intro ?_ (And.intro ?_ (And.intro ?_ ?_))); (focus (first | omega | (rw [wrap64 (by omega) (by omega)] <;> first | omega | rfl) | (simp; omega))); (focus (first | omega | (rw [wrap64 (by omega) (by omega)] <;> first | omega | rfl) | (simp; omega))); (focus (first | omega | (rw [wrap64 (by omega) (by omega)] <;> first | omega | rfl) | (simp; omega))); (focus ((repeat' (first | exact sz_nil | exact sz_map fun _ => rfl | apply sz_take | apply sz_drop | apply sz_append | apply sz_cons rfl)); done)); (conv => whnf))
      | (refine And.intro ?_ (And.intro ?_ ?_); (focus (first | omega | (rw [wrap64 (by omega) (by omega)] <;> first | omega | rfl) | (simp; omega))); (focus ((repeat' (first | exact sz_nil | exact sz_map fun _ => rfl | apply sz_take | apply sz_drop | apply sz_append | apply sz_cons rfl)); done)); (conv => whnf))
      | (refine And.intro ?_ (And.intro ?_ ?_); (focus (first | omega | (rw [wrap64 (by omega) (by omega)] <;> first | omega | rfl) | (simp; omega))); (focus (first | omega | (rw [wrap64 (by omega) (by omega)] <;> first | omega | rfl) | (simp; omega))); (conv => whnf))
      | (rw [beq_g]; (conv => whnf))
      | fail)
  · rintro i ⟨hi1, hi2⟩
    conv => whnf
    repeat' (first
      | exact trivial
      | (refine ⟨rfl, ?_⟩; (conv => whnf))
      | (refine ⟨fun h => ?_, fun h => ?_⟩ <;> (try simp at h) <;> (try (exfalso; omega)) <;> (conv => whnf))
      | (intro b hb; (conv => whnf))
      | (refine .inl ?_; (conv => whnf); first | (refine ⟨_, _, _, _, ct_l1In _ _ _, ?_⟩; (conv => whnf)) | fail)
      | (refine And.intro ?_ ?_; (focus (rw [wrap64 (by omega) (by omega)] <;> rfl)); (conv => whnf))
      | (refine ⟨[i64 a.terms[i]], ?_, map_getI ?_ ?_, rfl, ?_⟩; (focus (first | omega | (rw [wrap64 (by omega) (by omega)] <;> first | omega | rfl) | (simp; omega))); (focus (first | rfl | omega | (rw [wrap64 (by omega) (by omega)] <;> first | omega | rfl))); (focus omega); (conv => whnf))
      | (refine ⟨[i64 a.terms[i]], map_getI ?_ ?_, ?_, ?_, ?_⟩; (focus (first | rfl | omega | (rw [wrap64 (by omega) (by omega)] <;> first | omega | rfl))); (focus omega); (focus (simp; done)); (focus (simp; done)); (conv => whnf))
      | (refine ⟨[i64 a.terms[i]], map_getI ?_ ?_, ?_⟩; (focus (first | rfl | omega | (rw [wrap64 (by omega) (by omega)] <;> first | omega | rfl))); (focus omega); (conv => whnf))
      | (refine And.intro ?_ (And.intro ?_ (And.intro ?_ (And.intro ?_ ?_))); (focus (first | omega | (rw [wrap64 (by omega) (by omega)] <;> first | omega | rfl) | (simp; omega))); (focus (first | omega | (rw [wrap64 (by omega) (by omega)] <;> first | omega | rfl) | (simp; omega))); (focus (first | omega | (rw [wrap64 (by omega) (by omega)] <;> first | omega | rfl) | (simp; omega))); (focus ((repeat' (first | exact sz_nil | exact sz_map fun _ => rfl | apply sz_take | apply sz_drop | apply sz_append | apply sz_cons rfl)); done)); (conv => whnf))
      | (refine And.intro ?_ (And.intro ?_ ?_); (focus (first | omega | (rw [wrap64 (by omega) (by omega)] <;> first | omega | rfl) | (simp; omega))); (focus ((repeat' (first | exact sz_nil | exact sz_map fun _ => rfl | apply sz_take | apply sz_drop | apply sz_append | apply sz_cons rfl)); done)); (conv => whnf))
      | (refine And.intro ?_ (And.intro ?_ ?_); (focus (first | omega | (rw [wrap64 (by omega) (by omega)] <;> first | omega | rfl) | (simp; omega))); (focus (first | omega | (rw [wrap64 (by omega) (by omega)] <;> first | omega | rfl) | (simp; omega))); (conv => whnf))
      | (refine ⟨i + 1, ?_, ?_, wk_sound (ψ := []) ?_⟩; (focus (exact ⟨by omega, all_next (by assumption) hi2 (by assumption)⟩)); (focus (first | omega | (rw [wrap64 (by omega) (by omega)] <;> first | omega | rfl) | (simp; omega))); (conv => whnf); (fail_if_success show False))
      | (refine And.intro ?_ ?_; (focus (first | (rw [all_bad (by assumption) (by assumption)]; done) | (rw [all_end (by assumption) hi2]; done))); (conv => whnf))
      | (rw [beq_g]; (conv => whnf))
      | fail)
def srcOf (rels : List Relation) (r : Int) : Bool := match rels[r.toNat]? with
  | some q => q.source
  | none => false
theorem srcOf_eq {rels : List Relation} {r : Int} (h : r.toNat < rels.length) : srcOf rels r = rels[r.toNat].source := by simp [srcOf, List.getElem?_eq_getElem h]
def headAtomOk (rels : List Relation) (a : Atom) : Bool := validAtom rels a && !srcOf rels a.rel
def egdOk (d : Dep) : Bool := decide (d.head.length = 0) && (decide (d.left ∈ vars d.body) && (decide (d.right ∈ vars d.body) && decide (d.left < d.right)))
def tgdOk (rels : List Relation) (d : Dep) : Bool := d.head.all (headAtomOk rels) && (inR d.head.length 1 2 && (decide (d.left = 0) && decide (d.right = 0)))
def restOk (rels : List Relation) (d : Dep) : Bool := match d.egd with
  | true => egdOk d
  | false => tgdOk rels d
theorem restOk_t {rels : List Relation} {d : Dep} (h : d.egd = true) : restOk rels d = egdOk d := by simp only [restOk, h]
theorem restOk_f {rels : List Relation} {d : Dep} (h : d.egd = false) : restOk rels d = tgdOk rels d := by simp only [restOk, h]
def validDep (rels : List Relation) (d : Dep) : Bool := inR d.body.length 1 2 && (d.body.all (validAtom rels) && restOk rels d)
theorem validAtom_terms {rels : List Relation} {a : Atom} (h : validAtom rels a = true) : a.terms.length ≤ 3 := by
  simp only [validAtom, Bool.and_eq_true] at h
  obtain ⟨h1, _, h3, h4⟩ := headOk_iff.1 h.1
  have : okAt rels a.rel.toNat = true := by
    simp only [validRels, Bool.and_eq_true, List.all_eq_true, List.mem_range] at h1
    exact h1.1 _ h3
  simp only [okAt, List.getElem?_eq_getElem h3, Bool.and_eq_true] at this
  have h5 := this.1
  unfold validRel at h5
  split at h5
  · simp only [Bool.and_eq_true] at h5
    have := inR_iff.1 h5.2
    omega
  · cases h5
theorem terms_valid {rels : List Relation} : ∀ {l : List Atom}, l.all (validAtom rels) = true → (terms l).length ≤ 3 * l.length
  | [], _ => by simp [terms]
  | a :: l, h => by
    simp only [List.all_cons, Bool.and_eq_true] at h
    have h1 := validAtom_terms h.1
    have h2 := terms_valid h.2
    simp only [terms, List.flatMap_cons, List.length_append, List.length_cons] at *
    omega
theorem tgdOk_bad {rels : List Relation} {d : Dep} {i : Nat} (h : i < d.head.length) (hb : headAtomOk rels (d.head[i]'h) = false) : tgdOk rels d = false := by
  simp only [tgdOk]; rw [all_bad (p := headAtomOk rels) h hb]; rfl
theorem validAtom_head {rels : List Relation} {a : Atom} (h : validAtom rels a = true) : headOk rels a.rel a.terms.length = true := by
  simp only [validAtom, Bool.and_eq_true] at h; exact h.1
def H43 : List (Nat × Hint) := [(0, ⟨[], [1, 4]⟩), (1, ⟨[], [8, 9, 10, 11]⟩), (4, ⟨[], [13, 14, 15, 16]⟩), (5, ⟨[], [18, 19]⟩), (6, ⟨[], [20, 21, 22, 23, 24, 25, 26]⟩), (8, ⟨[], [28]⟩), (9, ⟨[], [30, 31, 32]⟩), (10, ⟨[(false, []), (false, []), (false, []), (false, []), (true, []), (false, []), (false, []), (false, []), (false, []), (false, []), (true, []), (false, []), (false, []), (false, []), (false, []), (false, []), (true, []), (false, []), (false, []), (false, []), (false, []), (false, []), (false, []), (false, [])], [3, 6, 33, 34, 35, 36, 37, 38, 39, 40, 41, 42, 43, 44, 45, 46, 47, 48, 49, 50, 51, 52, 53, 54, 55]⟩), (12, ⟨[], [56, 57, 58, 59]⟩), (13, ⟨[], [61, 62]⟩), (14, ⟨[(false, []), (false, []), (false, []), (false, []), (false, []), (false, []), (false, []), (false, []), (true, []), (false, []), (false, []), (false, []), (false, []), (false, []), (false, []), (false, []), (false, []), (false, []), (false, []), (false, [])], [63, 64, 65, 66, 67, 68, 69, 70, 71, 72, 73, 74, 75, 76, 77, 78, 79, 80, 81]⟩), (16, ⟨[(false, []), (false, []), (false, []), (false, []), (true, []), (false, []), (false, []), (false, []), (false, []), (true, []), (false, []), (false, []), (false, []), (false, []), (false, [])], [3, 83, 84, 85, 86, 87, 88, 89, 90, 91, 92, 93, 94, 95, 96]⟩)]
set_option maxHeartbeats 4000000 in
set_option maxRecDepth 100000 in
theorem ct_sIsValidDependency (rels : List Relation) (d : Dep) : Ct Tryz.prog 43 [sl (.row (rels.map Relation.av)), ag d.av] [] (sl (.bool (validDep rels d))) [] [] := by
  refine ct_of_vc mixed tab_ok H43 Tryz.func43 rfl (by kernel_rfl) (by kernel_rfl) (by rfl) ?_
  intro hw _
  have hl : rels.length ≤ 1125899906842624 := Wf.lenM (hw _ (.head _))
  have hlb : d.body.length ≤ 1125899906842624 := by
    have := hw (ag d.av) (.tail _ (.head _)) (.av (.row (d.body.map Atom.av))) (by simp [Dep.av])
    exact Wf.lenM this
  have hlh : d.head.length ≤ 1125899906842624 := by
    have := hw (ag d.av) (.tail _ (.head _)) (.av (.row (d.head.map Atom.av))) (by simp [Dep.av])
    exact Wf.lenM this
  clear hw
  conv => whnf
  repeat' (first
    | exact trivial
    | (refine ⟨rfl, ?_⟩; (conv => whnf))
    | (refine ⟨fun h => ?_, fun h => ?_⟩ <;> (try simp at h) <;> (try (exfalso; omega)) <;> (conv => whnf))
    | (intro b hb; (conv => whnf))
    | (refine .inl ?_; (conv => whnf); first | (refine ⟨_, _, _, _, ct_l1In _ _ _, ?_⟩; (conv => whnf)) | fail)
    | (refine And.intro ?_ ?_; (focus (rw [wrap64 (by omega) (by omega)] <;> rfl)); (conv => whnf))
    | (refine And.intro ?_ (And.intro ?_ (And.intro ?_ (And.intro ?_ ?_))); (focus (first | omega | (rw [wrap64 (by omega) (by omega)] <;> first | omega | rfl) | (simp; omega))); (focus (first | omega | (rw [wrap64 (by omega) (by omega)] <;> first | omega | rfl) | (simp; omega))); (focus (first | omega | (rw [wrap64 (by omega) (by omega)] <;> first | omega | rfl) | (simp; omega))); (focus ((repeat' (first | exact sz_nil | exact sz_map fun _ => rfl | apply sz_take | apply sz_drop | apply sz_append | apply sz_cons rfl)); done)); (conv => whnf))
    | (refine And.intro ?_ (And.intro ?_ ?_); (focus (first | omega | (rw [wrap64 (by omega) (by omega)] <;> first | omega | rfl) | (simp; omega))); (focus ((repeat' (first | exact sz_nil | exact sz_map fun _ => rfl | apply sz_take | apply sz_drop | apply sz_append | apply sz_cons rfl)); done)); (conv => whnf))
    | (refine And.intro ?_ (And.intro ?_ ?_); (focus (first | omega | (rw [wrap64 (by omega) (by omega)] <;> first | omega | rfl) | (simp; omega))); (focus (first | omega | (rw [wrap64 (by omega) (by omega)] <;> first | omega | rfl) | (simp; omega))); (conv => whnf))
    | (refine And.intro ?_ ?_; (focus (simp only [validDep, h, Bool.false_and])); (conv => whnf))
    | (rw [beq_g]; (conv => whnf))
    | fail)
  have hnb := h
  clear h
  have hv : validDep rels d = (d.body.all (validAtom rels) && restOk rels d) := by simp only [validDep, hnb, Bool.true_and]
  rw [hv]
  have hb2 := inR_iff.1 hnb
  clear hv
  refine loop_rule mixed tab_ok H43 (I := Nat) (fun i => [(.slot 5, iv i), (.slot 3, .s (.lf (.ptr (3, 0) 0))), (.leaf (3, 0) 0, .l (.av (.row (d.body.map Atom.av)))), (.leaf (3, 0) 1, .l (.av (.row (d.head.map Atom.av)))), (.leaf (3, 0) 2, .l (.av (.bool d.egd))), (.leaf (3, 0) 3, .l (.av (i64 d.left))), (.leaf (3, 0) 4, .l (.av (i64 d.right))), (.slot 0, .s (sl (.row (rels.map Relation.av))))]) (fun i => i ≤ d.body.length ∧ (d.body.take i).all (validAtom rels) = true) (fun i => d.body.length - i) (by kernel_rfl) 0 (by simp) (wk_sound (ψ := []) ?_) ?_
  · conv => whnf
    repeat' (first
      | exact trivial
      | (refine ⟨rfl, ?_⟩; (conv => whnf))
      | (refine ⟨fun h => ?_, fun h => ?_⟩ <;> (try simp at h) <;> (try (exfalso; omega)) <;> (conv => whnf))
      | (intro b hb; (conv => whnf))
      | (refine And.intro ?_ ?_; (focus (rw [wrap64 (by omega) (by omega)] <;> rfl)); (conv => whnf))
      | (refine And.intro ?_ (And.intro ?_ (And.intro ?_ (And.intro ?_ ?_))); (focus (first | omega | (rw [wrap64 (by omega) (by omega)] <;> first | omega | rfl) | (simp; omega))); (focus (first | omega | (rw [wrap64 (by omega) (by omega)] <;> first | omega | rfl) | (simp; omega))); (focus (first | omega | (rw [wrap64 (by omega) (by omega)] <;> first | omega | rfl) | (simp; omega))); (focus ((repeat' (first | exact sz_nil | exact sz_map fun _ => rfl | apply sz_take | apply sz_drop | apply sz_append | apply sz_cons rfl)); done)); (conv => whnf))
      | (refine And.intro ?_ (And.intro ?_ ?_); (focus (first | omega | (rw [wrap64 (by omega) (by omega)] <;> first | omega | rfl) | (simp; omega))); (focus ((repeat' (first | exact sz_nil | exact sz_map fun _ => rfl | apply sz_take | apply sz_drop | apply sz_append | apply sz_cons rfl)); done)); (conv => whnf))
      | (refine And.intro ?_ (And.intro ?_ ?_); (focus (first | omega | (rw [wrap64 (by omega) (by omega)] <;> first | omega | rfl) | (simp; omega))); (focus (first | omega | (rw [wrap64 (by omega) (by omega)] <;> first | omega | rfl) | (simp; omega))); (conv => whnf))
      | (rw [beq_g]; (conv => whnf))
      | fail)
  rintro i ⟨hi1, hi2⟩
  conv => whnf
  refine ⟨fun h => ?_, fun h => ?_⟩ <;> (try simp at h) <;> (conv => whnf)
  · repeat' (first
      | exact trivial
      | (refine ⟨rfl, ?_⟩; (conv => whnf))
      | (refine ⟨fun h => ?_, fun h => ?_⟩ <;> (try simp at h) <;> (try (exfalso; omega)) <;> (conv => whnf))
      | (intro b hb; (conv => whnf))
      | (refine .inl ?_; (conv => whnf); first | (refine ⟨_, _, _, _, ct_sIsValidAtom _ _, ?_⟩; (conv => whnf)) | fail)
      | (refine And.intro ?_ ?_; (focus (rw [wrap64 (by omega) (by omega)] <;> rfl)); (conv => whnf))
      | (refine ⟨d.body[i].av, ?_, map_getI ?_ ?_, rfl, ?_⟩; (focus (first | omega | (rw [wrap64 (by omega) (by omega)] <;> first | omega | rfl) | (simp; omega))); (focus (first | rfl | omega | (rw [wrap64 (by omega) (by omega)] <;> first | omega | rfl))); (focus omega); (conv => whnf))
      | (refine ⟨d.body[i].av, map_getI ?_ ?_, ?_, ?_, ?_⟩; (focus (first | rfl | omega | (rw [wrap64 (by omega) (by omega)] <;> first | omega | rfl))); (focus omega); (focus (simp; done)); (focus (simp; done)); (conv => whnf))
      | (refine ⟨d.body[i].av, map_getI ?_ ?_, ?_⟩; (focus (first | rfl | omega | (rw [wrap64 (by omega) (by omega)] <;> first | omega | rfl))); (focus omega); (conv => whnf))
      | (refine And.intro ?_ (And.intro ?_ (And.intro ?_ (And.intro ?_ ?_))); (focus (first | omega | (rw [wrap64 (by omega) (by omega)] <;> first | omega | rfl) | (simp; omega))); (focus (first | omega | (rw [wrap64 (by omega) (by omega)] <;> first | omega | rfl) | (simp; omega))); (focus (first | omega | (rw [wrap64 (by omega) (by omega)] <;> first | omega | rfl) | (simp; omega))); (focus ((repeat' (first | exact sz_nil | exact sz_map fun _ => rfl | apply sz_take | apply sz_drop | apply sz_append | apply sz_cons rfl)); done)); (conv => whnf))
      | (refine And.intro ?_ (And.intro ?_ ?_); (focus (first | omega | (rw [wrap64 (by omega) (by omega)] <;> first | omega | rfl) | (simp; omega))); (focus ((repeat' (first | exact sz_nil | exact sz_map fun _ => rfl | apply sz_take | apply sz_drop | apply sz_append | apply sz_cons rfl)); done)); (conv => whnf))
      | (refine And.intro ?_ (And.intro ?_ ?_); (focus (first | omega | (rw [wrap64 (by omega) (by omega)] <;> first | omega | rfl) | (simp; omega))); (focus (first | omega | (rw [wrap64 (by omega) (by omega)] <;> first | omega | rfl) | (simp; omega))); (conv => whnf))
      | (refine ⟨i + 1, ?_, ?_, wk_sound (ψ := []) ?_⟩; (focus (exact ⟨by omega, all_next (by assumption) hi2 (by assumption)⟩)); (focus (first | omega | (rw [wrap64 (by omega) (by omega)] <;> first | omega | rfl) | (simp; omega))); (conv => whnf); (fail_if_success show False))
      | (refine And.intro ?_ ?_; (focus (rw [all_bad (p := validAtom rels) (by assumption) (by assumption)]; rfl)); (conv => whnf))
      | (rw [beq_g]; (conv => whnf))
      | fail)
  have hall := all_end h hi2
  have hterm := terms_valid hall
  rw [hall, Bool.true_and]
  clear hi1 hi2 h
  refine ⟨fun he => ?_, fun he => ?_⟩ <;> (try simp at he) <;> (conv => whnf)
  · rw [restOk_t he]
    repeat' (first
      | exact trivial
      | (refine ⟨rfl, ?_⟩; (conv => whnf))
      | (refine ⟨fun h => ?_, fun h => ?_⟩ <;> (try simp at h) <;> (try (exfalso; omega)) <;> (conv => whnf))
      | (intro b hb; (conv => whnf))
      | (refine .inl ?_; (conv => whnf); first | (refine ⟨_, _, _, _, ct_sVariables _ (by omega), ?_⟩; (conv => whnf)) | (refine ⟨_, _, _, _, ct_l4Has _ _, ?_⟩; (conv => whnf)) | fail)
      | (refine And.intro ?_ ?_; (focus (rw [wrap64 (by omega) (by omega)] <;> rfl)); (conv => whnf))
      | (refine And.intro ?_ (And.intro ?_ (And.intro ?_ (And.intro ?_ ?_))); (focus (first | omega | (rw [wrap64 (by omega) (by omega)] <;> first | omega | rfl) | (simp; omega))); (focus (first | omega | (rw [wrap64 (by omega) (by omega)] <;> first | omega | rfl) | (simp; omega))); (focus (first | omega | (rw [wrap64 (by omega) (by omega)] <;> first | omega | rfl) | (simp; omega))); (focus ((repeat' (first | exact sz_nil | exact sz_map fun _ => rfl | apply sz_take | apply sz_drop | apply sz_append | apply sz_cons rfl)); done)); (conv => whnf))
      | (refine And.intro ?_ (And.intro ?_ ?_); (focus (first | omega | (rw [wrap64 (by omega) (by omega)] <;> first | omega | rfl) | (simp; omega))); (focus ((repeat' (first | exact sz_nil | exact sz_map fun _ => rfl | apply sz_take | apply sz_drop | apply sz_append | apply sz_cons rfl)); done)); (conv => whnf))
      | (refine And.intro ?_ (And.intro ?_ ?_); (focus (first | omega | (rw [wrap64 (by omega) (by omega)] <;> first | omega | rfl) | (simp; omega))); (focus (first | omega | (rw [wrap64 (by omega) (by omega)] <;> first | omega | rfl) | (simp; omega))); (conv => whnf))
      | (refine And.intro ?_ ?_; (focus (simp only [egdOk]; simp_all)); (conv => whnf))
      | (rw [beq_g]; (conv => whnf))
      | fail)
  rw [restOk_f he]
  refine loop_rule mixed tab_ok H43 (I := Nat) (fun i => [(.slot 7, iv i), (.slot 3, .s (.lf (.ptr (3, 0) 0))), (.leaf (3, 0) 0, .l (.av (.row (d.body.map Atom.av)))), (.leaf (3, 0) 1, .l (.av (.row (d.head.map Atom.av)))), (.leaf (3, 0) 2, .l (.av (.bool d.egd))), (.leaf (3, 0) 3, .l (.av (i64 d.left))), (.leaf (3, 0) 4, .l (.av (i64 d.right))), (.slot 0, .s (sl (.row (rels.map Relation.av))))]) (fun i => i ≤ d.head.length ∧ (d.head.take i).all (headAtomOk rels) = true) (fun i => d.head.length - i) (by kernel_rfl) 0 (by simp) (wk_sound (ψ := []) ?_) ?_
  · conv => whnf
    repeat' (first
      | exact trivial
      | (refine ⟨rfl, ?_⟩; (conv => whnf))
      | (refine ⟨fun h => ?_, fun h => ?_⟩ <;> (try simp at h) <;> (try (exfalso; omega)) <;> (conv => whnf))
      | (intro b hb; (conv => whnf))
      | (refine And.intro ?_ ?_; (focus (rw [wrap64 (by omega) (by omega)] <;> rfl)); (conv => whnf))
      | (refine And.intro ?_ (And.intro ?_ (And.intro ?_ (And.intro ?_ ?_))); (focus (first | omega | (rw [wrap64 (by omega) (by omega)] <;> first | omega | rfl) | (simp; omega))); (focus (first | omega | (rw [wrap64 (by omega) (by omega)] <;> first | omega | rfl) | (simp; omega))); (focus (first | omega | (rw [wrap64 (by omega) (by omega)] <;> first | omega | rfl) | (simp; omega))); (focus ((repeat' (first | exact sz_nil | exact sz_map fun _ => rfl | apply sz_take | apply sz_drop | apply sz_append | apply sz_cons rfl)); done)); (conv => whnf))
      | (refine And.intro ?_ (And.intro ?_ ?_); (focus (first | omega | (rw [wrap64 (by omega) (by omega)] <;> first | omega | rfl) | (simp; omega))); (focus ((repeat' (first | exact sz_nil | exact sz_map fun _ => rfl | apply sz_take | apply sz_drop | apply sz_append | apply sz_cons rfl)); done)); (conv => whnf))
      | (refine And.intro ?_ (And.intro ?_ ?_); (focus (first | omega | (rw [wrap64 (by omega) (by omega)] <;> first | omega | rfl) | (simp; omega))); (focus (first | omega | (rw [wrap64 (by omega) (by omega)] <;> first | omega | rfl) | (simp; omega))); (conv => whnf))
      | (rw [beq_g]; (conv => whnf))
      | fail)
  rintro i ⟨hi1, hi2⟩
  conv => whnf
  refine ⟨fun h => ?_, fun h => ?_⟩ <;> (try simp at h) <;> (conv => whnf)
  · refine ⟨d.head[i].av, by omega, map_get (by omega), rfl, ?_⟩
    conv => whnf
    refine .inl ?_
    conv => whnf
    refine ⟨_, _, _, _, ct_sIsValidAtom rels d.head[i], ?_⟩
    conv => whnf
    refine ⟨fun hva => ?_, fun hva => ?_⟩ <;> (try simp at hva) <;> (conv => whnf)
    · repeat' (first
        | exact trivial
        | (refine ⟨rfl, ?_⟩; (conv => whnf))
        | (refine ⟨fun h => ?_, fun h => ?_⟩ <;> (try simp at h) <;> (try (exfalso; omega)) <;> (conv => whnf))
        | (intro b hb; (conv => whnf))
        | (refine And.intro ?_ ?_; (focus (rw [wrap64 (by omega) (by omega)] <;> rfl)); (conv => whnf))
        | (refine And.intro ?_ (And.intro ?_ (And.intro ?_ (And.intro ?_ ?_))); (focus (first | omega | (rw [wrap64 (by omega) (by omega)] <;> first | omega | rfl) | (simp; omega))); (focus (first | omega | (rw [wrap64 (by omega) (by omega)] <;> first | omega | rfl) | (simp; omega))); (focus (first | omega | (rw [wrap64 (by omega) (by omega)] <;> first | omega | rfl) | (simp; omega))); (focus ((repeat' (first | exact sz_nil | exact sz_map fun _ => rfl | apply sz_take | apply sz_drop | apply sz_append | apply sz_cons rfl)); done)); (conv => whnf))
        | (refine And.intro ?_ (And.intro ?_ ?_); (focus (first | omega | (rw [wrap64 (by omega) (by omega)] <;> first | omega | rfl) | (simp; omega))); (focus ((repeat' (first | exact sz_nil | exact sz_map fun _ => rfl | apply sz_take | apply sz_drop | apply sz_append | apply sz_cons rfl)); done)); (conv => whnf))
        | (refine And.intro ?_ (And.intro ?_ ?_); (focus (first | omega | (rw [wrap64 (by omega) (by omega)] <;> first | omega | rfl) | (simp; omega))); (focus (first | omega | (rw [wrap64 (by omega) (by omega)] <;> first | omega | rfl) | (simp; omega))); (conv => whnf))
        | (refine And.intro ?_ ?_; (focus (rw [tgdOk_bad h (by simp [headAtomOk, hva])])); (conv => whnf))
        | (rw [beq_g]; (conv => whnf))
        | fail)
    obtain ⟨_, hr0, hri, _⟩ := headOk_iff.1 (validAtom_head hva)
    have hsrc := srcOf_eq hri
    repeat' (first
      | exact trivial
      | (refine ⟨rfl, ?_⟩; (conv => whnf))
      | (refine ⟨fun h => ?_, fun h => ?_⟩ <;> (try simp at h) <;> (try (exfalso; omega)) <;> (conv => whnf))
      | (intro b hb; (conv => whnf))
      | (refine And.intro ?_ ?_; (focus (rw [wrap64 (by omega) (by omega)] <;> rfl)); (conv => whnf))
      | (refine ⟨d.head[i].av, ?_, map_getI ?_ ?_, rfl, ?_⟩; (focus (first | omega | (rw [wrap64 (by omega) (by omega)] <;> first | omega | rfl) | (simp; omega))); (focus (first | rfl | omega | (rw [wrap64 (by omega) (by omega)] <;> first | omega | rfl))); (focus omega); (conv => whnf))
      | (refine ⟨d.head[i].av, map_getI ?_ ?_, ?_, ?_, ?_⟩; (focus (first | rfl | omega | (rw [wrap64 (by omega) (by omega)] <;> first | omega | rfl))); (focus omega); (focus (simp; done)); (focus (simp; done)); (conv => whnf))
      | (refine ⟨d.head[i].av, map_getI ?_ ?_, ?_⟩; (focus (first | rfl | omega | (rw [wrap64 (by omega) (by omega)] <;> first | omega | rfl))); (focus omega); (conv => whnf))
      | (refine ⟨rels[d.head[i].rel.toNat].av, ?_, map_getI ?_ ?_, rfl, ?_⟩; (focus (first | omega | (rw [wrap64 (by omega) (by omega)] <;> first | omega | rfl) | (simp; omega))); (focus (first | rfl | omega | (rw [wrap64 (by omega) (by omega)] <;> first | omega | rfl))); (focus omega); (conv => whnf))
      | (refine ⟨rels[d.head[i].rel.toNat].av, map_getI ?_ ?_, ?_, ?_, ?_⟩; (focus (first | rfl | omega | (rw [wrap64 (by omega) (by omega)] <;> first | omega | rfl))); (focus omega); (focus (simp; done)); (focus (simp; done)); (conv => whnf))
      | (refine ⟨rels[d.head[i].rel.toNat].av, map_getI ?_ ?_, ?_⟩; (focus (first | rfl | omega | (rw [wrap64 (by omega) (by omega)] <;> first | omega | rfl))); (focus omega); (conv => whnf))
      | (refine And.intro ?_ (And.intro ?_ (And.intro ?_ (And.intro ?_ ?_))); (focus (first | omega | (rw [wrap64 (by omega) (by omega)] <;> first | omega | rfl) | (simp; omega))); (focus (first | omega | (rw [wrap64 (by omega) (by omega)] <;> first | omega | rfl) | (simp; omega))); (focus (first | omega | (rw [wrap64 (by omega) (by omega)] <;> first | omega | rfl) | (simp; omega))); (focus ((repeat' (first | exact sz_nil | exact sz_map fun _ => rfl | apply sz_take | apply sz_drop | apply sz_append | apply sz_cons rfl)); done)); (conv => whnf))
      | (refine And.intro ?_ (And.intro ?_ ?_); (focus (first | omega | (rw [wrap64 (by omega) (by omega)] <;> first | omega | rfl) | (simp; omega))); (focus ((repeat' (first | exact sz_nil | exact sz_map fun _ => rfl | apply sz_take | apply sz_drop | apply sz_append | apply sz_cons rfl)); done)); (conv => whnf))
      | (refine And.intro ?_ (And.intro ?_ ?_); (focus (first | omega | (rw [wrap64 (by omega) (by omega)] <;> first | omega | rfl) | (simp; omega))); (focus (first | omega | (rw [wrap64 (by omega) (by omega)] <;> first | omega | rfl) | (simp; omega))); (conv => whnf))
      | (refine ⟨i + 1, ?_, ?_, wk_sound (ψ := []) ?_⟩; (focus (exact ⟨by omega, all_next (by assumption) hi2 (by simp only [headAtomOk, hva, hsrc]; simp_all)⟩)); (focus (first | omega | (rw [wrap64 (by omega) (by omega)] <;> first | omega | rfl) | (simp; omega))); (conv => whnf); (fail_if_success show False))
      | (refine And.intro ?_ ?_; (focus (rw [tgdOk_bad (i := i) (by assumption) (by simp only [headAtomOk, hva, hsrc]; simp_all)])); (conv => whnf))
      | (rw [beq_g]; (conv => whnf))
      | fail)
  have hh := all_end h hi2
  repeat' (first
    | exact trivial
    | (refine ⟨rfl, ?_⟩; (conv => whnf))
    | (refine ⟨fun h => ?_, fun h => ?_⟩ <;> (try simp at h) <;> (try (exfalso; omega)) <;> (conv => whnf))
    | (intro b hb; (conv => whnf))
    | (refine .inl ?_; (conv => whnf); first | (refine ⟨_, _, _, _, ct_l1In _ _ _, ?_⟩; (conv => whnf)) | fail)
    | (refine And.intro ?_ ?_; (focus (rw [wrap64 (by omega) (by omega)] <;> rfl)); (conv => whnf))
    | (refine And.intro ?_ (And.intro ?_ (And.intro ?_ (And.intro ?_ ?_))); (focus (first | omega | (rw [wrap64 (by omega) (by omega)] <;> first | omega | rfl) | (simp; omega))); (focus (first | omega | (rw [wrap64 (by omega) (by omega)] <;> first | omega | rfl) | (simp; omega))); (focus (first | omega | (rw [wrap64 (by omega) (by omega)] <;> first | omega | rfl) | (simp; omega))); (focus ((repeat' (first | exact sz_nil | exact sz_map fun _ => rfl | apply sz_take | apply sz_drop | apply sz_append | apply sz_cons rfl)); done)); (conv => whnf))
    | (refine And.intro ?_ (And.intro ?_ ?_); (focus (first | omega | (rw [wrap64 (by omega) (by omega)] <;> first | omega | rfl) | (simp; omega))); (focus ((repeat' (first | exact sz_nil | exact sz_map fun _ => rfl | apply sz_take | apply sz_drop | apply sz_append | apply sz_cons rfl)); done)); (conv => whnf))
    | (refine And.intro ?_ (And.intro ?_ ?_); (focus (first | omega | (rw [wrap64 (by omega) (by omega)] <;> first | omega | rfl) | (simp; omega))); (focus (first | omega | (rw [wrap64 (by omega) (by omega)] <;> first | omega | rfl) | (simp; omega))); (conv => whnf))
    | (refine And.intro ?_ ?_; (focus (simp only [tgdOk, hh]; simp_all)); (conv => whnf))
    | (rw [beq_g]; (conv => whnf))
    | fail)
def validDeps (rels : List Relation) (l : List Dep) : Bool := l.all (validDep rels) && (validRels rels && decide (l.length ≤ 5))
def H71 : List (Nat × Hint) := [(0, ⟨[], [4]⟩), (2, ⟨[], [6, 7, 8]⟩), (3, ⟨[], [10, 11]⟩), (4, ⟨[], [12, 13, 14, 15, 16, 17]⟩), (6, ⟨[(false, []), (false, []), (true, []), (false, []), (false, []), (false, []), (false, []), (false, [])], [0, 1, 19, 20, 21, 22, 23, 24, 25]⟩)]
set_option maxHeartbeats 4000000 in
set_option maxRecDepth 100000 in
theorem ct_sAreValidDependencies (rels : List Relation) (l : List Dep) : Ct Tryz.prog 71 [sl (.row (rels.map Relation.av)), sl (.row (l.map Dep.av))] [] (sl (.bool (validDeps rels l))) [] [] := by
  refine ct_of_vc mixed tab_ok H71 Tryz.func71 rfl (by kernel_rfl) (by kernel_rfl) (by rfl) ?_
  intro hw _
  have hl : l.length ≤ 1125899906842624 := Wf.lenM (hw _ (.tail _ (.head _)))
  clear hw
  conv => whnf
  refine loop_rule mixed tab_ok H71 (I := Nat) (fun i => [(.slot 5, iv i), (.slot 0, .s (sl (.row (rels.map Relation.av)))), (.slot 1, .s (sl (.row (l.map Dep.av))))]) (fun i => i ≤ l.length ∧ (l.take i).all (validDep rels) = true) (fun i => l.length - i) (by kernel_rfl) 0 (by simp) (wk_sound (ψ := []) ?_) ?_
  · conv => whnf
    repeat' (first
      | exact trivial
      | (refine ⟨rfl, ?_⟩; (conv => whnf))
      | (refine ⟨fun h => ?_, fun h => ?_⟩ <;> (try simp at h) <;> (try (exfalso; omega)) <;> (conv => whnf))
      | (intro b hb; (conv => whnf))
      | (refine And.intro ?_ ?_; (focus (rw [wrap64 (by omega) (by omega)] <;> rfl)); (conv => whnf))
      | (refine And.intro ?_ (And.intro ?_ (And.intro ?_ (And.intro ?_ ?_))); (focus (first | omega | (rw [wrap64 (by omega) (by omega)] <;> first | omega | rfl) | (simp; omega))); (focus (first | omega | (rw [wrap64 (by omega) (by omega)] <;> first | omega | rfl) | (simp; omega))); (focus (first | omega | (rw [wrap64 (by omega) (by omega)] <;> first | omega | rfl) | (simp; omega))); (focus ((repeat' (first | exact sz_nil | exact sz_map fun _ => rfl | apply sz_take | apply sz_drop | apply sz_append | apply sz_cons rfl)); done)); (conv => whnf))
      | (refine And.intro ?_ (And.intro ?_ ?_); (focus (first | omega | (rw [wrap64 (by omega) (by omega)] <;> first | omega | rfl) | (simp; omega))); (focus ((repeat' (first | exact sz_nil | exact sz_map fun _ => rfl | apply sz_take | apply sz_drop | apply sz_append | apply sz_cons rfl)); done)); (conv => whnf))
      | (refine And.intro ?_ (And.intro ?_ ?_); (focus (first | omega | (rw [wrap64 (by omega) (by omega)] <;> first | omega | rfl) | (simp; omega))); (focus (first | omega | (rw [wrap64 (by omega) (by omega)] <;> first | omega | rfl) | (simp; omega))); (conv => whnf))
      | (rw [beq_g]; (conv => whnf))
      | fail)
  rintro i ⟨hi1, hi2⟩
  conv => whnf
  repeat' (first
    | exact trivial
    | (refine ⟨rfl, ?_⟩; (conv => whnf))
    | (refine ⟨fun h => ?_, fun h => ?_⟩ <;> (try simp at h) <;> (try (exfalso; omega)) <;> (conv => whnf))
    | (intro b hb; (conv => whnf))
    | (refine .inl ?_; (conv => whnf); first | (refine ⟨_, _, _, _, ct_sIsValidDependency _ _, ?_⟩; (conv => whnf)) | (refine ⟨_, _, _, _, ct_sAreValidRelations _, ?_⟩; (conv => whnf)) | fail)
    | (refine And.intro ?_ ?_; (focus (rw [wrap64 (by omega) (by omega)] <;> rfl)); (conv => whnf))
    | (refine ⟨l[i].av, ?_, map_getI ?_ ?_, rfl, ?_⟩; (focus (first | omega | (rw [wrap64 (by omega) (by omega)] <;> first | omega | rfl) | (simp; omega))); (focus (first | rfl | omega | (rw [wrap64 (by omega) (by omega)] <;> first | omega | rfl))); (focus omega); (conv => whnf))
    | (refine ⟨l[i].av, map_getI ?_ ?_, ?_, ?_, ?_⟩; (focus (first | rfl | omega | (rw [wrap64 (by omega) (by omega)] <;> first | omega | rfl))); (focus omega); (focus (simp; done)); (focus (simp; done)); (conv => whnf))
    | (refine ⟨l[i].av, map_getI ?_ ?_, ?_⟩; (focus (first | rfl | omega | (rw [wrap64 (by omega) (by omega)] <;> first | omega | rfl))); (focus omega); (conv => whnf))
    | (refine And.intro ?_ (And.intro ?_ (And.intro ?_ (And.intro ?_ ?_))); (focus (first | omega | (rw [wrap64 (by omega) (by omega)] <;> first | omega | rfl) | (simp; omega))); (focus (first | omega | (rw [wrap64 (by omega) (by omega)] <;> first | omega | rfl) | (simp; omega))); (focus (first | omega | (rw [wrap64 (by omega) (by omega)] <;> first | omega | rfl) | (simp; omega))); (focus ((repeat' (first | exact sz_nil | exact sz_map fun _ => rfl | apply sz_take | apply sz_drop | apply sz_append | apply sz_cons rfl)); done)); (conv => whnf))
    | (refine And.intro ?_ (And.intro ?_ ?_); (focus (first | omega | (rw [wrap64 (by omega) (by omega)] <;> first | omega | rfl) | (simp; omega))); (focus ((repeat' (first | exact sz_nil | exact sz_map fun _ => rfl | apply sz_take | apply sz_drop | apply sz_append | apply sz_cons rfl)); done)); (conv => whnf))
    | (refine And.intro ?_ (And.intro ?_ ?_); (focus (first | omega | (rw [wrap64 (by omega) (by omega)] <;> first | omega | rfl) | (simp; omega))); (focus (first | omega | (rw [wrap64 (by omega) (by omega)] <;> first | omega | rfl) | (simp; omega))); (conv => whnf))
    | (refine ⟨i + 1, ?_, ?_, wk_sound (ψ := []) ?_⟩; (focus (exact ⟨by omega, all_next (by assumption) hi2 (by assumption)⟩)); (focus (first | omega | (rw [wrap64 (by omega) (by omega)] <;> first | omega | rfl) | (simp; omega))); (conv => whnf); (fail_if_success show False))
    | (refine And.intro ?_ ?_; (focus (first | (simp only [validDeps]; rw [all_bad (p := validDep rels) (i := i) (by assumption) (by assumption)]; rfl) | (simp only [validDeps]; rw [all_end (p := validDep rels) (by assumption) hi2]; simp_all; done) | (simp only [validDeps]; rw [all_end (p := validDep rels) (by assumption) hi2]; refine congrArg AV.bool ?_; simp_all; omega))); (conv => whnf))
    | (rw [beq_g]; (conv => whnf))
    | fail)
end Go.Proofs.YtccbimcikbbecaaGreat
/- Searches of the library, at the instances that occur. -/
namespace Go.Proofs.YtccbimcikbbecaaGreat
open Go P1
def fidx {α : Type} (p : α → Bool) (l : List α) : Int := if l.any p then (l.findIdx p : Int) else -1
theorem fidx_hit {α : Type} {p : α → Bool} {l : List α} {i : Nat} (h : i < l.length) (hp : p (l[i]'h) = true) (hb : (l.take i).any p = false) : fidx p l = i := by
  have h1 : l.any p = true := List.any_eq_true.2 ⟨_, List.getElem_mem h, hp⟩
  have h2 : l.findIdx p = i := by
    rw [List.findIdx_eq h]
    refine ⟨hp, fun j hj => ?_⟩
    rw [List.any_eq_false] at hb
    have := hb (l[j]'(by omega)) (by rw [List.mem_take_iff_getElem]; exact ⟨j, by omega, rfl⟩)
    simpa using this
  simp [fidx, h1, h2]
theorem fidx_end {α : Type} {p : α → Bool} {l : List α} {i : Nat} (h : l.length ≤ i) (hb : (l.take i).any p = false) : fidx p l = -1 := by
  rw [List.take_of_length_le h] at hb
  simp [fidx, hb]
theorem any_next {α : Type} {p : α → Bool} {l : List α} {i : Nat} (h : i < l.length) (hp : p (l[i]'h) = false) (hb : (l.take i).any p = false) : (l.take (i + 1)).any p = false := by
  rw [List.take_succ_eq_append_getElem h, List.any_append, hb]; simp [hp]
theorem fidx_any {α : Type} {p : α → Bool} {l : List α} : decide (0 ≤ fidx p l) = l.any p := by
  unfold fidx; cases l.any p <;> simp
def H177 : List (Nat × Hint) := [(0, ⟨[], [4]⟩), (1, ⟨[], [6]⟩), (3, ⟨[], [10]⟩), (4, ⟨[], [11, 12, 13, 14, 15]⟩), (5, ⟨[], [5, 17]⟩), (6, ⟨[], [18]⟩)]
set_option maxHeartbeats 4000000 in
set_option maxRecDepth 100000 in
theorem ct_IndexFuncInt (l : List Int) (p : Int → Bool) (g : FuncId) (hg : ∀ x ∈ l, Ct Tryz.prog g [sl (i64 x)] [] (sl (.bool (p x))) [] []) : Ct Tryz.prog 177 [sl (ints l), .lf (.fn g [])] [] (sl (i64 (fidx p l))) [] [] := by
  refine ct_of_vc mixed tab_ok H177 Tryz.func177 rfl (by kernel_rfl) (by kernel_rfl) (by rfl) ?_
  intro hw _
  have hl : l.length ≤ 1125899906842624 := Wf.lenI (hw _ (.head _))
  clear hw
  have beq_g : Nat.beq g g = true := Nat.beq_refl g
  conv => whnf
  refine loop_rule mixed tab_ok H177 (I := Nat) (fun i => [(.slot 8, iv i), (.slot 7, iv l.length), (.slot 0, .s (sl (ints l))), (.slot 1, .s (.lf (.fn g [])))]) (fun i => i ≤ l.length ∧ (l.take i).any p = false) (fun i => l.length - i) (by kernel_rfl) 0 (by simp) (wk_sound (ψ := []) ?_) ?_
  · conv => whnf
    repeat' (first
      | exact trivial
      | (refine ⟨rfl, ?_⟩; (conv => whnf))
      | (refine ⟨fun h => ?_, fun h => ?_⟩ <;> (try simp at h) <;> (try (exfalso; omega)) <;> (conv => whnf))
      | (intro b hb; (conv => whnf))
      | (refine And.intro ?_ ?_; (focus (rw [wrap64 (by omega) (by omega)] <;> rfl)); (conv => whnf))
      | (refine And.intro ?_ (And.intro ?_ (And.intro ?_ (And.intro ?_ ?_))); (focus (first | omega | (rw [wrap64 (by omega) (by omega)] <;> first | omega | rfl) | (simp; omega))); (focus (first | omega | (rw [wrap64 (by omega) (by omega)] <;> first | omega | rfl) | (simp; omega))); (focus (first | omega | (rw [wrap64 (by omega) (by omega)] <;> first | omega | rfl) | (simp; omega))); (focus ((repeat' (first | exact sz_nil | exact sz_map fun _ => rfl | apply sz_take | apply sz_drop | apply sz_append | apply sz_cons rfl)); done)); (conv => whnf))
      | (refine And.intro ?_ (And.intro ?_ ?_); (focus (first | omega | (rw [wrap64 (by omega) (by omega)] <;> first | omega | rfl) | (simp; omega))); (focus ((repeat' (first | exact sz_nil | exact sz_map fun _ => rfl | apply sz_take | apply sz_drop | apply sz_append | apply sz_cons rfl)); done)); (conv => whnf))
      | (refine And.intro ?_ (And.intro ?_ ?_); (focus (first | omega | (rw [wrap64 (by omega) (by omega)] <;> first | omega | rfl) | (simp; omega))); (focus (first | omega | (rw [wrap64 (by omega) (by omega)] <;> first | omega | rfl) | (simp; omega))); (conv => whnf))
      | (refine And.intro ?_ ?_; (focus (simp; done)); (conv => whnf))
      | (rw [beq_g]; (conv => whnf))
      | fail)
  rintro i ⟨hi, hb⟩
  conv => whnf
  repeat' (first
    | exact trivial
    | (refine ⟨rfl, ?_⟩; (conv => whnf))
    | (refine ⟨fun h => ?_, fun h => ?_⟩ <;> (try simp at h) <;> (try (exfalso; omega)) <;> (conv => whnf))
    | (intro b hb; (conv => whnf))
    | (refine .inl ?_; (conv => whnf); first | (refine ⟨_, _, _, _, hg l[i] (List.getElem_mem (by omega)), ?_⟩; (conv => whnf)) | fail)
    | (refine And.intro ?_ ?_; (focus (rw [wrap64 (by omega) (by omega)] <;> rfl)); (conv => whnf))
    | (refine ⟨[i64 l[i]], ?_, map_getI ?_ ?_, rfl, ?_⟩; (focus (first | omega | (rw [wrap64 (by omega) (by omega)] <;> first | omega | rfl) | (simp; omega))); (focus (first | rfl | omega | (rw [wrap64 (by omega) (by omega)] <;> first | omega | rfl))); (focus omega); (conv => whnf))
    | (refine ⟨[i64 l[i]], map_getI ?_ ?_, ?_, ?_, ?_⟩; (focus (first | rfl | omega | (rw [wrap64 (by omega) (by omega)] <;> first | omega | rfl))); (focus omega); (focus (simp; done)); (focus (simp; done)); (conv => whnf))
    | (refine ⟨[i64 l[i]], map_getI ?_ ?_, ?_⟩; (focus (first | rfl | omega | (rw [wrap64 (by omega) (by omega)] <;> first | omega | rfl))); (focus omega); (conv => whnf))
    | (refine And.intro ?_ (And.intro ?_ (And.intro ?_ (And.intro ?_ ?_))); (focus (first | omega | (rw [wrap64 (by omega) (by omega)] <;> first | omega | rfl) | (simp; omega))); (focus (first | omega | (rw [wrap64 (by omega) (by omega)] <;> first | omega | rfl) | (simp; omega))); (focus (first | omega | (rw [wrap64 (by omega) (by omega)] <;> first | omega | rfl) | (simp; omega))); (focus ((repeat' (first | exact sz_nil | exact sz_map fun _ => rfl | apply sz_take | apply sz_drop | apply sz_append | apply sz_cons rfl)); done)); (conv => whnf))
    | (refine And.intro ?_ (And.intro ?_ ?_); (focus (first | omega | (rw [wrap64 (by omega) (by omega)] <;> first | omega | rfl) | (simp; omega))); (focus ((repeat' (first | exact sz_nil | exact sz_map fun _ => rfl | apply sz_take | apply sz_drop | apply sz_append | apply sz_cons rfl)); done)); (conv => whnf))
    | (refine And.intro ?_ (And.intro ?_ ?_); (focus (first | omega | (rw [wrap64 (by omega) (by omega)] <;> first | omega | rfl) | (simp; omega))); (focus (first | omega | (rw [wrap64 (by omega) (by omega)] <;> first | omega | rfl) | (simp; omega))); (conv => whnf))
    | (refine ⟨i + 1, ?_, ?_, wk_sound (ψ := []) ?_⟩; (focus (exact ⟨by omega, any_next (by assumption) (by assumption) hb⟩)); (focus (first | omega | (rw [wrap64 (by omega) (by omega)] <;> first | omega | rfl) | (simp; omega))); (conv => whnf); (fail_if_success show False))
    | (refine And.intro ?_ ?_; (focus (first | (rw [fidx_hit (by assumption) (by assumption) hb]; done) | (rw [fidx_end (by assumption) hb]; done))); (conv => whnf))
    | (rw [beq_g]; (conv => whnf))
    | fail)
def H148 : List (Nat × Hint) := [(0, ⟨[], [4]⟩), (1, ⟨[], [0, 1, 5, 6, 7, 8]⟩)]
set_option maxHeartbeats 4000000 in
set_option maxRecDepth 100000 in
theorem ct_ContainsFuncInt (l : List Int) (p : Int → Bool) (g : FuncId) (hg : ∀ x ∈ l, Ct Tryz.prog g [sl (i64 x)] [] (sl (.bool (p x))) [] []) : Ct Tryz.prog 148 [sl (ints l), .lf (.fn g [])] [] (sl (.bool (l.any p))) [] [] := by
  refine ct_of_vc mixed tab_ok H148 Tryz.func148 rfl (by kernel_rfl) (by kernel_rfl) (by rfl) ?_
  intro hw _
  clear hw
  conv => whnf
  repeat' (first
    | exact trivial
    | (refine ⟨rfl, ?_⟩; (conv => whnf))
    | (refine ⟨fun h => ?_, fun h => ?_⟩ <;> (try simp at h) <;> (try (exfalso; omega)) <;> (conv => whnf))
    | (intro b hb; (conv => whnf))
    | (refine .inl ?_; (conv => whnf); first | (refine ⟨_, _, _, _, ct_IndexFuncInt l p g hg, ?_⟩; (conv => whnf)) | fail)
    | (refine And.intro ?_ ?_; (focus (rw [wrap64 (by omega) (by omega)] <;> rfl)); (conv => whnf))
    | (refine And.intro ?_ (And.intro ?_ (And.intro ?_ (And.intro ?_ ?_))); (focus (first | omega | (rw [wrap64 (by omega) (by omega)] <;> first | omega | rfl) | (simp; omega))); (focus (first | omega | (rw [wrap64 (by omega) (by omega)] <;> first | omega | rfl) | (simp; omega))); (focus (first | omega | (rw [wrap64 (by omega) (by omega)] <;> first | omega | rfl) | (simp; omega))); (focus ((repeat' (first | exact sz_nil | exact sz_map fun _ => rfl | apply sz_take | apply sz_drop | apply sz_append | apply sz_cons rfl)); done)); (conv => whnf))
    | (refine And.intro ?_ (And.intro ?_ ?_); (focus (first | omega | (rw [wrap64 (by omega) (by omega)] <;> first | omega | rfl) | (simp; omega))); (focus ((repeat' (first | exact sz_nil | exact sz_map fun _ => rfl | apply sz_take | apply sz_drop | apply sz_append | apply sz_cons rfl)); done)); (conv => whnf))
    | (refine And.intro ?_ (And.intro ?_ ?_); (focus (first | omega | (rw [wrap64 (by omega) (by omega)] <;> first | omega | rfl) | (simp; omega))); (focus (first | omega | (rw [wrap64 (by omega) (by omega)] <;> first | omega | rfl) | (simp; omega))); (conv => whnf))
    | (refine And.intro ?_ ?_; (focus (refine congrArg AV.bool ?_; exact fidx_any)); (conv => whnf))
    | (rw [beq_g]; (conv => whnf))
    | fail)
def H115 : List (Nat × Hint) := [(0, ⟨[], [4]⟩), (1, ⟨[], [6]⟩), (3, ⟨[], [10]⟩), (4, ⟨[], [11, 12, 13, 14, 15]⟩), (5, ⟨[], [5, 17]⟩), (6, ⟨[], [18]⟩)]
set_option maxHeartbeats 4000000 in
set_option maxRecDepth 100000 in
theorem ct_IndexFuncAtom (l : List Atom) (p : Atom → Bool) (g : FuncId) (R : AV) (hg : ∀ x ∈ l, Ct Tryz.prog g [ag x.av, .lf (.ptr (1, 0) 0)] [(((1, 0), 0), R)] (sl (.bool (p x))) [] [(((1, 0), 0), R)]) : Ct Tryz.prog 115 [sl (.row (l.map Atom.av)), .lf (.fn g [((1, 0), 0)])] [(((1, 0), 0), R)] (sl (i64 (fidx p l))) [] [(((1, 0), 0), R)] := by
  refine ct_of_vc mixed tab_ok H115 Tryz.func115 rfl (by kernel_rfl) (by kernel_rfl) (by rfl) ?_
  intro hw _
  have hl : l.length ≤ 1125899906842624 := Wf.lenM (hw _ (.head _))
  clear hw
  have beq_g : Nat.beq g g = true := Nat.beq_refl g
  conv => whnf
  refine loop_rule mixed tab_ok H115 (I := Nat) (fun i => [(.slot 8, iv i), (.slot 7, iv l.length), (.slot 0, .s (sl (.row (l.map Atom.av)))), (.slot 1, .s (.lf (.fn g [((19, 0), 0)]))), (.leaf (19, 0) 0, .l (.av R))]) (fun i => i ≤ l.length ∧ (l.take i).any p = false) (fun i => l.length - i) (by kernel_rfl) 0 (by simp) (wk_sound (ψ := []) ?_) ?_
  · conv => whnf
    repeat' (first
      | exact trivial
      | (refine ⟨rfl, ?_⟩; (conv => whnf))
      | (refine ⟨fun h => ?_, fun h => ?_⟩ <;> (try simp at h) <;> (try (exfalso; omega)) <;> (conv => whnf))
      | (intro b hb; (conv => whnf))
      | (refine And.intro ?_ ?_; (focus (rw [wrap64 (by omega) (by omega)] <;> rfl)); (conv => whnf))
      | (refine And.intro ?_ (And.intro ?_ (And.intro ?_ (And.intro ?_ ?_))); (focus (first | omega | (rw [wrap64 (by omega) (by omega)] <;> first | omega | rfl) | (simp; omega))); (focus (first | omega | (rw [wrap64 (by omega) (by omega)] <;> first | omega | rfl) | (simp; omega))); (focus (first | omega | (rw [wrap64 (by omega) (by omega)] <;> first | omega | rfl) | (simp; omega))); (focus ((repeat' (first | exact sz_nil | exact sz_map fun _ => rfl | apply sz_take | apply sz_drop | apply sz_append | apply sz_cons rfl)); done)); (conv => whnf))
      | (refine And.intro ?_ (And.intro ?_ ?_); (focus (first | omega | (rw [wrap64 (by omega) (by omega)] <;> first | omega | rfl) | (simp; omega))); (focus ((repeat' (first | exact sz_nil | exact sz_map fun _ => rfl | apply sz_take | apply sz_drop | apply sz_append | apply sz_cons rfl)); done)); (conv => whnf))
      | (refine And.intro ?_ (And.intro ?_ ?_); (focus (first | omega | (rw [wrap64 (by omega) (by omega)] <;> first | omega | rfl) | (simp; omega))); (focus (first | omega | (rw [wrap64 (by omega) (by omega)] <;> first | omega | rfl) | (simp; omega))); (conv => whnf))
      | (refine And.intro ?_ ?_; (focus (simp; done)); (conv => whnf))
      | (rw [beq_g]; (conv => whnf))
      | fail)
  rintro i ⟨hi, hb⟩
  conv => whnf
  repeat' (first
    | exact trivial
    | (refine ⟨rfl, ?_⟩; (conv => whnf))
    | (refine ⟨fun h => ?_, fun h => ?_⟩ <;> (try simp at h) <;> (try (exfalso; omega)) <;> (conv => whnf))
    | (intro b hb; (conv => whnf))
    | (refine .inl ?_; (conv => whnf); first | (refine ⟨_, _, _, _, hg l[i] (List.getElem_mem (by omega)), ?_⟩; (conv => whnf)) | fail)
    | (refine And.intro ?_ ?_; (focus (rw [wrap64 (by omega) (by omega)] <;> rfl)); (conv => whnf))
    | (refine ⟨l[i].av, ?_, map_getI ?_ ?_, rfl, ?_⟩; (focus (first | omega | (rw [wrap64 (by omega) (by omega)] <;> first | omega | rfl) | (simp; omega))); (focus (first | rfl | omega | (rw [wrap64 (by omega) (by omega)] <;> first | omega | rfl))); (focus omega); (conv => whnf))
    | (refine ⟨l[i].av, map_getI ?_ ?_, ?_, ?_, ?_⟩; (focus (first | rfl | omega | (rw [wrap64 (by omega) (by omega)] <;> first | omega | rfl))); (focus omega); (focus (simp; done)); (focus (simp; done)); (conv => whnf))
    | (refine ⟨l[i].av, map_getI ?_ ?_, ?_⟩; (focus (first | rfl | omega | (rw [wrap64 (by omega) (by omega)] <;> first | omega | rfl))); (focus omega); (conv => whnf))
    | (refine And.intro ?_ (And.intro ?_ (And.intro ?_ (And.intro ?_ ?_))); (focus (first | omega | (rw [wrap64 (by omega) (by omega)] <;> first | omega | rfl) | (simp; omega))); (focus (first | omega | (rw [wrap64 (by omega) (by omega)] <;> first | omega | rfl) | (simp; omega))); (focus (first | omega | (rw [wrap64 (by omega) (by omega)] <;> first | omega | rfl) | (simp; omega))); (focus ((repeat' (first | exact sz_nil | exact sz_map fun _ => rfl | apply sz_take | apply sz_drop | apply sz_append | apply sz_cons rfl)); done)); (conv => whnf))
    | (refine And.intro ?_ (And.intro ?_ ?_); (focus (first | omega | (rw [wrap64 (by omega) (by omega)] <;> first | omega | rfl) | (simp; omega))); (focus ((repeat' (first | exact sz_nil | exact sz_map fun _ => rfl | apply sz_take | apply sz_drop | apply sz_append | apply sz_cons rfl)); done)); (conv => whnf))
    | (refine And.intro ?_ (And.intro ?_ ?_); (focus (first | omega | (rw [wrap64 (by omega) (by omega)] <;> first | omega | rfl) | (simp; omega))); (focus (first | omega | (rw [wrap64 (by omega) (by omega)] <;> first | omega | rfl) | (simp; omega))); (conv => whnf))
    | (refine ⟨i + 1, ?_, ?_, wk_sound (ψ := []) ?_⟩; (focus (exact ⟨by omega, any_next (by assumption) (by assumption) hb⟩)); (focus (first | omega | (rw [wrap64 (by omega) (by omega)] <;> first | omega | rfl) | (simp; omega))); (conv => whnf); (fail_if_success show False))
    | (refine And.intro ?_ ?_; (focus (first | (rw [fidx_hit (by assumption) (by assumption) hb]; done) | (rw [fidx_end (by assumption) hb]; done))); (conv => whnf))
    | (rw [beq_g]; (conv => whnf))
    | fail)
def H82 : List (Nat × Hint) := [(0, ⟨[], [4]⟩), (1, ⟨[], [0, 1, 5, 6, 7, 8]⟩)]
set_option maxHeartbeats 4000000 in
set_option maxRecDepth 100000 in
theorem ct_ContainsFuncAtom (l : List Atom) (p : Atom → Bool) (g : FuncId) (R : AV) (hg : ∀ x ∈ l, Ct Tryz.prog g [ag x.av, .lf (.ptr (1, 0) 0)] [(((1, 0), 0), R)] (sl (.bool (p x))) [] [(((1, 0), 0), R)]) : Ct Tryz.prog 82 [sl (.row (l.map Atom.av)), .lf (.fn g [((1, 0), 0)])] [(((1, 0), 0), R)] (sl (.bool (l.any p))) [] [(((1, 0), 0), R)] := by
  refine ct_of_vc mixed tab_ok H82 Tryz.func82 rfl (by kernel_rfl) (by kernel_rfl) (by rfl) ?_
  intro hw _
  clear hw
  conv => whnf
  repeat' (first
    | exact trivial
    | (refine ⟨rfl, ?_⟩; (conv => whnf))
    | (refine ⟨fun h => ?_, fun h => ?_⟩ <;> (try simp at h) <;> (try (exfalso; omega)) <;> (conv => whnf))
    | (intro b hb; (conv => whnf))
    | (refine .inl ?_; (conv => whnf); first | (refine ⟨_, _, _, _, ct_IndexFuncAtom l p g R hg, ?_⟩; (conv => whnf)) | fail)
    | (refine And.intro ?_ ?_; (focus (rw [wrap64 (by omega) (by omega)] <;> rfl)); (conv => whnf))
    | (refine And.intro ?_ (And.intro ?_ (And.intro ?_ (And.intro ?_ ?_))); (focus (first | omega | (rw [wrap64 (by omega) (by omega)] <;> first | omega | rfl) | (simp; omega))); (focus (first | omega | (rw [wrap64 (by omega) (by omega)] <;> first | omega | rfl) | (simp; omega))); (focus (first | omega | (rw [wrap64 (by omega) (by omega)] <;> first | omega | rfl) | (simp; omega))); (focus ((repeat' (first | exact sz_nil | exact sz_map fun _ => rfl | apply sz_take | apply sz_drop | apply sz_append | apply sz_cons rfl)); done)); (conv => whnf))
    | (refine And.intro ?_ (And.intro ?_ ?_); (focus (first | omega | (rw [wrap64 (by omega) (by omega)] <;> first | omega | rfl) | (simp; omega))); (focus ((repeat' (first | exact sz_nil | exact sz_map fun _ => rfl | apply sz_take | apply sz_drop | apply sz_append | apply sz_cons rfl)); done)); (conv => whnf))
    | (refine And.intro ?_ (And.intro ?_ ?_); (focus (first | omega | (rw [wrap64 (by omega) (by omega)] <;> first | omega | rfl) | (simp; omega))); (focus (first | omega | (rw [wrap64 (by omega) (by omega)] <;> first | omega | rfl) | (simp; omega))); (conv => whnf))
    | (refine And.intro ?_ ?_; (focus (refine congrArg AV.bool ?_; exact fidx_any)); (conv => whnf))
    | (rw [beq_g]; (conv => whnf))
    | fail)
def H146 : List (Nat × Hint) := [(0, ⟨[], [4]⟩), (1, ⟨[], [6]⟩), (3, ⟨[], [10]⟩), (4, ⟨[], [11, 12, 13, 14, 15]⟩), (5, ⟨[], [5, 17]⟩), (6, ⟨[], [18]⟩)]
set_option maxHeartbeats 4000000 in
set_option maxRecDepth 100000 in
theorem ct_IndexFuncDep (l : List Dep) (p : Dep → Bool) (g : FuncId) (R : AV) (hg : ∀ x ∈ l, Ct Tryz.prog g [ag x.av, .lf (.ptr (1, 0) 0)] [(((1, 0), 0), R)] (sl (.bool (p x))) [] [(((1, 0), 0), R)]) : Ct Tryz.prog 146 [sl (.row (l.map Dep.av)), .lf (.fn g [((1, 0), 0)])] [(((1, 0), 0), R)] (sl (i64 (fidx p l))) [] [(((1, 0), 0), R)] := by
  refine ct_of_vc mixed tab_ok H146 Tryz.func146 rfl (by kernel_rfl) (by kernel_rfl) (by rfl) ?_
  intro hw _
  have hl : l.length ≤ 1125899906842624 := Wf.lenM (hw _ (.head _))
  clear hw
  have beq_g : Nat.beq g g = true := Nat.beq_refl g
  conv => whnf
  refine loop_rule mixed tab_ok H146 (I := Nat) (fun i => [(.slot 8, iv i), (.slot 7, iv l.length), (.slot 0, .s (sl (.row (l.map Dep.av)))), (.slot 1, .s (.lf (.fn g [((19, 0), 0)]))), (.leaf (19, 0) 0, .l (.av R))]) (fun i => i ≤ l.length ∧ (l.take i).any p = false) (fun i => l.length - i) (by kernel_rfl) 0 (by simp) (wk_sound (ψ := []) ?_) ?_
  · conv => whnf
    repeat' (first
      | exact trivial
      | (refine ⟨rfl, ?_⟩; (conv => whnf))
      | (refine ⟨fun h => ?_, fun h => ?_⟩ <;> (try simp at h) <;> (try (exfalso; omega)) <;> (conv => whnf))
      | (intro b hb; (conv => whnf))
      | (refine And.intro ?_ ?_; (focus (rw [wrap64 (by omega) (by omega)] <;> rfl)); (conv => whnf))
      | (refine And.intro ?_ (And.intro ?_ (And.intro ?_ (And.intro ?_ ?_))); (focus (first | omega | (rw [wrap64 (by omega) (by omega)] <;> first | omega | rfl) | (simp; omega))); (focus (first | omega | (rw [wrap64 (by omega) (by omega)] <;> first | omega | rfl) | (simp; omega))); (focus (first | omega | (rw [wrap64 (by omega) (by omega)] <;> first | omega | rfl) | (simp; omega))); (focus ((repeat' (first | exact sz_nil | exact sz_map fun _ => rfl | apply sz_take | apply sz_drop | apply sz_append | apply sz_cons rfl)); done)); (conv => whnf))
      | (refine And.intro ?_ (And.intro ?_ ?_); (focus (first | omega | (rw [wrap64 (by omega) (by omega)] <;> first | omega | rfl) | (simp; omega))); (focus ((repeat' (first | exact sz_nil | exact sz_map fun _ => rfl | apply sz_take | apply sz_drop | apply sz_append | apply sz_cons rfl)); done)); (conv => whnf))
      | (refine And.intro ?_ (And.intro ?_ ?_); (focus (first | omega | (rw [wrap64 (by omega) (by omega)] <;> first | omega | rfl) | (simp; omega))); (focus (first | omega | (rw [wrap64 (by omega) (by omega)] <;> first | omega | rfl) | (simp; omega))); (conv => whnf))
      | (refine And.intro ?_ ?_; (focus (simp; done)); (conv => whnf))
      | (rw [beq_g]; (conv => whnf))
      | fail)
  rintro i ⟨hi, hb⟩
  conv => whnf
  repeat' (first
    | exact trivial
    | (refine ⟨rfl, ?_⟩; (conv => whnf))
    | (refine ⟨fun h => ?_, fun h => ?_⟩ <;> (try simp at h) <;> (try (exfalso; omega)) <;> (conv => whnf))
    | (intro b hb; (conv => whnf))
    | (refine .inl ?_; (conv => whnf); first | (refine ⟨_, _, _, _, hg l[i] (List.getElem_mem (by omega)), ?_⟩; (conv => whnf)) | fail)
    | (refine And.intro ?_ ?_; (focus (rw [wrap64 (by omega) (by omega)] <;> rfl)); (conv => whnf))
    | (refine ⟨l[i].av, ?_, map_getI ?_ ?_, rfl, ?_⟩; (focus (first | omega | (rw [wrap64 (by omega) (by omega)] <;> first | omega | rfl) | (simp; omega))); (focus (first | rfl | omega | (rw [wrap64 (by omega) (by omega)] <;> first | omega | rfl))); (focus omega); (conv => whnf))
    | (refine ⟨l[i].av, map_getI ?_ ?_, ?_, ?_, ?_⟩; (focus (first | rfl | omega | (rw [wrap64 (by omega) (by omega)] <;> first | omega | rfl))); (focus omega); (focus (simp; done)); (focus (simp; done)); (conv => whnf))
    | (refine ⟨l[i].av, map_getI ?_ ?_, ?_⟩; (focus (first | rfl | omega | (rw [wrap64 (by omega) (by omega)] <;> first | omega | rfl))); (focus omega); (conv => whnf))
    | (refine And.intro ?_ (And.intro ?_ (And.intro ?_ (And.intro ?_ ?_))); (focus (first | omega | (rw [wrap64 (by omega) (by omega)] <;> first | omega | rfl) | (simp; omega))); (focus (first | omega | (rw [wrap64 (by omega) (by omega)] <;> first | omega | rfl) | (simp; omega))); (focus (first | omega | (rw [wrap64 (by omega) (by omega)] <;> first | omega | rfl) | (simp; omega))); (focus ((repeat' (first | exact sz_nil | exact sz_map fun _ => rfl | apply sz_take | apply sz_drop | apply sz_append | apply sz_cons rfl)); done)); (conv => whnf))
    | (refine And.intro ?_ (And.intro ?_ ?_); (focus (first | omega | (rw [wrap64 (by omega) (by omega)] <;> first | omega | rfl) | (simp; omega))); (focus ((repeat' (first | exact sz_nil | exact sz_map fun _ => rfl | apply sz_take | apply sz_drop | apply sz_append | apply sz_cons rfl)); done)); (conv => whnf))
    | (refine And.intro ?_ (And.intro ?_ ?_); (focus (first | omega | (rw [wrap64 (by omega) (by omega)] <;> first | omega | rfl) | (simp; omega))); (focus (first | omega | (rw [wrap64 (by omega) (by omega)] <;> first | omega | rfl) | (simp; omega))); (conv => whnf))
    | (refine ⟨i + 1, ?_, ?_, wk_sound (ψ := []) ?_⟩; (focus (exact ⟨by omega, any_next (by assumption) (by assumption) hb⟩)); (focus (first | omega | (rw [wrap64 (by omega) (by omega)] <;> first | omega | rfl) | (simp; omega))); (conv => whnf); (fail_if_success show False))
    | (refine And.intro ?_ ?_; (focus (first | (rw [fidx_hit (by assumption) (by assumption) hb]; done) | (rw [fidx_end (by assumption) hb]; done))); (conv => whnf))
    | (rw [beq_g]; (conv => whnf))
    | fail)
def H112 : List (Nat × Hint) := [(0, ⟨[], [4]⟩), (1, ⟨[], [0, 1, 5, 6, 7, 8]⟩)]
set_option maxHeartbeats 4000000 in
set_option maxRecDepth 100000 in
theorem ct_ContainsFuncDep (l : List Dep) (p : Dep → Bool) (g : FuncId) (R : AV) (hg : ∀ x ∈ l, Ct Tryz.prog g [ag x.av, .lf (.ptr (1, 0) 0)] [(((1, 0), 0), R)] (sl (.bool (p x))) [] [(((1, 0), 0), R)]) : Ct Tryz.prog 112 [sl (.row (l.map Dep.av)), .lf (.fn g [((1, 0), 0)])] [(((1, 0), 0), R)] (sl (.bool (l.any p))) [] [(((1, 0), 0), R)] := by
  refine ct_of_vc mixed tab_ok H112 Tryz.func112 rfl (by kernel_rfl) (by kernel_rfl) (by rfl) ?_
  intro hw _
  clear hw
  conv => whnf
  repeat' (first
    | exact trivial
    | (refine ⟨rfl, ?_⟩; (conv => whnf))
    | (refine ⟨fun h => ?_, fun h => ?_⟩ <;> (try simp at h) <;> (try (exfalso; omega)) <;> (conv => whnf))
    | (intro b hb; (conv => whnf))
    | (refine .inl ?_; (conv => whnf); first | (refine ⟨_, _, _, _, ct_IndexFuncDep l p g R hg, ?_⟩; (conv => whnf)) | fail)
    | (refine And.intro ?_ ?_; (focus (rw [wrap64 (by omega) (by omega)] <;> rfl)); (conv => whnf))
    | (refine And.intro ?_ (And.intro ?_ (And.intro ?_ (And.intro ?_ ?_))); (focus (first | omega | (rw [wrap64 (by omega) (by omega)] <;> first | omega | rfl) | (simp; omega))); (focus (first | omega | (rw [wrap64 (by omega) (by omega)] <;> first | omega | rfl) | (simp; omega))); (focus (first | omega | (rw [wrap64 (by omega) (by omega)] <;> first | omega | rfl) | (simp; omega))); (focus ((repeat' (first | exact sz_nil | exact sz_map fun _ => rfl | apply sz_take | apply sz_drop | apply sz_append | apply sz_cons rfl)); done)); (conv => whnf))
    | (refine And.intro ?_ (And.intro ?_ ?_); (focus (first | omega | (rw [wrap64 (by omega) (by omega)] <;> first | omega | rfl) | (simp; omega))); (focus ((repeat' (first | exact sz_nil | exact sz_map fun _ => rfl | apply sz_take | apply sz_drop | apply sz_append | apply sz_cons rfl)); done)); (conv => whnf))
    | (refine And.intro ?_ (And.intro ?_ ?_); (focus (first | omega | (rw [wrap64 (by omega) (by omega)] <;> first | omega | rfl) | (simp; omega))); (focus (first | omega | (rw [wrap64 (by omega) (by omega)] <;> first | omega | rfl) | (simp; omega))); (conv => whnf))
    | (refine And.intro ?_ ?_; (focus (refine congrArg AV.bool ?_; exact fidx_any)); (conv => whnf))
    | (rw [beq_g]; (conv => whnf))
    | fail)
def H216 : List (Nat × Hint) := [(0, ⟨[], [4]⟩), (1, ⟨[], [6]⟩), (3, ⟨[], [10]⟩), (4, ⟨[], [11, 12, 13, 14, 15]⟩), (5, ⟨[], [5, 17]⟩), (6, ⟨[], [18]⟩)]
set_option maxHeartbeats 4000000 in
set_option maxRecDepth 100000 in
theorem ct_IndexFuncFact (l : List Fact) (p : Fact → Bool) (g : FuncId) (R Q : AV) (hg : ∀ x ∈ l, Ct Tryz.prog g [ag x.av, .lf (.ptr (1, 0) 0)] [(((1, 0), 0), R), (((1, 0), 1), Q)] (sl (.bool (p x))) [] [(((1, 0), 0), R), (((1, 0), 1), Q)]) : Ct Tryz.prog 216 [sl (.row (l.map Fact.av)), .lf (.fn g [((1, 0), 0)])] [(((1, 0), 0), R), (((1, 0), 1), Q)] (sl (i64 (fidx p l))) [] [(((1, 0), 0), R), (((1, 0), 1), Q)] := by
  refine ct_of_vc mixed tab_ok H216 Tryz.func216 rfl (by kernel_rfl) (by kernel_rfl) (by rfl) ?_
  intro hw _
  have hl : l.length ≤ 1125899906842624 := Wf.lenM (hw _ (.head _))
  clear hw
  have beq_g : Nat.beq g g = true := Nat.beq_refl g
  conv => whnf
  refine loop_rule mixed tab_ok H216 (I := Nat) (fun i => [(.slot 8, iv i), (.slot 7, iv l.length), (.slot 0, .s (sl (.row (l.map Fact.av)))), (.slot 1, .s (.lf (.fn g [((19, 0), 0)]))), (.leaf (19, 0) 0, .l (.av R)), (.leaf (19, 0) 1, .l (.av Q))]) (fun i => i ≤ l.length ∧ (l.take i).any p = false) (fun i => l.length - i) (by kernel_rfl) 0 (by simp) (wk_sound (ψ := []) ?_) ?_
  · conv => whnf
    repeat' (first
      | exact trivial
      | (refine ⟨rfl, ?_⟩; (conv => whnf))
      | (refine ⟨fun h => ?_, fun h => ?_⟩ <;> (try simp at h) <;> (try (exfalso; omega)) <;> (conv => whnf))
      | (intro b hb; (conv => whnf))
      | (refine And.intro ?_ ?_; (focus (rw [wrap64 (by omega) (by omega)] <;> rfl)); (conv => whnf))
      | (refine And.intro ?_ (And.intro ?_ (And.intro ?_ (And.intro ?_ ?_))); (focus (first | omega | (rw [wrap64 (by omega) (by omega)] <;> first | omega | rfl) | (simp; omega))); (focus (first | omega | (rw [wrap64 (by omega) (by omega)] <;> first | omega | rfl) | (simp; omega))); (focus (first | omega | (rw [wrap64 (by omega) (by omega)] <;> first | omega | rfl) | (simp; omega))); (focus ((repeat' (first | exact sz_nil | exact sz_map fun _ => rfl | apply sz_take | apply sz_drop | apply sz_append | apply sz_cons rfl)); done)); (conv => whnf))
      | (refine And.intro ?_ (And.intro ?_ ?_); (focus (first | omega | (rw [wrap64 (by omega) (by omega)] <;> first | omega | rfl) | (simp; omega))); (focus ((repeat' (first | exact sz_nil | exact sz_map fun _ => rfl | apply sz_take | apply sz_drop | apply sz_append | apply sz_cons rfl)); done)); (conv => whnf))
      | (refine And.intro ?_ (And.intro ?_ ?_); (focus (first | omega | (rw [wrap64 (by omega) (by omega)] <;> first | omega | rfl) | (simp; omega))); (focus (first | omega | (rw [wrap64 (by omega) (by omega)] <;> first | omega | rfl) | (simp; omega))); (conv => whnf))
      | (refine And.intro ?_ ?_; (focus (simp; done)); (conv => whnf))
      | (rw [beq_g]; (conv => whnf))
      | fail)
  rintro i ⟨hi, hb⟩
  conv => whnf
  repeat' (first
    | exact trivial
    | (refine ⟨rfl, ?_⟩; (conv => whnf))
    | (refine ⟨fun h => ?_, fun h => ?_⟩ <;> (try simp at h) <;> (try (exfalso; omega)) <;> (conv => whnf))
    | (intro b hb; (conv => whnf))
    | (refine .inl ?_; (conv => whnf); first | (refine ⟨_, _, _, _, hg l[i] (List.getElem_mem (by omega)), ?_⟩; (conv => whnf)) | fail)
    | (refine And.intro ?_ ?_; (focus (rw [wrap64 (by omega) (by omega)] <;> rfl)); (conv => whnf))
    | (refine ⟨l[i].av, ?_, map_getI ?_ ?_, rfl, ?_⟩; (focus (first | omega | (rw [wrap64 (by omega) (by omega)] <;> first | omega | rfl) | (simp; omega))); (focus (first | rfl | omega | (rw [wrap64 (by omega) (by omega)] <;> first | omega | rfl))); (focus omega); (conv => whnf))
    | (refine ⟨l[i].av, map_getI ?_ ?_, ?_, ?_, ?_⟩; (focus (first | rfl | omega | (rw [wrap64 (by omega) (by omega)] <;> first | omega | rfl))); (focus omega); (focus (simp; done)); (focus (simp; done)); (conv => whnf))
    | (refine ⟨l[i].av, map_getI ?_ ?_, ?_⟩; (focus (first | rfl | omega | (rw [wrap64 (by omega) (by omega)] <;> first | omega | rfl))); (focus omega); (conv => whnf))
    | (refine And.intro ?_ (And.intro ?_ (And.intro ?_ (And.intro ?_ ?_))); (focus (first | omega | (rw [wrap64 (by omega) (by omega)] <;> first | omega | rfl) | (simp; omega))); (focus (first | omega | (rw [wrap64 (by omega) (by omega)] <;> first | omega | rfl) | (simp; omega))); (focus (first | omega | (rw [wrap64 (by omega) (by omega)] <;> first | omega | rfl) | (simp; omega))); (focus ((repeat' (first | exact sz_nil | exact sz_map fun _ => rfl | apply sz_take | apply sz_drop | apply sz_append | apply sz_cons rfl)); done)); (conv => whnf))
    | (refine And.intro ?_ (And.intro ?_ ?_); (focus (first | omega | (rw [wrap64 (by omega) (by omega)] <;> first | omega | rfl) | (simp; omega))); (focus ((repeat' (first | exact sz_nil | exact sz_map fun _ => rfl | apply sz_take | apply sz_drop | apply sz_append | apply sz_cons rfl)); done)); (conv => whnf))
    | (refine And.intro ?_ (And.intro ?_ ?_); (focus (first | omega | (rw [wrap64 (by omega) (by omega)] <;> first | omega | rfl) | (simp; omega))); (focus (first | omega | (rw [wrap64 (by omega) (by omega)] <;> first | omega | rfl) | (simp; omega))); (conv => whnf))
    | (refine ⟨i + 1, ?_, ?_, wk_sound (ψ := []) ?_⟩; (focus (exact ⟨by omega, any_next (by assumption) (by assumption) hb⟩)); (focus (first | omega | (rw [wrap64 (by omega) (by omega)] <;> first | omega | rfl) | (simp; omega))); (conv => whnf); (fail_if_success show False))
    | (refine And.intro ?_ ?_; (focus (first | (rw [fidx_hit (by assumption) (by assumption) hb]; done) | (rw [fidx_end (by assumption) hb]; done))); (conv => whnf))
    | (rw [beq_g]; (conv => whnf))
    | fail)
def H203 : List (Nat × Hint) := [(0, ⟨[], [4]⟩), (1, ⟨[], [0, 1, 5, 6, 7, 8]⟩)]
set_option maxHeartbeats 4000000 in
set_option maxRecDepth 100000 in
theorem ct_ContainsFuncFact (l : List Fact) (p : Fact → Bool) (g : FuncId) (R Q : AV) (hg : ∀ x ∈ l, Ct Tryz.prog g [ag x.av, .lf (.ptr (1, 0) 0)] [(((1, 0), 0), R), (((1, 0), 1), Q)] (sl (.bool (p x))) [] [(((1, 0), 0), R), (((1, 0), 1), Q)]) : Ct Tryz.prog 203 [sl (.row (l.map Fact.av)), .lf (.fn g [((1, 0), 0)])] [(((1, 0), 0), R), (((1, 0), 1), Q)] (sl (.bool (l.any p))) [] [(((1, 0), 0), R), (((1, 0), 1), Q)] := by
  refine ct_of_vc mixed tab_ok H203 Tryz.func203 rfl (by kernel_rfl) (by kernel_rfl) (by rfl) ?_
  intro hw _
  clear hw
  conv => whnf
  repeat' (first
    | exact trivial
    | (refine ⟨rfl, ?_⟩; (conv => whnf))
    | (refine ⟨fun h => ?_, fun h => ?_⟩ <;> (try simp at h) <;> (try (exfalso; omega)) <;> (conv => whnf))
    | (intro b hb; (conv => whnf))
    | (refine .inl ?_; (conv => whnf); first | (refine ⟨_, _, _, _, ct_IndexFuncFact l p g R Q hg, ?_⟩; (conv => whnf)) | fail)
    | (refine And.intro ?_ ?_; (focus (rw [wrap64 (by omega) (by omega)] <;> rfl)); (conv => whnf))
    | (refine And.intro ?_ (And.intro ?_ (And.intro ?_ (And.intro ?_ ?_))); (focus (first | omega | (rw [wrap64 (by omega) (by omega)] <;> first | omega | rfl) | (simp; omega))); (focus (first | omega | (rw [wrap64 (by omega) (by omega)] <;> first | omega | rfl) | (simp; omega))); (focus (first | omega | (rw [wrap64 (by omega) (by omega)] <;> first | omega | rfl) | (simp; omega))); (focus ((repeat' (first | exact sz_nil | exact sz_map fun _ => rfl | apply sz_take | apply sz_drop | apply sz_append | apply sz_cons rfl)); done)); (conv => whnf))
    | (refine And.intro ?_ (And.intro ?_ ?_); (focus (first | omega | (rw [wrap64 (by omega) (by omega)] <;> first | omega | rfl) | (simp; omega))); (focus ((repeat' (first | exact sz_nil | exact sz_map fun _ => rfl | apply sz_take | apply sz_drop | apply sz_append | apply sz_cons rfl)); done)); (conv => whnf))
    | (refine And.intro ?_ (And.intro ?_ ?_); (focus (first | omega | (rw [wrap64 (by omega) (by omega)] <;> first | omega | rfl) | (simp; omega))); (focus (first | omega | (rw [wrap64 (by omega) (by omega)] <;> first | omega | rfl) | (simp; omega))); (conv => whnf))
    | (refine And.intro ?_ ?_; (focus (refine congrArg AV.bool ?_; exact fidx_any)); (conv => whnf))
    | (rw [beq_g]; (conv => whnf))
    | fail)
def H116 : List (Nat × Hint) := [(0, ⟨[], [4]⟩), (1, ⟨[], [6]⟩), (3, ⟨[], [10]⟩), (4, ⟨[], [11, 12, 13, 14, 15]⟩), (5, ⟨[], [5, 17]⟩), (6, ⟨[], [18]⟩)]
set_option maxHeartbeats 4000000 in
set_option maxRecDepth 100000 in
theorem ct_IndexInt (l : List Int) (x : Int) : Ct Tryz.prog 116 [sl (ints l), sl (i64 x)] [] (sl (i64 (fidx (fun y => decide (x = y)) l))) [] [] := by
  refine ct_of_vc mixed tab_ok H116 Tryz.func116 rfl (by kernel_rfl) (by kernel_rfl) (by rfl) ?_
  intro hw _
  have hl : l.length ≤ 1125899906842624 := Wf.lenI (hw _ (.head _))
  clear hw
  conv => whnf
  refine loop_rule mixed tab_ok H116 (I := Nat) (fun i => [(.slot 8, iv i), (.slot 7, iv l.length), (.slot 0, .s (sl (ints l))), (.slot 1, iv x)]) (fun i => i ≤ l.length ∧ (l.take i).any (fun y => decide (x = y)) = false) (fun i => l.length - i) (by kernel_rfl) 0 (by simp) (wk_sound (ψ := []) ?_) ?_
  · conv => whnf
    repeat' (first
      | exact trivial
      | (refine ⟨rfl, ?_⟩; (conv => whnf))
      | (refine ⟨fun h => ?_, fun h => ?_⟩ <;> (try simp at h) <;> (try (exfalso; omega)) <;> (conv => whnf))
      | (intro b hb; (conv => whnf))
      | (refine And.intro ?_ ?_; (focus (rw [wrap64 (by omega) (by omega)] <;> rfl)); (conv => whnf))
      | (refine And.intro ?_ (And.intro ?_ (And.intro ?_ (And.intro ?_ ?_))); (focus (first | omega | (rw [wrap64 (by omega) (by omega)] <;> first | omega | rfl) | (simp; omega))); (focus (first | omega | (rw [wrap64 (by omega) (by omega)] <;> first | omega | rfl) | (simp; omega))); (focus (first | omega | (rw [wrap64 (by omega) (by omega)] <;> first | omega | rfl) | (simp; omega))); (focus ((repeat' (first | exact sz_nil | exact sz_map fun _ => rfl | apply sz_take | apply sz_drop | apply sz_append | apply sz_cons rfl)); done)); (conv => whnf))
      | (refine And.intro ?_ (And.intro ?_ ?_); (focus (first | omega | (rw [wrap64 (by omega) (by omega)] <;> first | omega | rfl) | (simp; omega))); (focus ((repeat' (first | exact sz_nil | exact sz_map fun _ => rfl | apply sz_take | apply sz_drop | apply sz_append | apply sz_cons rfl)); done)); (conv => whnf))
      | (refine And.intro ?_ (And.intro ?_ ?_); (focus (first | omega | (rw [wrap64 (by omega) (by omega)] <;> first | omega | rfl) | (simp; omega))); (focus (first | omega | (rw [wrap64 (by omega) (by omega)] <;> first | omega | rfl) | (simp; omega))); (conv => whnf))
      | (refine And.intro ?_ ?_; (focus (simp; done)); (conv => whnf))
      | (rw [beq_g]; (conv => whnf))
      | fail)
  rintro i ⟨hi, hb⟩
  conv => whnf
  repeat' (first
    | exact trivial
    | (refine ⟨rfl, ?_⟩; (conv => whnf))
    | (refine ⟨fun h => ?_, fun h => ?_⟩ <;> (try simp at h) <;> (try (exfalso; omega)) <;> (conv => whnf))
    | (intro b hb; (conv => whnf))
    | (refine And.intro ?_ ?_; (focus (rw [wrap64 (by omega) (by omega)] <;> rfl)); (conv => whnf))
    | (refine ⟨[i64 l[i]], ?_, map_getI ?_ ?_, rfl, ?_⟩; (focus (first | omega | (rw [wrap64 (by omega) (by omega)] <;> first | omega | rfl) | (simp; omega))); (focus (first | rfl | omega | (rw [wrap64 (by omega) (by omega)] <;> first | omega | rfl))); (focus omega); (conv => whnf))
    | (refine ⟨[i64 l[i]], map_getI ?_ ?_, ?_, ?_, ?_⟩; (focus (first | rfl | omega | (rw [wrap64 (by omega) (by omega)] <;> first | omega | rfl))); (focus omega); (focus (simp; done)); (focus (simp; done)); (conv => whnf))
    | (refine ⟨[i64 l[i]], map_getI ?_ ?_, ?_⟩; (focus (first | rfl | omega | (rw [wrap64 (by omega) (by omega)] <;> first | omega | rfl))); (focus omega); (conv => whnf))
    | (refine And.intro ?_ (And.intro ?_ (And.intro ?_ (And.intro ?_ ?_))); (focus (first | omega | (rw [wrap64 (by omega) (by omega)] <;> first | omega | rfl) | (simp; omega))); (focus (first | omega | (rw [wrap64 (by omega) (by omega)] <;> first | omega | rfl) | (simp; omega))); (focus (first | omega | (rw [wrap64 (by omega) (by omega)] <;> first | omega | rfl) | (simp; omega))); (focus ((repeat' (first | exact sz_nil | exact sz_map fun _ => rfl | apply sz_take | apply sz_drop | apply sz_append | apply sz_cons rfl)); done)); (conv => whnf))
    | (refine And.intro ?_ (And.intro ?_ ?_); (focus (first | omega | (rw [wrap64 (by omega) (by omega)] <;> first | omega | rfl) | (simp; omega))); (focus ((repeat' (first | exact sz_nil | exact sz_map fun _ => rfl | apply sz_take | apply sz_drop | apply sz_append | apply sz_cons rfl)); done)); (conv => whnf))
    | (refine And.intro ?_ (And.intro ?_ ?_); (focus (first | omega | (rw [wrap64 (by omega) (by omega)] <;> first | omega | rfl) | (simp; omega))); (focus (first | omega | (rw [wrap64 (by omega) (by omega)] <;> first | omega | rfl) | (simp; omega))); (conv => whnf))
    | (refine ⟨i + 1, ?_, ?_, wk_sound (ψ := []) ?_⟩; (focus (exact ⟨by omega, any_next (p := fun y => decide (x = y)) (by assumption) (by simpa using h) hb⟩)); (focus (first | omega | (rw [wrap64 (by omega) (by omega)] <;> first | omega | rfl) | (simp; omega))); (conv => whnf); (fail_if_success show False))
    | (refine And.intro ?_ ?_; (focus (first | (rw [fidx_hit (p := fun y => decide (x = y)) (i := i) (by assumption) (by simpa using h) hb]; done) | (rw [fidx_end (by assumption) hb]; done))); (conv => whnf))
    | (rw [beq_g]; (conv => whnf))
    | fail)
theorem any_mem {l : List Int} {x : Int} : (l.any fun y => decide (x = y)) = decide (x ∈ l) := by
  rw [Bool.eq_iff_iff]; simp
def H85 : List (Nat × Hint) := [(0, ⟨[], [4]⟩), (1, ⟨[], [0, 1, 5, 6, 7, 8]⟩)]
set_option maxHeartbeats 4000000 in
set_option maxRecDepth 100000 in
theorem ct_ContainsInt (l : List Int) (x : Int) : Ct Tryz.prog 85 [sl (ints l), sl (i64 x)] [] (sl (.bool (decide (x ∈ l)))) [] [] := by
  refine ct_of_vc mixed tab_ok H85 Tryz.func85 rfl (by kernel_rfl) (by kernel_rfl) (by rfl) ?_
  intro hw _
  clear hw
  conv => whnf
  repeat' (first
    | exact trivial
    | (refine ⟨rfl, ?_⟩; (conv => whnf))
    | (refine ⟨fun h => ?_, fun h => ?_⟩ <;> (try simp at h) <;> (try (exfalso; omega)) <;> (conv => whnf))
    | (intro b hb; (conv => whnf))
    | (refine .inl ?_; (conv => whnf); first | (refine ⟨_, _, _, _, ct_IndexInt l x, ?_⟩; (conv => whnf)) | fail)
    | (refine And.intro ?_ ?_; (focus (rw [wrap64 (by omega) (by omega)] <;> rfl)); (conv => whnf))
    | (refine And.intro ?_ (And.intro ?_ (And.intro ?_ (And.intro ?_ ?_))); (focus (first | omega | (rw [wrap64 (by omega) (by omega)] <;> first | omega | rfl) | (simp; omega))); (focus (first | omega | (rw [wrap64 (by omega) (by omega)] <;> first | omega | rfl) | (simp; omega))); (focus (first | omega | (rw [wrap64 (by omega) (by omega)] <;> first | omega | rfl) | (simp; omega))); (focus ((repeat' (first | exact sz_nil | exact sz_map fun _ => rfl | apply sz_take | apply sz_drop | apply sz_append | apply sz_cons rfl)); done)); (conv => whnf))
    | (refine And.intro ?_ (And.intro ?_ ?_); (focus (first | omega | (rw [wrap64 (by omega) (by omega)] <;> first | omega | rfl) | (simp; omega))); (focus ((repeat' (first | exact sz_nil | exact sz_map fun _ => rfl | apply sz_take | apply sz_drop | apply sz_append | apply sz_cons rfl)); done)); (conv => whnf))
    | (refine And.intro ?_ (And.intro ?_ ?_); (focus (first | omega | (rw [wrap64 (by omega) (by omega)] <;> first | omega | rfl) | (simp; omega))); (focus (first | omega | (rw [wrap64 (by omega) (by omega)] <;> first | omega | rfl) | (simp; omega))); (conv => whnf))
    | (refine And.intro ?_ ?_; (focus (refine congrArg AV.bool ?_; rw [fidx_any, any_mem])); (conv => whnf))
    | (rw [beq_g]; (conv => whnf))
    | fail)
end Go.Proofs.YtccbimcikbbecaaGreat
/- Rows behind the library's own functions. -/
namespace Go.Proofs.YtccbimcikbbecaaGreat
open Go P1 Go.Sort
abbrev gh (F : Nat → Prop) : Gh := ⟨fun _ => 0, fun _ => undef, F⟩
theorem rowParts {F : Nat → Prop} {w : World} {v : Value} {e : TypeId} {sz : Nat} {es : List (List AV)} (h : RowR (gh F) w v ⟨e, sz, true, es⟩) (h0 : es ≠ []) :
    ∃ (g cap : Nat) (cur : Array Value) (xs : List Value), v = .slice (some ⟨g, 0, none⟩) es.length cap ∧ w.heap[g]? = some (.cells cur e (0, 0)) ∧ es.length ≤ cap ∧ cap ≤ maxLen ∧ cur.size = cap * sz ∧ cur.toList.take (es.length * sz) = xs ∧
      xs.length = es.length * sz ∧ All2 (Rd w F) xs es.flatten := by
  obtain ⟨_, _, _, _, xs, ⟨h1, h2⟩, h3⟩ := h
  rcases h2 with ⟨_, hn⟩ | ⟨g, cap, cur, hv, _, hg, hc, hm, hs, ht⟩
  · exact absurd (List.length_eq_zero_iff.1 hn) h0
  · exact ⟨g, cap, cur, xs, hv, hg, hc, hm, hs, ht, h1, h3⟩
theorem putCells_take {α : Type} [Inhabited α] (enc : α → Value) (d : Array α) (c : Array Value) (m : Nat) (hm : m ≤ d.size) (hc : d.size ≤ c.size) : (putCells enc 0 d c).toList.take m = (d.toList.map enc).take m := by
  apply List.ext_getElem?
  intro k
  rw [List.getElem?_take, List.getElem?_take]
  split
  · rename_i hk
    have h1 : k < c.size := by omega
    have h2 : k < d.size := by omega
    rw [Array.getElem?_toList, putCells, Array.getElem?_mapIdx, Array.getElem?_eq_getElem h1, List.getElem?_map, Array.getElem?_toList, Array.getElem?_eq_getElem h2]
    simp only [Option.map_some, Nat.zero_add, Nat.sub_zero, Nat.zero_le, true_and, if_pos h2]
    rw [getElem!_pos d k h2]
  · rfl
theorem putCells_size {α : Type} [Inhabited α] (enc : α → Value) (off : Nat) (d : Array α) (c : Array Value) : (putCells enc off d c).size = c.size := by simp [putCells]
theorem rowNil {F : Nat → Prop} {w : World} {v : Value} {e : TypeId} {sz : Nat} (h : RowR (gh F) w v ⟨e, sz, true, []⟩) : ∃ A cap, v = .slice A 0 cap := by
  obtain ⟨_, _, _, _, xs, ⟨h1, h2⟩, h3⟩ := h
  rcases h2 with ⟨hv, _⟩ | ⟨g, cap, cur, hv, _⟩
  · exact ⟨_, _, hv⟩
  · exact ⟨_, _, hv⟩
section
variable {α : Type} [Inhabited α] {enc : α → Value} {w : World} {g n : Nat} {d : Array α} {os : Array Obj}
theorem put_otherO {off : Nat} {i : Nat} (h : i ≠ g) (hi : i < w.heap.size) : (grow (putRow enc (Go.Sort.ahead w n) g off d) os).heap[i]? = w.heap[i]? := by
  simp only [grow, putRow, mapBlock, Go.Sort.ahead]
  rw [Array.getElem?_append_left (by simpa using hi), Array.getElem?_modify, if_neg (fun e => h e.symm)]
theorem put_other {i : Nat} (h : i ≠ g) (hi : i < w.heap.size) : (grow (putRow enc (Go.Sort.ahead w n) g 0 d) os).heap[i]? = w.heap[i]? := by
  simp only [grow, putRow, mapBlock, Go.Sort.ahead]
  rw [Array.getElem?_append_left (by simpa using hi), Array.getElem?_modify, if_neg (fun e => h e.symm)]
theorem put_same {cur : Array Value} {e : TypeId} {fr : Nat × Nat} (h : w.heap[g]? = some (.cells cur e fr)) : (grow (putRow enc (Go.Sort.ahead w n) g 0 d) os).heap[g]? = some (.cells (putCells enc 0 d cur) e fr) := by
  have hg : g < w.heap.size := by
    rcases Nat.lt_or_ge g w.heap.size with h1 | h1
    · exact h1
    · rw [Array.getElem?_eq_none h1] at h; cases h
  simp only [grow, putRow, mapBlock, Go.Sort.ahead]
  rw [Array.getElem?_append_left (by simpa using hg), Array.getElem?_modify, if_pos rfl, h]
  rfl
theorem put_fr {v : Value} (hv : v.ownBlock = some g) : Fr w (fun i => v.ownBlock = some i) (grow (putRow enc (Go.Sort.ahead w n) g 0 d) os) where
  os := rfl
  tape := rfl
  output := rfl
  size := by simp [grow, putRow, mapBlock, Go.Sort.ahead]
  block := fun i hi hn => put_other (fun e => hn (by rw [hv, e])) hi
  drawn := Nat.le_add_right _ _
theorem put_row {F : Nat → Prop} {e : TypeId} {sz m cap : Nat} {cur : Array Value} {es' : List (List AV)} (hsz : 0 < sz) (h : w.heap[g]? = some (.cells cur e (0, 0))) (hc : cur.size = cap * sz) (hm : m ≤ cap) (hcap : cap ≤ maxLen)
    (hd : d.size = m * sz) (hl : es'.length ≤ m) (hlim : es'.length ≤ lim) (he : ∀ x ∈ es', x.length = sz) (hA : All2 (Rd (grow (putRow enc (Go.Sort.ahead w n) g 0 d) os) F) ((d.toList.map enc).take (es'.length * sz)) es'.flatten) :
    RowR (gh F) (grow (putRow enc (Go.Sort.ahead w n) g 0 d) os) (.slice (some ⟨g, 0, none⟩) es'.length cap) ⟨e, sz, true, es'⟩ := by
  have hmul : es'.length * sz ≤ m * sz := Nat.mul_le_mul_right _ hl
  have hmul2 : m * sz ≤ cap * sz := Nat.mul_le_mul_right _ hm
  refine ⟨hsz, hlim, he, (fun h => by cases h), _, ⟨?_, .inr ⟨g, cap, _, rfl, Nat.zero_le _, put_same h, Nat.le_trans hl hm, hcap, ?_, ?_⟩⟩, hA⟩
  · simp; omega
  · rw [putCells_size]; exact hc
  · exact putCells_take enc d cur _ (by rw [hd]; exact hmul) (by rw [hd, hc]; exact hmul2)
end
end Go.Proofs.YtccbimcikbbecaaGreat
/- Contracts of the library at this program: a text of the kit's tool. -/
namespace Go.Proofs
open Go.Shelf
def Tryz.lays189_ren : Go.Shelf.Ren := ⟨fun | 189 => 119 | 125 => 151 | 257 => 150 | 128 => 187 | 129 => 188 | 294 => 178 | 295 => 179 | 296 => 180 | 297 => 181 | 298 => 182 | 299 => 183 | 216 => 184 | 300 => 185 | 301 => 186 | 328 => 198 | 329 => 199 | 330 => 200 | 331 => 201 | 332 => 202 | 215 => 191 | 343 => 215 | n => n, fun | 28 => 73 | 3 => 3 | 46 => 170 | 0 => 0 | 51 => 194 | 53 => 196 | 4 => 4 | 183 => 187 | 182 => 186 | 131 => 124 | 5 => 5 | 9 => 9 | 218 => 202 | 222 => 206 | 228 => 216 | 229 => 217 | n => n, fun | n => n⟩
theorem Tryz.lays189 : Go.Proofs.Lays.n189 Tryz.prog Tryz.lays189_ren := {
  mixed := by kernel_rfl
  f125 := Tryz.func151.trans (congrArg some (by kernel_rfl))
  f128 := Tryz.func187.trans (congrArg some (by kernel_rfl))
  f129 := Tryz.func188.trans (congrArg some (by kernel_rfl))
  f189 := Tryz.func119.trans (congrArg some (by kernel_rfl))
  f215 := Tryz.func191.trans (congrArg some (by kernel_rfl))
  f216 := Tryz.func184.trans (congrArg some (by kernel_rfl))
  f257 := Tryz.func150.trans (congrArg some (by kernel_rfl))
  f294 := Tryz.func178.trans (congrArg some (by kernel_rfl))
  f295 := Tryz.func179.trans (congrArg some (by kernel_rfl))
  f296 := Tryz.func180.trans (congrArg some (by kernel_rfl))
  f297 := Tryz.func181.trans (congrArg some (by kernel_rfl))
  f298 := Tryz.func182.trans (congrArg some (by kernel_rfl))
  f299 := Tryz.func183.trans (congrArg some (by kernel_rfl))
  f300 := Tryz.func185.trans (congrArg some (by kernel_rfl))
  f301 := Tryz.func186.trans (congrArg some (by kernel_rfl))
  f328 := Tryz.func198.trans (congrArg some (by kernel_rfl))
  f329 := Tryz.func199.trans (congrArg some (by kernel_rfl))
  f330 := Tryz.func200.trans (congrArg some (by kernel_rfl))
  f331 := Tryz.func201.trans (congrArg some (by kernel_rfl))
  f332 := Tryz.func202.trans (congrArg some (by kernel_rfl))
  f343 := Tryz.func215.trans (congrArg some (by kernel_rfl))
  t0 := Tryz.underlying0
  a0 := Tryz.isAgg0
  z0 := Tryz.sizeOf0
  v0 := Tryz.zeroValue0
  t3 := Tryz.underlying3
  a3 := Tryz.isAgg3
  z3 := Tryz.sizeOf3
  v3 := Tryz.zeroValue3
  t4 := Tryz.underlying4
  a4 := Tryz.isAgg4
  z4 := Tryz.sizeOf4
  v4 := Tryz.zeroValue4
  t5 := Tryz.underlying5
  a5 := Tryz.isAgg5
  z5 := Tryz.sizeOf5
  v5 := Tryz.zeroValue5
  t9 := Tryz.underlying9
  a9 := Tryz.isAgg9
  z9 := Tryz.sizeOf9
  v9 := Tryz.zeroValue9
  t28 := Tryz.underlying73
  a28 := Tryz.isAgg73
  z28 := Tryz.sizeOf73
  v28 := Tryz.zeroValue73
  t46 := Tryz.underlying170
  a46 := Tryz.isAgg170
  z46 := Tryz.sizeOf170
  v46 := Tryz.zeroValue170
  t51 := Tryz.underlying194
  a51 := Tryz.isAgg194
  z51 := Tryz.sizeOf194
  v51 := Tryz.zeroValue194
  t53 := Tryz.underlying196
  a53 := Tryz.isAgg196
  z53 := Tryz.sizeOf196
  v53 := Tryz.zeroValue196
  t131 := Tryz.underlying124
  a131 := Tryz.isAgg124
  z131 := Tryz.sizeOf124
  v131 := Tryz.zeroValue124
  t182 := Tryz.underlying186
  a182 := Tryz.isAgg186
  z182 := Tryz.sizeOf186
  v182 := Tryz.zeroValue186
  t183 := Tryz.underlying187
  a183 := Tryz.isAgg187
  z183 := Tryz.sizeOf187
  v183 := Tryz.zeroValue187
  t218 := Tryz.underlying202
  a218 := Tryz.isAgg202
  z218 := Tryz.sizeOf202
  v218 := Tryz.zeroValue202
  t222 := Tryz.underlying206
  a222 := Tryz.isAgg206
  z222 := Tryz.sizeOf206
  v222 := Tryz.zeroValue206
  t228 := Tryz.underlying216
  a228 := Tryz.isAgg216
  z228 := Tryz.sizeOf216
  v228 := Tryz.zeroValue216
  t229 := Tryz.underlying217
  a229 := Tryz.isAgg217
  z229 := Tryz.sizeOf217
  v229 := Tryz.zeroValue217 }
open Go.Sort Go.RowKit in
theorem Tryz.slices_Sort_int (blk off cap : Nat) (zs : List Int) (w : World) (hH : Holds (Value.int .i64) w blk off zs.toArray) (hblk : blk < w.heap.size) (hsz : zs.length < 4611686018427387904) :
    Calls Tryz.prog 119 #[.slice (some ⟨blk, off, none⟩) zs.length cap] w fun e w' =>
      e = .returned (.tuple #[]) ∧ ∃ n os, w' = grow (putRow (Value.int .i64) (Sort.ahead w n) blk off (zs.mergeSort fun x y => decide (x ≤ y)).toArray) os := Any.slices_Sort_int Tryz.lays189 blk off cap zs w hH hblk hsz
def Tryz.laysNm220_ren : Go.Shelf.Ren := ⟨fun | 20 => 120 | n => n, fun | 22 => 73 | 3 => 3 | 4 => 4 | 0 => 0 | n => n, fun | n => n⟩
theorem Tryz.laysNm220 : Go.Proofs.Lays2.n20 Tryz.prog Tryz.laysNm220_ren := {
  mixed := by kernel_rfl
  f20 := Tryz.func120.trans (congrArg some (by kernel_rfl))
  t0 := Tryz.underlying0
  a0 := Tryz.isAgg0
  z0 := Tryz.sizeOf0
  v0 := Tryz.zeroValue0
  t3 := Tryz.underlying3
  a3 := Tryz.isAgg3
  z3 := Tryz.sizeOf3
  v3 := Tryz.zeroValue3
  t4 := Tryz.underlying4
  a4 := Tryz.isAgg4
  z4 := Tryz.sizeOf4
  v4 := Tryz.zeroValue4
  t22 := Tryz.underlying73
  a22 := Tryz.isAgg73
  z22 := Tryz.sizeOf73
  v22 := Tryz.zeroValue73
  i3 := by kernel_rfl }
open Go.RowKit Go.Lib Go.Sort in
theorem Tryz.slices_Compact_int (blk off cap : Nat) (zs : List Int) (w : World) (hH : Holds (Value.int .i64) w blk off zs.toArray) (hsz : zs.length ≤ 9223372036854775807) (hcap : zs.length ≤ cap) :
    Calls Tryz.prog 120 #[.slice (some ⟨blk, off, none⟩) zs.length cap] w fun e w' => e = .returned (.slice (some ⟨blk, off, none⟩) (Lib.compact zs).length cap) ∧ ∃ q, w' = putRow (Value.int .i64) (Sort.ahead w q) blk off (Lib.compact zs ++ List.replicate (zs.length - (Lib.compact zs).length) 0).toArray := Any.slices_Compact_int Tryz.laysNm220 blk off cap zs w hH hsz hcap
open Go.RowKit Go.Lib Go.Sort in
theorem Tryz.slices_Compact_int_empty (a : Option Addr) (cap : Nat) (w : World) :
    Calls Tryz.prog 120 #[.slice a 0 cap] w fun e w' => e = .returned (.slice a 0 cap) ∧ w' = w := Any.slices_Compact_int_empty Tryz.laysNm220 a cap w
open Go.RowKit Go.Sort in
theorem Tryz.slices_Sort_int_none (p : Option Addr) (cap : Nat) (w : World) :
    Calls Tryz.prog 119 #[.slice p 0 cap] w fun e w' => e = .returned (.tuple #[]) ∧ w' = w := Any.slices_Sort_int_none Tryz.lays189 p cap w
end Go.Proofs
/- What the library's sort and compaction do with a slice of the caller's own. -/
namespace Go.Proofs.YtccbimcikbbecaaGreat
open Go P1
abbrev ielem : Int → List AV := fun n => [i64 n]
def sortI (l : List Int) : List Int := l.mergeSort fun x y => decide (x ≤ y)
def compGo {α : Type} [DecidableEq α] : α → List α → List α
  | _, [] => []
  | p, b :: l => if b = p then compGo b l else b :: compGo b l
def comp {α : Type} [DecidableEq α] : List α → List α
  | [] => []
  | a :: l => a :: compGo a l
def sortF (l : List Fact) : List Fact := l.mergeSort fun x y => decide (cmpFacts x y ≤ 0)
theorem flat_ielem : ∀ l : List Int, (l.map ielem).flatten = l.map i64
  | [] => rfl
  | a :: l => by simp [flat_ielem l]
theorem ints_read {w : World} {F : Nat → Prop} : ∀ {xs : List Value} {l : List Int}, All2 (Rd w F) xs (l.map i64) → xs = l.map (Value.int .i64) ∧ ∀ n ∈ l, (Lit.int .i64 n).wf = true
  | [], [], _ => ⟨rfl, fun _ h => by cases h⟩
  | x :: xs, a :: l, .cons h t => by
    obtain ⟨h1, h2⟩ := ints_read t
    cases h with
    | int h =>
      refine ⟨by rw [h1]; rfl, fun n hn => ?_⟩
      rcases List.mem_cons.1 hn with e | e
      · rw [e]; exact h
      · exact h2 n e
theorem ints_rd {w : World} {F : Nat → Prop} : ∀ {l : List Int}, (∀ n ∈ l, (Lit.int .i64 n).wf = true) → All2 (Rd w F) (l.map (Value.int .i64)) (l.map i64)
  | [], _ => .nil
  | a :: l, h => .cons (.int (h a (by simp))) (ints_rd fun n hn => h n (by simp [hn]))
theorem ints_holds {w : World} {g n cap : Nat} {e : TypeId} {cur : Array Value} {l : List Int} (hg : w.heap[g]? = some (.cells cur e (0, 0))) (ht : cur.toList.take (l.length * 1) = l.map (Value.int .i64)) : Go.Sort.Holds (Value.int .i64) w g 0 l.toArray := by
  intro j hj
  have hj2 : j < l.length := by simpa using hj
  refine ⟨?_, ?_⟩
  · have h1 : (cur.toList.take (l.length * 1))[j]? = some (Value.int .i64 l[j]) := by rw [ht]; simp [hj2]
    rw [List.getElem?_take, if_pos (by omega), Array.getElem?_toList] at h1
    simp only [World.cell?, hg, Nat.zero_add]
    rw [getElem!_pos _ j hj]
    simpa using h1
  · simp [World.frozen?, hg]
theorem ctr_SortI (l : List Int) (h : l.length ≤ 1000000) : CtR Tryz.prog 119 [] ⟨3, 1, true, l.map ielem⟩ false ((sortI l).map ielem) := by
  refine ⟨⟨_, _, Tryz.func119, rfl, by kernel_rfl⟩, fun F w v vals hFlt hrow hone hcold hvals => ?_⟩
  cases vals with
  | cons a b => exact hvals.elim
  | nil =>
  cases l with
  | nil =>
    obtain ⟨A, cap, rfl⟩ := rowNil hrow
    refine (Tryz.slices_Sort_int_none A cap w).mono fun e w' ⟨he, hw⟩ => ?_
    subst hw
    exact ⟨_, he, Fr.refl _ _, by simpa [sortI] using hrow, hone, fun g hg => hg, fun _ => rfl⟩
  | cons a l =>
  generalize hL : a :: l = L at *
  have hne : L.map ielem ≠ [] := by rw [← hL]; simp
  obtain ⟨g, cap, cur, xs, hv, hg, hc, hm, hs, ht, hx, hA⟩ := rowParts hrow hne
  subst hv
  rw [flat_ielem] at hA
  obtain ⟨rfl, hwf⟩ := ints_read hA
  rw [List.length_map] at ht hc
  have hgs : g < w.heap.size := by
    rcases Nat.lt_or_ge g w.heap.size with h1 | h1
    · exact h1
    · rw [Array.getElem?_eq_none h1] at hg; cases hg
  have hH := ints_holds (cap := cap) (n := 0) hg ht
  have hlen : (sortI L).length = L.length := (List.mergeSort_perm L _).length_eq
  rw [List.length_map]
  refine (Tryz.slices_Sort_int g 0 cap L w hH hgs (by omega)).mono fun e w' ⟨he, n, os, hw⟩ => ?_
  subst hw
  refine ⟨_, he, put_fr rfl, ?_, rfl, fun _ hg => hg, fun _ => rfl⟩
  have := put_row (enc := Value.int .i64) (w := w) (g := g) (n := n) (d := (sortI L).toArray) (os := os) (F := F) (e := 3) (sz := 1) (m := L.length) (cap := cap) (cur := cur) (es' := (sortI L).map ielem) (by omega) hg hs hc hm (by simp [hlen]) (by simp [hlen]) (by rw [List.length_map, hlen]; exact Nat.le_trans h (by decide)) (fun x hx => by obtain ⟨_, _, rfl⟩ := List.mem_map.1 hx; rfl) (by
    rw [flat_ielem, List.take_of_length_le (by simp)]
    exact ints_rd fun n hn => hwf n ((List.mergeSort_perm L _).mem_iff.1 hn))
  rwa [List.length_map, hlen] at this
theorem compGo_snoc {α : Type} [DecidableEq α] : ∀ (p : α) (l : List α) (x : α), compGo p (l ++ [x]) = compGo p l ++ if x = (p :: l).getLast (by simp) then [] else [x]
  | p, [], x => by
    by_cases h : x = p <;> simp [compGo, h]
  | p, b :: l, x => by
    have ih := compGo_snoc b l x
    have e : (p :: b :: l).getLast (by simp) = (b :: l).getLast (by simp) := by simp [List.getLast_cons]
    rw [e, List.cons_append]
    simp only [compGo]
    split
    · exact ih
    · rw [ih]; rfl
theorem comp_upTo {α : Type} [DecidableEq α] [Inhabited α] (l : List α) : ∀ m, m ≤ l.length → Lib.compactUpTo l.toArray m = comp (l.take m)
  | 0, _ => by simp [Lib.compactUpTo, comp]
  | m + 1, h => by
    have hm : m < l.length := by omega
    rw [Lib.compactUpTo_succ, comp_upTo l m (by omega), List.take_succ_eq_append_getElem hm]
    have hg : l.toArray[m]! = l[m] := by rw [getElem!_pos _ m (by simpa using hm)]; simp
    rcases Nat.eq_zero_or_pos m with h0 | h0
    · subst h0
      simp only [List.take_zero, List.nil_append, comp, compGo, Lib.keeps, hg]
      simp
    · obtain ⟨k, rfl⟩ : ∃ k, m = k + 1 := ⟨m - 1, by omega⟩
      cases l with
      | nil => simp at hm
      | cons a l =>
        have hk : k < l.length := by simpa using hm
        have hlast : (a :: l.take k).getLast (by simp) = (a :: l)[k] := by
          rw [List.getLast_eq_getElem]
          simp only [List.length_cons, List.length_take, Nat.add_sub_cancel]
          have e2 : min k l.length = k := by omega
          have e3 : a :: l.take k = (a :: l).take (k + 1) := rfl
          simp only [e3, List.getElem_take, e2]
        have hg2 : (a :: l).toArray[k + 1 - 1]! = (a :: l)[k] := by rw [Nat.add_sub_cancel, getElem!_pos _ k (by simp; omega)]; simp
        rw [List.take_succ_cons, List.cons_append]
        simp only [comp]
        rw [compGo_snoc, List.cons_append, hlast]
        congr 1
        congr 1
        simp only [Lib.keeps, hg, hg2]
        by_cases hx : (a :: l)[k + 1] = (a :: l)[k]
        · simp [hx]
        · simp [hx]
theorem comp_lib {α : Type} [DecidableEq α] [Inhabited α] (l : List α) : Lib.compact l = comp l := by
  rw [Lib.compact, comp_upTo l _ (Nat.le_refl _), List.take_length]
theorem compGo_len {α : Type} [DecidableEq α] : ∀ (p : α) (l : List α), (compGo p l).length ≤ l.length
  | p, [] => by simp [compGo]
  | p, b :: l => by
    have := compGo_len b l
    simp only [compGo]
    split <;> simp <;> omega
theorem comp_len {α : Type} [DecidableEq α] (l : List α) : (comp l).length ≤ l.length := by
  cases l with
  | nil => simp [comp]
  | cons a l => have := compGo_len a l; simp [comp]; exact this
theorem compGo_sub {α : Type} [DecidableEq α] : ∀ {p : α} {l : List α} {x : α}, x ∈ compGo p l → x ∈ l
  | p, b :: l, x, h => by
    simp only [compGo] at h
    split at h
    · exact List.mem_cons_of_mem _ (compGo_sub h)
    · rcases List.mem_cons.1 h with e | e
      · simp [e]
      · exact List.mem_cons_of_mem _ (compGo_sub e)
theorem comp_sub {α : Type} [DecidableEq α] {l : List α} {x : α} (h : x ∈ comp l) : x ∈ l := by
  cases l with
  | nil => simp [comp] at h
  | cons a l =>
    simp only [comp] at h
    rcases List.mem_cons.1 h with e | e
    · simp [e]
    · exact List.mem_cons_of_mem _ (compGo_sub e)
theorem ctr_CompactI (l : List Int) (h : l.length ≤ 1000000) : CtR Tryz.prog 120 [] ⟨3, 1, true, l.map ielem⟩ true ((comp l).map ielem) := by
  refine ⟨⟨_, _, Tryz.func120, rfl, by kernel_rfl⟩, fun F w v vals hFlt hrow hone hcold hvals => ?_⟩
  cases vals with
  | cons a b => exact hvals.elim
  | nil =>
  cases l with
  | nil =>
    obtain ⟨A, cap, rfl⟩ := rowNil hrow
    refine (Tryz.slices_Compact_int_empty A cap w).mono fun e w' ⟨he, hw⟩ => ?_
    subst hw
    exact ⟨_, he, Fr.refl _ _, by simpa [comp] using hrow, hone, fun g hg => hg, fun h => by cases h⟩
  | cons a l =>
  generalize hL : a :: l = L at *
  have hne : L.map ielem ≠ [] := by rw [← hL]; simp
  obtain ⟨g, cap, cur, xs, hv, hg, hc, hm, hs, ht, hx, hA⟩ := rowParts hrow hne
  subst hv
  rw [flat_ielem] at hA
  obtain ⟨rfl, hwf⟩ := ints_read hA
  rw [List.length_map] at ht hc
  have hH := ints_holds (cap := cap) (n := 0) hg ht
  have hlen := comp_len L
  rw [List.length_map]
  refine (Tryz.slices_Compact_int g 0 cap L w hH (by omega) hc).mono fun e w' ⟨he, n, hw⟩ => ?_
  rw [comp_lib] at he hw
  rw [← Go.Sort.grow_empty (Go.Sort.putRow _ _ _ _ _)] at hw
  subst hw
  refine ⟨_, he, put_fr rfl, ?_, rfl, fun _ hg => hg, fun h => by cases h⟩
  have := put_row (enc := Value.int .i64) (w := w) (g := g) (n := n) (d := (comp L ++ List.replicate (L.length - (comp L).length) 0).toArray) (os := #[]) (F := F) (e := 3) (sz := 1) (m := L.length) (cap := cap) (cur := cur) (es' := (comp L).map ielem) (by omega) hg hs hc hm (by simp; omega) (by simp; omega) (by rw [List.length_map]; exact Nat.le_trans (Nat.le_trans hlen h) (by decide)) (fun x hx => by obtain ⟨_, _, rfl⟩ := List.mem_map.1 hx; rfl) (by
    rw [flat_ielem, List.length_map, Nat.mul_one, List.toList_toArray, List.map_append, List.take_append_of_le_length (by simp), List.take_of_length_le (by simp)]
    exact ints_rd fun n hn => hwf n (comp_sub hn))
  rwa [List.length_map] at this
end Go.Proofs.YtccbimcikbbecaaGreat
/- Sorted lists without repetition: sorting and compaction give the same as insertion. -/
namespace Go.Proofs.YtccbimcikbbecaaGreat
open Go P1
structure TO {α : Type} (lt : α → α → Prop) : Prop where
  irr : ∀ a, ¬ lt a a
  tr : ∀ a b c, lt a b → lt b c → lt a c
  tri : ∀ a b, a = b ∨ lt a b ∨ lt b a
theorem TO.asy {α : Type} {lt : α → α → Prop} (h : TO lt) {a b : α} (h1 : lt a b) : ¬ lt b a := fun h2 => h.irr _ (h.tr _ _ _ h1 h2)
theorem strict_ext {α : Type} {lt : α → α → Prop} (h : TO lt) : ∀ {l m : List α}, l.Pairwise lt → m.Pairwise lt → (∀ x, x ∈ l ↔ x ∈ m) → l = m
  | [], [], _, _, _ => rfl
  | [], b :: m, _, _, hm => by have := (hm b).2 (by simp); simp at this
  | a :: l, [], _, _, hm => by have := (hm a).1 (by simp); simp at this
  | a :: l, b :: m, hl, hm, hx => by
    rw [List.pairwise_cons] at hl hm
    have hab : a = b := by
      rcases List.mem_cons.1 ((hx a).1 (by simp)) with e | e
      · exact e
      · rcases List.mem_cons.1 ((hx b).2 (by simp)) with e2 | e2
        · exact e2.symm
        · exact absurd (hl.1 b e2) (h.asy (hm.1 a e))
    subst hab
    refine congrArg (a :: ·) (strict_ext h hl.2 hm.2 fun x => ⟨fun hxl => ?_, fun hxm => ?_⟩)
    · rcases List.mem_cons.1 ((hx x).1 (by simp [hxl])) with e | e
      · subst e; exact absurd (hl.1 _ hxl) (h.irr _)
      · exact e
    · rcases List.mem_cons.1 ((hx x).2 (by simp [hxm])) with e | e
      · subst e; exact absurd (hm.1 _ hxm) (h.irr _)
      · exact e
theorem compGo_mem {α : Type} [DecidableEq α] : ∀ {p : α} {l : List α} {x : α}, x ∈ p :: compGo p l ↔ x ∈ p :: l
  | p, [], x => by simp [compGo]
  | p, b :: l, x => by
    simp only [compGo]
    split
    · rename_i hb
      subst hb
      have := compGo_mem (p := b) (l := l) (x := x)
      rw [this]; simp
    · have := compGo_mem (p := b) (l := l) (x := x)
      rw [List.mem_cons, this, List.mem_cons]; simp
theorem comp_mem {α : Type} [DecidableEq α] {l : List α} {x : α} : x ∈ comp l ↔ x ∈ l := by
  cases l with
  | nil => simp [comp]
  | cons a l => simp only [comp]; exact compGo_mem
theorem compGo_strict {α : Type} [DecidableEq α] {lt : α → α → Prop} (h : TO lt) : ∀ {p : α} {l : List α}, (p :: l).Pairwise (fun a b => ¬ lt b a) → (p :: compGo p l).Pairwise lt
  | p, [], _ => by simp [compGo]
  | p, b :: l, hl => by
    rw [List.pairwise_cons] at hl
    have ih := compGo_strict h (p := b) (l := l) hl.2
    simp only [compGo]
    split
    · rename_i hb; subst hb; exact ih
    · rename_i hb
      have hpb : lt p b := by
        rcases h.tri p b with e | e | e
        · exact absurd e.symm hb
        · exact e
        · exact absurd e (hl.1 b (by simp))
      rw [List.pairwise_cons]
      refine ⟨fun x hx => ?_, ih⟩
      rcases List.mem_cons.1 hx with e | e
      · subst e; exact hpb
      · exact h.tr _ _ _ hpb ((List.pairwise_cons.1 ih).1 x e)
theorem comp_strict {α : Type} [DecidableEq α] {lt : α → α → Prop} (h : TO lt) {l : List α} (hl : l.Pairwise (fun a b => ¬ lt b a)) : (comp l).Pairwise lt := by
  cases l with
  | nil => simp [comp]
  | cons a l => simp only [comp]; exact compGo_strict h hl
theorem TO_int : TO (fun a b : Int => a < b) := ⟨fun a => by omega, fun a b c => by omega, fun a b => by omega⟩
theorem put_mem : ∀ {l : List Int} {x y : Int}, y ∈ put l x ↔ y = x ∨ y ∈ l
  | [], x, y => by simp [put]
  | z :: l, x, y => by
    simp only [put]
    split
    · rw [List.mem_cons, put_mem (l := l), List.mem_cons]
      constructor
      · rintro (h | h | h) <;> simp [h]
      · rintro (h | h | h) <;> simp [h]
    · split
      · rename_i h; subst h; simp
      · simp
theorem put_strict : ∀ {l : List Int} {x : Int}, l.Pairwise (· < ·) → (put l x).Pairwise (· < ·)
  | [], x, _ => by simp [put]
  | z :: l, x, h => by
    rw [List.pairwise_cons] at h
    simp only [put]
    split
    · rw [List.pairwise_cons]
      refine ⟨fun y hy => ?_, put_strict h.2⟩
      rcases put_mem.1 hy with e | e
      · omega
      · exact h.1 y e
    · split
      · rw [List.pairwise_cons]; exact h
      · rw [List.pairwise_cons, List.pairwise_cons]
        refine ⟨fun y hy => ?_, h⟩
        rcases List.mem_cons.1 hy with e | e
        · omega
        · have := h.1 y e; omega
theorem foldPut_mem : ∀ {l acc : List Int} {x : Int}, x ∈ l.foldl put acc ↔ x ∈ l ∨ x ∈ acc
  | [], acc, x => by simp
  | a :: l, acc, x => by
    rw [List.foldl_cons, foldPut_mem (l := l), put_mem, List.mem_cons]
    constructor
    · rintro (h | h | h) <;> simp [h]
    · rintro ((h | h) | h) <;> simp [h]
theorem foldPut_strict : ∀ {l acc : List Int}, acc.Pairwise (· < ·) → (l.foldl put acc).Pairwise (· < ·)
  | [], _, h => h
  | _ :: l, _, h => foldPut_strict (l := l) (put_strict h)
theorem putAll_strict (l : List Int) : (putAll l).Pairwise (· < ·) := foldPut_strict .nil
theorem putAll_mem {l : List Int} {x : Int} : x ∈ putAll l ↔ x ∈ l := by simp [putAll, foldPut_mem]
theorem sortI_sorted (l : List Int) : (sortI l).Pairwise fun a b => ¬ b < a := by
  have := List.pairwise_mergeSort (le := fun x y : Int => decide (x ≤ y)) (by simp; omega) (by simp; omega) l
  exact this.imp fun {a b} h => by simp at h; omega
theorem sortI_perm (l : List Int) : (sortI l).Perm l := List.mergeSort_perm l _
/-- Sorting and compaction: the same as insertion. -/
theorem comp_sort (l : List Int) : comp (sortI l) = putAll l :=
  strict_ext TO_int (comp_strict TO_int (sortI_sorted l)) (putAll_strict l) fun x => by
    rw [comp_mem, putAll_mem]; exact (sortI_perm l).mem_iff
theorem sortI_length (l : List Int) : (sortI l).length = l.length := (sortI_perm l).length_eq
end Go.Proofs.YtccbimcikbbecaaGreat
