/- Part 6 of what the row leans on: Iat, Fct, Vin. No statement of the program stands here by itself. -/
import Derived.Test.YtccbimcikbbecaaGreatW5
set_option linter.all false
set_option linter.unusedVariables false
set_option linter.unusedSimpArgs false
/- Atoms and dependencies that are valid (the program's). -/
namespace Go.Proofs.YtccbimcikbbecaaGreat
open Go P1
def H149 : List (Nat × Hint) := [(0, ⟨[], [2]⟩), (1, ⟨[], [0, 3, 4, 5]⟩)]
set_option maxHeartbeats 4000000 in
set_option maxRecDepth 100000 in
theorem ct_iIsValidAtom1 (t : Int) : Ct Tryz.prog 149 [sl (i64 t)] [] (sl (.bool (!termOk t))) [] [] := by
  refine ct_of_vc mixed tab_ok H149 Tryz.func149 rfl (by kernel_rfl) (by kernel_rfl) (by rfl) ?_
  intro hw _
  conv => whnf
  repeat' (first
    | exact trivial
    | (refine ⟨rfl, ?_⟩; (conv => whnf))
    | (refine ⟨fun h => ?_, fun h => ?_⟩ <;> (try simp at h) <;> (try (exfalso; omega)) <;> (conv => whnf))
    | (intro b hb; (conv => whnf))
    | (refine .inl ?_; (conv => whnf); first | (refine ⟨_, _, _, _, ct_within _ _ _, ?_⟩; (conv => whnf)) | fail)
    | (refine And.intro ?_ ?_; (focus (rw [wrap64 (by omega) (by omega)] <;> rfl)); (conv => whnf))
    | (refine And.intro ?_ (And.intro ?_ (And.intro ?_ (And.intro ?_ ?_))); (focus (first | omega | (rw [wrap64 (by omega) (by omega)] <;> first | omega | rfl) | (simp; omega))); (focus (first | omega | (rw [wrap64 (by omega) (by omega)] <;> first | omega | rfl) | (simp; omega))); (focus (first | omega | (rw [wrap64 (by omega) (by omega)] <;> first | omega | rfl) | (simp; omega))); (focus ((repeat' (first | exact sz_nil | exact sz_map fun _ => rfl | apply sz_take | apply sz_drop | apply sz_append | apply sz_cons rfl)); done)); (conv => whnf))
    | (refine And.intro ?_ (And.intro ?_ ?_); (focus (first | omega | (rw [wrap64 (by omega) (by omega)] <;> first | omega | rfl) | (simp; omega))); (focus ((repeat' (first | exact sz_nil | exact sz_map fun _ => rfl | apply sz_take | apply sz_drop | apply sz_append | apply sz_cons rfl)); done)); (conv => whnf))
    | (refine And.intro ?_ (And.intro ?_ ?_); (focus (first | omega | (rw [wrap64 (by omega) (by omega)] <;> first | omega | rfl) | (simp; omega))); (focus (first | omega | (rw [wrap64 (by omega) (by omega)] <;> first | omega | rfl) | (simp; omega))); (conv => whnf))
    | (rw [beq_g]; (conv => whnf))
    | fail)
def H118 : List (Nat × Hint) := [(0, ⟨[], [1, 4]⟩), (1, ⟨[(false, []), (false, []), (false, []), (true, []), (false, []), (false, []), (false, [0, 1]), (false, [1, 2]), (false, [2, 3]), (false, []), (false, []), (false, []), (true, []), (false, []), (false, []), (false, []), (false, [0, 1, 2]), (false, [0, 1, 2, 3]), (false, [1, 2, 3, 4]), (false, [3, 4, 5]), (false, [4, 5, 6]), (false, [5, 6, 7]), (false, []), (false, [])], [0, 5, 6, 7, 8, 9, 10, 11, 12, 13, 14, 15, 16, 17, 18, 19, 20, 21, 22, 23, 24, 25, 26, 27]⟩), (3, ⟨[], [3, 29, 30, 31, 32]⟩)]
set_option maxHeartbeats 4000000 in
set_option maxRecDepth 100000 in
theorem ct_iIsValidAtom (rels : List Relation) (a : Atom) : Ct Tryz.prog 118 [sl (.row (rels.map Relation.av)), ag a.av] [] (sl (.bool (validAtom rels a))) [] [] := by
  refine ct_of_vc mixed tab_ok H118 Tryz.func118 rfl (by kernel_rfl) (by kernel_rfl) (by rfl) ?_
  intro hw _
  have hl : rels.length ≤ 1125899906842624 := Wf.lenM (hw _ (.head _))
  have hla : a.terms.length ≤ 1125899906842624 := by
    have := hw (ag a.av) (.tail _ (.head _)) (.av (ints a.terms)) (by simp [Atom.av])
    exact Wf.lenI this
  clear hw
  have hwr : IntKind.i64.wrap (↑(rels.map Relation.av).length - 1) = rels.length - 1 := by
    rw [List.length_map]; exact wrap64 (by omega) (by omega)
  conv => whnf
  refine .inl ?_
  conv => whnf
  refine ⟨_, _, _, _, ct_iAreValidRelations rels, ?_⟩
  conv => whnf
  refine ⟨fun h => ?_, fun h => ?_⟩ <;> (try simp at h) <;> (conv => whnf)
  · repeat' (first
      | exact trivial
      | (refine ⟨rfl, ?_⟩; (conv => whnf))
      | (refine ⟨fun h => ?_, fun h => ?_⟩ <;> (try simp at h) <;> (try (exfalso; omega)) <;> (conv => whnf))
      | (intro b hb; (conv => whnf))
      | (refine And.intro ?_ ?_; (focus (rw [wrap64 (by omega) (by omega)] <;> rfl)); (conv => whnf))
      | (refine And.intro ?_ (And.intro ?_ (And.intro ?_ (And.intro ?_ ?_))); (focus (first | omega | (rw [wrap64 (by omega) (by omega)] <;> first | omega | rfl) | (simp; omega))); (focus (first | omega | (rw [wrap64 (by omega) (by omega)] <;> first | omega | rfl) | (simp; omega))); (focus (first | omega | (rw [wrap64 (by omega) (by omega)] <;> first | omega | rfl) | (simp; omega))); (focus ((repeat' (first | exact sz_nil | exact sz_map fun _ => rfl | apply sz_take | apply sz_drop | apply sz_append | apply sz_cons rfl)); done)); (conv => whnf))
      | (refine And.intro ?_ (And.intro ?_ ?_); (focus (first | omega | (rw [wrap64 (by omega) (by omega)] <;> first | omega | rfl) | (simp; omega))); (focus ((repeat' (first | exact sz_nil | exact sz_map fun _ => rfl | apply sz_take | apply sz_drop | apply sz_append | apply sz_cons rfl)); done)); (conv => whnf))
      | (refine And.intro ?_ (And.intro ?_ ?_); (focus (first | omega | (rw [wrap64 (by omega) (by omega)] <;> first | omega | rfl) | (simp; omega))); (focus (first | omega | (rw [wrap64 (by omega) (by omega)] <;> first | omega | rfl) | (simp; omega))); (conv => whnf))
      | (refine And.intro ?_ ?_; (focus (simp [validAtom, headOk_not1 h])); (conv => whnf))
      | (rw [beq_g]; (conv => whnf))
      | fail)
  refine .inl ?_
  conv => whnf
  refine ⟨_, _, _, _, ct_within _ _ _, ?_⟩
  conv => whnf
  rw [hwr]
  refine ⟨fun h2 => ?_, fun h2 => ?_⟩ <;> (try simp at h2) <;> (conv => whnf)
  · repeat' (first
      | exact trivial
      | (refine ⟨rfl, ?_⟩; (conv => whnf))
      | (refine ⟨fun h => ?_, fun h => ?_⟩ <;> (try simp at h) <;> (try (exfalso; omega)) <;> (conv => whnf))
      | (intro b hb; (conv => whnf))
      | (refine And.intro ?_ ?_; (focus (rw [wrap64 (by omega) (by omega)] <;> rfl)); (conv => whnf))
      | (refine And.intro ?_ (And.intro ?_ (And.intro ?_ (And.intro ?_ ?_))); (focus (first | omega | (rw [wrap64 (by omega) (by omega)] <;> first | omega | rfl) | (simp; omega))); (focus (first | omega | (rw [wrap64 (by omega) (by omega)] <;> first | omega | rfl) | (simp; omega))); (focus (first | omega | (rw [wrap64 (by omega) (by omega)] <;> first | omega | rfl) | (simp; omega))); (focus ((repeat' (first | exact sz_nil | exact sz_map fun _ => rfl | apply sz_take | apply sz_drop | apply sz_append | apply sz_cons rfl)); done)); (conv => whnf))
      | (refine And.intro ?_ (And.intro ?_ ?_); (focus (first | omega | (rw [wrap64 (by omega) (by omega)] <;> first | omega | rfl) | (simp; omega))); (focus ((repeat' (first | exact sz_nil | exact sz_map fun _ => rfl | apply sz_take | apply sz_drop | apply sz_append | apply sz_cons rfl)); done)); (conv => whnf))
      | (refine And.intro ?_ (And.intro ?_ ?_); (focus (first | omega | (rw [wrap64 (by omega) (by omega)] <;> first | omega | rfl) | (simp; omega))); (focus (first | omega | (rw [wrap64 (by omega) (by omega)] <;> first | omega | rfl) | (simp; omega))); (conv => whnf))
      | (refine And.intro ?_ ?_; (focus (simp [validAtom, headOk_not2 h2])); (conv => whnf))
      | (rw [beq_g]; (conv => whnf))
      | fail)
  have h3 := inR_iff.1 h2
  have hi : a.rel.toNat < rels.length := by omega
  have hh := headOk_eq (n := a.terms.length) h h2 hi
  repeat' (first
    | exact trivial
    | (refine ⟨rfl, ?_⟩; (conv => whnf))
    | (refine ⟨fun h => ?_, fun h => ?_⟩ <;> (try simp at h) <;> (try (exfalso; omega)) <;> (conv => whnf))
    | (intro b hb; (conv => whnf))
    | (refine .inl ?_; (conv => whnf); first | (refine ⟨_, _, _, _, ct_ContainsFuncInt a.terms (fun t => !termOk t) _ (fun t _ => ct_iIsValidAtom1 t), ?_⟩; (conv => whnf)) | fail)
    | (refine And.intro ?_ ?_; (focus (rw [wrap64 (by omega) (by omega)] <;> rfl)); (conv => whnf))
    | (refine ⟨rels[a.rel.toNat].av, ?_, map_getI ?_ ?_, rfl, ?_⟩; (focus (first | omega | (rw [wrap64 (by omega) (by omega)] <;> first | omega | rfl) | (simp; omega))); (focus (first | rfl | omega | (rw [wrap64 (by omega) (by omega)] <;> first | omega | rfl))); (focus omega); (conv => whnf))
    | (refine ⟨rels[a.rel.toNat].av, map_getI ?_ ?_, ?_, ?_, ?_⟩; (focus (first | rfl | omega | (rw [wrap64 (by omega) (by omega)] <;> first | omega | rfl))); (focus omega); (focus (simp; done)); (focus (simp; done)); (conv => whnf))
    | (refine ⟨rels[a.rel.toNat].av, map_getI ?_ ?_, ?_⟩; (focus (first | rfl | omega | (rw [wrap64 (by omega) (by omega)] <;> first | omega | rfl))); (focus omega); (conv => whnf))
    | (refine And.intro ?_ (And.intro ?_ (And.intro ?_ (And.intro ?_ ?_))); (focus (first | omega | (rw [wrap64 (by omega) (by omega)] <;> first | omega | rfl) | (simp; omega))); (focus (first | omega | (rw [wrap64 (by omega) (by omega)] <;> first | omega | rfl) | (simp; omega))); (focus (first | omega | (rw [wrap64 (by omega) (by omega)] <;> first | omega | rfl) | (simp; omega))); (focus ((repeat' (first | exact sz_nil | exact sz_map fun _ => rfl | apply sz_take | apply sz_drop | apply sz_append | apply sz_cons rfl)); done)); (conv => whnf))
    | (refine And.intro ?_ (And.intro ?_ ?_); (focus (first | omega | (rw [wrap64 (by omega) (by omega)] <;> first | omega | rfl) | (simp; omega))); (focus ((repeat' (first | exact sz_nil | exact sz_map fun _ => rfl | apply sz_take | apply sz_drop | apply sz_append | apply sz_cons rfl)); done)); (conv => whnf))
    | (refine And.intro ?_ (And.intro ?_ ?_); (focus (first | omega | (rw [wrap64 (by omega) (by omega)] <;> first | omega | rfl) | (simp; omega))); (focus (first | omega | (rw [wrap64 (by omega) (by omega)] <;> first | omega | rfl) | (simp; omega))); (conv => whnf))
    | (refine And.intro ?_ ?_; (focus (refine congrArg AV.bool ?_; simp only [validAtom, hh]; first | (simp_all; done) | (rw [Bool.eq_iff_iff]; simp_all))); (conv => whnf))
    | (rw [beq_g]; (conv => whnf))
    | fail)
def H117 : List (Nat × Hint) := [(0, ⟨[], [0, 3]⟩), (1, ⟨[], [1, 2, 4, 5, 6, 7]⟩)]
set_option maxHeartbeats 4000000 in
set_option maxRecDepth 100000 in
theorem ct_iAreAtoms1 (rels : List Relation) (a : Atom) : Ct Tryz.prog 117 [ag a.av, .lf (.ptr (1, 0) 0)] [(((1, 0), 0), .row (rels.map Relation.av))] (sl (.bool (!validAtom rels a))) [] [(((1, 0), 0), .row (rels.map Relation.av))] := by
  refine ct_of_vc mixed tab_ok H117 Tryz.func117 rfl (by kernel_rfl) (by kernel_rfl) (by rfl) ?_
  intro hw _
  conv => whnf
  repeat' (first
    | exact trivial
    | (refine ⟨rfl, ?_⟩; (conv => whnf))
    | (refine ⟨fun h => ?_, fun h => ?_⟩ <;> (try simp at h) <;> (try (exfalso; omega)) <;> (conv => whnf))
    | (intro b hb; (conv => whnf))
    | (refine .inl ?_; (conv => whnf); first | (refine ⟨_, _, _, _, ct_iIsValidAtom rels a, ?_⟩; (conv => whnf)) | fail)
    | (refine And.intro ?_ ?_; (focus (rw [wrap64 (by omega) (by omega)] <;> rfl)); (conv => whnf))
    | (refine And.intro ?_ (And.intro ?_ (And.intro ?_ (And.intro ?_ ?_))); (focus (first | omega | (rw [wrap64 (by omega) (by omega)] <;> first | omega | rfl) | (simp; omega))); (focus (first | omega | (rw [wrap64 (by omega) (by omega)] <;> first | omega | rfl) | (simp; omega))); (focus (first | omega | (rw [wrap64 (by omega) (by omega)] <;> first | omega | rfl) | (simp; omega))); (focus ((repeat' (first | exact sz_nil | exact sz_map fun _ => rfl | apply sz_take | apply sz_drop | apply sz_append | apply sz_cons rfl)); done)); (conv => whnf))
    | (refine And.intro ?_ (And.intro ?_ ?_); (focus (first | omega | (rw [wrap64 (by omega) (by omega)] <;> first | omega | rfl) | (simp; omega))); (focus ((repeat' (first | exact sz_nil | exact sz_map fun _ => rfl | apply sz_take | apply sz_drop | apply sz_append | apply sz_cons rfl)); done)); (conv => whnf))
    | (refine And.intro ?_ (And.intro ?_ ?_); (focus (first | omega | (rw [wrap64 (by omega) (by omega)] <;> first | omega | rfl) | (simp; omega))); (focus (first | omega | (rw [wrap64 (by omega) (by omega)] <;> first | omega | rfl) | (simp; omega))); (conv => whnf))
    | (rw [beq_g]; (conv => whnf))
    | fail)
def atomsOk (rels : List Relation) (l : List Atom) (n : Int) : Bool := inR l.length 1 n && l.all (validAtom rels)
def H90 : List (Nat × Hint) := [(0, ⟨[], [0, 6]⟩), (1, ⟨[(false, []), (false, []), (false, []), (false, []), (true, []), (false, []), (false, []), (false, []), (false, []), (false, []), (false, [])], [1, 2, 3, 7, 8, 9, 10, 11, 12, 13, 14, 15, 16]⟩)]
set_option maxHeartbeats 4000000 in
set_option maxRecDepth 100000 in
theorem ct_iAreAtoms (rels : List Relation) (l : List Atom) (n : Int) : Ct Tryz.prog 90 [sl (.row (rels.map Relation.av)), sl (.row (l.map Atom.av)), sl (i64 n)] [] (sl (.bool (atomsOk rels l n))) [] [] := by
  refine ct_of_vc mixed tab_ok H90 Tryz.func90 rfl (by kernel_rfl) (by kernel_rfl) (by rfl) ?_
  intro hw _
  clear hw
  conv => whnf
  repeat' (first
    | exact trivial
    | (refine ⟨rfl, ?_⟩; (conv => whnf))
    | (refine ⟨fun h => ?_, fun h => ?_⟩ <;> (try simp at h) <;> (try (exfalso; omega)) <;> (conv => whnf))
    | (intro b hb; (conv => whnf))
    | (refine .inl ?_; (conv => whnf); first | (refine ⟨_, _, _, _, ct_within _ _ _, ?_⟩; (conv => whnf)) | (refine ⟨_, _, _, _, ct_ContainsFuncAtom l (fun a => !validAtom rels a) _ (.row (rels.map Relation.av)) (fun a _ => ct_iAreAtoms1 rels a), ?_⟩; (conv => whnf)) | fail)
    | (refine And.intro ?_ ?_; (focus (rw [wrap64 (by omega) (by omega)] <;> rfl)); (conv => whnf))
    | (refine And.intro ?_ (And.intro ?_ (And.intro ?_ (And.intro ?_ ?_))); (focus (first | omega | (rw [wrap64 (by omega) (by omega)] <;> first | omega | rfl) | (simp; omega))); (focus (first | omega | (rw [wrap64 (by omega) (by omega)] <;> first | omega | rfl) | (simp; omega))); (focus (first | omega | (rw [wrap64 (by omega) (by omega)] <;> first | omega | rfl) | (simp; omega))); (focus ((repeat' (first | exact sz_nil | exact sz_map fun _ => rfl | apply sz_take | apply sz_drop | apply sz_append | apply sz_cons rfl)); done)); (conv => whnf))
    | (refine And.intro ?_ (And.intro ?_ ?_); (focus (first | omega | (rw [wrap64 (by omega) (by omega)] <;> first | omega | rfl) | (simp; omega))); (focus ((repeat' (first | exact sz_nil | exact sz_map fun _ => rfl | apply sz_take | apply sz_drop | apply sz_append | apply sz_cons rfl)); done)); (conv => whnf))
    | (refine And.intro ?_ (And.intro ?_ ?_); (focus (first | omega | (rw [wrap64 (by omega) (by omega)] <;> first | omega | rfl) | (simp; omega))); (focus (first | omega | (rw [wrap64 (by omega) (by omega)] <;> first | omega | rfl) | (simp; omega))); (conv => whnf))
    | (refine And.intro ?_ ?_; (focus (refine congrArg AV.bool ?_; simp only [atomsOk]; simp_all [List.all_eq_not_any_not])); (conv => whnf))
    | (rw [beq_g]; (conv => whnf))
    | fail)
def H91 : List (Nat × Hint) := [(0, ⟨[], [2]⟩), (1, ⟨[], [8]⟩), (2, ⟨[], [0]⟩), (4, ⟨[], [13, 14]⟩), (5, ⟨[], [5, 15]⟩), (7, ⟨[], [20, 21]⟩), (8, ⟨[], [22]⟩), (9, ⟨[], [7, 24, 25, 26, 27]⟩), (10, ⟨[], [28]⟩), (11, ⟨[], [29]⟩), (12, ⟨[], [30, 31]⟩), (13, ⟨[], [3, 32, 33]⟩)]
set_option maxHeartbeats 4000000 in
set_option maxRecDepth 100000 in
theorem ct_iVariables (l : List Atom) (hn : (terms l).length ≤ 1000000) : Ct Tryz.prog 91 [sl (.row (l.map Atom.av))] [] (sl (ints (vars l))) [] [] := by
  refine ct_of_vc mixed tab_ok H91 Tryz.func91 rfl (by kernel_rfl) (by kernel_rfl) (by rfl) ?_
  intro hw _
  have hl : l.length ≤ 1125899906842624 := Wf.lenM (hw _ (.head _))
  have hle : ∀ a ∈ l, a.terms.length ≤ 1125899906842624 := fun a ha => Wf.lenI (Wf.elem (hw _ (.head _)) a.av (List.mem_map_of_mem ha) (ints a.terms) (by simp [Atom.av]))
  clear hw
  conv => whnf
  refine loop_rule mixed tab_ok H91 (I := Nat) (fun i => [(.slot 11, iv i), (.slot 10, iv l.length), (.slot 9, .s (sl (.row (l.map Atom.av)))), (.slot 3, .s (.lf (.own (8, 0)))), (.row (8, 0), .r ⟨3, 1, true, (pos (terms (l.take i))).map ielem⟩)]) (fun i => i ≤ l.length) (fun i => l.length - i) (by kernel_rfl) 0 (by omega) (wk_sound (ψ := []) ?_) ?_
  · conv => whnf
    repeat' (first
      | exact trivial
      | (refine ⟨rfl, ?_⟩; (conv => whnf))
      | (refine ⟨fun h => ?_, fun h => ?_⟩ <;> (try simp at h) <;> (try (exfalso; omega)) <;> (conv => whnf))
      | (intro b hb; (conv => whnf))
      | (refine And.intro ?_ ?_; (focus (rw [wrap64 (by omega) (by omega)] <;> rfl)); (conv => whnf))
      | (refine And.intro ?_ (And.intro ?_ (And.intro ?_ (And.intro ?_ ?_))); (focus (first | omega | (rw [wrap64 (by omega) (by omega)] <;> first | omega | rfl) | (simp; omega))); (focus (first | omega | (rw [wrap64 (by omega) (by omega)] <;> first | omega | rfl) | (simp; omega))); (focus (first | omega | (rw [wrap64 (by omega) (by omega)] <;> first | omega | rfl) | (simp; omega))); (focus ((repeat' (first | exact sz_nil | exact sz_map fun _ => rfl | apply sz_take | apply sz_drop | apply sz_append | apply sz_cons rfl)); done)); (conv => whnf))
      | (refine And.intro ?_ (And.intro ?_ ?_); (focus (first | omega | (rw [wrap64 (by omega) (by omega)] <;> first | omega | rfl) | (simp; omega))); (focus ((repeat' (first | exact sz_nil | exact sz_map fun _ => rfl | apply sz_take | apply sz_drop | apply sz_append | apply sz_cons rfl)); done)); (conv => whnf))
      | (refine And.intro ?_ (And.intro ?_ ?_); (focus (first | omega | (rw [wrap64 (by omega) (by omega)] <;> first | omega | rfl) | (simp; omega))); (focus (first | omega | (rw [wrap64 (by omega) (by omega)] <;> first | omega | rfl) | (simp; omega))); (conv => whnf))
      | (refine And.intro ?_ ?_; (focus (simp; done)); (conv => whnf))
      | (rw [beq_g]; (conv => whnf))
      | fail)
  intro i hi
  conv => whnf
  refine ⟨fun hlt => ?_, fun hlt => ?_⟩ <;> (try simp at hlt) <;> (conv => whnf)
  · refine ⟨l[i].av, by omega, map_get (by omega), rfl, ?_⟩
    conv => whnf
    have hb := hle l[i] (List.getElem_mem hlt)
    refine loop_rule mixed tab_ok H91 (I := Nat) (fun k => [(.slot 3, .s (.lf (.own (8, 0)))), (.slot 18, iv k), (.slot 17, iv l[i].terms.length), (.slot 16, .s (sl (ints l[i].terms))), (.slot 11, iv i), (.slot 10, iv l.length), (.slot 9, .s (sl (.row (l.map Atom.av)))), (.row (8, 0), .r ⟨3, 1, true, (pos (terms (l.take i) ++ l[i].terms.take k)).map ielem⟩)]) (fun k => k ≤ l[i].terms.length) (fun k => l[i].terms.length - k) (by kernel_rfl) 0 (by omega) (wk_sound (ψ := []) ?_) ?_
    · conv => whnf
      repeat' (first
        | exact trivial
        | (refine ⟨rfl, ?_⟩; (conv => whnf))
        | (refine ⟨fun h => ?_, fun h => ?_⟩ <;> (try simp at h) <;> (try (exfalso; omega)) <;> (conv => whnf))
        | (intro b hb; (conv => whnf))
        | (refine And.intro ?_ ?_; (focus (rw [wrap64 (by omega) (by omega)] <;> rfl)); (conv => whnf))
        | (refine And.intro ?_ (And.intro ?_ (And.intro ?_ (And.intro ?_ ?_))); (focus (first | omega | (rw [wrap64 (by omega) (by omega)] <;> first | omega | rfl) | (simp; omega))); (focus (first | omega | (rw [wrap64 (by omega) (by omega)] <;> first | omega | rfl) | (simp; omega))); (focus (first | omega | (rw [wrap64 (by omega) (by omega)] <;> first | omega | rfl) | (simp; omega))); (focus ((repeat' (first | exact sz_nil | exact sz_map fun _ => rfl | apply sz_take | apply sz_drop | apply sz_append | apply sz_cons rfl)); done)); (conv => whnf))
        | (refine And.intro ?_ (And.intro ?_ ?_); (focus (first | omega | (rw [wrap64 (by omega) (by omega)] <;> first | omega | rfl) | (simp; omega))); (focus ((repeat' (first | exact sz_nil | exact sz_map fun _ => rfl | apply sz_take | apply sz_drop | apply sz_append | apply sz_cons rfl)); done)); (conv => whnf))
        | (refine And.intro ?_ (And.intro ?_ ?_); (focus (first | omega | (rw [wrap64 (by omega) (by omega)] <;> first | omega | rfl) | (simp; omega))); (focus (first | omega | (rw [wrap64 (by omega) (by omega)] <;> first | omega | rfl) | (simp; omega))); (conv => whnf))
        | (refine And.intro ?_ ?_; (focus (simp; done)); (conv => whnf))
        | (rw [beq_g]; (conv => whnf))
        | fail)
    intro k hk
    have h2 := pos_length (terms (l.take i) ++ l[i].terms.take k)
    have h3 := terms_le (k := k) hlt
    conv => whnf
    repeat' (first
      | exact trivial
      | (refine ⟨rfl, ?_⟩; (conv => whnf))
      | (refine ⟨fun h => ?_, fun h => ?_⟩ <;> (try simp at h) <;> (try (exfalso; omega)) <;> (conv => whnf))
      | (intro b hb; (conv => whnf))
      | (refine And.intro ?_ ?_; (focus (rw [wrap64 (by omega) (by omega)] <;> rfl)); (conv => whnf))
      | (refine ⟨l[i].av, ?_, map_getI ?_ ?_, rfl, ?_⟩; (focus (first | omega | (rw [wrap64 (by omega) (by omega)] <;> first | omega | rfl) | (simp; omega))); (focus (first | rfl | omega | (rw [wrap64 (by omega) (by omega)] <;> first | omega | rfl))); (focus omega); (conv => whnf))
      | (refine ⟨l[i].av, map_getI ?_ ?_, ?_, ?_, ?_⟩; (focus (first | rfl | omega | (rw [wrap64 (by omega) (by omega)] <;> first | omega | rfl))); (focus omega); (focus (simp; done)); (focus (simp; done)); (conv => whnf))
      | (refine ⟨l[i].av, map_getI ?_ ?_, ?_⟩; (focus (first | rfl | omega | (rw [wrap64 (by omega) (by omega)] <;> first | omega | rfl))); (focus omega); (conv => whnf))
      | (refine ⟨[i64 l[i].terms[k]], ?_, map_getI ?_ ?_, rfl, ?_⟩; (focus (first | omega | (rw [wrap64 (by omega) (by omega)] <;> first | omega | rfl) | (simp; omega))); (focus (first | rfl | omega | (rw [wrap64 (by omega) (by omega)] <;> first | omega | rfl))); (focus omega); (conv => whnf))
      | (refine ⟨[i64 l[i].terms[k]], map_getI ?_ ?_, ?_, ?_, ?_⟩; (focus (first | rfl | omega | (rw [wrap64 (by omega) (by omega)] <;> first | omega | rfl))); (focus omega); (focus (simp; done)); (focus (simp; done)); (conv => whnf))
      | (refine ⟨[i64 l[i].terms[k]], map_getI ?_ ?_, ?_⟩; (focus (first | rfl | omega | (rw [wrap64 (by omega) (by omega)] <;> first | omega | rfl))); (focus omega); (conv => whnf))
      | (refine And.intro ?_ (And.intro ?_ (And.intro ?_ (And.intro ?_ ?_))); (focus (first | omega | (rw [wrap64 (by omega) (by omega)] <;> first | omega | rfl) | (simp; omega))); (focus (first | omega | (rw [wrap64 (by omega) (by omega)] <;> first | omega | rfl) | (simp; omega))); (focus (first | omega | (rw [wrap64 (by omega) (by omega)] <;> first | omega | rfl) | (simp; omega))); (focus ((repeat' (first | exact sz_nil | exact sz_map fun _ => rfl | apply sz_take | apply sz_drop | apply sz_append | apply sz_cons rfl)); done)); (conv => whnf))
      | (refine And.intro ?_ (And.intro ?_ ?_); (focus (first | omega | (rw [wrap64 (by omega) (by omega)] <;> first | omega | rfl) | (simp; omega))); (focus ((repeat' (first | exact sz_nil | exact sz_map fun _ => rfl | apply sz_take | apply sz_drop | apply sz_append | apply sz_cons rfl)); done)); (conv => whnf))
      | (refine And.intro ?_ (And.intro ?_ ?_); (focus (first | omega | (rw [wrap64 (by omega) (by omega)] <;> first | omega | rfl) | (simp; omega))); (focus (first | omega | (rw [wrap64 (by omega) (by omega)] <;> first | omega | rfl) | (simp; omega))); (conv => whnf))
      | (refine ⟨k + 1, ?_, ?_, wk_sound (ψ := []) ?_⟩; (focus (omega)); (focus (first | omega | (rw [wrap64 (by omega) (by omega)] <;> first | omega | rfl) | (simp; omega))); (conv => whnf); (fail_if_success show False))
      | (refine ⟨k + 1, ?_, ?_, wk_sound (ψ := [((8, 0), (27, 0))]) ?_⟩; (focus (omega)); (focus (first | omega | (rw [wrap64 (by omega) (by omega)] <;> first | omega | rfl) | (simp; omega))); (conv => whnf); (fail_if_success show False))
      | (refine ⟨i + 1, ?_, ?_, wk_sound (ψ := []) ?_⟩; (focus (omega)); (focus (first | omega | (rw [wrap64 (by omega) (by omega)] <;> first | omega | rfl) | (simp; omega))); (conv => whnf); (fail_if_success show False))
      | (refine And.intro ?_ ?_; (focus (first | (simp; omega) | (rw [take_snoc (by assumption), ← List.append_assoc, pos_snoc, if_pos (by assumption)]; simp; done) | (rw [take_snoc (by assumption), ← List.append_assoc, pos_snoc, if_neg (by omega)]; done) | (have e := List.take_of_length_le (l := l[i].terms) (i := k) (by omega); rw [terms_snoc hlt, e]; done))); (conv => whnf))
      | (rw [beq_g]; (conv => whnf))
      | fail)
  · have e : i = l.length := by omega
    subst e
    have h2 := pos_length (terms l)
    have h3 := sortI_length (pos (terms l))
    rw [List.take_length]
    repeat' (first
      | exact trivial
      | (refine ⟨rfl, ?_⟩; (conv => whnf))
      | (refine ⟨fun h => ?_, fun h => ?_⟩ <;> (try simp at h) <;> (try (exfalso; omega)) <;> (conv => whnf))
      | (intro b hb; (conv => whnf))
      | (refine .inr ⟨rfl, ?_⟩; (conv => whnf); first | (refine ⟨_, _, ctr_SortI (pos (terms l)) (by omega), ?_⟩; (conv => whnf)) | (refine ⟨_, _, ctr_CompactI (sortI (pos (terms l))) (by omega), ?_⟩; (conv => whnf)) | fail)
      | (refine And.intro ?_ ?_; (focus (rw [wrap64 (by omega) (by omega)] <;> rfl)); (conv => whnf))
      | (refine And.intro ?_ (And.intro ?_ (And.intro ?_ (And.intro ?_ ?_))); (focus (first | omega | (rw [wrap64 (by omega) (by omega)] <;> first | omega | rfl) | (simp; omega))); (focus (first | omega | (rw [wrap64 (by omega) (by omega)] <;> first | omega | rfl) | (simp; omega))); (focus (first | omega | (rw [wrap64 (by omega) (by omega)] <;> first | omega | rfl) | (simp; omega))); (focus ((repeat' (first | exact sz_nil | exact sz_map fun _ => rfl | apply sz_take | apply sz_drop | apply sz_append | apply sz_cons rfl)); done)); (conv => whnf))
      | (refine And.intro ?_ (And.intro ?_ ?_); (focus (first | omega | (rw [wrap64 (by omega) (by omega)] <;> first | omega | rfl) | (simp; omega))); (focus ((repeat' (first | exact sz_nil | exact sz_map fun _ => rfl | apply sz_take | apply sz_drop | apply sz_append | apply sz_cons rfl)); done)); (conv => whnf))
      | (refine And.intro ?_ (And.intro ?_ ?_); (focus (first | omega | (rw [wrap64 (by omega) (by omega)] <;> first | omega | rfl) | (simp; omega))); (focus (first | omega | (rw [wrap64 (by omega) (by omega)] <;> first | omega | rfl) | (simp; omega))); (conv => whnf))
      | (refine And.intro ?_ ?_; (focus (rw [comp_sort]; rfl)); (conv => whnf))
      | (rw [beq_g]; (conv => whnf))
      | fail)
def H92 : List (Nat × Hint) := [(0, ⟨[], [0, 3]⟩), (1, ⟨[], [1, 2, 4, 5, 6, 7, 8, 9]⟩)]
set_option maxHeartbeats 4000000 in
set_option maxRecDepth 100000 in
theorem ct_iIsValidDependency1 (rels : List Relation) (a : Atom) (hv : validAtom rels a = true) : Ct Tryz.prog 92 [ag a.av, .lf (.ptr (1, 0) 0)] [(((1, 0), 0), .row (rels.map Relation.av))] (sl (.bool (srcOf rels a.rel))) [] [(((1, 0), 0), .row (rels.map Relation.av))] := by
  refine ct_of_vc mixed tab_ok H92 Tryz.func92 rfl (by kernel_rfl) (by kernel_rfl) (by rfl) ?_
  intro hw _
  clear hw
  obtain ⟨_, hr0, hri, _⟩ := headOk_iff.1 (validAtom_head hv)
  have hsrc := srcOf_eq hri
  conv => whnf
  repeat' (first
    | exact trivial
    | (refine ⟨rfl, ?_⟩; (conv => whnf))
    | (refine ⟨fun h => ?_, fun h => ?_⟩ <;> (try simp at h) <;> (try (exfalso; omega)) <;> (conv => whnf))
    | (intro b hb; (conv => whnf))
    | (refine And.intro ?_ ?_; (focus (rw [wrap64 (by omega) (by omega)] <;> rfl)); (conv => whnf))
    | (refine ⟨rels[a.rel.toNat].av, ?_, map_getI ?_ ?_, rfl, ?_⟩; (focus (first | omega | (rw [wrap64 (by omega) (by omega)] <;> first | omega | rfl) | (simp; omega))); (focus (first | rfl | omega | (rw [wrap64 (by omega) (by omega)] <;> first | omega | rfl))); (focus omega); (conv => whnf))
    | (refine ⟨rels[a.rel.toNat].av, map_getI ?_ ?_, ?_, ?_, ?_⟩; (focus (first | rfl | omega | (rw [wrap64 (by omega) (by omega)] <;> first | omega | rfl))); (focus omega); (focus (simp; done)); (focus (simp; done)); (conv => whnf))
    | (refine ⟨rels[a.rel.toNat].av, map_getI ?_ ?_, ?_⟩; (focus (first | rfl | omega | (rw [wrap64 (by omega) (by omega)] <;> first | omega | rfl))); (focus omega); (conv => whnf))
    | (refine And.intro ?_ (And.intro ?_ (And.intro ?_ (And.intro ?_ ?_))); (focus (first | omega | (rw [wrap64 (by omega) (by omega)] <;> first | omega | rfl) | (simp; omega))); (focus (first | omega | (rw [wrap64 (by omega) (by omega)] <;> first | omega | rfl) | (simp; omega))); (focus (first | omega | (rw [wrap64 (by omega) (by omega)] <;> first | omega | rfl) | (simp; omega))); (focus ((repeat' (first | exact sz_nil | exact sz_map fun _ => rfl | apply sz_take | apply sz_drop | apply sz_append | apply sz_cons rfl)); done)); (conv => whnf))
    | (refine And.intro ?_ (And.intro ?_ ?_); (focus (first | omega | (rw [wrap64 (by omega) (by omega)] <;> first | omega | rfl) | (simp; omega))); (focus ((repeat' (first | exact sz_nil | exact sz_map fun _ => rfl | apply sz_take | apply sz_drop | apply sz_append | apply sz_cons rfl)); done)); (conv => whnf))
    | (refine And.intro ?_ (And.intro ?_ ?_); (focus (first | omega | (rw [wrap64 (by omega) (by omega)] <;> first | omega | rfl) | (simp; omega))); (focus (first | omega | (rw [wrap64 (by omega) (by omega)] <;> first | omega | rfl) | (simp; omega))); (conv => whnf))
    | (refine And.intro ?_ ?_; (focus (rw [hsrc])); (conv => whnf))
    | (rw [beq_g]; (conv => whnf))
    | fail)
theorem atomsOk_all {rels : List Relation} {l : List Atom} {n : Int} (h : atomsOk rels l n = true) : inR l.length 1 n = true ∧ l.all (validAtom rels) = true := by simpa [atomsOk] using h
def H49 : List (Nat × Hint) := [(0, ⟨[], [0, 1, 4]⟩), (1, ⟨[], [3, 7]⟩), (2, ⟨[], [8, 9, 10, 11]⟩), (4, ⟨[], [13]⟩), (5, ⟨[], [15, 16, 17]⟩), (6, ⟨[(false, []), (false, []), (false, []), (false, []), (true, []), (false, []), (false, []), (false, []), (false, []), (false, []), (false, []), (true, []), (false, []), (false, []), (false, []), (false, []), (false, []), (true, []), (false, []), (false, []), (false, []), (false, []), (false, []), (false, [])], [5, 6, 18, 19, 20, 21, 22, 23, 24, 25, 26, 27, 28, 29, 30, 31, 32, 33, 34, 35, 36, 37, 38, 39, 40]⟩), (7, ⟨[(false, []), (false, []), (false, []), (false, []), (true, []), (false, []), (false, []), (false, []), (false, []), (true, []), (false, []), (false, []), (false, []), (false, []), (true, []), (false, []), (false, []), (false, []), (false, []), (false, []), (false, []), (false, [])], [2, 5, 41, 42, 43, 44, 45, 46, 47, 48, 49, 50, 51, 52, 53, 54, 55, 56, 57, 58, 59, 60, 61]⟩)]
set_option maxHeartbeats 4000000 in
set_option maxRecDepth 100000 in
theorem ct_iIsValidDependency (rels : List Relation) (d : Dep) : Ct Tryz.prog 49 [sl (.row (rels.map Relation.av)), ag d.av] [] (sl (.bool (validDep rels d))) [] [] := by
  refine ct_of_vc mixed tab_ok H49 Tryz.func49 rfl (by kernel_rfl) (by kernel_rfl) (by rfl) ?_
  intro hw _
  clear hw
  conv => whnf
  refine .inl ?_
  conv => whnf
  refine ⟨_, _, _, _, ct_iAreAtoms rels d.body 2, ?_⟩
  conv => whnf
  have hv : validDep rels d = (atomsOk rels d.body 2 && restOk rels d) := by simp only [validDep, atomsOk, Bool.and_assoc]
  rw [hv]
  refine ⟨fun ha => ?_, fun ha => ?_⟩ <;> (try simp at ha) <;> (conv => whnf)
  · repeat' (first
      | exact trivial
      | (refine ⟨rfl, ?_⟩; (conv => whnf))
      | (refine ⟨fun h => ?_, fun h => ?_⟩ <;> (try simp at h) <;> (try (exfalso; omega)) <;> (conv => whnf))
      | (intro b hb; (conv => whnf))
      | (refine And.intro ?_ ?_; (focus (rw [wrap64 (by omega) (by omega)] <;> rfl)); (conv => whnf))
      | (refine And.intro ?_ (And.intro ?_ (And.intro ?_ (And.intro ?_ ?_))); (focus (first | omega | (rw [wrap64 (by omega) (by omega)] <;> first | omega | rfl) | (simp; omega))); (focus (first | omega | (rw [wrap64 (by omega) (by omega)] <;> first | omega | rfl) | (simp; omega))); (focus (first | omega | (rw [wrap64 (by omega) (by omega)] <;> first | omega | rfl) | (simp; omega))); (focus ((repeat' (first | exact sz_nil | exact sz_map fun _ => rfl | apply sz_take | apply sz_drop | apply sz_append | apply sz_cons rfl)); done)); (conv => whnf))
      | (refine And.intro ?_ (And.intro ?_ ?_); (focus (first | omega | (rw [wrap64 (by omega) (by omega)] <;> first | omega | rfl) | (simp; omega))); (focus ((repeat' (first | exact sz_nil | exact sz_map fun _ => rfl | apply sz_take | apply sz_drop | apply sz_append | apply sz_cons rfl)); done)); (conv => whnf))
      | (refine And.intro ?_ (And.intro ?_ ?_); (focus (first | omega | (rw [wrap64 (by omega) (by omega)] <;> first | omega | rfl) | (simp; omega))); (focus (first | omega | (rw [wrap64 (by omega) (by omega)] <;> first | omega | rfl) | (simp; omega))); (conv => whnf))
      | (refine And.intro ?_ ?_; (focus (simp [ha])); (conv => whnf))
      | (rw [beq_g]; (conv => whnf))
      | fail)
  have hb := atomsOk_all ha
  have hterm := terms_valid hb.2
  have hn := inR_iff.1 hb.1
  rw [ha, Bool.true_and]
  refine ⟨fun he => ?_, fun he => ?_⟩ <;> (try simp at he) <;> (conv => whnf)
  · rw [restOk_t he]
    repeat' (first
      | exact trivial
      | (refine ⟨rfl, ?_⟩; (conv => whnf))
      | (refine ⟨fun h => ?_, fun h => ?_⟩ <;> (try simp at h) <;> (try (exfalso; omega)) <;> (conv => whnf))
      | (intro b hb; (conv => whnf))
      | (refine .inl ?_; (conv => whnf); first | (refine ⟨_, _, _, _, ct_iVariables d.body (by omega), ?_⟩; (conv => whnf)) | (refine ⟨_, _, _, _, ct_ContainsInt _ _, ?_⟩; (conv => whnf)) | fail)
      | (refine And.intro ?_ ?_; (focus (rw [wrap64 (by omega) (by omega)] <;> rfl)); (conv => whnf))
      | (refine And.intro ?_ (And.intro ?_ (And.intro ?_ (And.intro ?_ ?_))); (focus (first | omega | (rw [wrap64 (by omega) (by omega)] <;> first | omega | rfl) | (simp; omega))); (focus (first | omega | (rw [wrap64 (by omega) (by omega)] <;> first | omega | rfl) | (simp; omega))); (focus (first | omega | (rw [wrap64 (by omega) (by omega)] <;> first | omega | rfl) | (simp; omega))); (focus ((repeat' (first | exact sz_nil | exact sz_map fun _ => rfl | apply sz_take | apply sz_drop | apply sz_append | apply sz_cons rfl)); done)); (conv => whnf))
      | (refine And.intro ?_ (And.intro ?_ ?_); (focus (first | omega | (rw [wrap64 (by omega) (by omega)] <;> first | omega | rfl) | (simp; omega))); (focus ((repeat' (first | exact sz_nil | exact sz_map fun _ => rfl | apply sz_take | apply sz_drop | apply sz_append | apply sz_cons rfl)); done)); (conv => whnf))
      | (refine And.intro ?_ (And.intro ?_ ?_); (focus (first | omega | (rw [wrap64 (by omega) (by omega)] <;> first | omega | rfl) | (simp; omega))); (focus (first | omega | (rw [wrap64 (by omega) (by omega)] <;> first | omega | rfl) | (simp; omega))); (conv => whnf))
      | (refine And.intro ?_ ?_; (focus (refine congrArg AV.bool ?_; simp only [egdOk]; simp_all)); (conv => whnf))
      | (rw [beq_g]; (conv => whnf))
      | fail)
  rw [restOk_f he]
  refine .inl ?_
  conv => whnf
  refine ⟨_, _, _, _, ct_iAreAtoms rels d.head 2, ?_⟩
  conv => whnf
  refine ⟨fun hh => ?_, fun hh => ?_⟩ <;> (try simp at hh) <;> (conv => whnf)
  · have hh2 := atomsOk_all hh
    have e : d.head.all (headAtomOk rels) = !d.head.any (fun a => srcOf rels a.rel) := by
      rw [Bool.eq_iff_iff]
      simp only [List.all_eq_true, headAtomOk, Bool.and_eq_true, Bool.not_eq_true', List.any_eq_false]
      exact ⟨fun h x hx => by simpa using (h x hx).2, fun h x hx => ⟨List.all_eq_true.1 hh2.2 x hx, by simpa using h x hx⟩⟩
    have e2 : tgdOk rels d = (!d.head.any (fun a => srcOf rels a.rel) && (decide (d.left = 0) && decide (d.right = 0))) := by
      simp only [tgdOk, e, hh2.1, Bool.true_and]
    rw [e2]
    repeat' (first
      | exact trivial
      | (refine ⟨rfl, ?_⟩; (conv => whnf))
      | (refine ⟨fun h => ?_, fun h => ?_⟩ <;> (try simp at h) <;> (try (exfalso; omega)) <;> (conv => whnf))
      | (intro b hb; (conv => whnf))
      | (refine .inl ?_; (conv => whnf); first | (refine ⟨_, _, _, _, ct_ContainsFuncAtom d.head (fun a => srcOf rels a.rel) _ (.row (rels.map Relation.av)) (fun a ha => ct_iIsValidDependency1 rels a (List.all_eq_true.1 hh2.2 a ha)), ?_⟩; (conv => whnf)) | fail)
      | (refine And.intro ?_ ?_; (focus (rw [wrap64 (by omega) (by omega)] <;> rfl)); (conv => whnf))
      | (refine And.intro ?_ (And.intro ?_ (And.intro ?_ (And.intro ?_ ?_))); (focus (first | omega | (rw [wrap64 (by omega) (by omega)] <;> first | omega | rfl) | (simp; omega))); (focus (first | omega | (rw [wrap64 (by omega) (by omega)] <;> first | omega | rfl) | (simp; omega))); (focus (first | omega | (rw [wrap64 (by omega) (by omega)] <;> first | omega | rfl) | (simp; omega))); (focus ((repeat' (first | exact sz_nil | exact sz_map fun _ => rfl | apply sz_take | apply sz_drop | apply sz_append | apply sz_cons rfl)); done)); (conv => whnf))
      | (refine And.intro ?_ (And.intro ?_ ?_); (focus (first | omega | (rw [wrap64 (by omega) (by omega)] <;> first | omega | rfl) | (simp; omega))); (focus ((repeat' (first | exact sz_nil | exact sz_map fun _ => rfl | apply sz_take | apply sz_drop | apply sz_append | apply sz_cons rfl)); done)); (conv => whnf))
      | (refine And.intro ?_ (And.intro ?_ ?_); (focus (first | omega | (rw [wrap64 (by omega) (by omega)] <;> first | omega | rfl) | (simp; omega))); (focus (first | omega | (rw [wrap64 (by omega) (by omega)] <;> first | omega | rfl) | (simp; omega))); (conv => whnf))
      | (refine And.intro ?_ ?_; (focus (refine congrArg AV.bool ?_; simp_all)); (conv => whnf))
      | (rw [beq_g]; (conv => whnf))
      | fail)
  · have e2 : tgdOk rels d = false := by
      rw [Bool.eq_false_iff]
      intro h
      simp only [tgdOk, Bool.and_eq_true, List.all_eq_true, headAtomOk] at h
      have : atomsOk rels d.head 2 = true := by
        simp only [atomsOk, Bool.and_eq_true, List.all_eq_true]
        exact ⟨h.2.1, fun x hx => (h.1 x hx).1⟩
      rw [hh] at this; cases this
    rw [e2]
    repeat' (first
      | exact trivial
      | (refine ⟨rfl, ?_⟩; (conv => whnf))
      | (refine ⟨fun h => ?_, fun h => ?_⟩ <;> (try simp at h) <;> (try (exfalso; omega)) <;> (conv => whnf))
      | (intro b hb; (conv => whnf))
      | (refine And.intro ?_ ?_; (focus (rw [wrap64 (by omega) (by omega)] <;> rfl)); (conv => whnf))
      | (refine And.intro ?_ (And.intro ?_ (And.intro ?_ (And.intro ?_ ?_))); (focus (first | omega | (rw [wrap64 (by omega) (by omega)] <;> first | omega | rfl) | (simp; omega))); (focus (first | omega | (rw [wrap64 (by omega) (by omega)] <;> first | omega | rfl) | (simp; omega))); (focus (first | omega | (rw [wrap64 (by omega) (by omega)] <;> first | omega | rfl) | (simp; omega))); (focus ((repeat' (first | exact sz_nil | exact sz_map fun _ => rfl | apply sz_take | apply sz_drop | apply sz_append | apply sz_cons rfl)); done)); (conv => whnf))
      | (refine And.intro ?_ (And.intro ?_ ?_); (focus (first | omega | (rw [wrap64 (by omega) (by omega)] <;> first | omega | rfl) | (simp; omega))); (focus ((repeat' (first | exact sz_nil | exact sz_map fun _ => rfl | apply sz_take | apply sz_drop | apply sz_append | apply sz_cons rfl)); done)); (conv => whnf))
      | (refine And.intro ?_ (And.intro ?_ ?_); (focus (first | omega | (rw [wrap64 (by omega) (by omega)] <;> first | omega | rfl) | (simp; omega))); (focus (first | omega | (rw [wrap64 (by omega) (by omega)] <;> first | omega | rfl) | (simp; omega))); (conv => whnf))
      | (rw [beq_g]; (conv => whnf))
      | fail)
def H113 : List (Nat × Hint) := [(0, ⟨[], [0, 3]⟩), (1, ⟨[], [1, 2, 4, 5, 6, 7]⟩)]
set_option maxHeartbeats 4000000 in
set_option maxRecDepth 100000 in
theorem ct_iAreValidDependencies1 (rels : List Relation) (d : Dep) : Ct Tryz.prog 113 [ag d.av, .lf (.ptr (1, 0) 0)] [(((1, 0), 0), .row (rels.map Relation.av))] (sl (.bool (!validDep rels d))) [] [(((1, 0), 0), .row (rels.map Relation.av))] := by
  refine ct_of_vc mixed tab_ok H113 Tryz.func113 rfl (by kernel_rfl) (by kernel_rfl) (by rfl) ?_
  intro hw _
  clear hw
  conv => whnf
  repeat' (first
    | exact trivial
    | (refine ⟨rfl, ?_⟩; (conv => whnf))
    | (refine ⟨fun h => ?_, fun h => ?_⟩ <;> (try simp at h) <;> (try (exfalso; omega)) <;> (conv => whnf))
    | (intro b hb; (conv => whnf))
    | (refine .inl ?_; (conv => whnf); first | (refine ⟨_, _, _, _, ct_iIsValidDependency rels d, ?_⟩; (conv => whnf)) | fail)
    | (refine And.intro ?_ ?_; (focus (rw [wrap64 (by omega) (by omega)] <;> rfl)); (conv => whnf))
    | (refine And.intro ?_ (And.intro ?_ (And.intro ?_ (And.intro ?_ ?_))); (focus (first | omega | (rw [wrap64 (by omega) (by omega)] <;> first | omega | rfl) | (simp; omega))); (focus (first | omega | (rw [wrap64 (by omega) (by omega)] <;> first | omega | rfl) | (simp; omega))); (focus (first | omega | (rw [wrap64 (by omega) (by omega)] <;> first | omega | rfl) | (simp; omega))); (focus ((repeat' (first | exact sz_nil | exact sz_map fun _ => rfl | apply sz_take | apply sz_drop | apply sz_append | apply sz_cons rfl)); done)); (conv => whnf))
    | (refine And.intro ?_ (And.intro ?_ ?_); (focus (first | omega | (rw [wrap64 (by omega) (by omega)] <;> first | omega | rfl) | (simp; omega))); (focus ((repeat' (first | exact sz_nil | exact sz_map fun _ => rfl | apply sz_take | apply sz_drop | apply sz_append | apply sz_cons rfl)); done)); (conv => whnf))
    | (refine And.intro ?_ (And.intro ?_ ?_); (focus (first | omega | (rw [wrap64 (by omega) (by omega)] <;> first | omega | rfl) | (simp; omega))); (focus (first | omega | (rw [wrap64 (by omega) (by omega)] <;> first | omega | rfl) | (simp; omega))); (conv => whnf))
    | (rw [beq_g]; (conv => whnf))
    | fail)
def H80 : List (Nat × Hint) := [(0, ⟨[], [0, 4]⟩), (1, ⟨[(false, []), (false, []), (true, []), (false, []), (false, []), (false, []), (false, []), (true, []), (false, []), (false, []), (false, []), (false, []), (false, []), (false, [])], [1, 2, 5, 6, 7, 8, 9, 10, 11, 12, 13, 14, 15, 16, 17]⟩)]
set_option maxHeartbeats 4000000 in
set_option maxRecDepth 100000 in
theorem ct_iAreValidDependencies (rels : List Relation) (l : List Dep) : Ct Tryz.prog 80 [sl (.row (rels.map Relation.av)), sl (.row (l.map Dep.av))] [] (sl (.bool (validDeps rels l))) [] [] := by
  refine ct_of_vc mixed tab_ok H80 Tryz.func80 rfl (by kernel_rfl) (by kernel_rfl) (by rfl) ?_
  intro hw _
  clear hw
  conv => whnf
  repeat' (first
    | exact trivial
    | (refine ⟨rfl, ?_⟩; (conv => whnf))
    | (refine ⟨fun h => ?_, fun h => ?_⟩ <;> (try simp at h) <;> (try (exfalso; omega)) <;> (conv => whnf))
    | (intro b hb; (conv => whnf))
    | (refine .inl ?_; (conv => whnf); first | (refine ⟨_, _, _, _, ct_iAreValidRelations rels, ?_⟩; (conv => whnf)) | (refine ⟨_, _, _, _, ct_ContainsFuncDep l (fun d => !validDep rels d) _ (.row (rels.map Relation.av)) (fun d _ => ct_iAreValidDependencies1 rels d), ?_⟩; (conv => whnf)) | fail)
    | (refine And.intro ?_ ?_; (focus (rw [wrap64 (by omega) (by omega)] <;> rfl)); (conv => whnf))
    | (refine And.intro ?_ (And.intro ?_ (And.intro ?_ (And.intro ?_ ?_))); (focus (first | omega | (rw [wrap64 (by omega) (by omega)] <;> first | omega | rfl) | (simp; omega))); (focus (first | omega | (rw [wrap64 (by omega) (by omega)] <;> first | omega | rfl) | (simp; omega))); (focus (first | omega | (rw [wrap64 (by omega) (by omega)] <;> first | omega | rfl) | (simp; omega))); (focus ((repeat' (first | exact sz_nil | exact sz_map fun _ => rfl | apply sz_take | apply sz_drop | apply sz_append | apply sz_cons rfl)); done)); (conv => whnf))
    | (refine And.intro ?_ (And.intro ?_ ?_); (focus (first | omega | (rw [wrap64 (by omega) (by omega)] <;> first | omega | rfl) | (simp; omega))); (focus ((repeat' (first | exact sz_nil | exact sz_map fun _ => rfl | apply sz_take | apply sz_drop | apply sz_append | apply sz_cons rfl)); done)); (conv => whnf))
    | (refine And.intro ?_ (And.intro ?_ ?_); (focus (first | omega | (rw [wrap64 (by omega) (by omega)] <;> first | omega | rfl) | (simp; omega))); (focus (first | omega | (rw [wrap64 (by omega) (by omega)] <;> first | omega | rfl) | (simp; omega))); (conv => whnf))
    | (refine And.intro ?_ ?_; (focus (refine congrArg AV.bool ?_; simp only [validDeps, List.all_eq_not_any_not]; first | (have h5 : l.length ≤ 5 := (by omega); simp [*]; done) | (have h5 : ¬ l.length ≤ 5 := (by omega); simp [*]; done) | (simp [*]; done))); (conv => whnf))
    | (rw [beq_g]; (conv => whnf))
    | fail)
end Go.Proofs.YtccbimcikbbecaaGreat
/- Facts that are valid; nulls. -/
namespace Go.Proofs.YtccbimcikbbecaaGreat
open Go P1
def validFact (rels : List Relation) (f : Fact) : Bool := headOk rels f.rel f.vals.length && f.vals.all validVal
theorem validFact_head {rels : List Relation} {f : Fact} (h : validFact rels f = true) : headOk rels f.rel f.vals.length = true := by
  simp only [validFact, Bool.and_eq_true] at h; exact h.1
theorem headOk_small {rels : List Relation} {r : Int} {n : Nat} (h : headOk rels r n = true) : 1 ≤ n ∧ n ≤ 3 := by
  obtain ⟨h1, _, h3, h4⟩ := headOk_iff.1 h
  have : okAt rels r.toNat = true := by
    simp only [validRels, Bool.and_eq_true, List.all_eq_true, List.mem_range] at h1
    exact h1.1 _ h3
  simp only [okAt, List.getElem?_eq_getElem h3, Bool.and_eq_true] at this
  have h5 := this.1
  unfold validRel at h5
  split at h5
  · simp only [Bool.and_eq_true] at h5
    have := inR_iff.1 h5.2
    omega
  · cases h5
def H121 : List (Nat × Hint) := [(0, ⟨[], [1, 4]⟩), (1, ⟨[(false, []), (false, []), (false, []), (true, []), (false, []), (false, []), (false, [0, 1]), (false, [1, 2]), (false, [2, 3]), (false, []), (false, []), (false, []), (true, []), (false, []), (false, []), (false, []), (false, [0, 1, 2]), (false, [0, 1, 2, 3]), (false, [1, 2, 3, 4]), (false, [3, 4, 5]), (false, [4, 5, 6]), (false, [5, 6, 7]), (false, []), (false, [])], [0, 6, 7, 8, 9, 10, 11, 12, 13, 14, 15, 16, 17, 18, 19, 20, 21, 22, 23, 24, 25, 26, 27, 28]⟩), (4, ⟨[], [30, 31, 32, 33]⟩), (5, ⟨[], [35, 36]⟩), (6, ⟨[], [37, 38, 39, 40, 41, 42]⟩)]
set_option maxHeartbeats 4000000 in
set_option maxRecDepth 100000 in
theorem ct_sIsValidFact (rels : List Relation) (f : Fact) : Ct Tryz.prog 121 [sl (.row (rels.map Relation.av)), ag f.av] [] (sl (.bool (validFact rels f))) [] [] := by
  refine ct_of_vc mixed tab_ok H121 Tryz.func121 rfl (by kernel_rfl) (by kernel_rfl) (by rfl) ?_
  intro hw _
  have hl : rels.length ≤ 1125899906842624 := Wf.lenM (hw _ (.head _)); have hla : f.vals.length ≤ 1125899906842624 := Wf.lenI (hw (ag f.av) (.tail _ (.head _)) (.av (ints f.vals)) (by simp [Fact.av])); clear hw; have hwr : IntKind.i64.wrap (↑(rels.map Relation.av).length - 1) = rels.length - 1 := (by rw [List.length_map]; exact wrap64 (by omega) (by omega))
  conv => whnf
  refine .inl ?_
  conv => whnf
  refine ⟨_, _, _, _, ct_sAreValidRelations rels, ?_⟩
  conv => whnf
  refine ⟨fun h => ?_, fun h => ?_⟩ <;> (try simp at h) <;> (conv => whnf)
  · repeat' (first
      | exact trivial
      | (refine ⟨rfl, ?_⟩; (conv => whnf))
      | (refine ⟨fun h => ?_, fun h => ?_⟩ <;> (try simp at h) <;> (try (exfalso; omega)) <;> (conv => whnf))
      | (intro b hb; (conv => whnf))
      | (refine And.intro ?_ ?_; (focus (rw [wrap64 (by omega) (by omega)] <;> rfl)); (conv => whnf))
      | (refine And.intro ?_ (And.intro ?_ (And.intro ?_ (And.intro ?_ ?_))); (focus (first | omega | (rw [wrap64 (by omega) (by omega)] <;> first | omega | rfl) | (simp; omega))); (focus (first | omega | (rw [wrap64 (by omega) (by omega)] <;> first | omega | rfl) | (simp; omega))); (focus (first | omega | (rw [wrap64 (by omega) (by omega)] <;> first | omega | rfl) | (simp; omega))); (focus ((repeat' (first | exact sz_nil | exact sz_map fun _ => rfl | apply sz_take | apply sz_drop | apply sz_append | apply sz_cons rfl)); done)); (conv => whnf))
      | (refine And.intro ?_ (And.intro ?_ ?_); (focus (first | omega | (rw [wrap64 (by omega) (by omega)] <;> first | omega | rfl) | (simp; omega))); (focus ((repeat' (first | exact sz_nil | exact sz_map fun _ => rfl | apply sz_take | apply sz_drop | apply sz_append | apply sz_cons rfl)); done)); (conv => whnf))
      | (refine And.intro ?_ (And.intro ?_ ?_); (focus (first | omega | (rw [wrap64 (by omega) (by omega)] <;> first | omega | rfl) | (simp; omega))); (focus (first | omega | (rw [wrap64 (by omega) (by omega)] <;> first | omega | rfl) | (simp; omega))); (conv => whnf))
      | (refine And.intro ?_ ?_; (focus (simp [validFact, headOk_not1 h])); (conv => whnf))
      | (rw [beq_g]; (conv => whnf))
      | fail)
  refine .inl ?_
  conv => whnf
  refine ⟨_, _, _, _, ct_l1In _ _ _, ?_⟩
  conv => whnf
  rw [hwr]
  refine ⟨fun h2 => ?_, fun h2 => ?_⟩ <;> (try simp at h2) <;> (conv => whnf)
  · repeat' (first
      | exact trivial
      | (refine ⟨rfl, ?_⟩; (conv => whnf))
      | (refine ⟨fun h => ?_, fun h => ?_⟩ <;> (try simp at h) <;> (try (exfalso; omega)) <;> (conv => whnf))
      | (intro b hb; (conv => whnf))
      | (refine And.intro ?_ ?_; (focus (rw [wrap64 (by omega) (by omega)] <;> rfl)); (conv => whnf))
      | (refine And.intro ?_ (And.intro ?_ (And.intro ?_ (And.intro ?_ ?_))); (focus (first | omega | (rw [wrap64 (by omega) (by omega)] <;> first | omega | rfl) | (simp; omega))); (focus (first | omega | (rw [wrap64 (by omega) (by omega)] <;> first | omega | rfl) | (simp; omega))); (focus (first | omega | (rw [wrap64 (by omega) (by omega)] <;> first | omega | rfl) | (simp; omega))); (focus ((repeat' (first | exact sz_nil | exact sz_map fun _ => rfl | apply sz_take | apply sz_drop | apply sz_append | apply sz_cons rfl)); done)); (conv => whnf))
      | (refine And.intro ?_ (And.intro ?_ ?_); (focus (first | omega | (rw [wrap64 (by omega) (by omega)] <;> first | omega | rfl) | (simp; omega))); (focus ((repeat' (first | exact sz_nil | exact sz_map fun _ => rfl | apply sz_take | apply sz_drop | apply sz_append | apply sz_cons rfl)); done)); (conv => whnf))
      | (refine And.intro ?_ (And.intro ?_ ?_); (focus (first | omega | (rw [wrap64 (by omega) (by omega)] <;> first | omega | rfl) | (simp; omega))); (focus (first | omega | (rw [wrap64 (by omega) (by omega)] <;> first | omega | rfl) | (simp; omega))); (conv => whnf))
      | (refine And.intro ?_ ?_; (focus (simp [validFact, headOk_not2 h2])); (conv => whnf))
      | (rw [beq_g]; (conv => whnf))
      | fail)
  have h3 := inR_iff.1 h2
  have hi : f.rel.toNat < rels.length := by omega
  have hh := headOk_eq (n := f.vals.length) h h2 hi
  repeat' (first
    | exact trivial
    | (refine ⟨rfl, ?_⟩; (conv => whnf))
    | (refine ⟨fun h => ?_, fun h => ?_⟩ <;> (try simp at h) <;> (try (exfalso; omega)) <;> (conv => whnf))
    | (intro b hb; (conv => whnf))
    | (refine And.intro ?_ ?_; (focus (rw [wrap64 (by omega) (by omega)] <;> rfl)); (conv => whnf))
    | (refine ⟨rels[f.rel.toNat].av, ?_, map_getI ?_ ?_, rfl, ?_⟩; (focus (first | omega | (rw [wrap64 (by omega) (by omega)] <;> first | omega | rfl) | (simp; omega))); (focus (first | rfl | omega | (rw [wrap64 (by omega) (by omega)] <;> first | omega | rfl))); (focus omega); (conv => whnf))
    | (refine ⟨rels[f.rel.toNat].av, map_getI ?_ ?_, ?_, ?_, ?_⟩; (focus (first | rfl | omega | (rw [wrap64 (by omega) (by omega)] <;> first | omega | rfl))); (focus omega); (focus (simp; done)); (focus (simp; done)); (conv => whnf))
    | (refine ⟨rels[f.rel.toNat].av, map_getI ?_ ?_, ?_⟩; (focus (first | rfl | omega | (rw [wrap64 (by omega) (by omega)] <;> first | omega | rfl))); (focus omega); (conv => whnf))
    | (refine And.intro ?_ (And.intro ?_ (And.intro ?_ (And.intro ?_ ?_))); (focus (first | omega | (rw [wrap64 (by omega) (by omega)] <;> first | omega | rfl) | (simp; omega))); (focus (first | omega | (rw [wrap64 (by omega) (by omega)] <;> first | omega | rfl) | (simp; omega))); (focus (first | omega | (rw [wrap64 (by omega) (by omega)] <;> first | omega | rfl) | (simp; omega))); (focus ((repeat' (first | exact sz_nil | exact sz_map fun _ => rfl | apply sz_take | apply sz_drop | apply sz_append | apply sz_cons rfl)); done)); (conv => whnf))
    | (refine And.intro ?_ (And.intro ?_ ?_); (focus (first | omega | (rw [wrap64 (by omega) (by omega)] <;> first | omega | rfl) | (simp; omega))); (focus ((repeat' (first | exact sz_nil | exact sz_map fun _ => rfl | apply sz_take | apply sz_drop | apply sz_append | apply sz_cons rfl)); done)); (conv => whnf))
    | (refine And.intro ?_ (And.intro ?_ ?_); (focus (first | omega | (rw [wrap64 (by omega) (by omega)] <;> first | omega | rfl) | (simp; omega))); (focus (first | omega | (rw [wrap64 (by omega) (by omega)] <;> first | omega | rfl) | (simp; omega))); (conv => whnf))
    | (refine And.intro ?_ ?_; (focus ((simp [validFact, hh]; simp_all))); (conv => whnf))
    | (rw [beq_g]; (conv => whnf))
    | fail)
  have hv : validFact rels f = f.vals.all validVal := by simp only [validFact, hh]; simp [h]
  rw [hv]
  refine loop_rule mixed tab_ok H121 (I := Nat) (fun i => [(.slot 5, iv i), (.slot 3, .s (.lf (.ptr (3, 0) 0))), (.leaf (3, 0) 0, .l (.av (i64 f.rel))), (.leaf (3, 0) 1, .l (.av (ints f.vals)))]) (fun i => i ≤ f.vals.length ∧ (f.vals.take i).all validVal = true) (fun i => f.vals.length - i) (by kernel_rfl) 0 (by simp) (wk_sound (ψ := []) ?_) ?_
  · conv => whnf
    repeat' (first
      | exact trivial
      | (refine ⟨rfl, ?_⟩; (conv => whnf))
      | (refine ⟨fun h => ?_, fun h => ?_⟩ <;> (try simp at h) <;> (try (exfalso; omega)) <;> (conv => whnf))
      | (intro b hb; (conv => whnf))
      | (refine And.intro ?_ ?_; (focus (rw [wrap64 (by omega) (by omega)] <;> rfl)); (conv => whnf))
      | (refine And.intro ?_ (And.intro ?_ (And.intro ?_ (And.intro ?_ ?_))); (focus (first | omega | (rw [wrap64 (by omega) (by omega)] <;> first | omega | rfl) | (simp; omega))); (focus (first | omega | (rw [wrap64 (by omega) (by omega)] <;> first | omega | rfl) | (simp; omega))); (focus (first | omega | (rw [wrap64 (by omega) (by omega)] <;> first | omega | rfl) | (simp; omega))); (focus ((repeat' (first | exact sz_nil | exact sz_map fun _ => rfl | apply sz_take | apply sz_drop | apply sz_append | apply sz_cons rfl)); done)); (conv => whnf))
      | (refine And.intro ?_ (And.intro ?_ ?_); (focus (first | omega | (rw [wrap64 (by omega) (by omega)] <;> first | omega | rfl) | (simp; omega))); (focus ((repeat' (first | exact sz_nil | exact sz_map fun _ => rfl | apply sz_take | apply sz_drop | apply sz_append | apply sz_cons rfl)); done)); (conv => whnf))
      | (refine And.intro ?_ (And.intro ?_ ?_); (focus (first | omega | (rw [wrap64 (by omega) (by omega)] <;> first | omega | rfl) | (simp; omega))); (focus (first | omega | (rw [wrap64 (by omega) (by omega)] <;> first | omega | rfl) | (simp; omega))); (conv => whnf))
      | (rw [beq_g]; (conv => whnf))
      | fail)
  · rintro i ⟨hi1, hi2⟩
    conv => whnf
    repeat' (first
      | exact trivial
      | (refine ⟨rfl, ?_⟩; (conv => whnf))
      | (refine ⟨fun h => ?_, fun h => ?_⟩ <;> (try simp at h) <;> (try (exfalso; omega)) <;> (conv => whnf))
      | (intro b hb; (conv => whnf))
      | (refine .inl ?_; (conv => whnf); first | (refine ⟨_, _, _, _, ct_sIsValidValue _, ?_⟩; (conv => whnf)) | fail)
      | (refine And.intro ?_ ?_; (focus (rw [wrap64 (by omega) (by omega)] <;> rfl)); (conv => whnf))
      | (refine ⟨[i64 f.vals[i]], ?_, map_getI ?_ ?_, rfl, ?_⟩; (focus (first | omega | (rw [wrap64 (by omega) (by omega)] <;> first | omega | rfl) | (simp; omega))); (focus (first | rfl | omega | (rw [wrap64 (by omega) (by omega)] <;> first | omega | rfl))); (focus omega); (conv => whnf))
      | (refine ⟨[i64 f.vals[i]], map_getI ?_ ?_, ?_, ?_, ?_⟩; (focus (first | rfl | omega | (rw [wrap64 (by omega) (by omega)] <;> first | omega | rfl))); (focus omega); (focus (simp; done)); (focus (simp; done)); (conv => whnf))
      | (refine ⟨[i64 f.vals[i]], map_getI ?_ ?_, ?_⟩; (focus (first | rfl | omega | (rw [wrap64 (by omega) (by omega)] <;> first | omega | rfl))); (focus omega); (conv => whnf))
      | (refine And.intro ?_ (And.intro ?_ (And.intro ?_ (And.intro ?_ ?_))); (focus (first | omega | (rw [wrap64 (by omega) (by omega)] <;> first | omega | rfl) | (simp; omega))); (focus (first | omega | (rw [wrap64 (by omega) (by omega)] <;> first | omega | rfl) | (simp; omega))); (focus (first | omega | (rw [wrap64 (by omega) (by omega)] <;> first | omega | rfl) | (simp; omega))); (focus ((repeat' (first | exact sz_nil | exact sz_map fun _ => rfl | apply sz_take | apply sz_drop | apply sz_append | apply sz_cons rfl)); done)); (conv => whnf))
      | (refine And.intro ?_ (And.intro ?_ ?_); (focus (first | omega | (rw [wrap64 (by omega) (by omega)] <;> first | omega | rfl) | (simp; omega))); (focus ((repeat' (first | exact sz_nil | exact sz_map fun _ => rfl | apply sz_take | apply sz_drop | apply sz_append | apply sz_cons rfl)); done)); (conv => whnf))
      | (refine And.intro ?_ (And.intro ?_ ?_); (focus (first | omega | (rw [wrap64 (by omega) (by omega)] <;> first | omega | rfl) | (simp; omega))); (focus (first | omega | (rw [wrap64 (by omega) (by omega)] <;> first | omega | rfl) | (simp; omega))); (conv => whnf))
      | (refine ⟨i + 1, ?_, ?_, wk_sound (ψ := []) ?_⟩; (focus (exact ⟨by omega, all_next (by assumption) hi2 (by assumption)⟩)); (focus (first | omega | (rw [wrap64 (by omega) (by omega)] <;> first | omega | rfl) | (simp; omega))); (conv => whnf); (fail_if_success show False))
      | (refine And.intro ?_ ?_; (focus (first | (rw [all_bad (by assumption) (by assumption)]; done) | (rw [all_end (by assumption) hi2]; done))); (conv => whnf))
      | (rw [beq_g]; (conv => whnf))
      | fail)
def H161 : List (Nat × Hint) := [(0, ⟨[], [2]⟩), (1, ⟨[], [0, 3, 4, 5]⟩)]
set_option maxHeartbeats 4000000 in
set_option maxRecDepth 100000 in
theorem ct_iIsValidFact1 (t : Int) : Ct Tryz.prog 161 [sl (i64 t)] [] (sl (.bool (!validVal t))) [] [] := by
  refine ct_of_vc mixed tab_ok H161 Tryz.func161 rfl (by kernel_rfl) (by kernel_rfl) (by rfl) ?_
  intro hw _
  conv => whnf
  repeat' (first
    | exact trivial
    | (refine ⟨rfl, ?_⟩; (conv => whnf))
    | (refine ⟨fun h => ?_, fun h => ?_⟩ <;> (try simp at h) <;> (try (exfalso; omega)) <;> (conv => whnf))
    | (intro b hb; (conv => whnf))
    | (refine .inl ?_; (conv => whnf); first | (refine ⟨_, _, _, _, ct_iIsValidValue _, ?_⟩; (conv => whnf)) | fail)
    | (refine And.intro ?_ ?_; (focus (rw [wrap64 (by omega) (by omega)] <;> rfl)); (conv => whnf))
    | (refine And.intro ?_ (And.intro ?_ (And.intro ?_ (And.intro ?_ ?_))); (focus (first | omega | (rw [wrap64 (by omega) (by omega)] <;> first | omega | rfl) | (simp; omega))); (focus (first | omega | (rw [wrap64 (by omega) (by omega)] <;> first | omega | rfl) | (simp; omega))); (focus (first | omega | (rw [wrap64 (by omega) (by omega)] <;> first | omega | rfl) | (simp; omega))); (focus ((repeat' (first | exact sz_nil | exact sz_map fun _ => rfl | apply sz_take | apply sz_drop | apply sz_append | apply sz_cons rfl)); done)); (conv => whnf))
    | (refine And.intro ?_ (And.intro ?_ ?_); (focus (first | omega | (rw [wrap64 (by omega) (by omega)] <;> first | omega | rfl) | (simp; omega))); (focus ((repeat' (first | exact sz_nil | exact sz_map fun _ => rfl | apply sz_take | apply sz_drop | apply sz_append | apply sz_cons rfl)); done)); (conv => whnf))
    | (refine And.intro ?_ (And.intro ?_ ?_); (focus (first | omega | (rw [wrap64 (by omega) (by omega)] <;> first | omega | rfl) | (simp; omega))); (focus (first | omega | (rw [wrap64 (by omega) (by omega)] <;> first | omega | rfl) | (simp; omega))); (conv => whnf))
    | (rw [beq_g]; (conv => whnf))
    | fail)
def H133 : List (Nat × Hint) := [(0, ⟨[], [1, 4]⟩), (1, ⟨[(false, []), (false, []), (false, []), (true, []), (false, []), (false, []), (false, [0, 1]), (false, [1, 2]), (false, [2, 3]), (false, []), (false, []), (false, []), (true, []), (false, []), (false, []), (false, []), (false, [0, 1, 2]), (false, [0, 1, 2, 3]), (false, [1, 2, 3, 4]), (false, [3, 4, 5]), (false, [4, 5, 6]), (false, [5, 6, 7]), (false, []), (false, [])], [0, 5, 6, 7, 8, 9, 10, 11, 12, 13, 14, 15, 16, 17, 18, 19, 20, 21, 22, 23, 24, 25, 26, 27]⟩), (3, ⟨[], [3, 29, 30, 31, 32]⟩)]
set_option maxHeartbeats 4000000 in
set_option maxRecDepth 100000 in
theorem ct_iIsValidFact (rels : List Relation) (f : Fact) : Ct Tryz.prog 133 [sl (.row (rels.map Relation.av)), ag f.av] [] (sl (.bool (validFact rels f))) [] [] := by
  refine ct_of_vc mixed tab_ok H133 Tryz.func133 rfl (by kernel_rfl) (by kernel_rfl) (by rfl) ?_
  intro hw _
  have hl : rels.length ≤ 1125899906842624 := Wf.lenM (hw _ (.head _)); have hla : f.vals.length ≤ 1125899906842624 := Wf.lenI (hw (ag f.av) (.tail _ (.head _)) (.av (ints f.vals)) (by simp [Fact.av])); clear hw; have hwr : IntKind.i64.wrap (↑(rels.map Relation.av).length - 1) = rels.length - 1 := (by rw [List.length_map]; exact wrap64 (by omega) (by omega))
  conv => whnf
  refine .inl ?_
  conv => whnf
  refine ⟨_, _, _, _, ct_iAreValidRelations rels, ?_⟩
  conv => whnf
  refine ⟨fun h => ?_, fun h => ?_⟩ <;> (try simp at h) <;> (conv => whnf)
  · repeat' (first
      | exact trivial
      | (refine ⟨rfl, ?_⟩; (conv => whnf))
      | (refine ⟨fun h => ?_, fun h => ?_⟩ <;> (try simp at h) <;> (try (exfalso; omega)) <;> (conv => whnf))
      | (intro b hb; (conv => whnf))
      | (refine And.intro ?_ ?_; (focus (rw [wrap64 (by omega) (by omega)] <;> rfl)); (conv => whnf))
      | (refine And.intro ?_ (And.intro ?_ (And.intro ?_ (And.intro ?_ ?_))); (focus (first | omega | (rw [wrap64 (by omega) (by omega)] <;> first | omega | rfl) | (simp; omega))); (focus (first | omega | (rw [wrap64 (by omega) (by omega)] <;> first | omega | rfl) | (simp; omega))); (focus (first | omega | (rw [wrap64 (by omega) (by omega)] <;> first | omega | rfl) | (simp; omega))); (focus ((repeat' (first | exact sz_nil | exact sz_map fun _ => rfl | apply sz_take | apply sz_drop | apply sz_append | apply sz_cons rfl)); done)); (conv => whnf))
      | (refine And.intro ?_ (And.intro ?_ ?_); (focus (first | omega | (rw [wrap64 (by omega) (by omega)] <;> first | omega | rfl) | (simp; omega))); (focus ((repeat' (first | exact sz_nil | exact sz_map fun _ => rfl | apply sz_take | apply sz_drop | apply sz_append | apply sz_cons rfl)); done)); (conv => whnf))
      | (refine And.intro ?_ (And.intro ?_ ?_); (focus (first | omega | (rw [wrap64 (by omega) (by omega)] <;> first | omega | rfl) | (simp; omega))); (focus (first | omega | (rw [wrap64 (by omega) (by omega)] <;> first | omega | rfl) | (simp; omega))); (conv => whnf))
      | (refine And.intro ?_ ?_; (focus (simp [validFact, headOk_not1 h])); (conv => whnf))
      | (rw [beq_g]; (conv => whnf))
      | fail)
  refine .inl ?_
  conv => whnf
  refine ⟨_, _, _, _, ct_within _ _ _, ?_⟩
  conv => whnf
  rw [hwr]
  refine ⟨fun h2 => ?_, fun h2 => ?_⟩ <;> (try simp at h2) <;> (conv => whnf)
  · repeat' (first
      | exact trivial
      | (refine ⟨rfl, ?_⟩; (conv => whnf))
      | (refine ⟨fun h => ?_, fun h => ?_⟩ <;> (try simp at h) <;> (try (exfalso; omega)) <;> (conv => whnf))
      | (intro b hb; (conv => whnf))
      | (refine And.intro ?_ ?_; (focus (rw [wrap64 (by omega) (by omega)] <;> rfl)); (conv => whnf))
      | (refine And.intro ?_ (And.intro ?_ (And.intro ?_ (And.intro ?_ ?_))); (focus (first | omega | (rw [wrap64 (by omega) (by omega)] <;> first | omega | rfl) | (simp; omega))); (focus (first | omega | (rw [wrap64 (by omega) (by omega)] <;> first | omega | rfl) | (simp; omega))); (focus (first | omega | (rw [wrap64 (by omega) (by omega)] <;> first | omega | rfl) | (simp; omega))); (focus ((repeat' (first | exact sz_nil | exact sz_map fun _ => rfl | apply sz_take | apply sz_drop | apply sz_append | apply sz_cons rfl)); done)); (conv => whnf))
      | (refine And.intro ?_ (And.intro ?_ ?_); (focus (first | omega | (rw [wrap64 (by omega) (by omega)] <;> first | omega | rfl) | (simp; omega))); (focus ((repeat' (first | exact sz_nil | exact sz_map fun _ => rfl | apply sz_take | apply sz_drop | apply sz_append | apply sz_cons rfl)); done)); (conv => whnf))
      | (refine And.intro ?_ (And.intro ?_ ?_); (focus (first | omega | (rw [wrap64 (by omega) (by omega)] <;> first | omega | rfl) | (simp; omega))); (focus (first | omega | (rw [wrap64 (by omega) (by omega)] <;> first | omega | rfl) | (simp; omega))); (conv => whnf))
      | (refine And.intro ?_ ?_; (focus (simp [validFact, headOk_not2 h2])); (conv => whnf))
      | (rw [beq_g]; (conv => whnf))
      | fail)
  have h3 := inR_iff.1 h2
  have hi : f.rel.toNat < rels.length := by omega
  have hh := headOk_eq (n := f.vals.length) h h2 hi
  repeat' (first
    | exact trivial
    | (refine ⟨rfl, ?_⟩; (conv => whnf))
    | (refine ⟨fun h => ?_, fun h => ?_⟩ <;> (try simp at h) <;> (try (exfalso; omega)) <;> (conv => whnf))
    | (intro b hb; (conv => whnf))
    | (refine .inl ?_; (conv => whnf); first | (refine ⟨_, _, _, _, ct_ContainsFuncInt f.vals (fun t => !validVal t) _ (fun t _ => ct_iIsValidFact1 t), ?_⟩; (conv => whnf)) | fail)
    | (refine And.intro ?_ ?_; (focus (rw [wrap64 (by omega) (by omega)] <;> rfl)); (conv => whnf))
    | (refine ⟨rels[f.rel.toNat].av, ?_, map_getI ?_ ?_, rfl, ?_⟩; (focus (first | omega | (rw [wrap64 (by omega) (by omega)] <;> first | omega | rfl) | (simp; omega))); (focus (first | rfl | omega | (rw [wrap64 (by omega) (by omega)] <;> first | omega | rfl))); (focus omega); (conv => whnf))
    | (refine ⟨rels[f.rel.toNat].av, map_getI ?_ ?_, ?_, ?_, ?_⟩; (focus (first | rfl | omega | (rw [wrap64 (by omega) (by omega)] <;> first | omega | rfl))); (focus omega); (focus (simp; done)); (focus (simp; done)); (conv => whnf))
    | (refine ⟨rels[f.rel.toNat].av, map_getI ?_ ?_, ?_⟩; (focus (first | rfl | omega | (rw [wrap64 (by omega) (by omega)] <;> first | omega | rfl))); (focus omega); (conv => whnf))
    | (refine And.intro ?_ (And.intro ?_ (And.intro ?_ (And.intro ?_ ?_))); (focus (first | omega | (rw [wrap64 (by omega) (by omega)] <;> first | omega | rfl) | (simp; omega))); (focus (first | omega | (rw [wrap64 (by omega) (by omega)] <;> first | omega | rfl) | (simp; omega))); (focus (first | omega | (rw [wrap64 (by omega) (by omega)] <;> first | omega | rfl) | (simp; omega))); (focus ((repeat' (first | exact sz_nil | exact sz_map fun _ => rfl | apply sz_take | apply sz_drop | apply sz_append | apply sz_cons rfl)); done)); (conv => whnf))
    | (refine And.intro ?_ (And.intro ?_ ?_); (focus (first | omega | (rw [wrap64 (by omega) (by omega)] <;> first | omega | rfl) | (simp; omega))); (focus ((repeat' (first | exact sz_nil | exact sz_map fun _ => rfl | apply sz_take | apply sz_drop | apply sz_append | apply sz_cons rfl)); done)); (conv => whnf))
    | (refine And.intro ?_ (And.intro ?_ ?_); (focus (first | omega | (rw [wrap64 (by omega) (by omega)] <;> first | omega | rfl) | (simp; omega))); (focus (first | omega | (rw [wrap64 (by omega) (by omega)] <;> first | omega | rfl) | (simp; omega))); (conv => whnf))
    | (refine And.intro ?_ ?_; (focus (refine congrArg AV.bool ?_; simp only [validFact, hh]; first | (simp_all; done) | (rw [Bool.eq_iff_iff]; simp_all))); (conv => whnf))
    | (rw [beq_g]; (conv => whnf))
    | fail)
def noOf (l : List Int) : List Int := (l.filter isNo).map fun v => -1 - v
def nulls (l : List Int) : List Int := putAll (noOf l)
theorem noOf_snoc (l : List Int) (x : Int) : noOf (l ++ [x]) = if isNo x then noOf l ++ [-1 - x] else noOf l := by
  simp only [noOf, List.filter_append, List.filter_cons, List.filter_nil]
  by_cases h : isNo x = true <;> simp [h]
theorem noOf_length (l : List Int) : (noOf l).length ≤ l.length := by simp only [noOf, List.length_map]; exact List.length_filter_le _ _
theorem noOf_append (l m : List Int) : noOf (l ++ m) = noOf l ++ noOf m := by simp [noOf]
theorem nullNo_eq {v : Int} (h : isNo v = true) : nullNo v = -1 - v := by simp [nullNo, h]
def H123 : List (Nat × Hint) := [(0, ⟨[], [0, 2]⟩), (1, ⟨[], [7]⟩), (3, ⟨[], [8, 9, 10, 11]⟩), (4, ⟨[], [13, 14]⟩), (5, ⟨[], [15, 16, 17, 18, 19, 20, 21, 22, 23]⟩), (6, ⟨[], [6]⟩), (7, ⟨[], [5, 25, 26, 27]⟩), (8, ⟨[], [3, 28]⟩)]
set_option maxHeartbeats 4000000 in
set_option maxRecDepth 100000 in
theorem ct_sNullsOfFact (f : Fact) (hn : f.vals.length ≤ 1000000) : Ct Tryz.prog 123 [ag f.av] [] (sl (ints (nulls f.vals))) [] [] := by
  refine ct_of_vc mixed tab_ok H123 Tryz.func123 rfl (by kernel_rfl) (by kernel_rfl) (by rfl) ?_
  intro hw _
  clear hw
  conv => whnf
  refine loop_rule mixed tab_ok H123 (I := Nat) (fun i => [(.slot 4, iv i), (.slot 1, .s (.lf (.ptr (1, 0) 0))), (.leaf (1, 0) 0, .l (.av (i64 f.rel))), (.leaf (1, 0) 1, .l (.av (ints f.vals))), (.slot 3, .s (sl (ints (putAll (noOf (f.vals.take i))))))]) (fun i => i ≤ f.vals.length) (fun i => f.vals.length - i) (by kernel_rfl) 0 (by omega) (wk_sound (ψ := []) ?_) ?_
  · conv => whnf
    repeat' (first
      | exact trivial
      | (refine ⟨rfl, ?_⟩; (conv => whnf))
      | (refine ⟨fun h => ?_, fun h => ?_⟩ <;> (try simp at h) <;> (try (exfalso; omega)) <;> (conv => whnf))
      | (intro b hb; (conv => whnf))
      | (refine And.intro ?_ ?_; (focus (rw [wrap64 (by omega) (by omega)] <;> rfl)); (conv => whnf))
      | (refine And.intro ?_ (And.intro ?_ (And.intro ?_ (And.intro ?_ ?_))); (focus (first | omega | (rw [wrap64 (by omega) (by omega)] <;> first | omega | rfl) | (simp; omega))); (focus (first | omega | (rw [wrap64 (by omega) (by omega)] <;> first | omega | rfl) | (simp; omega))); (focus (first | omega | (rw [wrap64 (by omega) (by omega)] <;> first | omega | rfl) | (simp; omega))); (focus ((repeat' (first | exact sz_nil | exact sz_map fun _ => rfl | apply sz_take | apply sz_drop | apply sz_append | apply sz_cons rfl)); done)); (conv => whnf))
      | (refine And.intro ?_ (And.intro ?_ ?_); (focus (first | omega | (rw [wrap64 (by omega) (by omega)] <;> first | omega | rfl) | (simp; omega))); (focus ((repeat' (first | exact sz_nil | exact sz_map fun _ => rfl | apply sz_take | apply sz_drop | apply sz_append | apply sz_cons rfl)); done)); (conv => whnf))
      | (refine And.intro ?_ (And.intro ?_ ?_); (focus (first | omega | (rw [wrap64 (by omega) (by omega)] <;> first | omega | rfl) | (simp; omega))); (focus (first | omega | (rw [wrap64 (by omega) (by omega)] <;> first | omega | rfl) | (simp; omega))); (conv => whnf))
      | (rw [beq_g]; (conv => whnf))
      | fail)
  intro i hi
  have h1 := putAll_length (noOf (f.vals.take i))
  have h2 := noOf_length (f.vals.take i)
  have h3 : (f.vals.take i).length ≤ i := by simp; omega
  conv => whnf
  repeat' (first
    | exact trivial
    | (refine ⟨rfl, ?_⟩; (conv => whnf))
    | (refine ⟨fun h => ?_, fun h => ?_⟩ <;> (try simp at h) <;> (try (exfalso; omega)) <;> (conv => whnf))
    | (intro b hb; (conv => whnf))
    | (refine .inl ?_; (conv => whnf); first | (refine ⟨_, _, _, _, ct_sNullNumber _, ?_⟩; (conv => whnf)) | (refine ⟨_, _, _, _, ct_l4Put _ _ (by omega), ?_⟩; (conv => whnf)) | fail)
    | (refine And.intro ?_ ?_; (focus (rw [wrap64 (by omega) (by omega)] <;> rfl)); (conv => whnf))
    | (refine ⟨[i64 f.vals[i]], ?_, map_getI ?_ ?_, rfl, ?_⟩; (focus (first | omega | (rw [wrap64 (by omega) (by omega)] <;> first | omega | rfl) | (simp; omega))); (focus (first | rfl | omega | (rw [wrap64 (by omega) (by omega)] <;> first | omega | rfl))); (focus omega); (conv => whnf))
    | (refine ⟨[i64 f.vals[i]], map_getI ?_ ?_, ?_, ?_, ?_⟩; (focus (first | rfl | omega | (rw [wrap64 (by omega) (by omega)] <;> first | omega | rfl))); (focus omega); (focus (simp; done)); (focus (simp; done)); (conv => whnf))
    | (refine ⟨[i64 f.vals[i]], map_getI ?_ ?_, ?_⟩; (focus (first | rfl | omega | (rw [wrap64 (by omega) (by omega)] <;> first | omega | rfl))); (focus omega); (conv => whnf))
    | (refine And.intro ?_ (And.intro ?_ (And.intro ?_ (And.intro ?_ ?_))); (focus (first | omega | (rw [wrap64 (by omega) (by omega)] <;> first | omega | rfl) | (simp; omega))); (focus (first | omega | (rw [wrap64 (by omega) (by omega)] <;> first | omega | rfl) | (simp; omega))); (focus (first | omega | (rw [wrap64 (by omega) (by omega)] <;> first | omega | rfl) | (simp; omega))); (focus ((repeat' (first | exact sz_nil | exact sz_map fun _ => rfl | apply sz_take | apply sz_drop | apply sz_append | apply sz_cons rfl)); done)); (conv => whnf))
    | (refine And.intro ?_ (And.intro ?_ ?_); (focus (first | omega | (rw [wrap64 (by omega) (by omega)] <;> first | omega | rfl) | (simp; omega))); (focus ((repeat' (first | exact sz_nil | exact sz_map fun _ => rfl | apply sz_take | apply sz_drop | apply sz_append | apply sz_cons rfl)); done)); (conv => whnf))
    | (refine And.intro ?_ (And.intro ?_ ?_); (focus (first | omega | (rw [wrap64 (by omega) (by omega)] <;> first | omega | rfl) | (simp; omega))); (focus (first | omega | (rw [wrap64 (by omega) (by omega)] <;> first | omega | rfl) | (simp; omega))); (conv => whnf))
    | (refine ⟨i + 1, ?_, ?_, wk_sound (ψ := []) ?_⟩; (focus (omega)); (focus (first | omega | (rw [wrap64 (by omega) (by omega)] <;> first | omega | rfl) | (simp; omega))); (conv => whnf); (fail_if_success show False))
    | (refine And.intro ?_ ?_; (focus (first | (refine congrArg ints ?_; first | (rw [take_snoc (by assumption), noOf_snoc, if_pos (by assumption), putAll_snoc, nullNo_eq (by assumption)]; done) | (rw [take_snoc (by assumption), noOf_snoc, if_neg (by simp_all)]; done)) | (rw [List.take_of_length_le (by omega)]; rfl))); (conv => whnf))
    | (rw [beq_g]; (conv => whnf))
    | fail)
def H166 : List (Nat × Hint) := [(0, ⟨[], [2]⟩), (1, ⟨[], [8]⟩), (2, ⟨[], [0]⟩), (4, ⟨[], [13, 14]⟩), (5, ⟨[], [5, 15, 16, 17, 18, 19]⟩), (6, ⟨[], [7]⟩), (7, ⟨[], [6, 21, 22, 23, 24]⟩), (8, ⟨[], [25]⟩), (9, ⟨[], [26, 27]⟩), (10, ⟨[], [3, 28, 29]⟩)]
set_option maxHeartbeats 4000000 in
set_option maxRecDepth 100000 in
theorem ct_nullsOf (l : List Int) (hn : l.length ≤ 1000000) : Ct Tryz.prog 166 [sl (ints l)] [] (sl (ints (nulls l))) [] [] := by
  refine ct_of_vc mixed tab_ok H166 Tryz.func166 rfl (by kernel_rfl) (by kernel_rfl) (by rfl) ?_
  intro hw _
  clear hw
  conv => whnf
  refine loop_rule mixed tab_ok H166 (I := Nat) (fun i => [(.slot 3, .s (.lf (.own (8, 0)))), (.slot 11, iv i), (.slot 10, iv l.length), (.slot 9, .s (sl (ints l))), (.row (8, 0), .r ⟨3, 1, true, (noOf (l.take i)).map ielem⟩)]) (fun i => i ≤ l.length) (fun i => l.length - i) (by kernel_rfl) 0 (by omega) (wk_sound (ψ := []) ?_) ?_
  · conv => whnf
    repeat' (first
      | exact trivial
      | (refine ⟨rfl, ?_⟩; (conv => whnf))
      | (refine ⟨fun h => ?_, fun h => ?_⟩ <;> (try simp at h) <;> (try (exfalso; omega)) <;> (conv => whnf))
      | (intro b hb; (conv => whnf))
      | (refine And.intro ?_ ?_; (focus (rw [wrap64 (by omega) (by omega)] <;> rfl)); (conv => whnf))
      | (refine And.intro ?_ (And.intro ?_ (And.intro ?_ (And.intro ?_ ?_))); (focus (first | omega | (rw [wrap64 (by omega) (by omega)] <;> first | omega | rfl) | (simp; omega))); (focus (first | omega | (rw [wrap64 (by omega) (by omega)] <;> first | omega | rfl) | (simp; omega))); (focus (first | omega | (rw [wrap64 (by omega) (by omega)] <;> first | omega | rfl) | (simp; omega))); (focus ((repeat' (first | exact sz_nil | exact sz_map fun _ => rfl | apply sz_take | apply sz_drop | apply sz_append | apply sz_cons rfl)); done)); (conv => whnf))
      | (refine And.intro ?_ (And.intro ?_ ?_); (focus (first | omega | (rw [wrap64 (by omega) (by omega)] <;> first | omega | rfl) | (simp; omega))); (focus ((repeat' (first | exact sz_nil | exact sz_map fun _ => rfl | apply sz_take | apply sz_drop | apply sz_append | apply sz_cons rfl)); done)); (conv => whnf))
      | (refine And.intro ?_ (And.intro ?_ ?_); (focus (first | omega | (rw [wrap64 (by omega) (by omega)] <;> first | omega | rfl) | (simp; omega))); (focus (first | omega | (rw [wrap64 (by omega) (by omega)] <;> first | omega | rfl) | (simp; omega))); (conv => whnf))
      | (refine And.intro ?_ ?_; (focus (simp; done)); (conv => whnf))
      | (rw [beq_g]; (conv => whnf))
      | fail)
  intro i hi
  have h2 := noOf_length (l.take i)
  have h3 : (l.take i).length ≤ i := by simp; omega
  conv => whnf
  refine ⟨fun h => ?_, fun h => ?_⟩ <;> (try simp at h) <;> (conv => whnf)
  · repeat' (first
      | exact trivial
      | (refine ⟨rfl, ?_⟩; (conv => whnf))
      | (refine ⟨fun h => ?_, fun h => ?_⟩ <;> (try simp at h) <;> (try (exfalso; omega)) <;> (conv => whnf))
      | (intro b hb; (conv => whnf))
      | (refine .inl ?_; (conv => whnf); first | (refine ⟨_, _, _, _, ct_iNullNumber _, ?_⟩; (conv => whnf)) | fail)
      | (refine And.intro ?_ ?_; (focus (rw [wrap64 (by omega) (by omega)] <;> rfl)); (conv => whnf))
      | (refine ⟨[i64 l[i]], ?_, map_getI ?_ ?_, rfl, ?_⟩; (focus (first | omega | (rw [wrap64 (by omega) (by omega)] <;> first | omega | rfl) | (simp; omega))); (focus (first | rfl | omega | (rw [wrap64 (by omega) (by omega)] <;> first | omega | rfl))); (focus omega); (conv => whnf))
      | (refine ⟨[i64 l[i]], map_getI ?_ ?_, ?_, ?_, ?_⟩; (focus (first | rfl | omega | (rw [wrap64 (by omega) (by omega)] <;> first | omega | rfl))); (focus omega); (focus (simp; done)); (focus (simp; done)); (conv => whnf))
      | (refine ⟨[i64 l[i]], map_getI ?_ ?_, ?_⟩; (focus (first | rfl | omega | (rw [wrap64 (by omega) (by omega)] <;> first | omega | rfl))); (focus omega); (conv => whnf))
      | (refine And.intro ?_ (And.intro ?_ (And.intro ?_ (And.intro ?_ ?_))); (focus (first | omega | (rw [wrap64 (by omega) (by omega)] <;> first | omega | rfl) | (simp; omega))); (focus (first | omega | (rw [wrap64 (by omega) (by omega)] <;> first | omega | rfl) | (simp; omega))); (focus (first | omega | (rw [wrap64 (by omega) (by omega)] <;> first | omega | rfl) | (simp; omega))); (focus ((repeat' (first | exact sz_nil | exact sz_map fun _ => rfl | apply sz_take | apply sz_drop | apply sz_append | apply sz_cons rfl)); done)); (conv => whnf))
      | (refine And.intro ?_ (And.intro ?_ ?_); (focus (first | omega | (rw [wrap64 (by omega) (by omega)] <;> first | omega | rfl) | (simp; omega))); (focus ((repeat' (first | exact sz_nil | exact sz_map fun _ => rfl | apply sz_take | apply sz_drop | apply sz_append | apply sz_cons rfl)); done)); (conv => whnf))
      | (refine And.intro ?_ (And.intro ?_ ?_); (focus (first | omega | (rw [wrap64 (by omega) (by omega)] <;> first | omega | rfl) | (simp; omega))); (focus (first | omega | (rw [wrap64 (by omega) (by omega)] <;> first | omega | rfl) | (simp; omega))); (conv => whnf))
      | (refine ⟨i + 1, ?_, ?_, wk_sound (ψ := []) ?_⟩; (focus (omega)); (focus (first | omega | (rw [wrap64 (by omega) (by omega)] <;> first | omega | rfl) | (simp; omega))); (conv => whnf); (fail_if_success show False))
      | (refine ⟨i + 1, ?_, ?_, wk_sound (ψ := [((8, 0), (24, 0))]) ?_⟩; (focus (omega)); (focus (first | omega | (rw [wrap64 (by omega) (by omega)] <;> first | omega | rfl) | (simp; omega))); (conv => whnf); (fail_if_success show False))
      | (refine And.intro ?_ ?_; (focus (first | (simp; omega) | (rw [take_snoc (by assumption), noOf_snoc, if_pos (by assumption), nullNo_eq (by assumption)]; simp; done) | (rw [take_snoc (by assumption), noOf_snoc, if_neg (by simp_all)]; done))); (conv => whnf))
      | (rw [beq_g]; (conv => whnf))
      | fail)
  · have e : i = l.length := by omega
    subst e
    have h4 := sortI_length (noOf l)
    rw [List.take_length] at *
    repeat' (first
      | exact trivial
      | (refine ⟨rfl, ?_⟩; (conv => whnf))
      | (refine ⟨fun h => ?_, fun h => ?_⟩ <;> (try simp at h) <;> (try (exfalso; omega)) <;> (conv => whnf))
      | (intro b hb; (conv => whnf))
      | (refine .inr ⟨rfl, ?_⟩; (conv => whnf); first | (refine ⟨_, _, ctr_SortI (noOf l) (by omega), ?_⟩; (conv => whnf)) | (refine ⟨_, _, ctr_CompactI (sortI (noOf l)) (by omega), ?_⟩; (conv => whnf)) | fail)
      | (refine And.intro ?_ ?_; (focus (rw [wrap64 (by omega) (by omega)] <;> rfl)); (conv => whnf))
      | (refine And.intro ?_ (And.intro ?_ (And.intro ?_ (And.intro ?_ ?_))); (focus (first | omega | (rw [wrap64 (by omega) (by omega)] <;> first | omega | rfl) | (simp; omega))); (focus (first | omega | (rw [wrap64 (by omega) (by omega)] <;> first | omega | rfl) | (simp; omega))); (focus (first | omega | (rw [wrap64 (by omega) (by omega)] <;> first | omega | rfl) | (simp; omega))); (focus ((repeat' (first | exact sz_nil | exact sz_map fun _ => rfl | apply sz_take | apply sz_drop | apply sz_append | apply sz_cons rfl)); done)); (conv => whnf))
      | (refine And.intro ?_ (And.intro ?_ ?_); (focus (first | omega | (rw [wrap64 (by omega) (by omega)] <;> first | omega | rfl) | (simp; omega))); (focus ((repeat' (first | exact sz_nil | exact sz_map fun _ => rfl | apply sz_take | apply sz_drop | apply sz_append | apply sz_cons rfl)); done)); (conv => whnf))
      | (refine And.intro ?_ (And.intro ?_ ?_); (focus (first | omega | (rw [wrap64 (by omega) (by omega)] <;> first | omega | rfl) | (simp; omega))); (focus (first | omega | (rw [wrap64 (by omega) (by omega)] <;> first | omega | rfl) | (simp; omega))); (conv => whnf))
      | (refine And.intro ?_ ?_; (focus (rw [comp_sort]; rfl)); (conv => whnf))
      | (rw [beq_g]; (conv => whnf))
      | fail)
def H135 : List (Nat × Hint) := [(0, ⟨[], [0, 2]⟩), (1, ⟨[], [1, 3, 4, 5]⟩)]
set_option maxHeartbeats 4000000 in
set_option maxRecDepth 100000 in
theorem ct_iNullsOfFact (f : Fact) (hn : f.vals.length ≤ 1000000) : Ct Tryz.prog 135 [ag f.av] [] (sl (ints (nulls f.vals))) [] [] := by
  refine ct_of_vc mixed tab_ok H135 Tryz.func135 rfl (by kernel_rfl) (by kernel_rfl) (by rfl) ?_
  intro hw _
  clear hw
  conv => whnf
  repeat' (first
    | exact trivial
    | (refine ⟨rfl, ?_⟩; (conv => whnf))
    | (refine ⟨fun h => ?_, fun h => ?_⟩ <;> (try simp at h) <;> (try (exfalso; omega)) <;> (conv => whnf))
    | (intro b hb; (conv => whnf))
    | (refine .inl ?_; (conv => whnf); first | (refine ⟨_, _, _, _, ct_nullsOf f.vals hn, ?_⟩; (conv => whnf)) | fail)
    | (refine And.intro ?_ ?_; (focus (rw [wrap64 (by omega) (by omega)] <;> rfl)); (conv => whnf))
    | (refine And.intro ?_ (And.intro ?_ (And.intro ?_ (And.intro ?_ ?_))); (focus (first | omega | (rw [wrap64 (by omega) (by omega)] <;> first | omega | rfl) | (simp; omega))); (focus (first | omega | (rw [wrap64 (by omega) (by omega)] <;> first | omega | rfl) | (simp; omega))); (focus (first | omega | (rw [wrap64 (by omega) (by omega)] <;> first | omega | rfl) | (simp; omega))); (focus ((repeat' (first | exact sz_nil | exact sz_map fun _ => rfl | apply sz_take | apply sz_drop | apply sz_append | apply sz_cons rfl)); done)); (conv => whnf))
    | (refine And.intro ?_ (And.intro ?_ ?_); (focus (first | omega | (rw [wrap64 (by omega) (by omega)] <;> first | omega | rfl) | (simp; omega))); (focus ((repeat' (first | exact sz_nil | exact sz_map fun _ => rfl | apply sz_take | apply sz_drop | apply sz_append | apply sz_cons rfl)); done)); (conv => whnf))
    | (refine And.intro ?_ (And.intro ?_ ?_); (focus (first | omega | (rw [wrap64 (by omega) (by omega)] <;> first | omega | rfl) | (simp; omega))); (focus (first | omega | (rw [wrap64 (by omega) (by omega)] <;> first | omega | rfl) | (simp; omega))); (conv => whnf))
    | (rw [beq_g]; (conv => whnf))
    | fail)
end Go.Proofs.YtccbimcikbbecaaGreat
/- Instances that are valid. -/
namespace Go.Proofs.YtccbimcikbbecaaGreat
open Go P1
def noSrc (rels : List Relation) (f : Fact) : Bool := !(srcOf rels f.rel && decide (0 < (nulls f.vals).length))
def fOkAt (rels : List Relation) (fs : List Fact) (j : Nat) : Bool := match fs[j]? with
  | some f => validFact rels f && ((match j with
    | 0 => true
    | k + 1 => match fs[k]? with
      | some p => decide (cmpFacts p f < 0)
      | none => false) && noSrc rels f)
  | none => false
def validInst (x : Inst) : Bool := (List.range x.facts.length).all (fOkAt x.rels x.facts) && (validRels x.rels && decide (x.facts.length ≤ 30))
theorem fOkAt_0 {rels : List Relation} {fs : List Fact} {i : Nat} (h : i < fs.length) (h0 : i = 0) : fOkAt rels fs i = (validFact rels (fs[i]'h) && noSrc rels (fs[i]'h)) := by
  subst h0
  simp only [fOkAt, List.getElem?_eq_getElem h, Bool.true_and]
theorem fOkAt_S {rels : List Relation} {fs : List Fact} {i : Nat} (h : i < fs.length) (h0 : 0 < i) : fOkAt rels fs i = (validFact rels (fs[i]'h) && (decide (cmpFacts (fs[i - 1]'(by omega)) (fs[i]'h) < 0) && noSrc rels (fs[i]'h))) := by
  obtain ⟨k, rfl⟩ : ∃ k, i = k + 1 := ⟨i - 1, by omega⟩
  have hk : k < fs.length := by omega
  simp only [fOkAt, List.getElem?_eq_getElem h, List.getElem?_eq_getElem hk]
  rfl
theorem fOkAt_bad {rels : List Relation} {fs : List Fact} {i : Nat} (h : i < fs.length) (hv : validFact rels (fs[i]'h) = false) : fOkAt rels fs i = false := by
  simp only [fOkAt, List.getElem?_eq_getElem h, hv, Bool.false_and]
theorem fOkAt_cmp {rels : List Relation} {fs : List Fact} {i : Nat} (h : i < fs.length) (h0 : 0 < i) (hc : 0 ≤ cmpFacts (fs[i - 1]'(by omega)) (fs[i]'h)) : fOkAt rels fs i = false := by
  rw [fOkAt_S h h0]
  have : decide (cmpFacts fs[i - 1] fs[i] < 0) = false := by simp; exact hc
  simp [this]
theorem fOkAt_nosrc {rels : List Relation} {fs : List Fact} {i : Nat} (h : i < fs.length) (hc : noSrc rels (fs[i]'h) = false) : fOkAt rels fs i = false := by
  rcases Nat.eq_zero_or_pos i with h0 | h0
  · rw [fOkAt_0 h h0, hc, Bool.and_false]
  · rw [fOkAt_S h h0, hc, Bool.and_false, Bool.and_false]
theorem fOkAt_good {rels : List Relation} {fs : List Fact} {i : Nat} (h : i < fs.length) (hv : validFact rels (fs[i]'h) = true) (hc : i = 0 ∨ (0 < i ∧ cmpFacts (fs[i - 1]'(by omega)) (fs[i]'h) < 0)) (hs : noSrc rels (fs[i]'h) = true) : fOkAt rels fs i = true := by
  rcases hc with h0 | ⟨h0, hc⟩
  · rw [fOkAt_0 h h0, hv, hs]; rfl
  · rw [fOkAt_S h h0, hv, hs]; simp [hc]
theorem range_bad {p : Nat → Bool} {n i : Nat} (h : i < n) (hp : p i = false) : (List.range n).all p = false := by
  rw [List.all_eq_false]; exact ⟨i, by simpa using h, by simp [hp]⟩
theorem range_next {p : Nat → Bool} {i : Nat} (h : (List.range i).all p = true) (hp : p i = true) : (List.range (i + 1)).all p = true := by
  rw [List.range_succ, List.all_append, h]; simp [hp]
theorem noSrc_f {rels : List Relation} {f : Fact} (h : f.rel.toNat < rels.length) (hs : rels[f.rel.toNat].source = false) : noSrc rels f = true := by simp [noSrc, srcOf_eq h, hs]
theorem noSrc_t {rels : List Relation} {f : Fact} (h : f.rel.toNat < rels.length) (_hs : rels[f.rel.toNat].source = true) (hn : nulls f.vals = []) : noSrc rels f = true := by
  have : decide (0 < (nulls f.vals).length) = false := by simp [hn]
  simp [noSrc, this]
theorem noSrc_b {rels : List Relation} {f : Fact} (h : f.rel.toNat < rels.length) (hs : rels[f.rel.toNat].source = true) (hn : 0 < (nulls f.vals).length) : noSrc rels f = false := by
  simp only [noSrc, srcOf_eq h, hs, Bool.true_and, decide_eq_true hn]; rfl
def H96 : List (Nat × Hint) := [(0, ⟨[], [0, 2]⟩), (2, ⟨[], [5, 6, 7, 8]⟩), (3, ⟨[], [10, 11]⟩), (4, ⟨[], [12, 13, 14, 15, 16]⟩), (5, ⟨[(false, []), (false, []), (false, [0, 1]), (false, []), (false, []), (true, []), (false, []), (false, []), (true, []), (false, []), (false, []), (false, [0, 1]), (false, [1, 2]), (false, []), (false, []), (false, [0, 1, 2, 3, 4, 5]), (false, []), (false, []), (false, []), (false, []), (true, []), (false, []), (false, []), (false, [0, 1]), (false, [1, 2]), (false, []), (false, []), (false, []), (true, []), (false, []), (false, []), (false, []), (false, []), (false, []), (false, [])], [4, 17, 18, 19, 20, 21, 22, 23, 24, 25, 26, 27, 28, 29, 30, 31, 32, 33, 34, 35, 36, 37, 38, 39, 40, 41, 42, 43, 44, 45, 46, 47, 48, 49, 50]⟩), (7, ⟨[(false, []), (false, []), (false, []), (true, []), (false, []), (false, []), (false, []), (false, []), (false, []), (false, [])], [1, 52, 53, 54, 55, 56, 57, 58, 59, 60]⟩)]
set_option maxHeartbeats 4000000 in
set_option maxRecDepth 100000 in
theorem ct_sIsValidInstance (x : Inst) : Ct Tryz.prog 96 [ag x.av] [] (sl (.bool (validInst x))) [] [] := by
  refine ct_of_vc mixed tab_ok H96 Tryz.func96 rfl (by kernel_rfl) (by kernel_rfl) (by rfl) ?_
  intro hw _
  have hlf : x.facts.length ≤ 1125899906842624 := Wf.lenM (hw (ag x.av) (.head _) (.av (.row (x.facts.map Fact.av))) (by simp [Inst.av]))
  clear hw
  conv => whnf
  refine loop_rule mixed tab_ok H96 (I := Nat) (fun i => [(.slot 3, iv i), (.slot 1, .s (.lf (.ptr (1, 0) 0))), (.leaf (1, 0) 0, .l (.av (.row (x.rels.map Relation.av)))), (.leaf (1, 0) 1, .l (.av (.row (x.facts.map Fact.av))))]) (fun i => i ≤ x.facts.length ∧ (List.range i).all (fOkAt x.rels x.facts) = true) (fun i => x.facts.length - i) (by kernel_rfl) 0 (by simp) (wk_sound (ψ := []) ?_) ?_
  · conv => whnf
    repeat' (first
      | exact trivial
      | (refine ⟨rfl, ?_⟩; (conv => whnf))
      | (refine ⟨fun h => ?_, fun h => ?_⟩ <;> (try simp at h) <;> (try (exfalso; omega)) <;> (conv => whnf))
      | (intro b hb; (conv => whnf))
      | (refine And.intro ?_ ?_; (focus (rw [wrap64 (by omega) (by omega)] <;> rfl)); (conv => whnf))
      | (refine And.intro ?_ (And.intro ?_ (And.intro ?_ (And.intro ?_ ?_))); (focus (first | omega | (rw [wrap64 (by omega) (by omega)] <;> first | omega | rfl) | (simp; omega))); (focus (first | omega | (rw [wrap64 (by omega) (by omega)] <;> first | omega | rfl) | (simp; omega))); (focus (first | omega | (rw [wrap64 (by omega) (by omega)] <;> first | omega | rfl) | (simp; omega))); (focus ((repeat' (first | exact sz_nil | exact sz_map fun _ => rfl | apply sz_take | apply sz_drop | apply sz_append | apply sz_cons rfl)); done)); (conv => whnf))
      | (refine And.intro ?_ (And.intro ?_ ?_); (focus (first | omega | (rw [wrap64 (by omega) (by omega)] <;> first | omega | rfl) | (simp; omega))); (focus ((repeat' (first | exact sz_nil | exact sz_map fun _ => rfl | apply sz_take | apply sz_drop | apply sz_append | apply sz_cons rfl)); done)); (conv => whnf))
      | (refine And.intro ?_ (And.intro ?_ ?_); (focus (first | omega | (rw [wrap64 (by omega) (by omega)] <;> first | omega | rfl) | (simp; omega))); (focus (first | omega | (rw [wrap64 (by omega) (by omega)] <;> first | omega | rfl) | (simp; omega))); (conv => whnf))
      | (rw [beq_g]; (conv => whnf))
      | fail)
  rintro i ⟨hi1, hi2⟩
  conv => whnf
  refine ⟨fun hlt => ?_, fun hlt => ?_⟩ <;> (try simp at hlt) <;> (conv => whnf)
  · refine ⟨x.facts[i].av, by omega, map_get (by omega), rfl, ?_⟩
    conv => whnf
    refine .inl ?_
    conv => whnf
    refine ⟨_, _, _, _, ct_sIsValidFact x.rels x.facts[i], ?_⟩
    conv => whnf
    refine ⟨fun hv => ?_, fun hv => ?_⟩ <;> (try simp at hv) <;> (conv => whnf)
    · repeat' (first
        | exact trivial
        | (refine ⟨rfl, ?_⟩; (conv => whnf))
        | (refine ⟨fun h => ?_, fun h => ?_⟩ <;> (try simp at h) <;> (try (exfalso; omega)) <;> (conv => whnf))
        | (intro b hb; (conv => whnf))
        | (refine And.intro ?_ ?_; (focus (rw [wrap64 (by omega) (by omega)] <;> rfl)); (conv => whnf))
        | (refine And.intro ?_ (And.intro ?_ (And.intro ?_ (And.intro ?_ ?_))); (focus (first | omega | (rw [wrap64 (by omega) (by omega)] <;> first | omega | rfl) | (simp; omega))); (focus (first | omega | (rw [wrap64 (by omega) (by omega)] <;> first | omega | rfl) | (simp; omega))); (focus (first | omega | (rw [wrap64 (by omega) (by omega)] <;> first | omega | rfl) | (simp; omega))); (focus ((repeat' (first | exact sz_nil | exact sz_map fun _ => rfl | apply sz_take | apply sz_drop | apply sz_append | apply sz_cons rfl)); done)); (conv => whnf))
        | (refine And.intro ?_ (And.intro ?_ ?_); (focus (first | omega | (rw [wrap64 (by omega) (by omega)] <;> first | omega | rfl) | (simp; omega))); (focus ((repeat' (first | exact sz_nil | exact sz_map fun _ => rfl | apply sz_take | apply sz_drop | apply sz_append | apply sz_cons rfl)); done)); (conv => whnf))
        | (refine And.intro ?_ (And.intro ?_ ?_); (focus (first | omega | (rw [wrap64 (by omega) (by omega)] <;> first | omega | rfl) | (simp; omega))); (focus (first | omega | (rw [wrap64 (by omega) (by omega)] <;> first | omega | rfl) | (simp; omega))); (conv => whnf))
        | (refine And.intro ?_ ?_; (focus (simp only [validInst]; rw [range_bad hlt (fOkAt_bad hlt hv)]; rfl)); (conv => whnf))
        | (rw [beq_g]; (conv => whnf))
        | fail)
    obtain ⟨_, hr0, hri, _⟩ := headOk_iff.1 (validFact_head hv)
    have hsm := headOk_small (validFact_head hv)
    repeat' (first
      | exact trivial
      | (refine ⟨rfl, ?_⟩; (conv => whnf))
      | (refine ⟨fun h => ?_, fun h => ?_⟩ <;> (try simp at h) <;> (try (exfalso; omega)) <;> (conv => whnf))
      | (intro b hb; (conv => whnf))
      | (refine .inl ?_; (conv => whnf); first | (refine ⟨_, _, _, _, ct_sCompareFacts _ _, ?_⟩; (conv => whnf)) | (refine ⟨_, _, _, _, ct_sNullsOfFact _ (by omega), ?_⟩; (conv => whnf)) | fail)
      | (refine And.intro ?_ ?_; (focus (rw [wrap64 (by omega) (by omega)] <;> rfl)); (conv => whnf))
      | (refine ⟨x.facts[i - 1].av, ?_, map_getI ?_ ?_, rfl, ?_⟩; (focus (first | omega | (rw [wrap64 (by omega) (by omega)] <;> first | omega | rfl) | (simp; omega))); (focus (first | rfl | omega | (rw [wrap64 (by omega) (by omega)] <;> first | omega | rfl))); (focus omega); (conv => whnf))
      | (refine ⟨x.facts[i - 1].av, map_getI ?_ ?_, ?_, ?_, ?_⟩; (focus (first | rfl | omega | (rw [wrap64 (by omega) (by omega)] <;> first | omega | rfl))); (focus omega); (focus (simp; done)); (focus (simp; done)); (conv => whnf))
      | (refine ⟨x.facts[i - 1].av, map_getI ?_ ?_, ?_⟩; (focus (first | rfl | omega | (rw [wrap64 (by omega) (by omega)] <;> first | omega | rfl))); (focus omega); (conv => whnf))
      | (refine ⟨x.rels[x.facts[i].rel.toNat].av, ?_, map_getI ?_ ?_, rfl, ?_⟩; (focus (first | omega | (rw [wrap64 (by omega) (by omega)] <;> first | omega | rfl) | (simp; omega))); (focus (first | rfl | omega | (rw [wrap64 (by omega) (by omega)] <;> first | omega | rfl))); (focus omega); (conv => whnf))
      | (refine ⟨x.rels[x.facts[i].rel.toNat].av, map_getI ?_ ?_, ?_, ?_, ?_⟩; (focus (first | rfl | omega | (rw [wrap64 (by omega) (by omega)] <;> first | omega | rfl))); (focus omega); (focus (simp; done)); (focus (simp; done)); (conv => whnf))
      | (refine ⟨x.rels[x.facts[i].rel.toNat].av, map_getI ?_ ?_, ?_⟩; (focus (first | rfl | omega | (rw [wrap64 (by omega) (by omega)] <;> first | omega | rfl))); (focus omega); (conv => whnf))
      | (refine And.intro ?_ (And.intro ?_ (And.intro ?_ (And.intro ?_ ?_))); (focus (first | omega | (rw [wrap64 (by omega) (by omega)] <;> first | omega | rfl) | (simp; omega))); (focus (first | omega | (rw [wrap64 (by omega) (by omega)] <;> first | omega | rfl) | (simp; omega))); (focus (first | omega | (rw [wrap64 (by omega) (by omega)] <;> first | omega | rfl) | (simp; omega))); (focus ((repeat' (first | exact sz_nil | exact sz_map fun _ => rfl | apply sz_take | apply sz_drop | apply sz_append | apply sz_cons rfl)); done)); (conv => whnf))
      | (refine And.intro ?_ (And.intro ?_ ?_); (focus (first | omega | (rw [wrap64 (by omega) (by omega)] <;> first | omega | rfl) | (simp; omega))); (focus ((repeat' (first | exact sz_nil | exact sz_map fun _ => rfl | apply sz_take | apply sz_drop | apply sz_append | apply sz_cons rfl)); done)); (conv => whnf))
      | (refine And.intro ?_ (And.intro ?_ ?_); (focus (first | omega | (rw [wrap64 (by omega) (by omega)] <;> first | omega | rfl) | (simp; omega))); (focus (first | omega | (rw [wrap64 (by omega) (by omega)] <;> first | omega | rfl) | (simp; omega))); (conv => whnf))
      | (refine ⟨i + 1, ?_, ?_, wk_sound (ψ := []) ?_⟩; (focus (exact ⟨hlt, range_next hi2 (fOkAt_good hlt hv (by first | exact .inl (by assumption) | exact .inr ⟨by assumption, by assumption⟩) (by first | exact noSrc_f hri (by assumption) | exact noSrc_t hri (by assumption) (by assumption)))⟩)); (focus (first | omega | (rw [wrap64 (by omega) (by omega)] <;> first | omega | rfl) | (simp; omega))); (conv => whnf); (fail_if_success show False))
      | (refine And.intro ?_ ?_; (focus (simp only [validInst]; first | (rw [range_bad hlt (fOkAt_cmp hlt (by assumption) (by assumption))] <;> rfl) | (rw [range_bad hlt (fOkAt_nosrc hlt (noSrc_b hri (by assumption) (by assumption)))] <;> rfl))); (conv => whnf))
      | (rw [beq_g]; (conv => whnf))
      | fail)
  · have e : i = x.facts.length := by omega
    subst e
    repeat' (first
      | exact trivial
      | (refine ⟨rfl, ?_⟩; (conv => whnf))
      | (refine ⟨fun h => ?_, fun h => ?_⟩ <;> (try simp at h) <;> (try (exfalso; omega)) <;> (conv => whnf))
      | (intro b hb; (conv => whnf))
      | (refine .inl ?_; (conv => whnf); first | (refine ⟨_, _, _, _, ct_sAreValidRelations _, ?_⟩; (conv => whnf)) | fail)
      | (refine And.intro ?_ ?_; (focus (rw [wrap64 (by omega) (by omega)] <;> rfl)); (conv => whnf))
      | (refine And.intro ?_ (And.intro ?_ (And.intro ?_ (And.intro ?_ ?_))); (focus (first | omega | (rw [wrap64 (by omega) (by omega)] <;> first | omega | rfl) | (simp; omega))); (focus (first | omega | (rw [wrap64 (by omega) (by omega)] <;> first | omega | rfl) | (simp; omega))); (focus (first | omega | (rw [wrap64 (by omega) (by omega)] <;> first | omega | rfl) | (simp; omega))); (focus ((repeat' (first | exact sz_nil | exact sz_map fun _ => rfl | apply sz_take | apply sz_drop | apply sz_append | apply sz_cons rfl)); done)); (conv => whnf))
      | (refine And.intro ?_ (And.intro ?_ ?_); (focus (first | omega | (rw [wrap64 (by omega) (by omega)] <;> first | omega | rfl) | (simp; omega))); (focus ((repeat' (first | exact sz_nil | exact sz_map fun _ => rfl | apply sz_take | apply sz_drop | apply sz_append | apply sz_cons rfl)); done)); (conv => whnf))
      | (refine And.intro ?_ (And.intro ?_ ?_); (focus (first | omega | (rw [wrap64 (by omega) (by omega)] <;> first | omega | rfl) | (simp; omega))); (focus (first | omega | (rw [wrap64 (by omega) (by omega)] <;> first | omega | rfl) | (simp; omega))); (conv => whnf))
      | (refine And.intro ?_ ?_; (focus (simp only [validInst, hi2, Bool.true_and]; first | (simp_all; done) | (refine congrArg AV.bool (Bool.eq_iff_iff.2 ?_); simp_all; omega))); (conv => whnf))
      | (rw [beq_g]; (conv => whnf))
      | fail)
def H102 : List (Nat × Hint) := [(0, ⟨[], [0, 2]⟩), (1, ⟨[(false, []), (false, []), (false, []), (false, []), (true, []), (false, []), (false, []), (false, []), (false, []), (false, [])], [5, 6, 7, 8, 9, 10, 11, 12, 13]⟩), (3, ⟨[], [15]⟩), (5, ⟨[], [20, 21, 22]⟩), (6, ⟨[(false, []), (false, []), (false, [0, 1]), (false, []), (false, []), (true, []), (false, []), (false, []), (true, []), (false, []), (false, []), (false, [0, 1]), (false, [1, 2]), (false, []), (false, []), (false, [0, 1, 2, 3, 4, 5]), (false, []), (false, []), (false, []), (false, [])], [3, 23, 24, 25, 26, 27, 28, 29, 30, 31, 32, 33, 34, 35, 36, 37, 38, 39, 40, 41]⟩), (8, ⟨[(false, []), (false, []), (false, []), (false, []), (false, []), (false, []), (false, []), (true, []), (false, []), (false, []), (false, []), (false, []), (false, [])], [4, 43, 44, 45, 46, 47, 48, 49, 50, 51, 52, 53, 54]⟩), (10, ⟨[], [56]⟩)]
set_option maxHeartbeats 4000000 in
set_option maxRecDepth 100000 in
theorem ct_iIsValidInstance (x : Inst) : Ct Tryz.prog 102 [ag x.av] [] (sl (.bool (validInst x))) [] [] := by
  refine ct_of_vc mixed tab_ok H102 Tryz.func102 rfl (by kernel_rfl) (by kernel_rfl) (by rfl) ?_
  intro hw _
  have hlf : x.facts.length ≤ 1125899906842624 := Wf.lenM (hw (ag x.av) (.head _) (.av (.row (x.facts.map Fact.av))) (by simp [Inst.av]))
  clear hw
  conv => whnf
  refine .inl ?_
  conv => whnf
  refine ⟨_, _, _, _, ct_iAreValidRelations x.rels, ?_⟩
  conv => whnf
  refine ⟨fun hr => ?_, fun hr => ?_⟩ <;> (try simp at hr) <;> (conv => whnf)
  · repeat' (first
      | exact trivial
      | (refine ⟨rfl, ?_⟩; (conv => whnf))
      | (refine ⟨fun h => ?_, fun h => ?_⟩ <;> (try simp at h) <;> (try (exfalso; omega)) <;> (conv => whnf))
      | (intro b hb; (conv => whnf))
      | (refine And.intro ?_ ?_; (focus (rw [wrap64 (by omega) (by omega)] <;> rfl)); (conv => whnf))
      | (refine And.intro ?_ (And.intro ?_ (And.intro ?_ (And.intro ?_ ?_))); (focus (first | omega | (rw [wrap64 (by omega) (by omega)] <;> first | omega | rfl) | (simp; omega))); (focus (first | omega | (rw [wrap64 (by omega) (by omega)] <;> first | omega | rfl) | (simp; omega))); (focus (first | omega | (rw [wrap64 (by omega) (by omega)] <;> first | omega | rfl) | (simp; omega))); (focus ((repeat' (first | exact sz_nil | exact sz_map fun _ => rfl | apply sz_take | apply sz_drop | apply sz_append | apply sz_cons rfl)); done)); (conv => whnf))
      | (refine And.intro ?_ (And.intro ?_ ?_); (focus (first | omega | (rw [wrap64 (by omega) (by omega)] <;> first | omega | rfl) | (simp; omega))); (focus ((repeat' (first | exact sz_nil | exact sz_map fun _ => rfl | apply sz_take | apply sz_drop | apply sz_append | apply sz_cons rfl)); done)); (conv => whnf))
      | (refine And.intro ?_ (And.intro ?_ ?_); (focus (first | omega | (rw [wrap64 (by omega) (by omega)] <;> first | omega | rfl) | (simp; omega))); (focus (first | omega | (rw [wrap64 (by omega) (by omega)] <;> first | omega | rfl) | (simp; omega))); (conv => whnf))
      | (refine And.intro ?_ ?_; (focus (simp only [validInst, hr, Bool.false_and, Bool.and_false])); (conv => whnf))
      | (rw [beq_g]; (conv => whnf))
      | fail)
  refine ⟨fun hl => ?_, fun hl => ?_⟩ <;> (try simp at hl) <;> (conv => whnf)
  · repeat' (first
      | exact trivial
      | (refine ⟨rfl, ?_⟩; (conv => whnf))
      | (refine ⟨fun h => ?_, fun h => ?_⟩ <;> (try simp at h) <;> (try (exfalso; omega)) <;> (conv => whnf))
      | (intro b hb; (conv => whnf))
      | (refine And.intro ?_ ?_; (focus (rw [wrap64 (by omega) (by omega)] <;> rfl)); (conv => whnf))
      | (refine And.intro ?_ (And.intro ?_ (And.intro ?_ (And.intro ?_ ?_))); (focus (first | omega | (rw [wrap64 (by omega) (by omega)] <;> first | omega | rfl) | (simp; omega))); (focus (first | omega | (rw [wrap64 (by omega) (by omega)] <;> first | omega | rfl) | (simp; omega))); (focus (first | omega | (rw [wrap64 (by omega) (by omega)] <;> first | omega | rfl) | (simp; omega))); (focus ((repeat' (first | exact sz_nil | exact sz_map fun _ => rfl | apply sz_take | apply sz_drop | apply sz_append | apply sz_cons rfl)); done)); (conv => whnf))
      | (refine And.intro ?_ (And.intro ?_ ?_); (focus (first | omega | (rw [wrap64 (by omega) (by omega)] <;> first | omega | rfl) | (simp; omega))); (focus ((repeat' (first | exact sz_nil | exact sz_map fun _ => rfl | apply sz_take | apply sz_drop | apply sz_append | apply sz_cons rfl)); done)); (conv => whnf))
      | (refine And.intro ?_ (And.intro ?_ ?_); (focus (first | omega | (rw [wrap64 (by omega) (by omega)] <;> first | omega | rfl) | (simp; omega))); (focus (first | omega | (rw [wrap64 (by omega) (by omega)] <;> first | omega | rfl) | (simp; omega))); (conv => whnf))
      | (refine And.intro ?_ ?_; (focus (simp only [validInst]; have hl2 : ¬ x.facts.length ≤ 30 := (by omega); rw [decide_eq_false hl2, Bool.and_false, Bool.and_false])); (conv => whnf))
      | (rw [beq_g]; (conv => whnf))
      | fail)
  have hl2 : x.facts.length ≤ 30 := by omega
  have hv : validInst x = (List.range x.facts.length).all (fOkAt x.rels x.facts) := by simp [validInst, hr, hl2]
  rw [hv]
  refine loop_rule mixed tab_ok H102 (I := Nat) (fun i => [(.slot 18, iv i), (.slot 17, iv x.facts.length), (.slot 16, .s (sl (.row (x.facts.map Fact.av)))), (.slot 1, .s (.lf (.ptr (1, 0) 0))), (.leaf (1, 0) 0, .l (.av (.row (x.rels.map Relation.av)))), (.leaf (1, 0) 1, .l (.av (.row (x.facts.map Fact.av))))]) (fun i => i ≤ x.facts.length ∧ (List.range i).all (fOkAt x.rels x.facts) = true) (fun i => x.facts.length - i) (by kernel_rfl) 0 (by simp) (wk_sound (ψ := []) ?_) ?_
  · conv => whnf
    repeat' (first
      | exact trivial
      | (refine ⟨rfl, ?_⟩; (conv => whnf))
      | (refine ⟨fun h => ?_, fun h => ?_⟩ <;> (try simp at h) <;> (try (exfalso; omega)) <;> (conv => whnf))
      | (intro b hb; (conv => whnf))
      | (refine And.intro ?_ ?_; (focus (rw [wrap64 (by omega) (by omega)] <;> rfl)); (conv => whnf))
      | (refine And.intro ?_ (And.intro ?_ (And.intro ?_ (And.intro ?_ ?_))); (focus (first | omega | (rw [wrap64 (by omega) (by omega)] <;> first | omega | rfl) | (simp; omega))); (focus (first | omega | (rw [wrap64 (by omega) (by omega)] <;> first | omega | rfl) | (simp; omega))); (focus (first | omega | (rw [wrap64 (by omega) (by omega)] <;> first | omega | rfl) | (simp; omega))); (focus ((repeat' (first | exact sz_nil | exact sz_map fun _ => rfl | apply sz_take | apply sz_drop | apply sz_append | apply sz_cons rfl)); done)); (conv => whnf))
      | (refine And.intro ?_ (And.intro ?_ ?_); (focus (first | omega | (rw [wrap64 (by omega) (by omega)] <;> first | omega | rfl) | (simp; omega))); (focus ((repeat' (first | exact sz_nil | exact sz_map fun _ => rfl | apply sz_take | apply sz_drop | apply sz_append | apply sz_cons rfl)); done)); (conv => whnf))
      | (refine And.intro ?_ (And.intro ?_ ?_); (focus (first | omega | (rw [wrap64 (by omega) (by omega)] <;> first | omega | rfl) | (simp; omega))); (focus (first | omega | (rw [wrap64 (by omega) (by omega)] <;> first | omega | rfl) | (simp; omega))); (conv => whnf))
      | (refine And.intro ?_ ?_; (focus (simp; done)); (conv => whnf))
      | (rw [beq_g]; (conv => whnf))
      | fail)
  rintro i ⟨hi1, hi2⟩
  conv => whnf
  refine ⟨fun hlt => ?_, fun hlt => ?_⟩ <;> (try simp at hlt) <;> (conv => whnf)
  · refine ⟨x.facts[i].av, by omega, map_get (by omega), rfl, ?_⟩
    conv => whnf
    refine .inl ?_
    conv => whnf
    refine ⟨_, _, _, _, ct_iIsValidFact x.rels x.facts[i], ?_⟩
    conv => whnf
    refine ⟨fun hv => ?_, fun hv => ?_⟩ <;> (try simp at hv) <;> (conv => whnf)
    · repeat' (first
        | exact trivial
        | (refine ⟨rfl, ?_⟩; (conv => whnf))
        | (refine ⟨fun h => ?_, fun h => ?_⟩ <;> (try simp at h) <;> (try (exfalso; omega)) <;> (conv => whnf))
        | (intro b hb; (conv => whnf))
        | (refine And.intro ?_ ?_; (focus (rw [wrap64 (by omega) (by omega)] <;> rfl)); (conv => whnf))
        | (refine And.intro ?_ (And.intro ?_ (And.intro ?_ (And.intro ?_ ?_))); (focus (first | omega | (rw [wrap64 (by omega) (by omega)] <;> first | omega | rfl) | (simp; omega))); (focus (first | omega | (rw [wrap64 (by omega) (by omega)] <;> first | omega | rfl) | (simp; omega))); (focus (first | omega | (rw [wrap64 (by omega) (by omega)] <;> first | omega | rfl) | (simp; omega))); (focus ((repeat' (first | exact sz_nil | exact sz_map fun _ => rfl | apply sz_take | apply sz_drop | apply sz_append | apply sz_cons rfl)); done)); (conv => whnf))
        | (refine And.intro ?_ (And.intro ?_ ?_); (focus (first | omega | (rw [wrap64 (by omega) (by omega)] <;> first | omega | rfl) | (simp; omega))); (focus ((repeat' (first | exact sz_nil | exact sz_map fun _ => rfl | apply sz_take | apply sz_drop | apply sz_append | apply sz_cons rfl)); done)); (conv => whnf))
        | (refine And.intro ?_ (And.intro ?_ ?_); (focus (first | omega | (rw [wrap64 (by omega) (by omega)] <;> first | omega | rfl) | (simp; omega))); (focus (first | omega | (rw [wrap64 (by omega) (by omega)] <;> first | omega | rfl) | (simp; omega))); (conv => whnf))
        | (refine And.intro ?_ ?_; (focus (rw [range_bad hlt (fOkAt_bad hlt hv)])); (conv => whnf))
        | (rw [beq_g]; (conv => whnf))
        | fail)
    obtain ⟨_, hr0, hri, _⟩ := headOk_iff.1 (validFact_head hv)
    have hsm := headOk_small (validFact_head hv)
    repeat' (first
      | exact trivial
      | (refine ⟨rfl, ?_⟩; (conv => whnf))
      | (refine ⟨fun h => ?_, fun h => ?_⟩ <;> (try simp at h) <;> (try (exfalso; omega)) <;> (conv => whnf))
      | (intro b hb; (conv => whnf))
      | (refine .inl ?_; (conv => whnf); first | (refine ⟨_, _, _, _, ct_iCompareFacts _ _, ?_⟩; (conv => whnf)) | (refine ⟨_, _, _, _, ct_iNullsOfFact _ (by omega), ?_⟩; (conv => whnf)) | fail)
      | (refine And.intro ?_ ?_; (focus (rw [wrap64 (by omega) (by omega)] <;> rfl)); (conv => whnf))
      | (refine ⟨x.facts[i - 1].av, ?_, map_getI ?_ ?_, rfl, ?_⟩; (focus (first | omega | (rw [wrap64 (by omega) (by omega)] <;> first | omega | rfl) | (simp; omega))); (focus (first | rfl | omega | (rw [wrap64 (by omega) (by omega)] <;> first | omega | rfl))); (focus omega); (conv => whnf))
      | (refine ⟨x.facts[i - 1].av, map_getI ?_ ?_, ?_, ?_, ?_⟩; (focus (first | rfl | omega | (rw [wrap64 (by omega) (by omega)] <;> first | omega | rfl))); (focus omega); (focus (simp; done)); (focus (simp; done)); (conv => whnf))
      | (refine ⟨x.facts[i - 1].av, map_getI ?_ ?_, ?_⟩; (focus (first | rfl | omega | (rw [wrap64 (by omega) (by omega)] <;> first | omega | rfl))); (focus omega); (conv => whnf))
      | (refine ⟨x.rels[x.facts[i].rel.toNat].av, ?_, map_getI ?_ ?_, rfl, ?_⟩; (focus (first | omega | (rw [wrap64 (by omega) (by omega)] <;> first | omega | rfl) | (simp; omega))); (focus (first | rfl | omega | (rw [wrap64 (by omega) (by omega)] <;> first | omega | rfl))); (focus omega); (conv => whnf))
      | (refine ⟨x.rels[x.facts[i].rel.toNat].av, map_getI ?_ ?_, ?_, ?_, ?_⟩; (focus (first | rfl | omega | (rw [wrap64 (by omega) (by omega)] <;> first | omega | rfl))); (focus omega); (focus (simp; done)); (focus (simp; done)); (conv => whnf))
      | (refine ⟨x.rels[x.facts[i].rel.toNat].av, map_getI ?_ ?_, ?_⟩; (focus (first | rfl | omega | (rw [wrap64 (by omega) (by omega)] <;> first | omega | rfl))); (focus omega); (conv => whnf))
      | (refine And.intro ?_ (And.intro ?_ (And.intro ?_ (And.intro ?_ ?_))); (focus (first | omega | (rw [wrap64 (by omega) (by omega)] <;> first | omega | rfl) | (simp; omega))); (focus (first | omega | (rw [wrap64 (by omega) (by omega)] <;> first | omega | rfl) | (simp; omega))); (focus (first | omega | (rw [wrap64 (by omega) (by omega)] <;> first | omega | rfl) | (simp; omega))); (focus ((repeat' (first | exact sz_nil | exact sz_map fun _ => rfl | apply sz_take | apply sz_drop | apply sz_append | apply sz_cons rfl)); done)); (conv => whnf))
      | (refine And.intro ?_ (And.intro ?_ ?_); (focus (first | omega | (rw [wrap64 (by omega) (by omega)] <;> first | omega | rfl) | (simp; omega))); (focus ((repeat' (first | exact sz_nil | exact sz_map fun _ => rfl | apply sz_take | apply sz_drop | apply sz_append | apply sz_cons rfl)); done)); (conv => whnf))
      | (refine And.intro ?_ (And.intro ?_ ?_); (focus (first | omega | (rw [wrap64 (by omega) (by omega)] <;> first | omega | rfl) | (simp; omega))); (focus (first | omega | (rw [wrap64 (by omega) (by omega)] <;> first | omega | rfl) | (simp; omega))); (conv => whnf))
      | (refine ⟨i + 1, ?_, ?_, wk_sound (ψ := []) ?_⟩; (focus (exact ⟨hlt, range_next hi2 (fOkAt_good hlt hv (by first | exact .inl (by assumption) | exact .inr ⟨by assumption, by assumption⟩) (by first | exact noSrc_f hri (by assumption) | exact noSrc_t hri (by assumption) (by assumption)))⟩)); (focus (first | omega | (rw [wrap64 (by omega) (by omega)] <;> first | omega | rfl) | (simp; omega))); (conv => whnf); (fail_if_success show False))
      | (refine And.intro ?_ ?_; (focus (first | (rw [range_bad hlt (fOkAt_cmp hlt (by assumption) (by assumption))] <;> rfl) | (rw [range_bad hlt (fOkAt_nosrc hlt (noSrc_b hri (by assumption) (by assumption)))] <;> rfl))); (conv => whnf))
      | (rw [beq_g]; (conv => whnf))
      | fail)
  · have e : i = x.facts.length := by omega
    subst e
    rw [hi2]
    repeat' (first
      | exact trivial
      | (refine ⟨rfl, ?_⟩; (conv => whnf))
      | (refine ⟨fun h => ?_, fun h => ?_⟩ <;> (try simp at h) <;> (try (exfalso; omega)) <;> (conv => whnf))
      | (intro b hb; (conv => whnf))
      | (refine And.intro ?_ ?_; (focus (rw [wrap64 (by omega) (by omega)] <;> rfl)); (conv => whnf))
      | (refine And.intro ?_ (And.intro ?_ (And.intro ?_ (And.intro ?_ ?_))); (focus (first | omega | (rw [wrap64 (by omega) (by omega)] <;> first | omega | rfl) | (simp; omega))); (focus (first | omega | (rw [wrap64 (by omega) (by omega)] <;> first | omega | rfl) | (simp; omega))); (focus (first | omega | (rw [wrap64 (by omega) (by omega)] <;> first | omega | rfl) | (simp; omega))); (focus ((repeat' (first | exact sz_nil | exact sz_map fun _ => rfl | apply sz_take | apply sz_drop | apply sz_append | apply sz_cons rfl)); done)); (conv => whnf))
      | (refine And.intro ?_ (And.intro ?_ ?_); (focus (first | omega | (rw [wrap64 (by omega) (by omega)] <;> first | omega | rfl) | (simp; omega))); (focus ((repeat' (first | exact sz_nil | exact sz_map fun _ => rfl | apply sz_take | apply sz_drop | apply sz_append | apply sz_cons rfl)); done)); (conv => whnf))
      | (refine And.intro ?_ (And.intro ?_ ?_); (focus (first | omega | (rw [wrap64 (by omega) (by omega)] <;> first | omega | rfl) | (simp; omega))); (focus (first | omega | (rw [wrap64 (by omega) (by omega)] <;> first | omega | rfl) | (simp; omega))); (conv => whnf))
      | (rw [beq_g]; (conv => whnf))
      | fail)
end Go.Proofs.YtccbimcikbbecaaGreat
