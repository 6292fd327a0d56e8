/- The law FnExactConflictingConstants: for every input it returns true, and every argument reads as it did. No condition. -/
import Derived.Test.YtccbimcikbbecaaGreatW12
set_option linter.all false
set_option linter.unusedVariables false
set_option linter.unusedSimpArgs false
namespace Go.Proofs.YtccbimcikbbecaaGreat
open Go.ChangeShapes Go.WideShapes Go.ChangeAt Go.RowKit Go P1
set_option maxRecDepth 100000 in
theorem lifted_ConflictingConstants (os : Os) (started : os.Started) (H : Type) (enc : TypeId × Value → H) :
    ReturnsInHanded {} Tryz.checked os 5 .any (Go.Proofs.YtccbimcikbbecaaGreat.Rows.fnExactConflictingConstantsSpec.pre6 enc Tryz.prog Tryz.f5 Go.Proofs.YtccbimcikbbecaaGreat.Rows.fnExactConflictingConstantsRow.domain false) (Go.Proofs.YtccbimcikbbecaaGreat.Rows.fnExactConflictingConstantsSpec.post enc Tryz.prog Tryz.f5 false true false false) := by
  refine returnsInHanded_of_change_sized (C := Tryz.checked) ownKnobs started (by kernel_rfl) Tryz.func5
    (ChangeSpec.witness6 (enc := enc) (C := Tryz.checked) false ⟨#[], #[.agg #[.slice none 0 0, .slice none 0 0], .slice none 0 0, .slice none 0 0], []⟩ 8 (by kernel_rfl) (by kernel_rfl) (by kernel_rfl) (by kernel_rfl)) ?_
  intro W base args ds gs before hval0 hW hcnd hsz0 _
  have hsz : (DataW.weightsEach Tryz.prog (Tryz.f5.params.toList ++ Go.Proofs.YtccbimcikbbecaaGreat.Rows.fnExactConflictingConstantsSpec.plain.varTypes Tryz.prog) (ds ++ gs)).all (· ≤ reachBytes) = true := hsz0
  have hval : ∀ (j : Nat) t v, Tryz.f5.params[j]? = some t → args[j]? = some v → Value.okWide Tryz.prog W .any base t v := hval0
  have hW' := hW
  obtain ⟨p, q, hA0, hV, rfl, hfz, hnd⟩ := hW
  have hA : DataW.TrodAll enc Tryz.prog W 0 (fun _ => true) true [49, 26, 50] args.toList ds p := hA0
  obtain ⟨v0, vs0, d0, ds0, p0, q0, hargs, rfl, rfl, h0, r0⟩ := trodAll_cons hA
  obtain ⟨v1, vs1, d1, ds1, p1, q1, rfl, rfl, rfl, h1, r1⟩ := trodAll_cons r0
  obtain ⟨v2, vs2, d2, ds2, p2, q2, rfl, rfl, rfl, h2, r2⟩ := trodAll_cons r1
  obtain ⟨rfl, rfl, rfl⟩ := trodAll_nil r2
  obtain rfl : args = #[v0, v1, v2] := by cases args; simp_all
  obtain ⟨rfl, rfl⟩ := trodVars_none hV
  have fits : ∀ j t d, [49, 26, 50][j]? = some t → [d0, d1, d2][j]? = some d → Fits Tryz.prog t d := fun j t d ht hd n hn => by
    have := List.all_eq_true.1 hsz n (weightsEach_sub (ts := [49, 26, 50]) (j := j) ht hd n hn)
    simpa using this
  have lt0 : ∀ x ∈ p0, x.block < W.heap.size := by obtain ⟨m, hm⟩ := h0; exact DataW.trod_lt m _ _ _ hm
  have lt1 : ∀ x ∈ p1, x.block < W.heap.size := by obtain ⟨m, hm⟩ := h1; exact DataW.trod_lt m _ _ _ hm
  have lt2 : ∀ x ∈ p2, x.block < W.heap.size := by obtain ⟨m, hm⟩ := h2; exact DataW.trod_lt m _ _ _ hm
  obtain ⟨cs0, rfl, _⟩ := okWide_struct Tryz.underlying49 (hval 0 49 v0 rfl rfl)
  obtain ⟨a1, n1, c1, rfl⟩ := okWide_slice Tryz.underlying26 (hval 1 26 v1 rfl rfl)
  obtain ⟨a2, n2, c2, rfl⟩ := okWide_slice Tryz.underlying50 (hval 2 50 v2 rfl rfl)
  obtain ⟨_, ⟨x, rfl⟩, s0⟩ := arg_many rd_inst h0 (fits 0 _ _ rfl rfl)
  obtain ⟨_, ⟨l, rfl⟩, s1⟩ := arg_one rd_deps h1 (fits 1 _ _ rfl rfl)
  obtain ⟨_, ⟨m, rfl⟩, s2⟩ := arg_one rd_steps h2 (fits 2 _ _ rfl rfl)
  clear hA0 hval0 hsz0 hsz
  refine (law_calls (ct_law_ConflictingConstants x l m) (vals := [.agg cs0, .slice a1 n1 c1, .slice a2 n2 c2]) ⟨s0, s1, s2, trivial⟩).mono fun e W' ⟨he, bel⟩ => ?_
  subst he
  exact ⟨_, rfl, _, _, _, [], _, [], hW', trodAll_mk1 (shut_bool Tryz.underlying4 _),
    (trodAll_cons_mk (Below.trod laidOut (by kernel_rfl) (of_decide_eq_true (by kernel_rfl)) h0 bel lt0) (trodAll_cons_mk (Below.trod laidOut (by kernel_rfl) (of_decide_eq_true (by kernel_rfl)) h1 bel lt1) (trodAll_cons_mk (Below.trod laidOut (by kernel_rfl) (of_decide_eq_true (by kernel_rfl)) h2 bel lt2) trodAll_mk0))), rfl, bel.frame _, fun h => by cases h⟩
theorem over_ConflictingConstants : Go.Proofs.YtccbimcikbbecaaGreat.Rows.fnExactConflictingConstantsRow.holds Go.Proofs.YtccbimcikbbecaaGreat.Tryz.pinned (OpenSpec.ofChange Go.Proofs.YtccbimcikbbecaaGreat.Rows.fnExactConflictingConstantsSpec) :=
  OpenClaim.holds_of_wide 5 Tryz.f5 rfl rfl rfl rfl rfl rfl rfl ⟨rfl, rfl, rfl, rfl, rfl⟩ rfl rfl rfl rfl rfl (by kernel_rfl) Tryz.func5 (by kernel_rfl)
    (of_decide_eq_true (by kernel_rfl)) (by unfold Func.isWrapper; first | (rw [if_pos (by decide +kernel)]; kernel_rfl) | (rw [if_neg (by decide +kernel)]; exact ⟨rfl, rfl⟩))
    (fun os started H enc _ => lifted_ConflictingConstants os started H enc)
theorem ConflictingConstants_holds : Go.Proofs.YtccbimcikbbecaaGreat.Rows.FnExactConflictingConstantsSaid := over_ConflictingConstants
end Go.Proofs.YtccbimcikbbecaaGreat
