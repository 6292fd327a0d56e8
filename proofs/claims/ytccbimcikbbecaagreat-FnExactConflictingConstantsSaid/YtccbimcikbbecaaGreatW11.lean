/- Part 11 of what the row leans on: Rep, Sz, Sz2, To, To2, Eq, Ins, Law1. No statement of the program stands here by itself. -/
import Derived.Test.YtccbimcikbbecaaGreatW10
import Derived.Test.YtccbimcikbbecaaGreatW4
set_option linter.all false
set_option linter.unusedVariables false
set_option linter.unusedSimpArgs false
/- Steps replayed. -/
namespace Go.Proofs.YtccbimcikbbecaaGreat
open Go P1
def stepAt (ss : List CStep) (i : Nat) : CStep := ss.getD i (CStep.mk 0 [])
def depAt (ds : List Dep) (s : CStep) : Dep := ds.getD s.dep.toNat (Dep.mk [] [] false 0 0)
def stAt (ds : List Dep) (ss : List CStep) (x : Inst) : Nat → Inst × Int
  | 0 => (x, 1)
  | i + 1 => trigR (stAt ds ss x i).1 (depAt ds (stepAt ss i)) (stepAt ss i).bind
def stepOk (ds : List Dep) (ss : List CStep) (x : Inst) (i : Nat) : Bool := decide ((stAt ds ss x i).2 = 1) && (inR (stepAt ss i).dep 0 (ds.length - 1) && isAct (stAt ds ss x i).1 (depAt ds (stepAt ss i)) (stepAt ss i).bind)
def replayB (x : Inst) (ds : List Dep) (ss : List CStep) : Bool := (validInst x && validDeps x.rels ds) && (List.range ss.length).all (stepOk ds ss x)
def replayR (x : Inst) (ds : List Dep) (ss : List CStep) : Inst × Int × Bool := if replayB x ds ss then ((stAt ds ss x ss.length).1, (stAt ds ss x ss.length).2, true) else (Inst.mk [] [], 0, false)
def replayT (x : Inst) (ds : List Dep) (ss : List CStep) : Sl := .tup [ag (replayR x ds ss).1.av, sl (i64 (replayR x ds ss).2.1), sl (.bool (replayR x ds ss).2.2)]
theorem replay_f {x : Inst} {ds : List Dep} {ss : List CStep} (h : replayB x ds ss = false) : replayR x ds ss = (Inst.mk [] [], 0, false) := by simp only [replayR, h]; rfl
theorem replay_t {x : Inst} {ds : List Dep} {ss : List CStep} (h : replayB x ds ss = true) : replayR x ds ss = ((stAt ds ss x ss.length).1, (stAt ds ss x ss.length).2, true) := by simp only [replayR, h]; rfl
theorem replayB_1 {x : Inst} {ds : List Dep} {ss : List CStep} (h : validInst x = false) : replayB x ds ss = false := by simp [replayB, h]
theorem replayB_2 {x : Inst} {ds : List Dep} {ss : List CStep} (h : validDeps x.rels ds = false) : replayB x ds ss = false := by simp [replayB, h]
theorem replayB_3 {x : Inst} {ds : List Dep} {ss : List CStep} {i : Nat} (hi : i < ss.length) (h : stepOk ds ss x i = false) : replayB x ds ss = false := by
  simp only [replayB, range_bad hi h, Bool.and_false]
theorem replayB_t {x : Inst} {ds : List Dep} {ss : List CStep} (h1 : validInst x = true) (h2 : validDeps x.rels ds = true) (h : (List.range ss.length).all (stepOk ds ss x) = true) : replayB x ds ss = true := by simp only [replayB, h1, h2, h]; rfl
theorem stepAt_eq {ss : List CStep} {i : Nat} (h : i < ss.length) : stepAt ss i = ss[i] := by
  simp only [stepAt, List.getD_eq_getElem?_getD, List.getElem?_eq_getElem h, Option.getD_some]
theorem depAt_eq {ds : List Dep} {s : CStep} (h : s.dep.toNat < ds.length) : depAt ds s = ds[s.dep.toNat] := by
  simp only [depAt, List.getD_eq_getElem?_getD, List.getElem?_eq_getElem h, Option.getD_some]
theorem stepOk_1 {x : Inst} {ds : List Dep} {ss : List CStep} {i : Nat} (h : (stAt ds ss x i).2 ≠ 1) : stepOk ds ss x i = false := by simp [stepOk, h]
theorem stepOk_2 {x : Inst} {ds : List Dep} {ss : List CStep} {i : Nat} (hi : i < ss.length) (h : inR ss[i].dep 0 (ds.length - 1) = false) : stepOk ds ss x i = false := by
  rw [← stepAt_eq hi] at h; simp [stepOk, h]
theorem stepOk_eq {x : Inst} {ds : List Dep} {ss : List CStep} {i : Nat} (hi : i < ss.length) (h1 : (stAt ds ss x i).2 = 1) (h : inR ss[i].dep 0 (ds.length - 1) = true) (hd : ss[i].dep.toNat < ds.length) : stepOk ds ss x i = isAct (stAt ds ss x i).1 ds[ss[i].dep.toNat] ss[i].bind := by
  simp only [stepOk, stepAt_eq hi, depAt_eq hd, h1, h]; simp
theorem stAt_S {x : Inst} {ds : List Dep} {ss : List CStep} {i : Nat} (hi : i < ss.length) (hd : ss[i].dep.toNat < ds.length) : stAt ds ss x (i + 1) = trigR (stAt ds ss x i).1 ds[ss[i].dep.toNat] ss[i].bind := by
  simp only [stAt, stepAt_eq hi, depAt_eq hd]
theorem noI_ok : (Inst.mk [] []).ok := ⟨by simp, by simp, by simp⟩
theorem trigR_inst {x : Inst} {d : Dep} {b : List Int} (ho : x.ok) : (trigR x d b).1.ok := by
  by_cases ha : isAct x d b = true
  · obtain ⟨hvi, hvd, hb⟩ := isAct_spec ha
    by_cases he : d.egd = true
    · rw [trigR_egd ha he]
      simp only [eqd]
      split
      · exact ho
      · simp only [applyR]
        split
        · exact applyI_ok hvi
        · exact noI_ok
    · have he : d.egd = false := by simpa using he
      by_cases h1 : 40 < nextN x + (exV d).length
      · rw [trigR_null ha he h1]; exact ho
      · by_cases h2 : 30 < (newF x d (trigB x d b) d.head.length).length
        · rw [trigR_many ha he h2]; exact ho
        · rw [trigR_ok ha he h1 h2]; exact newF_ok hvi hvd he (Nat.le_refl _)
  · rw [trigR_no (by simpa using ha)]; exact ho
theorem trigR_code {x : Inst} {d : Dep} {b : List Int} (ha : isAct x d b = true) : (trigR x d b).2 ≠ 0 := by
  simp only [trigR, if_pos ha, eqd]
  (repeat' split) <;> simp
theorem trigR_zero {x : Inst} {d : Dep} {b : List Int} (h : (trigR x d b).2 = 0) : isAct x d b = false := by
  by_cases ha : isAct x d b = true
  · exact absurd h (trigR_code ha)
  · simpa using ha
theorem trigR_act {x : Inst} {d : Dep} {b : List Int} (h : ¬ (trigR x d b).2 = 0) : isAct x d b = true := by
  by_cases ha : isAct x d b = true
  · exact ha
  · exact absurd (by rw [trigR_no (by simpa using ha)]) h
theorem stAt_ok {x : Inst} {ds : List Dep} {ss : List CStep} (ho : x.ok) : ∀ i, (stAt ds ss x i).1.ok
  | 0 => ho
  | i + 1 => trigR_inst (stAt_ok ho i)
theorem validDeps_len {rels : List Relation} {l : List Dep} (h : validDeps rels l = true) : l.length ≤ 5 := by
  simp only [validDeps, Bool.and_eq_true, decide_eq_true_eq] at h; exact h.2.2
def H57 : List (Nat × Hint) := [(0, ⟨[], [0, 7, 8]⟩), (1, ⟨[(false, []), (false, []), (false, []), (true, []), (false, []), (false, []), (false, []), (false, []), (false, []), (false, [])], [12, 13, 14, 15, 16, 17, 18, 19, 20]⟩), (2, ⟨[], [22]⟩), (3, ⟨[], [3, 23, 24]⟩), (6, ⟨[], [25, 26, 27]⟩), (7, ⟨[], [29, 30]⟩), (8, ⟨[(false, []), (false, []), (true, []), (false, []), (false, [0]), (false, []), (false, []), (false, []), (false, [0, 1, 2, 3, 4]), (false, [1, 2, 3, 4, 5]), (false, [2, 3, 4, 5, 6]), (false, []), (false, []), (false, []), (true, []), (false, []), (false, [0]), (false, [0, 1]), (false, [0, 1, 2]), (false, [2, 3]), (false, [3, 4]), (false, [4, 5]), (false, [6]), (false, [7]), (false, [0, 1, 2, 3, 4, 5, 6, 7, 8]), (false, [0, 1, 2, 3, 4, 5, 6, 7, 8, 9]), (false, [2, 3, 4, 5, 6, 7, 8, 9, 10]), (false, [3, 4, 5, 6, 7, 8, 9, 10, 11]), (false, [4, 5, 6, 7, 8, 9, 10, 11, 12]), (false, []), (false, []), (false, [])], [10, 31, 32, 33, 34, 35, 36, 37, 38, 39, 40, 41, 42, 43, 44, 45, 46, 47, 48, 49, 50, 51, 52, 53, 54, 55, 56, 57, 58, 59, 60, 61]⟩), (9, ⟨[], [63]⟩), (10, ⟨[(false, []), (false, [0]), (false, [0, 1]), (false, [0, 1, 2]), (false, [2, 3]), (false, [3, 4]), (false, [4, 5]), (false, [6]), (false, [7]), (false, [0, 1, 2, 3, 4, 5, 6, 7, 8]), (false, [0, 1, 2, 3, 4, 5, 6, 7, 8, 9]), (false, [2, 3, 4, 5, 6, 7, 8, 9, 10]), (false, [3, 4, 5, 6, 7, 8, 9, 10, 11]), (false, [4, 5, 6, 7, 8, 9, 10, 11, 12]), (false, []), (false, []), (false, []), (false, [0]), (false, [0]), (false, [])], [64, 65, 66, 67, 68, 69, 70, 71, 72, 73, 74, 75, 76, 77, 78, 79, 80, 81]⟩), (11, ⟨[], [9, 10, 82, 83]⟩)]
set_option maxHeartbeats 4000000 in
set_option maxRecDepth 100000 in
theorem ct_sReplaySteps (x : Inst) (ds : List Dep) (ss : List CStep) : Ct Tryz.prog 57 [ag x.av, sl (.row (ds.map Dep.av)), sl (.row (ss.map CStep.av))] [] (replayT x ds ss) [] [] := by
  refine ct_of_vc mixed tab_ok H57 Tryz.func57 rfl (by kernel_rfl) (by kernel_rfl) (by rfl) ?_
  intro hw _
  have hsl : ss.length ≤ 1125899906842624 := Wf.lenM (hw _ (.tail _ (.tail _ (.head _))))
  clear hw
  conv => whnf
  refine .inl ?_
  conv => whnf
  refine ⟨_, _, _, _, ct_sIsValidInstance x, ?_⟩
  conv => whnf
  refine ⟨fun h1 => ?_, fun h1 => ?_⟩ <;> (try simp at h1) <;> (conv => whnf)
  · rw [replay_f (replayB_1 h1)]
    repeat' (first
      | exact trivial
      | (refine ⟨rfl, ?_⟩; (conv => whnf))
      | (refine ⟨fun h => ?_, fun h => ?_⟩ <;> (try simp at h) <;> (try (exfalso; omega)) <;> (conv => whnf))
      | (intro b hb; (conv => whnf))
      | (refine And.intro ?_ ?_; (focus (rw [wrap64 (by omega) (by omega)] <;> rfl)); (conv => whnf))
      | (refine And.intro ?_ (And.intro ?_ (And.intro ?_ (And.intro ?_ ?_))); (focus (first | omega | (rw [wrap64 (by omega) (by omega)] <;> first | omega | rfl) | (simp; omega))); (focus (first | omega | (rw [wrap64 (by omega) (by omega)] <;> first | omega | rfl) | (simp; omega))); (focus (first | omega | (rw [wrap64 (by omega) (by omega)] <;> first | omega | rfl) | (simp; omega))); (focus ((repeat' (first | exact sz_nil | exact sz_map fun _ => rfl | apply sz_take | apply sz_drop | apply sz_append | apply sz_cons rfl)); done)); (conv => whnf))
      | (refine And.intro ?_ (And.intro ?_ ?_); (focus (first | omega | (rw [wrap64 (by omega) (by omega)] <;> first | omega | rfl) | (simp; omega))); (focus ((repeat' (first | exact sz_nil | exact sz_map fun _ => rfl | apply sz_take | apply sz_drop | apply sz_append | apply sz_cons rfl)); done)); (conv => whnf))
      | (refine And.intro ?_ (And.intro ?_ ?_); (focus (first | omega | (rw [wrap64 (by omega) (by omega)] <;> first | omega | rfl) | (simp; omega))); (focus (first | omega | (rw [wrap64 (by omega) (by omega)] <;> first | omega | rfl) | (simp; omega))); (conv => whnf))
      | (rw [beq_g]; (conv => whnf))
      | fail)
  refine .inl ?_
  conv => whnf
  refine ⟨_, _, _, _, ct_sAreValidDependencies x.rels ds, ?_⟩
  conv => whnf
  refine ⟨fun h2 => ?_, fun h2 => ?_⟩ <;> (try simp at h2) <;> (conv => whnf)
  · rw [replay_f (replayB_2 h2)]
    repeat' (first
      | exact trivial
      | (refine ⟨rfl, ?_⟩; (conv => whnf))
      | (refine ⟨fun h => ?_, fun h => ?_⟩ <;> (try simp at h) <;> (try (exfalso; omega)) <;> (conv => whnf))
      | (intro b hb; (conv => whnf))
      | (refine And.intro ?_ ?_; (focus (rw [wrap64 (by omega) (by omega)] <;> rfl)); (conv => whnf))
      | (refine And.intro ?_ (And.intro ?_ (And.intro ?_ (And.intro ?_ ?_))); (focus (first | omega | (rw [wrap64 (by omega) (by omega)] <;> first | omega | rfl) | (simp; omega))); (focus (first | omega | (rw [wrap64 (by omega) (by omega)] <;> first | omega | rfl) | (simp; omega))); (focus (first | omega | (rw [wrap64 (by omega) (by omega)] <;> first | omega | rfl) | (simp; omega))); (focus ((repeat' (first | exact sz_nil | exact sz_map fun _ => rfl | apply sz_take | apply sz_drop | apply sz_append | apply sz_cons rfl)); done)); (conv => whnf))
      | (refine And.intro ?_ (And.intro ?_ ?_); (focus (first | omega | (rw [wrap64 (by omega) (by omega)] <;> first | omega | rfl) | (simp; omega))); (focus ((repeat' (first | exact sz_nil | exact sz_map fun _ => rfl | apply sz_take | apply sz_drop | apply sz_append | apply sz_cons rfl)); done)); (conv => whnf))
      | (refine And.intro ?_ (And.intro ?_ ?_); (focus (first | omega | (rw [wrap64 (by omega) (by omega)] <;> first | omega | rfl) | (simp; omega))); (focus (first | omega | (rw [wrap64 (by omega) (by omega)] <;> first | omega | rfl) | (simp; omega))); (conv => whnf))
      | (rw [beq_g]; (conv => whnf))
      | fail)
  have hdl := validDeps_len h2
  have hok := validInst_ok h1
  have hwr : IntKind.i64.wrap (↑(ds.map Dep.av).length - 1) = ds.length - 1 := (by rw [List.length_map]; exact wrap64 (by omega) (by omega))
  refine .inl ?_
  conv => whnf
  refine ⟨_, _, _, _, ct_l5Copy x hok, ?_⟩
  conv => whnf
  refine loop_rule mixed tab_ok H57 (I := Nat) (fun i => [(.slot 11, iv i), (.slot 10, iv (stAt ds ss x i).2), (.slot 9, .s (.lf (.ptr (9, 0) 0))), (.leaf (9, 0) 0, .l (.av (.row ((stAt ds ss x i).1.rels.map Relation.av)))), (.leaf (9, 0) 1, .l (.av (.row ((stAt ds ss x i).1.facts.map Fact.av)))), (.slot 6, .s (.lf (.ptr (6, 0) 0))), (.leaf (6, 0) 0, .l .nil), (.leaf (6, 0) 1, .l .nil), (.slot 1, .s (sl (.row (ds.map Dep.av)))), (.slot 2, .s (sl (.row (ss.map CStep.av))))]) (fun i => i ≤ ss.length ∧ (List.range i).all (stepOk ds ss x) = true) (fun i => ss.length - i) (by kernel_rfl) 0 ⟨by omega, by simp⟩ (wk_sound (ψ := []) ?_) ?_
  · conv => whnf
    repeat' (first
      | exact trivial
      | (refine ⟨rfl, ?_⟩; (conv => whnf))
      | (refine ⟨fun h => ?_, fun h => ?_⟩ <;> (try simp at h) <;> (try (exfalso; omega)) <;> (conv => whnf))
      | (intro b hb; (conv => whnf))
      | (refine And.intro ?_ ?_; (focus (rw [wrap64 (by omega) (by omega)] <;> rfl)); (conv => whnf))
      | (refine And.intro ?_ (And.intro ?_ (And.intro ?_ (And.intro ?_ ?_))); (focus (first | omega | (rw [wrap64 (by omega) (by omega)] <;> first | omega | rfl) | (simp; omega))); (focus (first | omega | (rw [wrap64 (by omega) (by omega)] <;> first | omega | rfl) | (simp; omega))); (focus (first | omega | (rw [wrap64 (by omega) (by omega)] <;> first | omega | rfl) | (simp; omega))); (focus ((repeat' (first | exact sz_nil | exact sz_map fun _ => rfl | apply sz_take | apply sz_drop | apply sz_append | apply sz_cons rfl)); done)); (conv => whnf))
      | (refine And.intro ?_ (And.intro ?_ ?_); (focus (first | omega | (rw [wrap64 (by omega) (by omega)] <;> first | omega | rfl) | (simp; omega))); (focus ((repeat' (first | exact sz_nil | exact sz_map fun _ => rfl | apply sz_take | apply sz_drop | apply sz_append | apply sz_cons rfl)); done)); (conv => whnf))
      | (refine And.intro ?_ (And.intro ?_ ?_); (focus (first | omega | (rw [wrap64 (by omega) (by omega)] <;> first | omega | rfl) | (simp; omega))); (focus (first | omega | (rw [wrap64 (by omega) (by omega)] <;> first | omega | rfl) | (simp; omega))); (conv => whnf))
      | (rw [beq_g]; (conv => whnf))
      | fail)
  rintro i ⟨hi, hall⟩
  have hco := stAt_ok (ds := ds) (ss := ss) hok i
  conv => whnf
  refine ⟨fun hlt => ?_, fun hlt => ?_⟩ <;> (try simp at hlt) <;> (conv => whnf)
  · repeat' (first
      | exact trivial
      | (refine ⟨rfl, ?_⟩; (conv => whnf))
      | (refine ⟨fun h => ?_, fun h => ?_⟩ <;> (try simp at h) <;> (try (exfalso; omega)) <;> (conv => whnf))
      | (intro b hb; (conv => whnf))
      | (refine And.intro ?_ ?_; (focus (rw [wrap64 (by omega) (by omega)] <;> rfl)); (conv => whnf))
      | (refine ⟨ss[i].av, ?_, map_getI ?_ ?_, rfl, ?_⟩; (focus (first | omega | (rw [wrap64 (by omega) (by omega)] <;> first | omega | rfl) | (simp; omega))); (focus (first | rfl | omega | (rw [wrap64 (by omega) (by omega)] <;> first | omega | rfl))); (focus omega); (conv => whnf))
      | (refine ⟨ss[i].av, map_getI ?_ ?_, ?_, ?_, ?_⟩; (focus (first | rfl | omega | (rw [wrap64 (by omega) (by omega)] <;> first | omega | rfl))); (focus omega); (focus (simp; done)); (focus (simp; done)); (conv => whnf))
      | (refine ⟨ss[i].av, map_getI ?_ ?_, ?_⟩; (focus (first | rfl | omega | (rw [wrap64 (by omega) (by omega)] <;> first | omega | rfl))); (focus omega); (conv => whnf))
      | (refine And.intro ?_ (And.intro ?_ (And.intro ?_ (And.intro ?_ ?_))); (focus (first | omega | (rw [wrap64 (by omega) (by omega)] <;> first | omega | rfl) | (simp; omega))); (focus (first | omega | (rw [wrap64 (by omega) (by omega)] <;> first | omega | rfl) | (simp; omega))); (focus (first | omega | (rw [wrap64 (by omega) (by omega)] <;> first | omega | rfl) | (simp; omega))); (focus ((repeat' (first | exact sz_nil | exact sz_map fun _ => rfl | apply sz_take | apply sz_drop | apply sz_append | apply sz_cons rfl)); done)); (conv => whnf))
      | (refine And.intro ?_ (And.intro ?_ ?_); (focus (first | omega | (rw [wrap64 (by omega) (by omega)] <;> first | omega | rfl) | (simp; omega))); (focus ((repeat' (first | exact sz_nil | exact sz_map fun _ => rfl | apply sz_take | apply sz_drop | apply sz_append | apply sz_cons rfl)); done)); (conv => whnf))
      | (refine And.intro ?_ (And.intro ?_ ?_); (focus (first | omega | (rw [wrap64 (by omega) (by omega)] <;> first | omega | rfl) | (simp; omega))); (focus (first | omega | (rw [wrap64 (by omega) (by omega)] <;> first | omega | rfl) | (simp; omega))); (conv => whnf))
      | (refine And.intro ?_ ?_; (focus ((rw [replay_f (replayB_3 hlt (stepOk_1 (by assumption)))] <;> rfl))); (conv => whnf))
      | (rw [beq_g]; (conv => whnf))
      | fail)
    have hc : (stAt ds ss x i).2 = 1 := by assumption
    refine .inl ?_
    conv => whnf
    refine ⟨_, _, _, _, ct_l1In _ _ _, ?_⟩
    conv => whnf
    rw [hwr]
    refine ⟨fun h3 => ?_, fun h3 => ?_⟩ <;> (try simp at h3) <;> (conv => whnf)
    · repeat' (first
        | exact trivial
        | (refine ⟨rfl, ?_⟩; (conv => whnf))
        | (refine ⟨fun h => ?_, fun h => ?_⟩ <;> (try simp at h) <;> (try (exfalso; omega)) <;> (conv => whnf))
        | (intro b hb; (conv => whnf))
        | (refine And.intro ?_ ?_; (focus (rw [wrap64 (by omega) (by omega)] <;> rfl)); (conv => whnf))
        | (refine And.intro ?_ (And.intro ?_ (And.intro ?_ (And.intro ?_ ?_))); (focus (first | omega | (rw [wrap64 (by omega) (by omega)] <;> first | omega | rfl) | (simp; omega))); (focus (first | omega | (rw [wrap64 (by omega) (by omega)] <;> first | omega | rfl) | (simp; omega))); (focus (first | omega | (rw [wrap64 (by omega) (by omega)] <;> first | omega | rfl) | (simp; omega))); (focus ((repeat' (first | exact sz_nil | exact sz_map fun _ => rfl | apply sz_take | apply sz_drop | apply sz_append | apply sz_cons rfl)); done)); (conv => whnf))
        | (refine And.intro ?_ (And.intro ?_ ?_); (focus (first | omega | (rw [wrap64 (by omega) (by omega)] <;> first | omega | rfl) | (simp; omega))); (focus ((repeat' (first | exact sz_nil | exact sz_map fun _ => rfl | apply sz_take | apply sz_drop | apply sz_append | apply sz_cons rfl)); done)); (conv => whnf))
        | (refine And.intro ?_ (And.intro ?_ ?_); (focus (first | omega | (rw [wrap64 (by omega) (by omega)] <;> first | omega | rfl) | (simp; omega))); (focus (first | omega | (rw [wrap64 (by omega) (by omega)] <;> first | omega | rfl) | (simp; omega))); (conv => whnf))
        | (refine And.intro ?_ ?_; (focus ((rw [replay_f (replayB_3 hlt (stepOk_2 hlt (by assumption)))] <;> rfl))); (conv => whnf))
        | (rw [beq_g]; (conv => whnf))
        | fail)
    have h4 := inR_iff.1 h3
    have hdi : ss[i].dep.toNat < ds.length := by omega
    have hse := stepOk_eq hlt hc h3 hdi
    have hss := stAt_S (x := x) hlt hdi
    have hro := trigR_inst (d := ds[ss[i].dep.toNat]) (b := ss[i].bind) hco
    repeat' (first
      | exact trivial
      | (refine ⟨rfl, ?_⟩; (conv => whnf))
      | (refine ⟨fun h => ?_, fun h => ?_⟩ <;> (try simp at h) <;> (try (exfalso; omega)) <;> (conv => whnf))
      | (intro b hb; (conv => whnf))
      | (refine .inl ?_; (conv => whnf); first | (refine ⟨_, _, _, _, ct_sIsActiveTrigger _ _ _, ?_⟩; (conv => whnf)) | (refine ⟨_, _, _, _, ct_sApplyTrigger _ _ _ hco, ?_⟩; (conv => whnf)) | fail)
      | (refine And.intro ?_ ?_; (focus (rw [wrap64 (by omega) (by omega)] <;> rfl)); (conv => whnf))
      | (refine ⟨ss[i].av, ?_, map_getI ?_ ?_, rfl, ?_⟩; (focus (first | omega | (rw [wrap64 (by omega) (by omega)] <;> first | omega | rfl) | (simp; omega))); (focus (first | rfl | omega | (rw [wrap64 (by omega) (by omega)] <;> first | omega | rfl))); (focus omega); (conv => whnf))
      | (refine ⟨ss[i].av, map_getI ?_ ?_, ?_, ?_, ?_⟩; (focus (first | rfl | omega | (rw [wrap64 (by omega) (by omega)] <;> first | omega | rfl))); (focus omega); (focus (simp; done)); (focus (simp; done)); (conv => whnf))
      | (refine ⟨ss[i].av, map_getI ?_ ?_, ?_⟩; (focus (first | rfl | omega | (rw [wrap64 (by omega) (by omega)] <;> first | omega | rfl))); (focus omega); (conv => whnf))
      | (refine ⟨ds[ss[i].dep.toNat].av, ?_, map_getI ?_ ?_, rfl, ?_⟩; (focus (first | omega | (rw [wrap64 (by omega) (by omega)] <;> first | omega | rfl) | (simp; omega))); (focus (first | rfl | omega | (rw [wrap64 (by omega) (by omega)] <;> first | omega | rfl))); (focus omega); (conv => whnf))
      | (refine ⟨ds[ss[i].dep.toNat].av, map_getI ?_ ?_, ?_, ?_, ?_⟩; (focus (first | rfl | omega | (rw [wrap64 (by omega) (by omega)] <;> first | omega | rfl))); (focus omega); (focus (simp; done)); (focus (simp; done)); (conv => whnf))
      | (refine ⟨ds[ss[i].dep.toNat].av, map_getI ?_ ?_, ?_⟩; (focus (first | rfl | omega | (rw [wrap64 (by omega) (by omega)] <;> first | omega | rfl))); (focus omega); (conv => whnf))
      | (refine And.intro ?_ (And.intro ?_ (And.intro ?_ (And.intro ?_ ?_))); (focus (first | omega | (rw [wrap64 (by omega) (by omega)] <;> first | omega | rfl) | (simp; omega))); (focus (first | omega | (rw [wrap64 (by omega) (by omega)] <;> first | omega | rfl) | (simp; omega))); (focus (first | omega | (rw [wrap64 (by omega) (by omega)] <;> first | omega | rfl) | (simp; omega))); (focus ((repeat' (first | exact sz_nil | exact sz_map fun _ => rfl | apply sz_take | apply sz_drop | apply sz_append | apply sz_cons rfl)); done)); (conv => whnf))
      | (refine And.intro ?_ (And.intro ?_ ?_); (focus (first | omega | (rw [wrap64 (by omega) (by omega)] <;> first | omega | rfl) | (simp; omega))); (focus ((repeat' (first | exact sz_nil | exact sz_map fun _ => rfl | apply sz_take | apply sz_drop | apply sz_append | apply sz_cons rfl)); done)); (conv => whnf))
      | (refine And.intro ?_ (And.intro ?_ ?_); (focus (first | omega | (rw [wrap64 (by omega) (by omega)] <;> first | omega | rfl) | (simp; omega))); (focus (first | omega | (rw [wrap64 (by omega) (by omega)] <;> first | omega | rfl) | (simp; omega))); (conv => whnf))
      | (refine ⟨i + 1, ?_, ?_, wk_sound (ψ := []) ?_⟩; (focus (exact ⟨hlt, range_next hall (by rw [hse]; assumption)⟩)); (focus (first | omega | (rw [wrap64 (by omega) (by omega)] <;> first | omega | rfl) | (simp; omega))); (conv => whnf); (fail_if_success show False))
      | (refine And.intro ?_ ?_; (focus (first | (rw [replay_f (replayB_3 hlt (by rw [hse]; assumption))] <;> rfl) | (rw [hss]; done))); (conv => whnf))
      | (rw [beq_g]; (conv => whnf))
      | fail)
  · have e : i = ss.length := by omega
    subst e
    rw [replay_t (replayB_t h1 h2 hall)]
    repeat' (first
      | exact trivial
      | (refine ⟨rfl, ?_⟩; (conv => whnf))
      | (refine ⟨fun h => ?_, fun h => ?_⟩ <;> (try simp at h) <;> (try (exfalso; omega)) <;> (conv => whnf))
      | (intro b hb; (conv => whnf))
      | (refine And.intro ?_ ?_; (focus (rw [wrap64 (by omega) (by omega)] <;> rfl)); (conv => whnf))
      | (refine And.intro ?_ (And.intro ?_ (And.intro ?_ (And.intro ?_ ?_))); (focus (first | omega | (rw [wrap64 (by omega) (by omega)] <;> first | omega | rfl) | (simp; omega))); (focus (first | omega | (rw [wrap64 (by omega) (by omega)] <;> first | omega | rfl) | (simp; omega))); (focus (first | omega | (rw [wrap64 (by omega) (by omega)] <;> first | omega | rfl) | (simp; omega))); (focus ((repeat' (first | exact sz_nil | exact sz_map fun _ => rfl | apply sz_take | apply sz_drop | apply sz_append | apply sz_cons rfl)); done)); (conv => whnf))
      | (refine And.intro ?_ (And.intro ?_ ?_); (focus (first | omega | (rw [wrap64 (by omega) (by omega)] <;> first | omega | rfl) | (simp; omega))); (focus ((repeat' (first | exact sz_nil | exact sz_map fun _ => rfl | apply sz_take | apply sz_drop | apply sz_append | apply sz_cons rfl)); done)); (conv => whnf))
      | (refine And.intro ?_ (And.intro ?_ ?_); (focus (first | omega | (rw [wrap64 (by omega) (by omega)] <;> first | omega | rfl) | (simp; omega))); (focus (first | omega | (rw [wrap64 (by omega) (by omega)] <;> first | omega | rfl) | (simp; omega))); (conv => whnf))
      | (rw [beq_g]; (conv => whnf))
      | fail)
def H60 : List (Nat × Hint) := [(0, ⟨[], [0, 7, 8]⟩), (1, ⟨[(false, []), (false, []), (false, []), (true, []), (false, []), (false, []), (false, []), (false, []), (false, []), (false, [])], [13, 14, 15, 16, 17, 18, 19, 20, 21]⟩), (2, ⟨[], [23]⟩), (3, ⟨[], [3, 24, 25]⟩), (4, ⟨[], [2]⟩), (6, ⟨[], [30, 31]⟩), (7, ⟨[(false, []), (false, []), (true, []), (false, []), (false, []), (false, []), (false, []), (false, []), (false, []), (false, []), (false, [])], [10, 32, 33, 34, 35, 36, 37, 38, 39, 40, 41]⟩), (8, ⟨[], [43]⟩), (9, ⟨[(false, []), (false, [0]), (false, [0, 1]), (false, [1, 2]), (false, [3]), (false, [4]), (false, [0, 1, 2, 3, 4, 5]), (false, [1, 2, 3, 4, 5, 6]), (false, []), (false, []), (false, []), (false, [0]), (false, [0]), (false, [])], [12, 44, 45, 46, 47, 48, 49, 50, 51, 52, 53, 54, 55]⟩), (10, ⟨[], [56]⟩), (11, ⟨[], [58]⟩), (12, ⟨[], [59]⟩), (13, ⟨[], [9, 10, 60, 61]⟩)]
set_option maxHeartbeats 4000000 in
set_option maxRecDepth 100000 in
theorem ct_iReplaySteps (x : Inst) (ds : List Dep) (ss : List CStep) : Ct Tryz.prog 60 [ag x.av, sl (.row (ds.map Dep.av)), sl (.row (ss.map CStep.av))] [] (replayT x ds ss) [] [] := by
  refine ct_of_vc mixed tab_ok H60 Tryz.func60 rfl (by kernel_rfl) (by kernel_rfl) (by rfl) ?_
  intro hw _
  have hsl : ss.length ≤ 1125899906842624 := Wf.lenM (hw _ (.tail _ (.tail _ (.head _))))
  clear hw
  conv => whnf
  refine .inl ?_
  conv => whnf
  refine ⟨_, _, _, _, ct_iIsValidInstance x, ?_⟩
  conv => whnf
  refine ⟨fun h1 => ?_, fun h1 => ?_⟩ <;> (try simp at h1) <;> (conv => whnf)
  · rw [replay_f (replayB_1 h1)]
    repeat' (first
      | exact trivial
      | (refine ⟨rfl, ?_⟩; (conv => whnf))
      | (refine ⟨fun h => ?_, fun h => ?_⟩ <;> (try simp at h) <;> (try (exfalso; omega)) <;> (conv => whnf))
      | (intro b hb; (conv => whnf))
      | (refine And.intro ?_ ?_; (focus (rw [wrap64 (by omega) (by omega)] <;> rfl)); (conv => whnf))
      | (refine And.intro ?_ (And.intro ?_ (And.intro ?_ (And.intro ?_ ?_))); (focus (first | omega | (rw [wrap64 (by omega) (by omega)] <;> first | omega | rfl) | (simp; omega))); (focus (first | omega | (rw [wrap64 (by omega) (by omega)] <;> first | omega | rfl) | (simp; omega))); (focus (first | omega | (rw [wrap64 (by omega) (by omega)] <;> first | omega | rfl) | (simp; omega))); (focus ((repeat' (first | exact sz_nil | exact sz_map fun _ => rfl | apply sz_take | apply sz_drop | apply sz_append | apply sz_cons rfl)); done)); (conv => whnf))
      | (refine And.intro ?_ (And.intro ?_ ?_); (focus (first | omega | (rw [wrap64 (by omega) (by omega)] <;> first | omega | rfl) | (simp; omega))); (focus ((repeat' (first | exact sz_nil | exact sz_map fun _ => rfl | apply sz_take | apply sz_drop | apply sz_append | apply sz_cons rfl)); done)); (conv => whnf))
      | (refine And.intro ?_ (And.intro ?_ ?_); (focus (first | omega | (rw [wrap64 (by omega) (by omega)] <;> first | omega | rfl) | (simp; omega))); (focus (first | omega | (rw [wrap64 (by omega) (by omega)] <;> first | omega | rfl) | (simp; omega))); (conv => whnf))
      | (rw [beq_g]; (conv => whnf))
      | fail)
  refine .inl ?_
  conv => whnf
  refine ⟨_, _, _, _, ct_iAreValidDependencies x.rels ds, ?_⟩
  conv => whnf
  refine ⟨fun h2 => ?_, fun h2 => ?_⟩ <;> (try simp at h2) <;> (conv => whnf)
  · rw [replay_f (replayB_2 h2)]
    repeat' (first
      | exact trivial
      | (refine ⟨rfl, ?_⟩; (conv => whnf))
      | (refine ⟨fun h => ?_, fun h => ?_⟩ <;> (try simp at h) <;> (try (exfalso; omega)) <;> (conv => whnf))
      | (intro b hb; (conv => whnf))
      | (refine And.intro ?_ ?_; (focus (rw [wrap64 (by omega) (by omega)] <;> rfl)); (conv => whnf))
      | (refine And.intro ?_ (And.intro ?_ (And.intro ?_ (And.intro ?_ ?_))); (focus (first | omega | (rw [wrap64 (by omega) (by omega)] <;> first | omega | rfl) | (simp; omega))); (focus (first | omega | (rw [wrap64 (by omega) (by omega)] <;> first | omega | rfl) | (simp; omega))); (focus (first | omega | (rw [wrap64 (by omega) (by omega)] <;> first | omega | rfl) | (simp; omega))); (focus ((repeat' (first | exact sz_nil | exact sz_map fun _ => rfl | apply sz_take | apply sz_drop | apply sz_append | apply sz_cons rfl)); done)); (conv => whnf))
      | (refine And.intro ?_ (And.intro ?_ ?_); (focus (first | omega | (rw [wrap64 (by omega) (by omega)] <;> first | omega | rfl) | (simp; omega))); (focus ((repeat' (first | exact sz_nil | exact sz_map fun _ => rfl | apply sz_take | apply sz_drop | apply sz_append | apply sz_cons rfl)); done)); (conv => whnf))
      | (refine And.intro ?_ (And.intro ?_ ?_); (focus (first | omega | (rw [wrap64 (by omega) (by omega)] <;> first | omega | rfl) | (simp; omega))); (focus (first | omega | (rw [wrap64 (by omega) (by omega)] <;> first | omega | rfl) | (simp; omega))); (conv => whnf))
      | (rw [beq_g]; (conv => whnf))
      | fail)
  have hdl := validDeps_len h2
  have hok := validInst_ok h1
  have hwr : IntKind.i64.wrap (↑(ds.map Dep.av).length - 1) = ds.length - 1 := (by rw [List.length_map]; exact wrap64 (by omega) (by omega))
  refine .inl ?_
  conv => whnf
  refine ⟨_, _, _, _, ct_instanceCopyD x hok, ?_⟩
  conv => whnf
  refine loop_rule mixed tab_ok H60 (I := Nat) (fun i => [(.slot 28, iv i), (.slot 27, iv ss.length), (.slot 26, .s (sl (.row (ss.map CStep.av)))), (.slot 10, iv (stAt ds ss x i).2), (.slot 9, .s (.lf (.ptr (9, 0) 0))), (.leaf (9, 0) 0, .l (.av (.row ((stAt ds ss x i).1.rels.map Relation.av)))), (.leaf (9, 0) 1, .l (.av (.row ((stAt ds ss x i).1.facts.map Fact.av)))), (.slot 6, .s (.lf (.ptr (6, 0) 0))), (.leaf (6, 0) 0, .l .nil), (.leaf (6, 0) 1, .l .nil), (.slot 1, .s (sl (.row (ds.map Dep.av))))]) (fun i => i ≤ ss.length ∧ (List.range i).all (stepOk ds ss x) = true) (fun i => ss.length - i) (by kernel_rfl) 0 ⟨by omega, by simp⟩ (wk_sound (ψ := []) ?_) ?_
  · conv => whnf
    repeat' (first
      | exact trivial
      | (refine ⟨rfl, ?_⟩; (conv => whnf))
      | (refine ⟨fun h => ?_, fun h => ?_⟩ <;> (try simp at h) <;> (try (exfalso; omega)) <;> (conv => whnf))
      | (intro b hb; (conv => whnf))
      | (refine And.intro ?_ ?_; (focus (rw [wrap64 (by omega) (by omega)] <;> rfl)); (conv => whnf))
      | (refine And.intro ?_ (And.intro ?_ (And.intro ?_ (And.intro ?_ ?_))); (focus (first | omega | (rw [wrap64 (by omega) (by omega)] <;> first | omega | rfl) | (simp; omega))); (focus (first | omega | (rw [wrap64 (by omega) (by omega)] <;> first | omega | rfl) | (simp; omega))); (focus (first | omega | (rw [wrap64 (by omega) (by omega)] <;> first | omega | rfl) | (simp; omega))); (focus ((repeat' (first | exact sz_nil | exact sz_map fun _ => rfl | apply sz_take | apply sz_drop | apply sz_append | apply sz_cons rfl)); done)); (conv => whnf))
      | (refine And.intro ?_ (And.intro ?_ ?_); (focus (first | omega | (rw [wrap64 (by omega) (by omega)] <;> first | omega | rfl) | (simp; omega))); (focus ((repeat' (first | exact sz_nil | exact sz_map fun _ => rfl | apply sz_take | apply sz_drop | apply sz_append | apply sz_cons rfl)); done)); (conv => whnf))
      | (refine And.intro ?_ (And.intro ?_ ?_); (focus (first | omega | (rw [wrap64 (by omega) (by omega)] <;> first | omega | rfl) | (simp; omega))); (focus (first | omega | (rw [wrap64 (by omega) (by omega)] <;> first | omega | rfl) | (simp; omega))); (conv => whnf))
      | (refine And.intro ?_ ?_; (focus (simp; done)); (conv => whnf))
      | (rw [beq_g]; (conv => whnf))
      | fail)
  rintro i ⟨hi, hall⟩
  have hco := stAt_ok (ds := ds) (ss := ss) hok i
  conv => whnf
  refine ⟨fun hlt => ?_, fun hlt => ?_⟩ <;> (try simp at hlt) <;> (conv => whnf)
  · repeat' (first
      | exact trivial
      | (refine ⟨rfl, ?_⟩; (conv => whnf))
      | (refine ⟨fun h => ?_, fun h => ?_⟩ <;> (try simp at h) <;> (try (exfalso; omega)) <;> (conv => whnf))
      | (intro b hb; (conv => whnf))
      | (refine And.intro ?_ ?_; (focus (rw [wrap64 (by omega) (by omega)] <;> rfl)); (conv => whnf))
      | (refine ⟨ss[i].av, ?_, map_getI ?_ ?_, rfl, ?_⟩; (focus (first | omega | (rw [wrap64 (by omega) (by omega)] <;> first | omega | rfl) | (simp; omega))); (focus (first | rfl | omega | (rw [wrap64 (by omega) (by omega)] <;> first | omega | rfl))); (focus omega); (conv => whnf))
      | (refine ⟨ss[i].av, map_getI ?_ ?_, ?_, ?_, ?_⟩; (focus (first | rfl | omega | (rw [wrap64 (by omega) (by omega)] <;> first | omega | rfl))); (focus omega); (focus (simp; done)); (focus (simp; done)); (conv => whnf))
      | (refine ⟨ss[i].av, map_getI ?_ ?_, ?_⟩; (focus (first | rfl | omega | (rw [wrap64 (by omega) (by omega)] <;> first | omega | rfl))); (focus omega); (conv => whnf))
      | (refine And.intro ?_ (And.intro ?_ (And.intro ?_ (And.intro ?_ ?_))); (focus (first | omega | (rw [wrap64 (by omega) (by omega)] <;> first | omega | rfl) | (simp; omega))); (focus (first | omega | (rw [wrap64 (by omega) (by omega)] <;> first | omega | rfl) | (simp; omega))); (focus (first | omega | (rw [wrap64 (by omega) (by omega)] <;> first | omega | rfl) | (simp; omega))); (focus ((repeat' (first | exact sz_nil | exact sz_map fun _ => rfl | apply sz_take | apply sz_drop | apply sz_append | apply sz_cons rfl)); done)); (conv => whnf))
      | (refine And.intro ?_ (And.intro ?_ ?_); (focus (first | omega | (rw [wrap64 (by omega) (by omega)] <;> first | omega | rfl) | (simp; omega))); (focus ((repeat' (first | exact sz_nil | exact sz_map fun _ => rfl | apply sz_take | apply sz_drop | apply sz_append | apply sz_cons rfl)); done)); (conv => whnf))
      | (refine And.intro ?_ (And.intro ?_ ?_); (focus (first | omega | (rw [wrap64 (by omega) (by omega)] <;> first | omega | rfl) | (simp; omega))); (focus (first | omega | (rw [wrap64 (by omega) (by omega)] <;> first | omega | rfl) | (simp; omega))); (conv => whnf))
      | (refine And.intro ?_ ?_; (focus ((rw [replay_f (replayB_3 hlt (stepOk_1 (by assumption)))] <;> rfl))); (conv => whnf))
      | (rw [beq_g]; (conv => whnf))
      | fail)
    have hc : (stAt ds ss x i).2 = 1 := by assumption
    refine .inl ?_
    conv => whnf
    refine ⟨_, _, _, _, ct_within _ _ _, ?_⟩
    conv => whnf
    rw [hwr]
    refine ⟨fun h3 => ?_, fun h3 => ?_⟩ <;> (try simp at h3) <;> (conv => whnf)
    · repeat' (first
        | exact trivial
        | (refine ⟨rfl, ?_⟩; (conv => whnf))
        | (refine ⟨fun h => ?_, fun h => ?_⟩ <;> (try simp at h) <;> (try (exfalso; omega)) <;> (conv => whnf))
        | (intro b hb; (conv => whnf))
        | (refine And.intro ?_ ?_; (focus (rw [wrap64 (by omega) (by omega)] <;> rfl)); (conv => whnf))
        | (refine And.intro ?_ (And.intro ?_ (And.intro ?_ (And.intro ?_ ?_))); (focus (first | omega | (rw [wrap64 (by omega) (by omega)] <;> first | omega | rfl) | (simp; omega))); (focus (first | omega | (rw [wrap64 (by omega) (by omega)] <;> first | omega | rfl) | (simp; omega))); (focus (first | omega | (rw [wrap64 (by omega) (by omega)] <;> first | omega | rfl) | (simp; omega))); (focus ((repeat' (first | exact sz_nil | exact sz_map fun _ => rfl | apply sz_take | apply sz_drop | apply sz_append | apply sz_cons rfl)); done)); (conv => whnf))
        | (refine And.intro ?_ (And.intro ?_ ?_); (focus (first | omega | (rw [wrap64 (by omega) (by omega)] <;> first | omega | rfl) | (simp; omega))); (focus ((repeat' (first | exact sz_nil | exact sz_map fun _ => rfl | apply sz_take | apply sz_drop | apply sz_append | apply sz_cons rfl)); done)); (conv => whnf))
        | (refine And.intro ?_ (And.intro ?_ ?_); (focus (first | omega | (rw [wrap64 (by omega) (by omega)] <;> first | omega | rfl) | (simp; omega))); (focus (first | omega | (rw [wrap64 (by omega) (by omega)] <;> first | omega | rfl) | (simp; omega))); (conv => whnf))
        | (refine And.intro ?_ ?_; (focus ((rw [replay_f (replayB_3 hlt (stepOk_2 hlt (by assumption)))] <;> rfl))); (conv => whnf))
        | (rw [beq_g]; (conv => whnf))
        | fail)
    have h4 := inR_iff.1 h3
    have hdi : ss[i].dep.toNat < ds.length := by omega
    have hse := stepOk_eq hlt hc h3 hdi
    have hss := stAt_S (x := x) hlt hdi
    have hro := trigR_inst (d := ds[ss[i].dep.toNat]) (b := ss[i].bind) hco
    have hz := trigR_zero (x := (stAt ds ss x i).1) (d := ds[ss[i].dep.toNat]) (b := ss[i].bind)
    repeat' (first
      | exact trivial
      | (refine ⟨rfl, ?_⟩; (conv => whnf))
      | (refine ⟨fun h => ?_, fun h => ?_⟩ <;> (try simp at h) <;> (try (exfalso; omega)) <;> (conv => whnf))
      | (intro b hb; (conv => whnf))
      | (refine .inl ?_; (conv => whnf); first | (refine ⟨_, _, _, _, ct_iApplyTrigger _ _ _ hco, ?_⟩; (conv => whnf)) | fail)
      | (refine And.intro ?_ ?_; (focus (rw [wrap64 (by omega) (by omega)] <;> rfl)); (conv => whnf))
      | (refine ⟨ss[i].av, ?_, map_getI ?_ ?_, rfl, ?_⟩; (focus (first | omega | (rw [wrap64 (by omega) (by omega)] <;> first | omega | rfl) | (simp; omega))); (focus (first | rfl | omega | (rw [wrap64 (by omega) (by omega)] <;> first | omega | rfl))); (focus omega); (conv => whnf))
      | (refine ⟨ss[i].av, map_getI ?_ ?_, ?_, ?_, ?_⟩; (focus (first | rfl | omega | (rw [wrap64 (by omega) (by omega)] <;> first | omega | rfl))); (focus omega); (focus (simp; done)); (focus (simp; done)); (conv => whnf))
      | (refine ⟨ss[i].av, map_getI ?_ ?_, ?_⟩; (focus (first | rfl | omega | (rw [wrap64 (by omega) (by omega)] <;> first | omega | rfl))); (focus omega); (conv => whnf))
      | (refine ⟨ds[ss[i].dep.toNat].av, ?_, map_getI ?_ ?_, rfl, ?_⟩; (focus (first | omega | (rw [wrap64 (by omega) (by omega)] <;> first | omega | rfl) | (simp; omega))); (focus (first | rfl | omega | (rw [wrap64 (by omega) (by omega)] <;> first | omega | rfl))); (focus omega); (conv => whnf))
      | (refine ⟨ds[ss[i].dep.toNat].av, map_getI ?_ ?_, ?_, ?_, ?_⟩; (focus (first | rfl | omega | (rw [wrap64 (by omega) (by omega)] <;> first | omega | rfl))); (focus omega); (focus (simp; done)); (focus (simp; done)); (conv => whnf))
      | (refine ⟨ds[ss[i].dep.toNat].av, map_getI ?_ ?_, ?_⟩; (focus (first | rfl | omega | (rw [wrap64 (by omega) (by omega)] <;> first | omega | rfl))); (focus omega); (conv => whnf))
      | (refine And.intro ?_ (And.intro ?_ (And.intro ?_ (And.intro ?_ ?_))); (focus (first | omega | (rw [wrap64 (by omega) (by omega)] <;> first | omega | rfl) | (simp; omega))); (focus (first | omega | (rw [wrap64 (by omega) (by omega)] <;> first | omega | rfl) | (simp; omega))); (focus (first | omega | (rw [wrap64 (by omega) (by omega)] <;> first | omega | rfl) | (simp; omega))); (focus ((repeat' (first | exact sz_nil | exact sz_map fun _ => rfl | apply sz_take | apply sz_drop | apply sz_append | apply sz_cons rfl)); done)); (conv => whnf))
      | (refine And.intro ?_ (And.intro ?_ ?_); (focus (first | omega | (rw [wrap64 (by omega) (by omega)] <;> first | omega | rfl) | (simp; omega))); (focus ((repeat' (first | exact sz_nil | exact sz_map fun _ => rfl | apply sz_take | apply sz_drop | apply sz_append | apply sz_cons rfl)); done)); (conv => whnf))
      | (refine And.intro ?_ (And.intro ?_ ?_); (focus (first | omega | (rw [wrap64 (by omega) (by omega)] <;> first | omega | rfl) | (simp; omega))); (focus (first | omega | (rw [wrap64 (by omega) (by omega)] <;> first | omega | rfl) | (simp; omega))); (conv => whnf))
      | (refine ⟨i + 1, ?_, ?_, wk_sound (ψ := []) ?_⟩; (focus (exact ⟨hlt, range_next hall (by rw [hse]; exact trigR_act (by assumption))⟩)); (focus (first | omega | (rw [wrap64 (by omega) (by omega)] <;> first | omega | rfl) | (simp; omega))); (conv => whnf); (fail_if_success show False))
      | (refine And.intro ?_ ?_; (focus (first | (rw [replay_f (replayB_3 hlt (by rw [hse]; exact hz (by assumption)))] <;> rfl) | (rw [hss]; done))); (conv => whnf))
      | (rw [beq_g]; (conv => whnf))
      | fail)
  · have e : i = ss.length := by omega
    subst e
    rw [replay_t (replayB_t h1 h2 hall)]
    repeat' (first
      | exact trivial
      | (refine ⟨rfl, ?_⟩; (conv => whnf))
      | (refine ⟨fun h => ?_, fun h => ?_⟩ <;> (try simp at h) <;> (try (exfalso; omega)) <;> (conv => whnf))
      | (intro b hb; (conv => whnf))
      | (refine And.intro ?_ ?_; (focus (rw [wrap64 (by omega) (by omega)] <;> rfl)); (conv => whnf))
      | (refine And.intro ?_ (And.intro ?_ (And.intro ?_ (And.intro ?_ ?_))); (focus (first | omega | (rw [wrap64 (by omega) (by omega)] <;> first | omega | rfl) | (simp; omega))); (focus (first | omega | (rw [wrap64 (by omega) (by omega)] <;> first | omega | rfl) | (simp; omega))); (focus (first | omega | (rw [wrap64 (by omega) (by omega)] <;> first | omega | rfl) | (simp; omega))); (focus ((repeat' (first | exact sz_nil | exact sz_map fun _ => rfl | apply sz_take | apply sz_drop | apply sz_append | apply sz_cons rfl)); done)); (conv => whnf))
      | (refine And.intro ?_ (And.intro ?_ ?_); (focus (first | omega | (rw [wrap64 (by omega) (by omega)] <;> first | omega | rfl) | (simp; omega))); (focus ((repeat' (first | exact sz_nil | exact sz_map fun _ => rfl | apply sz_take | apply sz_drop | apply sz_append | apply sz_cons rfl)); done)); (conv => whnf))
      | (refine And.intro ?_ (And.intro ?_ ?_); (focus (first | omega | (rw [wrap64 (by omega) (by omega)] <;> first | omega | rfl) | (simp; omega))); (focus (first | omega | (rw [wrap64 (by omega) (by omega)] <;> first | omega | rfl) | (simp; omega))); (conv => whnf))
      | (rw [beq_g]; (conv => whnf))
      | fail)
def failB (x : Inst) (ds : List Dep) (ss : List CStep) : Bool := (replayR x ds ss).2.2 && decide ((replayR x ds ss).2.1 = 2)
def H24 : List (Nat × Hint) := [(0, ⟨[], [0, 6]⟩), (1, ⟨[], [1, 2, 3, 7, 10, 11, 12, 13, 14, 15, 16, 17]⟩), (2, ⟨[(false, []), (true, []), (false, []), (false, []), (false, []), (false, [])], [8, 9, 18, 19, 20, 21, 22]⟩)]
set_option maxHeartbeats 4000000 in
set_option maxRecDepth 100000 in
theorem ct_sIsFailureProof (x : Inst) (ds : List Dep) (ss : List CStep) : Ct Tryz.prog 24 [ag x.av, sl (.row (ds.map Dep.av)), sl (.row (ss.map CStep.av))] [] (sl (.bool (failB x ds ss))) [] [] := by
  refine ct_of_vc mixed tab_ok H24 Tryz.func24 rfl (by kernel_rfl) (by kernel_rfl) (by rfl) ?_
  intro hw _
  clear hw
  conv => whnf
  repeat' (first
    | exact trivial
    | (refine ⟨rfl, ?_⟩; (conv => whnf))
    | (refine ⟨fun h => ?_, fun h => ?_⟩ <;> (try simp at h) <;> (try (exfalso; omega)) <;> (conv => whnf))
    | (intro b hb; (conv => whnf))
    | (refine .inl ?_; (conv => whnf); first | (refine ⟨_, _, _, _, ct_sReplaySteps _ _ _, ?_⟩; (conv => whnf)) | fail)
    | (refine And.intro ?_ ?_; (focus (rw [wrap64 (by omega) (by omega)] <;> rfl)); (conv => whnf))
    | (refine And.intro ?_ (And.intro ?_ (And.intro ?_ (And.intro ?_ ?_))); (focus (first | omega | (rw [wrap64 (by omega) (by omega)] <;> first | omega | rfl) | (simp; omega))); (focus (first | omega | (rw [wrap64 (by omega) (by omega)] <;> first | omega | rfl) | (simp; omega))); (focus (first | omega | (rw [wrap64 (by omega) (by omega)] <;> first | omega | rfl) | (simp; omega))); (focus ((repeat' (first | exact sz_nil | exact sz_map fun _ => rfl | apply sz_take | apply sz_drop | apply sz_append | apply sz_cons rfl)); done)); (conv => whnf))
    | (refine And.intro ?_ (And.intro ?_ ?_); (focus (first | omega | (rw [wrap64 (by omega) (by omega)] <;> first | omega | rfl) | (simp; omega))); (focus ((repeat' (first | exact sz_nil | exact sz_map fun _ => rfl | apply sz_take | apply sz_drop | apply sz_append | apply sz_cons rfl)); done)); (conv => whnf))
    | (refine And.intro ?_ (And.intro ?_ ?_); (focus (first | omega | (rw [wrap64 (by omega) (by omega)] <;> first | omega | rfl) | (simp; omega))); (focus (first | omega | (rw [wrap64 (by omega) (by omega)] <;> first | omega | rfl) | (simp; omega))); (conv => whnf))
    | (refine And.intro ?_ ?_; (focus (simp_all [failB]; done)); (conv => whnf))
    | (rw [beq_g]; (conv => whnf))
    | fail)
def H27 : List (Nat × Hint) := [(0, ⟨[], [0, 6]⟩), (1, ⟨[], [1, 2, 3, 7, 10, 11, 12, 13, 14, 15, 16, 17]⟩), (2, ⟨[(false, []), (true, []), (false, []), (false, []), (false, []), (false, [])], [8, 9, 18, 19, 20, 21, 22]⟩)]
set_option maxHeartbeats 4000000 in
set_option maxRecDepth 100000 in
theorem ct_iIsFailureProof (x : Inst) (ds : List Dep) (ss : List CStep) : Ct Tryz.prog 27 [ag x.av, sl (.row (ds.map Dep.av)), sl (.row (ss.map CStep.av))] [] (sl (.bool (failB x ds ss))) [] [] := by
  refine ct_of_vc mixed tab_ok H27 Tryz.func27 rfl (by kernel_rfl) (by kernel_rfl) (by rfl) ?_
  intro hw _
  clear hw
  conv => whnf
  repeat' (first
    | exact trivial
    | (refine ⟨rfl, ?_⟩; (conv => whnf))
    | (refine ⟨fun h => ?_, fun h => ?_⟩ <;> (try simp at h) <;> (try (exfalso; omega)) <;> (conv => whnf))
    | (intro b hb; (conv => whnf))
    | (refine .inl ?_; (conv => whnf); first | (refine ⟨_, _, _, _, ct_iReplaySteps _ _ _, ?_⟩; (conv => whnf)) | fail)
    | (refine And.intro ?_ ?_; (focus (rw [wrap64 (by omega) (by omega)] <;> rfl)); (conv => whnf))
    | (refine And.intro ?_ (And.intro ?_ (And.intro ?_ (And.intro ?_ ?_))); (focus (first | omega | (rw [wrap64 (by omega) (by omega)] <;> first | omega | rfl) | (simp; omega))); (focus (first | omega | (rw [wrap64 (by omega) (by omega)] <;> first | omega | rfl) | (simp; omega))); (focus (first | omega | (rw [wrap64 (by omega) (by omega)] <;> first | omega | rfl) | (simp; omega))); (focus ((repeat' (first | exact sz_nil | exact sz_map fun _ => rfl | apply sz_take | apply sz_drop | apply sz_append | apply sz_cons rfl)); done)); (conv => whnf))
    | (refine And.intro ?_ (And.intro ?_ ?_); (focus (first | omega | (rw [wrap64 (by omega) (by omega)] <;> first | omega | rfl) | (simp; omega))); (focus ((repeat' (first | exact sz_nil | exact sz_map fun _ => rfl | apply sz_take | apply sz_drop | apply sz_append | apply sz_cons rfl)); done)); (conv => whnf))
    | (refine And.intro ?_ (And.intro ?_ ?_); (focus (first | omega | (rw [wrap64 (by omega) (by omega)] <;> first | omega | rfl) | (simp; omega))); (focus (first | omega | (rw [wrap64 (by omega) (by omega)] <;> first | omega | rfl) | (simp; omega))); (conv => whnf))
    | (refine And.intro ?_ ?_; (focus (simp_all [failB]; done)); (conv => whnf))
    | (rw [beq_g]; (conv => whnf))
    | fail)
end Go.Proofs.YtccbimcikbbecaaGreat
/- Sizes. -/
namespace Go.Proofs.YtccbimcikbbecaaGreat
open Go P1
def szInts (l : List Int) (left : Int) : Int := if left - l.length < 0 then -1 else left - l.length
theorem szInts_range {l : List Int} {left : Int} (h1 : left ≤ 1048576) : -1 ≤ szInts l left ∧ szInts l left ≤ 1048576 := by
  unfold szInts; split <;> omega
/-- A size function's answers stay in range. -/
def SzOk {α : Type} (f : α → Int → Int) : Prop := ∀ (a : α) (left : Int), left ≤ 1048576 → -1 ≤ f a left ∧ f a left ≤ 1048576
def szGo {α : Type} (f : α → Int → Int) : List α → Int → Int
  | [], left => left
  | a :: l, left => if f a left < 0 then -1 else szGo f l (f a left)
def szL {α : Type} (f : α → Int → Int) (l : List α) (left : Int) : Int := if left - l.length < 0 then -1 else szGo f l (left - l.length)
theorem szGo_ok {α : Type} {f : α → Int → Int} (hf : SzOk f) : ∀ (l : List α) (left : Int), -1 ≤ left → left ≤ 1048576 → -1 ≤ szGo f l left ∧ szGo f l left ≤ 1048576
  | [], left, h0, h1 => ⟨h0, h1⟩
  | a :: l, left, h0, h1 => by
    have := hf a left h1
    simp only [szGo]
    split
    · omega
    · exact szGo_ok hf l _ this.1 this.2
theorem szL_ok {α : Type} {f : α → Int → Int} (hf : SzOk f) : SzOk (szL f) := by
  intro l left h1
  simp only [szL]
  split
  · omega
  · exact szGo_ok hf l _ (by omega) (by omega)
theorem szGo_drop {α : Type} {f : α → Int → Int} {l : List α} {i : Nat} {left : Int} (h : i < l.length) : szGo f (l.drop i) left = if f l[i] left < 0 then -1 else szGo f (l.drop (i + 1)) (f l[i] left) := by
  rw [List.drop_eq_getElem_cons h]; rfl
def H95 : List (Nat × Hint) := [(0, ⟨[], [4]⟩), (1, ⟨[], [0, 5, 6, 7, 8]⟩), (2, ⟨[], [9]⟩), (4, ⟨[], [1, 11]⟩)]
set_option maxRecDepth 100000 in
theorem ct_szIntS (l : List Int) (left : Int) (h0 : 0 ≤ left) (h1 : left ≤ 1048576) : Ct Tryz.prog 95 [sl (ints l), sl (i64 left)] [] (sl (i64 (szInts l left))) [] [] := by
  refine ct_of_vc mixed tab_ok H95 Tryz.func95 rfl (by kernel_rfl) (by kernel_rfl) (by rfl) ?_
  intro hw _
  have hl : l.length ≤ lim := by
    have := hw _ (.head _)
    cases this with | row h _ => simpa using h
  simp only [lim] at hl
  have hwr : IntKind.i64.wrap (left - ↑(List.map (fun n => [i64 n]) l).length) = left - l.length := by
    rw [List.length_map]; exact wrap64 (by omega) (by omega)
  conv => whnf
  refine ⟨fun h => ?_, fun h => ?_⟩
  · conv => whnf
    rw [hwr] at h
    refine ⟨by simp only [szInts]; rw [if_pos (by simpa using h)], ?_⟩
    conv => whnf
    trivial
  · conv => whnf
    rw [hwr] at h
    refine ⟨by rw [hwr]; simp only [szInts]; rw [if_neg (by simpa using h)], ?_⟩
    conv => whnf
    trivial
def szAtom (a : Atom) (left : Int) : Int := szInts a.terms left
theorem szAtom_ok : SzOk szAtom := fun a left h => szInts_range h
def H70 : List (Nat × Hint) := [(0, ⟨[], [0, 4]⟩), (1, ⟨[], [2, 5, 6, 7, 8]⟩), (2, ⟨[], [9]⟩), (4, ⟨[], [1, 11]⟩)]
set_option maxRecDepth 100000 in
theorem ct_szAtom (a : Atom) (left : Int) (h0 : 0 ≤ left) (h1 : left ≤ 1048576) : Ct Tryz.prog 70 [ag a.av, sl (i64 left)] [] (sl (i64 (szAtom a left))) [] [] := by
  refine ct_of_vc mixed tab_ok H70 Tryz.func70 rfl (by kernel_rfl) (by kernel_rfl) (by rfl) ?_
  intro hw _
  conv => whnf
  refine .inl ?_
  conv => whnf
  refine ⟨_, _, _, _, ct_szIntS a.terms left h0 h1, ?_⟩
  conv => whnf
  refine ⟨fun h => ?_, fun h => ?_⟩
  · conv => whnf
    have := (szAtom_ok a left h1).1
    simp at h
    change szAtom a left < 0 at h
    refine ⟨by congr 1; omega, ?_⟩
    conv => whnf
    trivial
  · conv => whnf
    refine ⟨rfl, ?_⟩
    conv => whnf
    trivial
def H38 : List (Nat × Hint) := [(0, ⟨[], [4]⟩), (1, ⟨[], [6, 7, 8, 9]⟩), (2, ⟨[], [10]⟩), (5, ⟨[], [12, 13, 14]⟩), (6, ⟨[], [16, 17]⟩), (7, ⟨[], [18, 19, 20, 21, 22, 23]⟩), (8, ⟨[], [24]⟩), (10, ⟨[], [1, 26]⟩)]
set_option maxRecDepth 100000 in
theorem ct_szAtomS (l : List Atom) (left : Int) (h0 : 0 ≤ left) (h1 : left ≤ 1048576) : Ct Tryz.prog 38 [sl (.row (l.map Atom.av)), sl (i64 left)] [] (sl (i64 (szL szAtom l left))) [] [] := by
  refine ct_of_vc mixed tab_ok H38 Tryz.func38 rfl (by kernel_rfl) (by kernel_rfl) (by rfl) ?_
  intro hw _
  have hl : l.length ≤ 1125899906842624 := by simpa using Wf.len (hw _ (.head _))
  have hwr : IntKind.i64.wrap (left - ↑(List.map Atom.av l).length) = left - l.length := by
    rw [List.length_map]; exact wrap64 (by omega) (by omega)
  conv => whnf
  rw [hwr]
  refine ⟨fun h => ?_, fun h => ?_⟩
  · conv => whnf
    refine ⟨by simp only [szL]; rw [if_pos (by simpa using h)], ?_⟩
    conv => whnf
    trivial
  · conv => whnf
    simp at h
    refine loop_rule mixed tab_ok H38 (I := Nat × Int) (fun p => [(.slot 5, iv p.1), (.slot 0, .s (sl (.row (l.map Atom.av)))), (.slot 1, iv p.2)]) (fun p => p.1 ≤ l.length ∧ 0 ≤ p.2 ∧ p.2 ≤ 1048576 ∧ szGo szAtom (l.drop p.1) p.2 = szGo szAtom l (left - l.length)) (fun p => l.length - p.1) (by kernel_rfl) (0, left - l.length) ⟨by simp, by omega, by omega, by simp⟩ (wk_sound (ψ := []) ?_) ?_
    · conv => whnf
      refine ⟨rfl, ?_⟩
      conv => whnf
      refine ⟨rfl, ?_⟩
      conv => whnf
      refine ⟨rfl, ?_⟩
      conv => whnf
      trivial
    · rintro ⟨i, cur⟩ ⟨hi, hc0, hc1, hgo⟩
      dsimp only at hi hc0 hc1 hgo
      conv => whnf
      refine ⟨fun h2 => ?_, fun h2 => ?_⟩
      · conv => whnf
        simp at h2
        refine ⟨l[i].av, by omega, map_get (by omega), rfl, ?_⟩
        conv => whnf
        refine .inl ?_
        conv => whnf
        refine ⟨_, _, _, _, ct_szAtom l[i] cur hc0 hc1, ?_⟩
        conv => whnf
        rw [szGo_drop h2] at hgo
        refine ⟨fun h3 => ?_, fun h3 => ?_⟩
        · conv => whnf
          simp at h3
          rw [if_pos h3] at hgo
          refine ⟨by simp only [szL]; rw [if_neg (by omega), ← hgo], ?_⟩
          conv => whnf
          trivial
        · conv => whnf
          simp at h3
          rw [if_neg (by omega)] at hgo
          refine ⟨(i + 1, szAtom l[i] cur), ⟨h2, h3, (szAtom_ok l[i] cur hc1).2, hgo⟩, by simp; omega, wk_sound (ψ := []) ?_⟩
          conv => whnf
          refine ⟨?_, ?_⟩
          · rw [wrap64 (by omega) (by omega)]; rfl
          conv => whnf
          refine ⟨rfl, ?_⟩
          conv => whnf
          refine ⟨rfl, ?_⟩
          conv => whnf
          trivial
      · conv => whnf
        simp at h2
        have : i = l.length := by omega
        subst this
        simp only [List.drop_length, szGo] at hgo
        refine ⟨by simp only [szL]; rw [if_neg (by omega), ← hgo], ?_⟩
        conv => whnf
        trivial
end Go.Proofs.YtccbimcikbbecaaGreat
/- Sizes of all kinds of data. -/
namespace Go.Proofs.YtccbimcikbbecaaGreat
open Go P1
def szFact (a : Fact) (left : Int) : Int := szInts a.vals left
theorem szFact_ok : SzOk szFact := fun _ _ h => szInts_range h
def H94 : List (Nat × Hint) := [(0, ⟨[], [0, 4]⟩), (1, ⟨[], [2, 5, 6, 7, 8]⟩), (2, ⟨[], [9]⟩), (4, ⟨[], [1, 11]⟩)]
set_option maxRecDepth 100000 in
theorem ct_szFact (a : Fact) (left : Int) (h0 : 0 ≤ left) (h1 : left ≤ 1048576) : Ct Tryz.prog 94 [ag a.av, sl (i64 left)] [] (sl (i64 (szFact a left))) [] [] := by
  refine ct_of_vc mixed tab_ok H94 Tryz.func94 rfl (by kernel_rfl) (by kernel_rfl) (by rfl) ?_
  intro hw _
  conv => whnf
  refine .inl ?_
  conv => whnf
  refine ⟨_, _, _, _, ct_szIntS a.vals left h0 h1, ?_⟩
  conv => whnf
  refine ⟨fun h => ?_, fun h => ?_⟩
  · conv => whnf
    have := (szFact_ok a left h1).1
    simp at h
    change szFact a left < 0 at h
    refine ⟨by congr 1; omega, ?_⟩
    conv => whnf
    trivial
  · conv => whnf
    refine ⟨rfl, ?_⟩
    conv => whnf
    trivial
def H55 : List (Nat × Hint) := [(0, ⟨[], [4]⟩), (1, ⟨[], [6, 7, 8, 9]⟩), (2, ⟨[], [10]⟩), (5, ⟨[], [12, 13, 14]⟩), (6, ⟨[], [16, 17]⟩), (7, ⟨[], [18, 19, 20, 21, 22, 23]⟩), (8, ⟨[], [24]⟩), (10, ⟨[], [1, 26]⟩)]
set_option maxRecDepth 100000 in
theorem ct_szFactS (l : List Fact) (left : Int) (h0 : 0 ≤ left) (h1 : left ≤ 1048576) : Ct Tryz.prog 55 [sl (.row (l.map Fact.av)), sl (i64 left)] [] (sl (i64 (szL szFact l left))) [] [] := by
  refine ct_of_vc mixed tab_ok H55 Tryz.func55 rfl (by kernel_rfl) (by kernel_rfl) (by rfl) ?_
  intro hw _
  have hl : l.length ≤ 1125899906842624 := by simpa using Wf.len (hw _ (.head _))
  have hwr : IntKind.i64.wrap (left - ↑(List.map Fact.av l).length) = left - l.length := by
    rw [List.length_map]; exact wrap64 (by omega) (by omega)
  conv => whnf
  rw [hwr]
  refine ⟨fun h => ?_, fun h => ?_⟩
  · conv => whnf
    refine ⟨by simp only [szL]; rw [if_pos (by simpa using h)], ?_⟩
    conv => whnf
    trivial
  · conv => whnf
    simp at h
    refine loop_rule mixed tab_ok H55 (I := Nat × Int) (fun p => [(.slot 5, iv p.1), (.slot 0, .s (sl (.row (l.map Fact.av)))), (.slot 1, iv p.2)]) (fun p => p.1 ≤ l.length ∧ 0 ≤ p.2 ∧ p.2 ≤ 1048576 ∧ szGo szFact (l.drop p.1) p.2 = szGo szFact l (left - l.length)) (fun p => l.length - p.1) (by kernel_rfl) (0, left - l.length) ⟨by simp, by omega, by omega, by simp⟩ (wk_sound (ψ := []) ?_) ?_
    · conv => whnf
      refine ⟨rfl, ?_⟩
      conv => whnf
      refine ⟨rfl, ?_⟩
      conv => whnf
      refine ⟨rfl, ?_⟩
      conv => whnf
      trivial
    · rintro ⟨i, cur⟩ ⟨hi, hc0, hc1, hgo⟩
      dsimp only at hi hc0 hc1 hgo
      conv => whnf
      refine ⟨fun h2 => ?_, fun h2 => ?_⟩
      · conv => whnf
        simp at h2
        refine ⟨l[i].av, by omega, map_get (by omega), rfl, ?_⟩
        conv => whnf
        refine .inl ?_
        conv => whnf
        refine ⟨_, _, _, _, ct_szFact l[i] cur hc0 hc1, ?_⟩
        conv => whnf
        rw [szGo_drop h2] at hgo
        refine ⟨fun h3 => ?_, fun h3 => ?_⟩
        · conv => whnf
          simp at h3
          rw [if_pos h3] at hgo
          refine ⟨by simp only [szL]; rw [if_neg (by omega), ← hgo], ?_⟩
          conv => whnf
          trivial
        · conv => whnf
          simp at h3
          rw [if_neg (by omega)] at hgo
          refine ⟨(i + 1, szFact l[i] cur), ⟨h2, h3, (szFact_ok l[i] cur hc1).2, hgo⟩, by simp; omega, wk_sound (ψ := []) ?_⟩
          conv => whnf
          refine ⟨?_, ?_⟩
          · rw [wrap64 (by omega) (by omega)]; rfl
          conv => whnf
          refine ⟨rfl, ?_⟩
          conv => whnf
          refine ⟨rfl, ?_⟩
          conv => whnf
          trivial
      · conv => whnf
        simp at h2
        have : i = l.length := by omega
        subst this
        simp only [List.drop_length, szGo] at hgo
        refine ⟨by simp only [szL]; rw [if_neg (by omega), ← hgo], ?_⟩
        conv => whnf
        trivial
def szDep (a : Dep) (left : Int) : Int := if szL szAtom a.body left < 0 then -1 else if szL szAtom a.head (szL szAtom a.body left) < 0 then -1 else szL szAtom a.head (szL szAtom a.body left)
theorem szDep_ok : SzOk szDep := by
  intro a left h
  have r1 := szL_ok szAtom_ok a.body left h
  have r2 := szL_ok szAtom_ok a.head _ r1.2
  simp only [szDep]
  split
  · omega
  · split <;> omega
def H8 : List (Nat × Hint) := [(0, ⟨[], [0, 4]⟩), (1, ⟨[], [5, 6, 7, 8]⟩), (2, ⟨[], [9]⟩), (4, ⟨[], [2, 11, 12, 13, 14]⟩), (5, ⟨[], [15]⟩), (7, ⟨[], [1, 17]⟩)]
set_option maxRecDepth 100000 in
theorem ct_szDependency (a : Dep) (left : Int) (h0 : 0 ≤ left) (h1 : left ≤ 1048576) : Ct Tryz.prog 8 [ag a.av, sl (i64 left)] [] (sl (i64 (szDep a left))) [] [] := by
  refine ct_of_vc mixed tab_ok H8 Tryz.func8 rfl (by kernel_rfl) (by kernel_rfl) (by rfl) ?_
  intro hw _
  conv => whnf
  have r0 := szL_ok szAtom_ok a.body left h1
  refine .inl ?_
  conv => whnf
  refine ⟨_, _, _, _, ct_szAtomS a.body left h0 h1, ?_⟩
  conv => whnf
  refine ⟨fun g0 => ?_, fun g0 => ?_⟩
  · conv => whnf
    have g : szL szAtom a.body left < 0 := by simpa using g0
    refine ⟨by congr 1; simp only [szDep]; simp [*], ?_⟩
    conv => whnf
    trivial
  · conv => whnf
    have g0 : ¬ (szL szAtom a.body left < 0) := by simpa using g0
    have r1 := szL_ok szAtom_ok a.head (szL szAtom a.body left) r0.2
    refine .inl ?_
    conv => whnf
    refine ⟨_, _, _, _, ct_szAtomS a.head (szL szAtom a.body left) (by omega) r0.2, ?_⟩
    conv => whnf
    refine ⟨fun g1 => ?_, fun g1 => ?_⟩
    · conv => whnf
      have g : szL szAtom a.head (szL szAtom a.body left) < 0 := by simpa using g1
      refine ⟨by congr 1; simp only [szDep]; simp [*], ?_⟩
      conv => whnf
      trivial
    · conv => whnf
      have g1 : ¬ (szL szAtom a.head (szL szAtom a.body left) < 0) := by simpa using g1
      refine ⟨by congr 1; simp only [szDep]; simp [*], ?_⟩
      conv => whnf
      trivial
def H9 : List (Nat × Hint) := [(0, ⟨[], [4]⟩), (1, ⟨[], [6, 7, 8, 9]⟩), (2, ⟨[], [10]⟩), (5, ⟨[], [12, 13, 14]⟩), (6, ⟨[], [16, 17]⟩), (7, ⟨[], [18, 19, 20, 21, 22, 23]⟩), (8, ⟨[], [24]⟩), (10, ⟨[], [1, 26]⟩)]
set_option maxRecDepth 100000 in
theorem ct_szDependencyS (l : List Dep) (left : Int) (h0 : 0 ≤ left) (h1 : left ≤ 1048576) : Ct Tryz.prog 9 [sl (.row (l.map Dep.av)), sl (i64 left)] [] (sl (i64 (szL szDep l left))) [] [] := by
  refine ct_of_vc mixed tab_ok H9 Tryz.func9 rfl (by kernel_rfl) (by kernel_rfl) (by rfl) ?_
  intro hw _
  have hl : l.length ≤ 1125899906842624 := by simpa using Wf.len (hw _ (.head _))
  have hwr : IntKind.i64.wrap (left - ↑(List.map Dep.av l).length) = left - l.length := by
    rw [List.length_map]; exact wrap64 (by omega) (by omega)
  conv => whnf
  rw [hwr]
  refine ⟨fun h => ?_, fun h => ?_⟩
  · conv => whnf
    refine ⟨by simp only [szL]; rw [if_pos (by simpa using h)], ?_⟩
    conv => whnf
    trivial
  · conv => whnf
    simp at h
    refine loop_rule mixed tab_ok H9 (I := Nat × Int) (fun p => [(.slot 5, iv p.1), (.slot 0, .s (sl (.row (l.map Dep.av)))), (.slot 1, iv p.2)]) (fun p => p.1 ≤ l.length ∧ 0 ≤ p.2 ∧ p.2 ≤ 1048576 ∧ szGo szDep (l.drop p.1) p.2 = szGo szDep l (left - l.length)) (fun p => l.length - p.1) (by kernel_rfl) (0, left - l.length) ⟨by simp, by omega, by omega, by simp⟩ (wk_sound (ψ := []) ?_) ?_
    · conv => whnf
      refine ⟨rfl, ?_⟩
      conv => whnf
      refine ⟨rfl, ?_⟩
      conv => whnf
      refine ⟨rfl, ?_⟩
      conv => whnf
      trivial
    · rintro ⟨i, cur⟩ ⟨hi, hc0, hc1, hgo⟩
      dsimp only at hi hc0 hc1 hgo
      conv => whnf
      refine ⟨fun h2 => ?_, fun h2 => ?_⟩
      · conv => whnf
        simp at h2
        refine ⟨l[i].av, by omega, map_get (by omega), rfl, ?_⟩
        conv => whnf
        refine .inl ?_
        conv => whnf
        refine ⟨_, _, _, _, ct_szDependency l[i] cur hc0 hc1, ?_⟩
        conv => whnf
        rw [szGo_drop h2] at hgo
        refine ⟨fun h3 => ?_, fun h3 => ?_⟩
        · conv => whnf
          simp at h3
          rw [if_pos h3] at hgo
          refine ⟨by simp only [szL]; rw [if_neg (by omega), ← hgo], ?_⟩
          conv => whnf
          trivial
        · conv => whnf
          simp at h3
          rw [if_neg (by omega)] at hgo
          refine ⟨(i + 1, szDep l[i] cur), ⟨h2, h3, (szDep_ok l[i] cur hc1).2, hgo⟩, by simp; omega, wk_sound (ψ := []) ?_⟩
          conv => whnf
          refine ⟨?_, ?_⟩
          · rw [wrap64 (by omega) (by omega)]; rfl
          conv => whnf
          refine ⟨rfl, ?_⟩
          conv => whnf
          refine ⟨rfl, ?_⟩
          conv => whnf
          trivial
      · conv => whnf
        simp at h2
        have : i = l.length := by omega
        subst this
        simp only [List.drop_length, szGo] at hgo
        refine ⟨by simp only [szL]; rw [if_neg (by omega), ← hgo], ?_⟩
        conv => whnf
        trivial
def szRel (a : Relation) (left : Int) : Int := if left - a.name.length < 0 then -1 else left - a.name.length
theorem szRel_ok : SzOk szRel := by intro a left h; simp only [szRel]; split <;> omega
def H37 : List (Nat × Hint) := [(0, ⟨[], [0, 4]⟩), (1, ⟨[], [2, 5, 6, 7, 8, 9]⟩), (2, ⟨[], [10]⟩), (4, ⟨[], [1, 12]⟩)]
set_option maxRecDepth 100000 in
theorem ct_szRelation (a : Relation) (left : Int) (h0 : 0 ≤ left) (h1 : left ≤ 1048576) : Ct Tryz.prog 37 [ag a.av, sl (i64 left)] [] (sl (i64 (szRel a left))) [] [] := by
  refine ct_of_vc mixed tab_ok H37 Tryz.func37 rfl (by kernel_rfl) (by kernel_rfl) (by rfl) ?_
  intro hw _
  have hl : a.name.length ≤ 1125899906842624 := by
    have := hw _ (.head _) _ (.head _)
    cases this with | str h => exact h
  have hwr : IntKind.i64.wrap (left - ↑a.name.length) = left - a.name.length := wrap64 (by omega) (by omega)
  conv => whnf
  rw [hwr]
  refine ⟨fun h => ?_, fun h => ?_⟩
  · conv => whnf
    refine ⟨by simp only [szRel]; rw [if_pos (by simpa using h)], ?_⟩
    conv => whnf
    trivial
  · conv => whnf
    refine ⟨by simp only [szRel]; rw [if_neg (by simpa using h)], ?_⟩
    conv => whnf
    trivial
def H7 : List (Nat × Hint) := [(0, ⟨[], [4]⟩), (1, ⟨[], [6, 7, 8, 9]⟩), (2, ⟨[], [10]⟩), (5, ⟨[], [12, 13, 14]⟩), (6, ⟨[], [16, 17]⟩), (7, ⟨[], [18, 19, 20, 21, 22, 23]⟩), (8, ⟨[], [24]⟩), (10, ⟨[], [1, 26]⟩)]
set_option maxRecDepth 100000 in
theorem ct_szRelationS (l : List Relation) (left : Int) (h0 : 0 ≤ left) (h1 : left ≤ 1048576) : Ct Tryz.prog 7 [sl (.row (l.map Relation.av)), sl (i64 left)] [] (sl (i64 (szL szRel l left))) [] [] := by
  refine ct_of_vc mixed tab_ok H7 Tryz.func7 rfl (by kernel_rfl) (by kernel_rfl) (by rfl) ?_
  intro hw _
  have hl : l.length ≤ 1125899906842624 := by simpa using Wf.len (hw _ (.head _))
  have hwr : IntKind.i64.wrap (left - ↑(List.map Relation.av l).length) = left - l.length := by
    rw [List.length_map]; exact wrap64 (by omega) (by omega)
  conv => whnf
  rw [hwr]
  refine ⟨fun h => ?_, fun h => ?_⟩
  · conv => whnf
    refine ⟨by simp only [szL]; rw [if_pos (by simpa using h)], ?_⟩
    conv => whnf
    trivial
  · conv => whnf
    simp at h
    refine loop_rule mixed tab_ok H7 (I := Nat × Int) (fun p => [(.slot 5, iv p.1), (.slot 0, .s (sl (.row (l.map Relation.av)))), (.slot 1, iv p.2)]) (fun p => p.1 ≤ l.length ∧ 0 ≤ p.2 ∧ p.2 ≤ 1048576 ∧ szGo szRel (l.drop p.1) p.2 = szGo szRel l (left - l.length)) (fun p => l.length - p.1) (by kernel_rfl) (0, left - l.length) ⟨by simp, by omega, by omega, by simp⟩ (wk_sound (ψ := []) ?_) ?_
    · conv => whnf
      refine ⟨rfl, ?_⟩
      conv => whnf
      refine ⟨rfl, ?_⟩
      conv => whnf
      refine ⟨rfl, ?_⟩
      conv => whnf
      trivial
    · rintro ⟨i, cur⟩ ⟨hi, hc0, hc1, hgo⟩
      dsimp only at hi hc0 hc1 hgo
      conv => whnf
      refine ⟨fun h2 => ?_, fun h2 => ?_⟩
      · conv => whnf
        simp at h2
        refine ⟨l[i].av, by omega, map_get (by omega), rfl, ?_⟩
        conv => whnf
        refine .inl ?_
        conv => whnf
        refine ⟨_, _, _, _, ct_szRelation l[i] cur hc0 hc1, ?_⟩
        conv => whnf
        rw [szGo_drop h2] at hgo
        refine ⟨fun h3 => ?_, fun h3 => ?_⟩
        · conv => whnf
          simp at h3
          rw [if_pos h3] at hgo
          refine ⟨by simp only [szL]; rw [if_neg (by omega), ← hgo], ?_⟩
          conv => whnf
          trivial
        · conv => whnf
          simp at h3
          rw [if_neg (by omega)] at hgo
          refine ⟨(i + 1, szRel l[i] cur), ⟨h2, h3, (szRel_ok l[i] cur hc1).2, hgo⟩, by simp; omega, wk_sound (ψ := []) ?_⟩
          conv => whnf
          refine ⟨?_, ?_⟩
          · rw [wrap64 (by omega) (by omega)]; rfl
          conv => whnf
          refine ⟨rfl, ?_⟩
          conv => whnf
          refine ⟨rfl, ?_⟩
          conv => whnf
          trivial
      · conv => whnf
        simp at h2
        have : i = l.length := by omega
        subst this
        simp only [List.drop_length, szGo] at hgo
        refine ⟨by simp only [szL]; rw [if_neg (by omega), ← hgo], ?_⟩
        conv => whnf
        trivial
end Go.Proofs.YtccbimcikbbecaaGreat
/- Copies. -/
namespace Go.Proofs.YtccbimcikbbecaaGreat
open Go P1
/-- A row that is being filled: the first i places hold what they shall, the others z. -/
def fillRow {α : Type} (f : α → List AV) (z : List AV) (l : List α) (i : Nat) : List (List AV) := (l.take i).map f ++ List.replicate (l.length - i) z
theorem fillRow_length {α : Type} {f : α → List AV} {z : List AV} {l : List α} {i : Nat} (h : i ≤ l.length) : (fillRow f z l i).length = l.length := by
  simp [fillRow]; omega
theorem fillRow_zero {α : Type} {f : α → List AV} {z : List AV} {l : List α} : fillRow f z l 0 = List.replicate l.length z := by simp [fillRow]
theorem fillRow_end {α : Type} {f : α → List AV} {z : List AV} {l : List α} : fillRow f z l l.length = l.map f := by simp [fillRow]
theorem fillRow_get {α : Type} {f : α → List AV} {z : List AV} {l : List α} {i : Nat} (h : i < l.length) : (fillRow f z l i)[i]? = some z := by
  simp only [fillRow]
  have h1 : ((l.take i).map f).length = i := by simp; omega
  rw [List.getElem?_append_right (by omega), h1, Nat.sub_self, List.getElem?_replicate, if_pos (by omega)]
theorem fillRow_set {α : Type} {f : α → List AV} {z : List AV} {l : List α} {i : Nat} (h : i < l.length) : (fillRow f z l i).set i (f l[i]) = fillRow f z l (i + 1) := by
  simp only [fillRow]
  rw [List.set_append_right _ _ (by simp; omega)]
  have h1 : ((l.take i).map f).length = i := by simp; omega
  rw [h1, Nat.sub_self, List.take_succ_eq_append_getElem h, List.map_append]
  have h2 : l.length - i = (l.length - (i + 1)) + 1 := by omega
  rw [h2, List.replicate_succ]
  simp
def H101 : List (Nat × Hint) := [(0, ⟨[], [2]⟩), (1, ⟨[], [5, 6, 7]⟩), (3, ⟨[], [8, 9, 10]⟩), (4, ⟨[], [12, 13]⟩), (5, ⟨[], [14, 15, 16, 17, 18, 19, 20]⟩), (6, ⟨[], [3, 21]⟩)]
set_option maxRecDepth 100000 in
theorem ct_toIntS (l : List Int) (hl : l.length ≤ 1048576) : Ct Tryz.prog 101 [sl (ints l)] [] (sl (ints l)) [] [] := by
  refine ct_of_vc mixed tab_ok H101 Tryz.func101 rfl (by kernel_rfl) (by kernel_rfl) (by rfl) ?_
  intro hw _
  conv => whnf
  refine ⟨rfl, by omega, by simp; omega, ?_⟩
  conv => whnf
  refine loop_rule mixed tab_ok H101 (I := Nat) (fun i => [(.slot 4, iv i), (.slot 3, .s (.lf (.own (7, 0)))), (.slot 0, .s (sl (ints l))), (.row (7, 0), .r ⟨3, 1, true, fillRow (fun n => [i64 n]) [i64 0] l i⟩)]) (fun i => i ≤ l.length) (fun i => l.length - i) (by kernel_rfl) 0 (by omega) (wk_sound (ψ := []) ?_) ?_
  · conv => whnf
    refine ⟨rfl, ?_⟩
    conv => whnf
    refine ⟨rfl, ?_⟩
    conv => whnf
    refine ⟨by rw [fillRow_zero]; simp [ints], ?_⟩
    conv => whnf
    trivial
  · intro i hi
    conv => whnf
    refine ⟨fun h => ?_, fun h => ?_⟩
    · conv => whnf
      simp at h
      refine ⟨[i64 l[i]], by omega, map_get (by omega), rfl, ?_⟩
      conv => whnf
      refine ⟨by omega, by rw [fillRow_length hi]; omega, ?_⟩
      conv => whnf
      refine ⟨[i64 0], fillRow_get h, by simp, by simp, ?_⟩
      conv => whnf
      refine ⟨i + 1, h, by omega, wk_sound (ψ := []) ?_⟩
      conv => whnf
      refine ⟨?_, ?_⟩
      · rw [wrap64 (by omega) (by omega)]; rfl
      conv => whnf
      refine ⟨rfl, ?_⟩
      conv => whnf
      refine ⟨fillRow_set (f := fun n => [i64 n]) h, ?_⟩
      conv => whnf
      trivial
    · conv => whnf
      simp at h
      have : i = l.length := by omega
      subst this
      refine ⟨by rw [fillRow_end]; rfl, ?_⟩
      conv => whnf
      trivial
def H79 : List (Nat × Hint) := [(0, ⟨[], [0]⟩), (2, ⟨[], [4, 5, 6]⟩), (3, ⟨[], [1, 7, 8, 9, 10]⟩), (4, ⟨[], [3, 11]⟩)]
set_option maxRecDepth 100000 in
theorem ct_toAtom (a : Atom) (hl : a.terms.length ≤ 1048576) : Ct Tryz.prog 79 [ag a.av] [] (ag a.av) [] [] := by
  refine ct_of_vc mixed tab_ok H79 Tryz.func79 rfl (by kernel_rfl) (by kernel_rfl) (by rfl) ?_
  intro hw _
  conv => whnf
  refine .inl ?_
  conv => whnf
  refine ⟨_, _, _, _, ct_toIntS a.terms hl, ?_⟩
  conv => whnf
  refine ⟨rfl, ?_⟩
  conv => whnf
  refine ⟨rfl, ?_⟩
  conv => whnf
  trivial
def H45 : List (Nat × Hint) := [(0, ⟨[], [2]⟩), (1, ⟨[], [5, 6, 7]⟩), (3, ⟨[], [8, 9, 10]⟩), (4, ⟨[], [12, 13]⟩), (5, ⟨[], [14, 15, 16, 17, 18, 19, 20, 21]⟩), (6, ⟨[], [3, 22]⟩)]
set_option maxRecDepth 100000 in
theorem ct_toAtomS (l : List Atom) (hl : l.length ≤ 1048576) (he : ∀ a ∈ l, a.terms.length ≤ 1048576) : Ct Tryz.prog 45 [sl (.row (l.map Atom.av))] [] (sl (.row (l.map Atom.av))) [] [] := by
  refine ct_of_vc mixed tab_ok H45 Tryz.func45 rfl (by kernel_rfl) (by kernel_rfl) (by rfl) ?_
  intro hw _
  conv => whnf
  refine ⟨rfl, by omega, by simp; omega, ?_⟩
  conv => whnf
  refine loop_rule mixed tab_ok H45 (I := Nat) (fun i => [(.slot 4, iv i), (.slot 3, .s (.lf (.own (7, 0)))), (.slot 0, .s (sl (.row (l.map Atom.av)))), (.row (7, 0), .r ⟨77, 2, true, fillRow Atom.av [i64 0, ints []] l i⟩)]) (fun i => i ≤ l.length) (fun i => l.length - i) (by kernel_rfl) 0 (by omega) (wk_sound (ψ := []) ?_) ?_
  · conv => whnf
    refine ⟨rfl, ?_⟩
    conv => whnf
    refine ⟨rfl, ?_⟩
    conv => whnf
    refine ⟨by rw [fillRow_zero]; simp [ints], ?_⟩
    conv => whnf
    trivial
  · intro i hi
    conv => whnf
    refine ⟨fun h => ?_, fun h => ?_⟩
    · conv => whnf
      simp at h
      refine ⟨l[i].av, by omega, map_get (by omega), rfl, ?_⟩
      conv => whnf
      refine .inl ?_
      conv => whnf
      refine ⟨_, _, _, _, ct_toAtom l[i] (he _ (List.getElem_mem h)), ?_⟩
      conv => whnf
      refine ⟨by omega, by rw [fillRow_length hi]; omega, ?_⟩
      conv => whnf
      refine ⟨[i64 0, ints []], fillRow_get h, by simp, by simp, ?_⟩
      conv => whnf
      refine ⟨i + 1, h, by omega, wk_sound (ψ := []) ?_⟩
      conv => whnf
      refine ⟨?_, ?_⟩
      · rw [wrap64 (by omega) (by omega)]; rfl
      conv => whnf
      refine ⟨rfl, ?_⟩
      conv => whnf
      refine ⟨fillRow_set (f := Atom.av) h, ?_⟩
      conv => whnf
      trivial
    · conv => whnf
      simp at h
      have : i = l.length := by omega
      subst this
      refine ⟨by rw [fillRow_end], ?_⟩
      conv => whnf
      trivial
end Go.Proofs.YtccbimcikbbecaaGreat
/- Copies of all kinds of data. -/
namespace Go.Proofs.YtccbimcikbbecaaGreat
open Go P1
def zrow : AV := .row []
def Atom.small (a : Atom) : Prop := a.terms.length ≤ 1048576
def Fact.small (a : Fact) : Prop := a.vals.length ≤ 1048576
def Relation.small (_ : Relation) : Prop := True
structure Dep.small (a : Dep) : Prop where
  nb : a.body.length ≤ 1048576
  eb : ∀ x ∈ a.body, x.terms.length ≤ 1048576
  nh : a.head.length ≤ 1048576
  eh : ∀ x ∈ a.head, x.terms.length ≤ 1048576
def H44 : List (Nat × Hint) := [(0, ⟨[], [0]⟩), (2, ⟨[], [4, 5, 6]⟩), (3, ⟨[], [7, 8, 9]⟩), (4, ⟨[], [1, 10, 11, 12]⟩), (5, ⟨[], [3, 13]⟩)]
set_option maxRecDepth 100000 in
theorem ct_toRelation (a : Relation) (_h : a.small) : Ct Tryz.prog 44 [ag a.av] [] (ag a.av) [] [] := by
  refine ct_of_vc mixed tab_ok H44 Tryz.func44 rfl (by kernel_rfl) (by kernel_rfl) (by rfl) ?_
  intro hw _
  conv => whnf
  refine ⟨rfl, ?_⟩
  conv => whnf
  refine ⟨rfl, ?_⟩
  conv => whnf
  refine ⟨rfl, ?_⟩
  conv => whnf
  trivial
def H11 : List (Nat × Hint) := [(0, ⟨[], [2]⟩), (1, ⟨[], [5, 6, 7]⟩), (3, ⟨[], [8, 9, 10]⟩), (4, ⟨[], [12, 13]⟩), (5, ⟨[], [14, 15, 16, 17, 18, 19, 20, 21]⟩), (6, ⟨[], [3, 22]⟩)]
set_option maxRecDepth 100000 in
theorem ct_toRelationS (l : List Relation) (hl : l.length ≤ 1048576) (he : ∀ a ∈ l, a.small) : Ct Tryz.prog 11 [sl (.row (l.map Relation.av))] [] (sl (.row (l.map Relation.av))) [] [] := by
  refine ct_of_vc mixed tab_ok H11 Tryz.func11 rfl (by kernel_rfl) (by kernel_rfl) (by rfl) ?_
  intro hw _
  conv => whnf
  refine ⟨rfl, by omega, by simp; omega, ?_⟩
  conv => whnf
  refine loop_rule mixed tab_ok H11 (I := Nat) (fun i => [(.slot 4, iv i), (.slot 3, .s (.lf (.own (7, 0)))), (.slot 0, .s (sl (.row (l.map Relation.av)))), (.row (7, 0), .r ⟨82, 3, true, fillRow Relation.av [.str [], i64 0, .bool false] l i⟩)]) (fun i => i ≤ l.length) (fun i => l.length - i) (by kernel_rfl) 0 (by omega) (wk_sound (ψ := []) ?_) ?_
  · conv => whnf
    refine ⟨rfl, ?_⟩
    conv => whnf
    refine ⟨rfl, ?_⟩
    conv => whnf
    refine ⟨by rw [fillRow_zero]; simp [ints, zrow], ?_⟩
    conv => whnf
    trivial
  · intro i hi
    conv => whnf
    refine ⟨fun h => ?_, fun h => ?_⟩
    · conv => whnf
      simp at h
      refine ⟨l[i].av, by omega, map_get (by omega), rfl, ?_⟩
      conv => whnf
      refine .inl ?_
      conv => whnf
      refine ⟨_, _, _, _, ct_toRelation l[i] (he _ (List.getElem_mem h)), ?_⟩
      conv => whnf
      refine ⟨by omega, by rw [fillRow_length hi]; omega, ?_⟩
      conv => whnf
      refine ⟨[.str [], i64 0, .bool false], fillRow_get h, by simp, by simp, ?_⟩
      conv => whnf
      refine ⟨i + 1, h, by omega, wk_sound (ψ := []) ?_⟩
      conv => whnf
      refine ⟨?_, ?_⟩
      · rw [wrap64 (by omega) (by omega)]; rfl
      conv => whnf
      refine ⟨rfl, ?_⟩
      conv => whnf
      refine ⟨fillRow_set (f := Relation.av) h, ?_⟩
      conv => whnf
      trivial
    · conv => whnf
      simp at h
      have : i = l.length := by omega
      subst this
      refine ⟨by rw [fillRow_end], ?_⟩
      conv => whnf
      trivial
def H100 : List (Nat × Hint) := [(0, ⟨[], [0]⟩), (2, ⟨[], [4, 5, 6]⟩), (3, ⟨[], [1, 7, 8, 9, 10]⟩), (4, ⟨[], [3, 11]⟩)]
set_option maxRecDepth 100000 in
theorem ct_toFact (a : Fact) (h : a.small) : Ct Tryz.prog 100 [ag a.av] [] (ag a.av) [] [] := by
  refine ct_of_vc mixed tab_ok H100 Tryz.func100 rfl (by kernel_rfl) (by kernel_rfl) (by rfl) ?_
  intro hw _
  conv => whnf
  refine .inl ?_
  conv => whnf
  refine ⟨_, _, _, _, ct_toIntS a.vals h, ?_⟩
  conv => whnf
  refine ⟨rfl, ?_⟩
  conv => whnf
  refine ⟨rfl, ?_⟩
  conv => whnf
  trivial
def H58 : List (Nat × Hint) := [(0, ⟨[], [2]⟩), (1, ⟨[], [5, 6, 7]⟩), (3, ⟨[], [8, 9, 10]⟩), (4, ⟨[], [12, 13]⟩), (5, ⟨[], [14, 15, 16, 17, 18, 19, 20, 21]⟩), (6, ⟨[], [3, 22]⟩)]
set_option maxRecDepth 100000 in
theorem ct_toFactS (l : List Fact) (hl : l.length ≤ 1048576) (he : ∀ a ∈ l, a.small) : Ct Tryz.prog 58 [sl (.row (l.map Fact.av))] [] (sl (.row (l.map Fact.av))) [] [] := by
  refine ct_of_vc mixed tab_ok H58 Tryz.func58 rfl (by kernel_rfl) (by kernel_rfl) (by rfl) ?_
  intro hw _
  conv => whnf
  refine ⟨rfl, by omega, by simp; omega, ?_⟩
  conv => whnf
  refine loop_rule mixed tab_ok H58 (I := Nat) (fun i => [(.slot 4, iv i), (.slot 3, .s (.lf (.own (7, 0)))), (.slot 0, .s (sl (.row (l.map Fact.av)))), (.row (7, 0), .r ⟨136, 2, true, fillRow Fact.av [i64 0, zrow] l i⟩)]) (fun i => i ≤ l.length) (fun i => l.length - i) (by kernel_rfl) 0 (by omega) (wk_sound (ψ := []) ?_) ?_
  · conv => whnf
    refine ⟨rfl, ?_⟩
    conv => whnf
    refine ⟨rfl, ?_⟩
    conv => whnf
    refine ⟨by rw [fillRow_zero]; simp [ints, zrow], ?_⟩
    conv => whnf
    trivial
  · intro i hi
    conv => whnf
    refine ⟨fun h => ?_, fun h => ?_⟩
    · conv => whnf
      simp at h
      refine ⟨l[i].av, by omega, map_get (by omega), rfl, ?_⟩
      conv => whnf
      refine .inl ?_
      conv => whnf
      refine ⟨_, _, _, _, ct_toFact l[i] (he _ (List.getElem_mem h)), ?_⟩
      conv => whnf
      refine ⟨by omega, by rw [fillRow_length hi]; omega, ?_⟩
      conv => whnf
      refine ⟨[i64 0, zrow], fillRow_get h, by simp, by simp, ?_⟩
      conv => whnf
      refine ⟨i + 1, h, by omega, wk_sound (ψ := []) ?_⟩
      conv => whnf
      refine ⟨?_, ?_⟩
      · rw [wrap64 (by omega) (by omega)]; rfl
      conv => whnf
      refine ⟨rfl, ?_⟩
      conv => whnf
      refine ⟨fillRow_set (f := Fact.av) h, ?_⟩
      conv => whnf
      trivial
    · conv => whnf
      simp at h
      have : i = l.length := by omega
      subst this
      refine ⟨by rw [fillRow_end], ?_⟩
      conv => whnf
      trivial
def H12 : List (Nat × Hint) := [(0, ⟨[], [0]⟩), (2, ⟨[], [4, 5, 6, 7]⟩), (3, ⟨[], [8, 9, 10, 11]⟩), (4, ⟨[], [12, 13, 14]⟩), (5, ⟨[], [15, 16, 17]⟩), (6, ⟨[], [1, 18, 19, 20]⟩), (7, ⟨[], [3, 21]⟩)]
set_option maxRecDepth 100000 in
theorem ct_toDependency (a : Dep) (h : a.small) : Ct Tryz.prog 12 [ag a.av] [] (ag a.av) [] [] := by
  refine ct_of_vc mixed tab_ok H12 Tryz.func12 rfl (by kernel_rfl) (by kernel_rfl) (by rfl) ?_
  intro hw _
  conv => whnf
  refine .inl ?_
  conv => whnf
  refine ⟨_, _, _, _, ct_toAtomS a.body h.nb h.eb, ?_⟩
  conv => whnf
  refine .inl ?_
  conv => whnf
  refine ⟨_, _, _, _, ct_toAtomS a.head h.nh h.eh, ?_⟩
  conv => whnf
  refine ⟨rfl, ?_⟩
  conv => whnf
  refine ⟨rfl, ?_⟩
  conv => whnf
  refine ⟨rfl, ?_⟩
  conv => whnf
  refine ⟨rfl, ?_⟩
  conv => whnf
  refine ⟨rfl, ?_⟩
  conv => whnf
  trivial
def H13 : List (Nat × Hint) := [(0, ⟨[], [2]⟩), (1, ⟨[], [5, 6, 7]⟩), (3, ⟨[], [8, 9, 10]⟩), (4, ⟨[], [12, 13]⟩), (5, ⟨[], [14, 15, 16, 17, 18, 19, 20, 21]⟩), (6, ⟨[], [3, 22]⟩)]
set_option maxRecDepth 100000 in
theorem ct_toDependencyS (l : List Dep) (hl : l.length ≤ 1048576) (he : ∀ a ∈ l, a.small) : Ct Tryz.prog 13 [sl (.row (l.map Dep.av))] [] (sl (.row (l.map Dep.av))) [] [] := by
  refine ct_of_vc mixed tab_ok H13 Tryz.func13 rfl (by kernel_rfl) (by kernel_rfl) (by rfl) ?_
  intro hw _
  conv => whnf
  refine ⟨rfl, by omega, by simp; omega, ?_⟩
  conv => whnf
  refine loop_rule mixed tab_ok H13 (I := Nat) (fun i => [(.slot 4, iv i), (.slot 3, .s (.lf (.own (7, 0)))), (.slot 0, .s (sl (.row (l.map Dep.av)))), (.row (7, 0), .r ⟨37, 5, true, fillRow Dep.av [zrow, zrow, .bool false, i64 0, i64 0] l i⟩)]) (fun i => i ≤ l.length) (fun i => l.length - i) (by kernel_rfl) 0 (by omega) (wk_sound (ψ := []) ?_) ?_
  · conv => whnf
    refine ⟨rfl, ?_⟩
    conv => whnf
    refine ⟨rfl, ?_⟩
    conv => whnf
    refine ⟨by rw [fillRow_zero]; simp [ints, zrow], ?_⟩
    conv => whnf
    trivial
  · intro i hi
    conv => whnf
    refine ⟨fun h => ?_, fun h => ?_⟩
    · conv => whnf
      simp at h
      refine ⟨l[i].av, by omega, map_get (by omega), rfl, ?_⟩
      conv => whnf
      refine .inl ?_
      conv => whnf
      refine ⟨_, _, _, _, ct_toDependency l[i] (he _ (List.getElem_mem h)), ?_⟩
      conv => whnf
      refine ⟨by omega, by rw [fillRow_length hi]; omega, ?_⟩
      conv => whnf
      refine ⟨[zrow, zrow, .bool false, i64 0, i64 0], fillRow_get h, by simp, by simp, ?_⟩
      conv => whnf
      refine ⟨i + 1, h, by omega, wk_sound (ψ := []) ?_⟩
      conv => whnf
      refine ⟨?_, ?_⟩
      · rw [wrap64 (by omega) (by omega)]; rfl
      conv => whnf
      refine ⟨rfl, ?_⟩
      conv => whnf
      refine ⟨fillRow_set (f := Dep.av) h, ?_⟩
      conv => whnf
      trivial
    · conv => whnf
      simp at h
      have : i = l.length := by omega
      subst this
      refine ⟨by rw [fillRow_end], ?_⟩
      conv => whnf
      trivial
end Go.Proofs.YtccbimcikbbecaaGreat
/- Equality of all kinds of data. -/
namespace Go.Proofs.YtccbimcikbbecaaGreat
open Go P1
def H106 : List (Nat × Hint) := [(0, ⟨[], [4]⟩), (1, ⟨[], [6, 7, 8, 9]⟩), (4, ⟨[], [11, 12, 13]⟩), (5, ⟨[], [15, 16]⟩), (6, ⟨[(false, []), (false, [0]), (false, []), (false, []), (false, [0, 1, 2, 3]), (false, [0, 1, 2, 3, 4]), (false, [2, 3, 4, 5]), (false, [3, 4, 5, 6]), (false, [])], [17, 18, 19, 20, 21, 22, 23, 24]⟩)]
set_option maxRecDepth 100000 in
theorem ct_eqIntS (a b : List Int) (hla : a.length ≤ 1048576) : Ct Tryz.prog 106 [sl (ints a), sl (ints b)] [] (sl (.bool (decide (a = b)))) [] [] := by
  refine ct_of_vc mixed tab_ok H106 Tryz.func106 rfl (by kernel_rfl) (by kernel_rfl) (by rfl) ?_
  intro hw _
  conv => whnf
  refine ⟨fun h => ?_, fun h => ?_⟩
  · conv => whnf
    have : ¬ a = b := by rintro rfl; simp at h
    refine ⟨by simp [this], ?_⟩
    conv => whnf
    trivial
  · conv => whnf
    simp at h
    refine loop_rule mixed tab_ok H106 (I := Nat) (fun i => [(.slot 5, iv i), (.slot 0, .s (sl (ints a))), (.slot 1, .s (sl (ints b)))]) (fun i => i ≤ a.length ∧ a.take i = b.take i) (fun i => a.length - i) (by kernel_rfl) 0 (by simp) (wk_sound (ψ := []) ?_) ?_
    · conv => whnf
      refine ⟨rfl, ?_⟩
      conv => whnf
      refine ⟨rfl, ?_⟩
      conv => whnf
      refine ⟨rfl, ?_⟩
      conv => whnf
      trivial
    · intro i hi
      conv => whnf
      refine ⟨fun h1 => ?_, fun h1 => ?_⟩
      · conv => whnf
        simp at h1
        refine ⟨[i64 a[i]], by omega, map_get (by omega), rfl, ?_⟩
        conv => whnf
        refine ⟨[i64 b[i]], by omega, map_get (by omega), rfl, ?_⟩
        conv => whnf
        refine ⟨fun h2 => ?_, fun h2 => ?_⟩
        · conv => whnf
          have : ¬ a = b := by rintro rfl; simp at h2
          refine ⟨by simp [this], ?_⟩
          conv => whnf
          trivial
        · conv => whnf
          simp at h2
          refine ⟨i + 1, ⟨by omega, ?_⟩, by omega, wk_sound (ψ := []) ?_⟩
          · rw [List.take_succ_eq_append_getElem h1, List.take_succ_eq_append_getElem (by omega), hi.2, h2]
          · conv => whnf
            refine ⟨?_, ?_⟩
            · rw [wrap64 (by omega) (by omega)]; rfl
            conv => whnf
            refine ⟨rfl, ?_⟩
            conv => whnf
            refine ⟨rfl, ?_⟩
            conv => whnf
            trivial
      · conv => whnf
        simp at h1
        have : i = a.length := by omega
        have : a = b := by
          have h3 := hi.2
          subst this
          rw [List.take_of_length_le (Nat.le_refl _), List.take_of_length_le (by omega)] at h3
          exact h3
        refine ⟨by simp [this], ?_⟩
        conv => whnf
        trivial
def H50 : List (Nat × Hint) := [(0, ⟨[], [0, 1, 4]⟩), (1, ⟨[], [5, 6, 7, 8]⟩), (3, ⟨[], [10, 11, 12, 13]⟩), (5, ⟨[], [2, 3, 15, 16, 17, 18]⟩)]
set_option maxRecDepth 100000 in
theorem ct_eqRelation (a b : Relation) (_h : a.small) : Ct Tryz.prog 50 [ag a.av, ag b.av] [] (sl (.bool (decide (a = b)))) [] [] := by
  refine ct_of_vc mixed tab_ok H50 Tryz.func50 rfl (by kernel_rfl) (by kernel_rfl) (by rfl) ?_
  intro hw _
  conv => whnf
  refine ⟨fun h0 => ?_, fun h0 => ?_⟩
  · conv => whnf
    have : ¬ a = b := by rintro rfl; simp at h0
    refine ⟨by simp [this], ?_⟩
    conv => whnf
    trivial
  · conv => whnf
    refine ⟨fun h1 => ?_, fun h1 => ?_⟩
    · conv => whnf
      have : ¬ a = b := by rintro rfl; simp at h1
      refine ⟨by simp [this], ?_⟩
      conv => whnf
      trivial
    · conv => whnf
      refine ⟨fun h2 => ?_, fun h2 => ?_⟩
      · conv => whnf
        have : ¬ a = b := by rintro rfl; simp at h2
        refine ⟨by simp [this], ?_⟩
        conv => whnf
        trivial
      · conv => whnf
        have : a = b := by cases a; cases b; simp_all
        refine ⟨by simp [this], ?_⟩
        conv => whnf
        trivial
def H16 : List (Nat × Hint) := [(0, ⟨[], [4]⟩), (1, ⟨[], [6, 7, 8, 9]⟩), (4, ⟨[], [11, 12, 13]⟩), (5, ⟨[], [15, 16]⟩), (6, ⟨[(false, []), (false, [0]), (false, []), (false, []), (false, [0, 1, 2, 3]), (false, [0, 1, 2, 3, 4]), (false, [2, 3, 4, 5]), (false, [3, 4, 5, 6]), (false, []), (false, [])], [17, 18, 19, 20, 21, 22, 23, 24, 25]⟩)]
set_option maxRecDepth 100000 in
theorem ct_eqRelationS (a b : List Relation) (hla : a.length ≤ 1048576) (he : ∀ x ∈ a, Relation.small x) : Ct Tryz.prog 16 [sl (.row (a.map Relation.av)), sl (.row (b.map Relation.av))] [] (sl (.bool (decide (a = b)))) [] [] := by
  refine ct_of_vc mixed tab_ok H16 Tryz.func16 rfl (by kernel_rfl) (by kernel_rfl) (by rfl) ?_
  intro hw _
  conv => whnf
  refine ⟨fun h => ?_, fun h => ?_⟩
  · conv => whnf
    have : ¬ a = b := by rintro rfl; simp at h
    refine ⟨by simp [this], ?_⟩
    conv => whnf
    trivial
  · conv => whnf
    simp at h
    refine loop_rule mixed tab_ok H16 (I := Nat) (fun i => [(.slot 5, iv i), (.slot 0, .s (sl (.row (a.map Relation.av)))), (.slot 1, .s (sl (.row (b.map Relation.av))))]) (fun i => i ≤ a.length ∧ a.take i = b.take i) (fun i => a.length - i) (by kernel_rfl) 0 (by simp) (wk_sound (ψ := []) ?_) ?_
    · conv => whnf
      refine ⟨rfl, ?_⟩
      conv => whnf
      refine ⟨rfl, ?_⟩
      conv => whnf
      refine ⟨rfl, ?_⟩
      conv => whnf
      trivial
    · intro i hi
      conv => whnf
      refine ⟨fun h1 => ?_, fun h1 => ?_⟩
      · conv => whnf
        simp at h1
        refine ⟨a[i].av, by omega, map_get (by omega), rfl, ?_⟩
        conv => whnf
        refine ⟨b[i].av, by omega, map_get (by omega), rfl, ?_⟩
        conv => whnf
        refine .inl ?_
        conv => whnf
        refine ⟨_, _, _, _, ct_eqRelation a[i] b[i] (he _ (List.getElem_mem h1)), ?_⟩
        conv => whnf
        refine ⟨fun h2 => ?_, fun h2 => ?_⟩
        · conv => whnf
          have : ¬ a = b := by rintro rfl; simp at h2
          refine ⟨by simp [this], ?_⟩
          conv => whnf
          trivial
        · conv => whnf
          simp at h2
          refine ⟨i + 1, ⟨by omega, ?_⟩, by omega, wk_sound (ψ := []) ?_⟩
          · rw [List.take_succ_eq_append_getElem h1, List.take_succ_eq_append_getElem (by omega), hi.2, h2]
          · conv => whnf
            refine ⟨?_, ?_⟩
            · rw [wrap64 (by omega) (by omega)]; rfl
            conv => whnf
            refine ⟨rfl, ?_⟩
            conv => whnf
            refine ⟨rfl, ?_⟩
            conv => whnf
            trivial
      · conv => whnf
        simp at h1
        have : i = a.length := by omega
        have : a = b := by
          have h3 := hi.2
          subst this
          rw [List.take_of_length_le (Nat.le_refl _), List.take_of_length_le (by omega)] at h3
          exact h3
        refine ⟨by simp [this], ?_⟩
        conv => whnf
        trivial
def H93 : List (Nat × Hint) := [(0, ⟨[], [0, 1, 4]⟩), (1, ⟨[], [5, 6, 7, 8]⟩), (3, ⟨[], [2, 3, 10, 11, 12, 13, 14]⟩)]
set_option maxRecDepth 100000 in
theorem ct_eqAtom (a b : Atom) (h : a.small) : Ct Tryz.prog 93 [ag a.av, ag b.av] [] (sl (.bool (decide (a = b)))) [] [] := by
  refine ct_of_vc mixed tab_ok H93 Tryz.func93 rfl (by kernel_rfl) (by kernel_rfl) (by rfl) ?_
  intro hw _
  conv => whnf
  refine ⟨fun h0 => ?_, fun h0 => ?_⟩
  · conv => whnf
    have : ¬ a = b := by rintro rfl; simp at h0
    refine ⟨by simp [this], ?_⟩
    conv => whnf
    trivial
  · conv => whnf
    refine .inl ?_
    conv => whnf
    refine ⟨_, _, _, _, ct_eqIntS a.terms b.terms h, ?_⟩
    conv => whnf
    refine ⟨fun h1 => ?_, fun h1 => ?_⟩
    · conv => whnf
      have : ¬ a = b := by rintro rfl; simp at h1
      refine ⟨by simp [this], ?_⟩
      conv => whnf
      trivial
    · conv => whnf
      have : a = b := by cases a; cases b; simp_all
      refine ⟨by simp [this], ?_⟩
      conv => whnf
      trivial
def H51 : List (Nat × Hint) := [(0, ⟨[], [4]⟩), (1, ⟨[], [6, 7, 8, 9]⟩), (4, ⟨[], [11, 12, 13]⟩), (5, ⟨[], [15, 16]⟩), (6, ⟨[(false, []), (false, [0]), (false, []), (false, []), (false, [0, 1, 2, 3]), (false, [0, 1, 2, 3, 4]), (false, [2, 3, 4, 5]), (false, [3, 4, 5, 6]), (false, []), (false, [])], [17, 18, 19, 20, 21, 22, 23, 24, 25]⟩)]
set_option maxRecDepth 100000 in
theorem ct_eqAtomS (a b : List Atom) (hla : a.length ≤ 1048576) (he : ∀ x ∈ a, Atom.small x) : Ct Tryz.prog 51 [sl (.row (a.map Atom.av)), sl (.row (b.map Atom.av))] [] (sl (.bool (decide (a = b)))) [] [] := by
  refine ct_of_vc mixed tab_ok H51 Tryz.func51 rfl (by kernel_rfl) (by kernel_rfl) (by rfl) ?_
  intro hw _
  conv => whnf
  refine ⟨fun h => ?_, fun h => ?_⟩
  · conv => whnf
    have : ¬ a = b := by rintro rfl; simp at h
    refine ⟨by simp [this], ?_⟩
    conv => whnf
    trivial
  · conv => whnf
    simp at h
    refine loop_rule mixed tab_ok H51 (I := Nat) (fun i => [(.slot 5, iv i), (.slot 0, .s (sl (.row (a.map Atom.av)))), (.slot 1, .s (sl (.row (b.map Atom.av))))]) (fun i => i ≤ a.length ∧ a.take i = b.take i) (fun i => a.length - i) (by kernel_rfl) 0 (by simp) (wk_sound (ψ := []) ?_) ?_
    · conv => whnf
      refine ⟨rfl, ?_⟩
      conv => whnf
      refine ⟨rfl, ?_⟩
      conv => whnf
      refine ⟨rfl, ?_⟩
      conv => whnf
      trivial
    · intro i hi
      conv => whnf
      refine ⟨fun h1 => ?_, fun h1 => ?_⟩
      · conv => whnf
        simp at h1
        refine ⟨a[i].av, by omega, map_get (by omega), rfl, ?_⟩
        conv => whnf
        refine ⟨b[i].av, by omega, map_get (by omega), rfl, ?_⟩
        conv => whnf
        refine .inl ?_
        conv => whnf
        refine ⟨_, _, _, _, ct_eqAtom a[i] b[i] (he _ (List.getElem_mem h1)), ?_⟩
        conv => whnf
        refine ⟨fun h2 => ?_, fun h2 => ?_⟩
        · conv => whnf
          have : ¬ a = b := by rintro rfl; simp at h2
          refine ⟨by simp [this], ?_⟩
          conv => whnf
          trivial
        · conv => whnf
          simp at h2
          refine ⟨i + 1, ⟨by omega, ?_⟩, by omega, wk_sound (ψ := []) ?_⟩
          · rw [List.take_succ_eq_append_getElem h1, List.take_succ_eq_append_getElem (by omega), hi.2, h2]
          · conv => whnf
            refine ⟨?_, ?_⟩
            · rw [wrap64 (by omega) (by omega)]; rfl
            conv => whnf
            refine ⟨rfl, ?_⟩
            conv => whnf
            refine ⟨rfl, ?_⟩
            conv => whnf
            trivial
      · conv => whnf
        simp at h1
        have : i = a.length := by omega
        have : a = b := by
          have h3 := hi.2
          subst this
          rw [List.take_of_length_le (Nat.le_refl _), List.take_of_length_le (by omega)] at h3
          exact h3
        refine ⟨by simp [this], ?_⟩
        conv => whnf
        trivial
def H105 : List (Nat × Hint) := [(0, ⟨[], [0, 1, 4]⟩), (1, ⟨[], [5, 6, 7, 8]⟩), (3, ⟨[], [2, 3, 10, 11, 12, 13, 14]⟩)]
set_option maxRecDepth 100000 in
theorem ct_eqFact (a b : Fact) (h : a.small) : Ct Tryz.prog 105 [ag a.av, ag b.av] [] (sl (.bool (decide (a = b)))) [] [] := by
  refine ct_of_vc mixed tab_ok H105 Tryz.func105 rfl (by kernel_rfl) (by kernel_rfl) (by rfl) ?_
  intro hw _
  conv => whnf
  refine ⟨fun h0 => ?_, fun h0 => ?_⟩
  · conv => whnf
    have : ¬ a = b := by rintro rfl; simp at h0
    refine ⟨by simp [this], ?_⟩
    conv => whnf
    trivial
  · conv => whnf
    refine .inl ?_
    conv => whnf
    refine ⟨_, _, _, _, ct_eqIntS a.vals b.vals h, ?_⟩
    conv => whnf
    refine ⟨fun h1 => ?_, fun h1 => ?_⟩
    · conv => whnf
      have : ¬ a = b := by rintro rfl; simp at h1
      refine ⟨by simp [this], ?_⟩
      conv => whnf
      trivial
    · conv => whnf
      have : a = b := by cases a; cases b; simp_all
      refine ⟨by simp [this], ?_⟩
      conv => whnf
      trivial
def H61 : List (Nat × Hint) := [(0, ⟨[], [4]⟩), (1, ⟨[], [6, 7, 8, 9]⟩), (4, ⟨[], [11, 12, 13]⟩), (5, ⟨[], [15, 16]⟩), (6, ⟨[(false, []), (false, [0]), (false, []), (false, []), (false, [0, 1, 2, 3]), (false, [0, 1, 2, 3, 4]), (false, [2, 3, 4, 5]), (false, [3, 4, 5, 6]), (false, []), (false, [])], [17, 18, 19, 20, 21, 22, 23, 24, 25]⟩)]
set_option maxRecDepth 100000 in
theorem ct_eqFactS (a b : List Fact) (hla : a.length ≤ 1048576) (he : ∀ x ∈ a, Fact.small x) : Ct Tryz.prog 61 [sl (.row (a.map Fact.av)), sl (.row (b.map Fact.av))] [] (sl (.bool (decide (a = b)))) [] [] := by
  refine ct_of_vc mixed tab_ok H61 Tryz.func61 rfl (by kernel_rfl) (by kernel_rfl) (by rfl) ?_
  intro hw _
  conv => whnf
  refine ⟨fun h => ?_, fun h => ?_⟩
  · conv => whnf
    have : ¬ a = b := by rintro rfl; simp at h
    refine ⟨by simp [this], ?_⟩
    conv => whnf
    trivial
  · conv => whnf
    simp at h
    refine loop_rule mixed tab_ok H61 (I := Nat) (fun i => [(.slot 5, iv i), (.slot 0, .s (sl (.row (a.map Fact.av)))), (.slot 1, .s (sl (.row (b.map Fact.av))))]) (fun i => i ≤ a.length ∧ a.take i = b.take i) (fun i => a.length - i) (by kernel_rfl) 0 (by simp) (wk_sound (ψ := []) ?_) ?_
    · conv => whnf
      refine ⟨rfl, ?_⟩
      conv => whnf
      refine ⟨rfl, ?_⟩
      conv => whnf
      refine ⟨rfl, ?_⟩
      conv => whnf
      trivial
    · intro i hi
      conv => whnf
      refine ⟨fun h1 => ?_, fun h1 => ?_⟩
      · conv => whnf
        simp at h1
        refine ⟨a[i].av, by omega, map_get (by omega), rfl, ?_⟩
        conv => whnf
        refine ⟨b[i].av, by omega, map_get (by omega), rfl, ?_⟩
        conv => whnf
        refine .inl ?_
        conv => whnf
        refine ⟨_, _, _, _, ct_eqFact a[i] b[i] (he _ (List.getElem_mem h1)), ?_⟩
        conv => whnf
        refine ⟨fun h2 => ?_, fun h2 => ?_⟩
        · conv => whnf
          have : ¬ a = b := by rintro rfl; simp at h2
          refine ⟨by simp [this], ?_⟩
          conv => whnf
          trivial
        · conv => whnf
          simp at h2
          refine ⟨i + 1, ⟨by omega, ?_⟩, by omega, wk_sound (ψ := []) ?_⟩
          · rw [List.take_succ_eq_append_getElem h1, List.take_succ_eq_append_getElem (by omega), hi.2, h2]
          · conv => whnf
            refine ⟨?_, ?_⟩
            · rw [wrap64 (by omega) (by omega)]; rfl
            conv => whnf
            refine ⟨rfl, ?_⟩
            conv => whnf
            refine ⟨rfl, ?_⟩
            conv => whnf
            trivial
      · conv => whnf
        simp at h1
        have : i = a.length := by omega
        have : a = b := by
          have h3 := hi.2
          subst this
          rw [List.take_of_length_le (Nat.le_refl _), List.take_of_length_le (by omega)] at h3
          exact h3
        refine ⟨by simp [this], ?_⟩
        conv => whnf
        trivial
def H17 : List (Nat × Hint) := [(0, ⟨[], [0, 1, 4]⟩), (1, ⟨[], [5, 6, 7, 8, 9]⟩), (3, ⟨[], [11, 12, 13, 14, 15]⟩), (5, ⟨[], [17, 18, 19, 20]⟩), (7, ⟨[], [22, 23, 24, 25]⟩), (9, ⟨[], [2, 3, 27, 28, 29, 30]⟩)]
set_option maxRecDepth 100000 in
theorem ct_eqDependency (a b : Dep) (h : a.small) : Ct Tryz.prog 17 [ag a.av, ag b.av] [] (sl (.bool (decide (a = b)))) [] [] := by
  refine ct_of_vc mixed tab_ok H17 Tryz.func17 rfl (by kernel_rfl) (by kernel_rfl) (by rfl) ?_
  intro hw _
  conv => whnf
  refine .inl ?_
  conv => whnf
  refine ⟨_, _, _, _, ct_eqAtomS a.body b.body h.nb h.eb, ?_⟩
  conv => whnf
  refine ⟨fun h0 => ?_, fun h0 => ?_⟩
  · conv => whnf
    have : ¬ a = b := by rintro rfl; simp at h0
    refine ⟨by simp [this], ?_⟩
    conv => whnf
    trivial
  · conv => whnf
    refine .inl ?_
    conv => whnf
    refine ⟨_, _, _, _, ct_eqAtomS a.head b.head h.nh h.eh, ?_⟩
    conv => whnf
    refine ⟨fun h1 => ?_, fun h1 => ?_⟩
    · conv => whnf
      have : ¬ a = b := by rintro rfl; simp at h1
      refine ⟨by simp [this], ?_⟩
      conv => whnf
      trivial
    · conv => whnf
      refine ⟨fun h2 => ?_, fun h2 => ?_⟩
      · conv => whnf
        have : ¬ a = b := by rintro rfl; simp at h2
        refine ⟨by simp [this], ?_⟩
        conv => whnf
        trivial
      · conv => whnf
        refine ⟨fun h3 => ?_, fun h3 => ?_⟩
        · conv => whnf
          have : ¬ a = b := by rintro rfl; simp at h3
          refine ⟨by simp [this], ?_⟩
          conv => whnf
          trivial
        · conv => whnf
          refine ⟨fun h4 => ?_, fun h4 => ?_⟩
          · conv => whnf
            have : ¬ a = b := by rintro rfl; simp at h4
            refine ⟨by simp [this], ?_⟩
            conv => whnf
            trivial
          · conv => whnf
            have : a = b := by cases a; cases b; simp_all
            refine ⟨by simp [this], ?_⟩
            conv => whnf
            trivial
def H15 : List (Nat × Hint) := [(0, ⟨[], [4]⟩), (1, ⟨[], [6, 7, 8, 9]⟩), (4, ⟨[], [11, 12, 13]⟩), (5, ⟨[], [15, 16]⟩), (6, ⟨[(false, []), (false, [0]), (false, []), (false, []), (false, [0, 1, 2, 3]), (false, [0, 1, 2, 3, 4]), (false, [2, 3, 4, 5]), (false, [3, 4, 5, 6]), (false, []), (false, [])], [17, 18, 19, 20, 21, 22, 23, 24, 25]⟩)]
set_option maxRecDepth 100000 in
theorem ct_eqDependencyS (a b : List Dep) (hla : a.length ≤ 1048576) (he : ∀ x ∈ a, Dep.small x) : Ct Tryz.prog 15 [sl (.row (a.map Dep.av)), sl (.row (b.map Dep.av))] [] (sl (.bool (decide (a = b)))) [] [] := by
  refine ct_of_vc mixed tab_ok H15 Tryz.func15 rfl (by kernel_rfl) (by kernel_rfl) (by rfl) ?_
  intro hw _
  conv => whnf
  refine ⟨fun h => ?_, fun h => ?_⟩
  · conv => whnf
    have : ¬ a = b := by rintro rfl; simp at h
    refine ⟨by simp [this], ?_⟩
    conv => whnf
    trivial
  · conv => whnf
    simp at h
    refine loop_rule mixed tab_ok H15 (I := Nat) (fun i => [(.slot 5, iv i), (.slot 0, .s (sl (.row (a.map Dep.av)))), (.slot 1, .s (sl (.row (b.map Dep.av))))]) (fun i => i ≤ a.length ∧ a.take i = b.take i) (fun i => a.length - i) (by kernel_rfl) 0 (by simp) (wk_sound (ψ := []) ?_) ?_
    · conv => whnf
      refine ⟨rfl, ?_⟩
      conv => whnf
      refine ⟨rfl, ?_⟩
      conv => whnf
      refine ⟨rfl, ?_⟩
      conv => whnf
      trivial
    · intro i hi
      conv => whnf
      refine ⟨fun h1 => ?_, fun h1 => ?_⟩
      · conv => whnf
        simp at h1
        refine ⟨a[i].av, by omega, map_get (by omega), rfl, ?_⟩
        conv => whnf
        refine ⟨b[i].av, by omega, map_get (by omega), rfl, ?_⟩
        conv => whnf
        refine .inl ?_
        conv => whnf
        refine ⟨_, _, _, _, ct_eqDependency a[i] b[i] (he _ (List.getElem_mem h1)), ?_⟩
        conv => whnf
        refine ⟨fun h2 => ?_, fun h2 => ?_⟩
        · conv => whnf
          have : ¬ a = b := by rintro rfl; simp at h2
          refine ⟨by simp [this], ?_⟩
          conv => whnf
          trivial
        · conv => whnf
          simp at h2
          refine ⟨i + 1, ⟨by omega, ?_⟩, by omega, wk_sound (ψ := []) ?_⟩
          · rw [List.take_succ_eq_append_getElem h1, List.take_succ_eq_append_getElem (by omega), hi.2, h2]
          · conv => whnf
            refine ⟨?_, ?_⟩
            · rw [wrap64 (by omega) (by omega)]; rfl
            conv => whnf
            refine ⟨rfl, ?_⟩
            conv => whnf
            refine ⟨rfl, ?_⟩
            conv => whnf
            trivial
      · conv => whnf
        simp at h1
        have : i = a.length := by omega
        have : a = b := by
          have h3 := hi.2
          subst this
          rw [List.take_of_length_le (Nat.le_refl _), List.take_of_length_le (by omega)] at h3
          exact h3
        refine ⟨by simp [this], ?_⟩
        conv => whnf
        trivial
end Go.Proofs.YtccbimcikbbecaaGreat
/- Instances and chase steps: sizes, copies, equality. -/
namespace Go.Proofs.YtccbimcikbbecaaGreat
open Go P1
def CStep.small (a : CStep) : Prop := a.bind.length ≤ 1048576
structure Inst.small (a : Inst) : Prop where
  nr : a.rels.length ≤ 1048576
  nf : a.facts.length ≤ 1048576
  ef : ∀ x ∈ a.facts, x.small
def szStep (a : CStep) (left : Int) : Int := szInts a.bind left
theorem szStep_ok : SzOk szStep := fun _ _ h => szInts_range h
def H56 : List (Nat × Hint) := [(0, ⟨[], [0, 4]⟩), (1, ⟨[], [2, 5, 6, 7, 8]⟩), (2, ⟨[], [9]⟩), (4, ⟨[], [1, 11]⟩)]
set_option maxRecDepth 100000 in
theorem ct_szChaseStep (a : CStep) (left : Int) (h0 : 0 ≤ left) (h1 : left ≤ 1048576) : Ct Tryz.prog 56 [ag a.av, sl (i64 left)] [] (sl (i64 (szStep a left))) [] [] := by
  refine ct_of_vc mixed tab_ok H56 Tryz.func56 rfl (by kernel_rfl) (by kernel_rfl) (by rfl) ?_
  intro hw _
  conv => whnf
  refine .inl ?_
  conv => whnf
  refine ⟨_, _, _, _, ct_szIntS a.bind left h0 h1, ?_⟩
  conv => whnf
  refine ⟨fun h => ?_, fun h => ?_⟩
  · conv => whnf
    have := (szStep_ok a left h1).1
    simp at h
    change szStep a left < 0 at h
    refine ⟨by congr 1; omega, ?_⟩
    conv => whnf
    trivial
  · conv => whnf
    refine ⟨rfl, ?_⟩
    conv => whnf
    trivial
def H23 : List (Nat × Hint) := [(0, ⟨[], [4]⟩), (1, ⟨[], [6, 7, 8, 9]⟩), (2, ⟨[], [10]⟩), (5, ⟨[], [12, 13, 14]⟩), (6, ⟨[], [16, 17]⟩), (7, ⟨[], [18, 19, 20, 21, 22, 23]⟩), (8, ⟨[], [24]⟩), (10, ⟨[], [1, 26]⟩)]
set_option maxRecDepth 100000 in
theorem ct_szChaseStepS (l : List CStep) (left : Int) (h0 : 0 ≤ left) (h1 : left ≤ 1048576) : Ct Tryz.prog 23 [sl (.row (l.map CStep.av)), sl (i64 left)] [] (sl (i64 (szL szStep l left))) [] [] := by
  refine ct_of_vc mixed tab_ok H23 Tryz.func23 rfl (by kernel_rfl) (by kernel_rfl) (by rfl) ?_
  intro hw _
  have hl : l.length ≤ 1125899906842624 := by simpa using Wf.len (hw _ (.head _))
  have hwr : IntKind.i64.wrap (left - ↑(List.map CStep.av l).length) = left - l.length := by
    rw [List.length_map]; exact wrap64 (by omega) (by omega)
  conv => whnf
  rw [hwr]
  refine ⟨fun h => ?_, fun h => ?_⟩
  · conv => whnf
    refine ⟨by simp only [szL]; rw [if_pos (by simpa using h)], ?_⟩
    conv => whnf
    trivial
  · conv => whnf
    simp at h
    refine loop_rule mixed tab_ok H23 (I := Nat × Int) (fun p => [(.slot 5, iv p.1), (.slot 0, .s (sl (.row (l.map CStep.av)))), (.slot 1, iv p.2)]) (fun p => p.1 ≤ l.length ∧ 0 ≤ p.2 ∧ p.2 ≤ 1048576 ∧ szGo szStep (l.drop p.1) p.2 = szGo szStep l (left - l.length)) (fun p => l.length - p.1) (by kernel_rfl) (0, left - l.length) ⟨by simp, by omega, by omega, by simp⟩ (wk_sound (ψ := []) ?_) ?_
    · conv => whnf
      refine ⟨rfl, ?_⟩
      conv => whnf
      refine ⟨rfl, ?_⟩
      conv => whnf
      refine ⟨rfl, ?_⟩
      conv => whnf
      trivial
    · rintro ⟨i, cur⟩ ⟨hi, hc0, hc1, hgo⟩
      dsimp only at hi hc0 hc1 hgo
      conv => whnf
      refine ⟨fun h2 => ?_, fun h2 => ?_⟩
      · conv => whnf
        simp at h2
        refine ⟨l[i].av, by omega, map_get (by omega), rfl, ?_⟩
        conv => whnf
        refine .inl ?_
        conv => whnf
        refine ⟨_, _, _, _, ct_szChaseStep l[i] cur hc0 hc1, ?_⟩
        conv => whnf
        rw [szGo_drop h2] at hgo
        refine ⟨fun h3 => ?_, fun h3 => ?_⟩
        · conv => whnf
          simp at h3
          rw [if_pos h3] at hgo
          refine ⟨by simp only [szL]; rw [if_neg (by omega), ← hgo], ?_⟩
          conv => whnf
          trivial
        · conv => whnf
          simp at h3
          rw [if_neg (by omega)] at hgo
          refine ⟨(i + 1, szStep l[i] cur), ⟨h2, h3, (szStep_ok l[i] cur hc1).2, hgo⟩, by simp; omega, wk_sound (ψ := []) ?_⟩
          conv => whnf
          refine ⟨?_, ?_⟩
          · rw [wrap64 (by omega) (by omega)]; rfl
          conv => whnf
          refine ⟨rfl, ?_⟩
          conv => whnf
          refine ⟨rfl, ?_⟩
          conv => whnf
          trivial
      · conv => whnf
        simp at h2
        have : i = l.length := by omega
        subst this
        simp only [List.drop_length, szGo] at hgo
        refine ⟨by simp only [szL]; rw [if_neg (by omega), ← hgo], ?_⟩
        conv => whnf
        trivial
def szInst (a : Inst) (left : Int) : Int := if szL szRel a.rels left < 0 then -1 else if szL szFact a.facts (szL szRel a.rels left) < 0 then -1 else szL szFact a.facts (szL szRel a.rels left)
theorem szInst_ok : SzOk szInst := by
  intro a left h
  have r1 := szL_ok szRel_ok a.rels left h
  have r2 := szL_ok szFact_ok a.facts _ r1.2
  simp only [szInst]
  split
  · omega
  · split <;> omega
def H22 : List (Nat × Hint) := [(0, ⟨[], [0, 4]⟩), (1, ⟨[], [5, 6, 7, 8]⟩), (2, ⟨[], [9]⟩), (4, ⟨[], [2, 11, 12, 13, 14]⟩), (5, ⟨[], [15]⟩), (7, ⟨[], [1, 17]⟩)]
set_option maxRecDepth 100000 in
theorem ct_szInstance (a : Inst) (left : Int) (h0 : 0 ≤ left) (h1 : left ≤ 1048576) : Ct Tryz.prog 22 [ag a.av, sl (i64 left)] [] (sl (i64 (szInst a left))) [] [] := by
  refine ct_of_vc mixed tab_ok H22 Tryz.func22 rfl (by kernel_rfl) (by kernel_rfl) (by rfl) ?_
  intro hw _
  conv => whnf
  have r0 := szL_ok szRel_ok a.rels left h1
  refine .inl ?_
  conv => whnf
  refine ⟨_, _, _, _, ct_szRelationS a.rels left h0 h1, ?_⟩
  conv => whnf
  refine ⟨fun g0 => ?_, fun g0 => ?_⟩
  · conv => whnf
    have g : szL szRel a.rels left < 0 := by simpa using g0
    refine ⟨by congr 1; simp only [szInst]; simp [*], ?_⟩
    conv => whnf
    trivial
  · conv => whnf
    have g0 : ¬ (szL szRel a.rels left < 0) := by simpa using g0
    have r1 := szL_ok szFact_ok a.facts (szL szRel a.rels left) r0.2
    refine .inl ?_
    conv => whnf
    refine ⟨_, _, _, _, ct_szFactS a.facts (szL szRel a.rels left) (by omega) r0.2, ?_⟩
    conv => whnf
    refine ⟨fun g1 => ?_, fun g1 => ?_⟩
    · conv => whnf
      have g : szL szFact a.facts (szL szRel a.rels left) < 0 := by simpa using g1
      refine ⟨by congr 1; simp only [szInst]; simp [*], ?_⟩
      conv => whnf
      trivial
    · conv => whnf
      have g1 : ¬ (szL szFact a.facts (szL szRel a.rels left) < 0) := by simpa using g1
      refine ⟨by congr 1; simp only [szInst]; simp [*], ?_⟩
      conv => whnf
      trivial
def H59 : List (Nat × Hint) := [(0, ⟨[], [0]⟩), (2, ⟨[], [4, 5, 6]⟩), (3, ⟨[], [1, 7, 8, 9, 10]⟩), (4, ⟨[], [3, 11]⟩)]
set_option maxRecDepth 100000 in
theorem ct_toChaseStep (a : CStep) (h : a.small) : Ct Tryz.prog 59 [ag a.av] [] (ag a.av) [] [] := by
  refine ct_of_vc mixed tab_ok H59 Tryz.func59 rfl (by kernel_rfl) (by kernel_rfl) (by rfl) ?_
  intro hw _
  conv => whnf
  refine .inl ?_
  conv => whnf
  refine ⟨_, _, _, _, ct_toIntS a.bind h, ?_⟩
  conv => whnf
  refine ⟨rfl, ?_⟩
  conv => whnf
  refine ⟨rfl, ?_⟩
  conv => whnf
  trivial
def H26 : List (Nat × Hint) := [(0, ⟨[], [2]⟩), (1, ⟨[], [5, 6, 7]⟩), (3, ⟨[], [8, 9, 10]⟩), (4, ⟨[], [12, 13]⟩), (5, ⟨[], [14, 15, 16, 17, 18, 19, 20, 21]⟩), (6, ⟨[], [3, 22]⟩)]
set_option maxRecDepth 100000 in
theorem ct_toChaseStepS (l : List CStep) (hl : l.length ≤ 1048576) (he : ∀ a ∈ l, a.small) : Ct Tryz.prog 26 [sl (.row (l.map CStep.av))] [] (sl (.row (l.map CStep.av))) [] [] := by
  refine ct_of_vc mixed tab_ok H26 Tryz.func26 rfl (by kernel_rfl) (by kernel_rfl) (by rfl) ?_
  intro hw _
  conv => whnf
  refine ⟨rfl, by omega, by simp; omega, ?_⟩
  conv => whnf
  refine loop_rule mixed tab_ok H26 (I := Nat) (fun i => [(.slot 4, iv i), (.slot 3, .s (.lf (.own (7, 0)))), (.slot 0, .s (sl (.row (l.map CStep.av)))), (.row (7, 0), .r ⟨100, 2, true, fillRow CStep.av [i64 0, zrow] l i⟩)]) (fun i => i ≤ l.length) (fun i => l.length - i) (by kernel_rfl) 0 (by omega) (wk_sound (ψ := []) ?_) ?_
  · conv => whnf
    refine ⟨rfl, ?_⟩
    conv => whnf
    refine ⟨rfl, ?_⟩
    conv => whnf
    refine ⟨by rw [fillRow_zero]; simp [ints, zrow], ?_⟩
    conv => whnf
    trivial
  · intro i hi
    conv => whnf
    refine ⟨fun h => ?_, fun h => ?_⟩
    · conv => whnf
      simp at h
      refine ⟨l[i].av, by omega, map_get (by omega), rfl, ?_⟩
      conv => whnf
      refine .inl ?_
      conv => whnf
      refine ⟨_, _, _, _, ct_toChaseStep l[i] (he _ (List.getElem_mem h)), ?_⟩
      conv => whnf
      refine ⟨by omega, by rw [fillRow_length hi]; omega, ?_⟩
      conv => whnf
      refine ⟨[i64 0, zrow], fillRow_get h, by simp, by simp, ?_⟩
      conv => whnf
      refine ⟨i + 1, h, by omega, wk_sound (ψ := []) ?_⟩
      conv => whnf
      refine ⟨?_, ?_⟩
      · rw [wrap64 (by omega) (by omega)]; rfl
      conv => whnf
      refine ⟨rfl, ?_⟩
      conv => whnf
      refine ⟨fillRow_set (f := CStep.av) h, ?_⟩
      conv => whnf
      trivial
    · conv => whnf
      simp at h
      have : i = l.length := by omega
      subst this
      refine ⟨by rw [fillRow_end], ?_⟩
      conv => whnf
      trivial
def H25 : List (Nat × Hint) := [(0, ⟨[], [0]⟩), (2, ⟨[], [4, 5, 6, 7]⟩), (3, ⟨[], [1, 8, 9, 10, 11]⟩), (4, ⟨[], [3, 12]⟩)]
set_option maxRecDepth 100000 in
theorem ct_toInstance (a : Inst) (h : a.small) : Ct Tryz.prog 25 [ag a.av] [] (ag a.av) [] [] := by
  refine ct_of_vc mixed tab_ok H25 Tryz.func25 rfl (by kernel_rfl) (by kernel_rfl) (by rfl) ?_
  intro hw _
  conv => whnf
  refine .inl ?_
  conv => whnf
  refine ⟨_, _, _, _, ct_toRelationS a.rels h.nr (fun _ _ => trivial), ?_⟩
  conv => whnf
  refine .inl ?_
  conv => whnf
  refine ⟨_, _, _, _, ct_toFactS a.facts h.nf h.ef, ?_⟩
  conv => whnf
  refine ⟨rfl, ?_⟩
  conv => whnf
  refine ⟨rfl, ?_⟩
  conv => whnf
  trivial
def H62 : List (Nat × Hint) := [(0, ⟨[], [0, 1, 4]⟩), (1, ⟨[], [5, 6, 7, 8]⟩), (3, ⟨[], [2, 3, 10, 11, 12, 13, 14]⟩)]
set_option maxRecDepth 100000 in
theorem ct_eqChaseStep (a b : CStep) (h : a.small) : Ct Tryz.prog 62 [ag a.av, ag b.av] [] (sl (.bool (decide (a = b)))) [] [] := by
  refine ct_of_vc mixed tab_ok H62 Tryz.func62 rfl (by kernel_rfl) (by kernel_rfl) (by rfl) ?_
  intro hw _
  conv => whnf
  refine ⟨fun h0 => ?_, fun h0 => ?_⟩
  · conv => whnf
    have : ¬ a = b := by rintro rfl; simp at h0
    refine ⟨by simp [this], ?_⟩
    conv => whnf
    trivial
  · conv => whnf
    refine .inl ?_
    conv => whnf
    refine ⟨_, _, _, _, ct_eqIntS a.bind b.bind h, ?_⟩
    conv => whnf
    refine ⟨fun h1 => ?_, fun h1 => ?_⟩
    · conv => whnf
      have : ¬ a = b := by rintro rfl; simp at h1
      refine ⟨by simp [this], ?_⟩
      conv => whnf
      trivial
    · conv => whnf
      have : a = b := by cases a; cases b; simp_all
      refine ⟨by simp [this], ?_⟩
      conv => whnf
      trivial
def H29 : List (Nat × Hint) := [(0, ⟨[], [4]⟩), (1, ⟨[], [6, 7, 8, 9]⟩), (4, ⟨[], [11, 12, 13]⟩), (5, ⟨[], [15, 16]⟩), (6, ⟨[(false, []), (false, [0]), (false, []), (false, []), (false, [0, 1, 2, 3]), (false, [0, 1, 2, 3, 4]), (false, [2, 3, 4, 5]), (false, [3, 4, 5, 6]), (false, []), (false, [])], [17, 18, 19, 20, 21, 22, 23, 24, 25]⟩)]
set_option maxRecDepth 100000 in
theorem ct_eqChaseStepS (a b : List CStep) (hla : a.length ≤ 1048576) (he : ∀ x ∈ a, CStep.small x) : Ct Tryz.prog 29 [sl (.row (a.map CStep.av)), sl (.row (b.map CStep.av))] [] (sl (.bool (decide (a = b)))) [] [] := by
  refine ct_of_vc mixed tab_ok H29 Tryz.func29 rfl (by kernel_rfl) (by kernel_rfl) (by rfl) ?_
  intro hw _
  conv => whnf
  refine ⟨fun h => ?_, fun h => ?_⟩
  · conv => whnf
    have : ¬ a = b := by rintro rfl; simp at h
    refine ⟨by simp [this], ?_⟩
    conv => whnf
    trivial
  · conv => whnf
    simp at h
    refine loop_rule mixed tab_ok H29 (I := Nat) (fun i => [(.slot 5, iv i), (.slot 0, .s (sl (.row (a.map CStep.av)))), (.slot 1, .s (sl (.row (b.map CStep.av))))]) (fun i => i ≤ a.length ∧ a.take i = b.take i) (fun i => a.length - i) (by kernel_rfl) 0 (by simp) (wk_sound (ψ := []) ?_) ?_
    · conv => whnf
      refine ⟨rfl, ?_⟩
      conv => whnf
      refine ⟨rfl, ?_⟩
      conv => whnf
      refine ⟨rfl, ?_⟩
      conv => whnf
      trivial
    · intro i hi
      conv => whnf
      refine ⟨fun h1 => ?_, fun h1 => ?_⟩
      · conv => whnf
        simp at h1
        refine ⟨a[i].av, by omega, map_get (by omega), rfl, ?_⟩
        conv => whnf
        refine ⟨b[i].av, by omega, map_get (by omega), rfl, ?_⟩
        conv => whnf
        refine .inl ?_
        conv => whnf
        refine ⟨_, _, _, _, ct_eqChaseStep a[i] b[i] (he _ (List.getElem_mem h1)), ?_⟩
        conv => whnf
        refine ⟨fun h2 => ?_, fun h2 => ?_⟩
        · conv => whnf
          have : ¬ a = b := by rintro rfl; simp at h2
          refine ⟨by simp [this], ?_⟩
          conv => whnf
          trivial
        · conv => whnf
          simp at h2
          refine ⟨i + 1, ⟨by omega, ?_⟩, by omega, wk_sound (ψ := []) ?_⟩
          · rw [List.take_succ_eq_append_getElem h1, List.take_succ_eq_append_getElem (by omega), hi.2, h2]
          · conv => whnf
            refine ⟨?_, ?_⟩
            · rw [wrap64 (by omega) (by omega)]; rfl
            conv => whnf
            refine ⟨rfl, ?_⟩
            conv => whnf
            refine ⟨rfl, ?_⟩
            conv => whnf
            trivial
      · conv => whnf
        simp at h1
        have : i = a.length := by omega
        have : a = b := by
          have h3 := hi.2
          subst this
          rw [List.take_of_length_le (Nat.le_refl _), List.take_of_length_le (by omega)] at h3
          exact h3
        refine ⟨by simp [this], ?_⟩
        conv => whnf
        trivial
def H28 : List (Nat × Hint) := [(0, ⟨[], [0, 1, 4]⟩), (1, ⟨[], [5, 6, 7, 8, 9]⟩), (3, ⟨[], [2, 3, 11, 12, 13, 14, 15]⟩)]
set_option maxRecDepth 100000 in
theorem ct_eqInstance (a b : Inst) (h : a.small) : Ct Tryz.prog 28 [ag a.av, ag b.av] [] (sl (.bool (decide (a = b)))) [] [] := by
  refine ct_of_vc mixed tab_ok H28 Tryz.func28 rfl (by kernel_rfl) (by kernel_rfl) (by rfl) ?_
  intro hw _
  conv => whnf
  refine .inl ?_
  conv => whnf
  refine ⟨_, _, _, _, ct_eqRelationS a.rels b.rels h.nr (fun _ _ => trivial), ?_⟩
  conv => whnf
  refine ⟨fun h0 => ?_, fun h0 => ?_⟩
  · conv => whnf
    have : ¬ a = b := by rintro rfl; simp at h0
    refine ⟨by simp [this], ?_⟩
    conv => whnf
    trivial
  · conv => whnf
    refine .inl ?_
    conv => whnf
    refine ⟨_, _, _, _, ct_eqFactS a.facts b.facts h.nf h.ef, ?_⟩
    conv => whnf
    refine ⟨fun h1 => ?_, fun h1 => ?_⟩
    · conv => whnf
      have : ¬ a = b := by rintro rfl; simp at h1
      refine ⟨by simp [this], ?_⟩
      conv => whnf
      trivial
    · conv => whnf
      have : a = b := by cases a; cases b; simp_all
      refine ⟨by simp [this], ?_⟩
      conv => whnf
      trivial
end Go.Proofs.YtccbimcikbbecaaGreat
/- The law FnExactIsFailureProof, from contracts of the two functions that it compares. -/
namespace Go.Proofs.YtccbimcikbbecaaGreat
open Go P1
def deps (l : List Dep) : Sl := sl (.row (l.map Dep.av))
def steps (l : List CStep) : Sl := sl (.row (l.map CStep.av))
theorem szGo_mem {α : Type} {f : α → Int → Int} (hf : SzOk f) : ∀ (l : List α) (left : Int), left ≤ 1048576 → 0 ≤ szGo f l left → ∀ a ∈ l, ∃ x, x ≤ 1048576 ∧ 0 ≤ f a x
  | [], _, _, _, a, ha => by cases ha
  | b :: l, left, h1, h, a, ha => by
    simp only [szGo] at h
    split at h
    · omega
    · rename_i hb
      rcases List.mem_cons.1 ha with rfl | ha
      · exact ⟨left, h1, by omega⟩
      · exact szGo_mem hf l _ (hf b left h1).2 h a ha
theorem szL_mem {α : Type} {f : α → Int → Int} (hf : SzOk f) {l : List α} {left : Int} (h1 : left ≤ 1048576) (h : 0 ≤ szL f l left) : l.length ≤ 1048576 ∧ ∀ a ∈ l, ∃ x, x ≤ 1048576 ∧ 0 ≤ f a x := by
  simp only [szL] at h
  split at h
  · omega
  · exact ⟨by omega, szGo_mem hf l _ (by omega) h⟩
theorem szInts_small {l : List Int} (h : ∃ x, x ≤ 1048576 ∧ 0 ≤ szInts l x) : l.length ≤ 1048576 := by
  obtain ⟨x, h1, h2⟩ := h
  simp only [szInts] at h2
  split at h2 <;> omega
theorem szInst_small {a : Inst} (h : 0 ≤ szInst a 1048576) : a.small := by
  simp only [szInst] at h
  split at h
  · omega
  · rename_i h1
    split at h
    · omega
    · have r1 := szL_mem szRel_ok (by omega) (Int.not_lt.1 h1)
      have r2 := szL_mem szFact_ok (szL_ok szRel_ok a.rels 1048576 (by omega)).2 h
      exact ⟨r1.1, r2.1, fun x hx => szInts_small (r2.2 x hx)⟩
theorem szDep_small {a : Dep} (h : ∃ x, x ≤ 1048576 ∧ 0 ≤ szDep a x) : a.small := by
  obtain ⟨x, h1, h⟩ := h
  simp only [szDep] at h
  split at h
  · omega
  · rename_i h2
    split at h
    · omega
    · have r1 := szL_mem szAtom_ok h1 (Int.not_lt.1 h2)
      have r2 := szL_mem szAtom_ok (szL_ok szAtom_ok a.body x h1).2 h
      exact ⟨r1.1, fun x hx => szInts_small (r1.2 x hx), r2.1, fun x hx => szInts_small (r2.2 x hx)⟩
def H4 : List (Nat × Hint) := [(0, ⟨[], [0, 6]⟩), (2, ⟨[], [13, 14, 15]⟩), (3, ⟨[], [16]⟩), (5, ⟨[], [18, 19, 20]⟩), (6, ⟨[], [21]⟩), (8, ⟨[], [23, 24, 25]⟩), (9, ⟨[], [7, 26]⟩), (11, ⟨[], [28, 29, 30, 31, 32, 33, 34]⟩), (12, ⟨[], [35, 36]⟩), (13, ⟨[], [37, 38]⟩), (14, ⟨[], [39, 40]⟩), (15, ⟨[], [41, 42, 43, 44]⟩), (16, ⟨[], [8, 12, 45, 46]⟩), (18, ⟨[(false, []), (false, [0]), (false, [1]), (false, []), (false, [])], [3, 9, 48, 49, 50, 51]⟩), (20, ⟨[], [1, 10, 53, 54, 55, 56]⟩), (22, ⟨[], [2, 11, 58, 59, 60, 61]⟩)]
set_option maxRecDepth 100000 in
theorem ct_lawIsFailureProof (a : Inst) (d : List Dep) (s : List CStep) (f : Inst → List Dep → List CStep → Bool)
    (hS : ∀ (a : Inst) (d : List Dep) (s : List CStep), Ct Tryz.prog 24 [ag a.av, deps d, steps s] [] (sl (.bool (f a d s))) [] [])
    (hI : ∀ (a : Inst) (d : List Dep) (s : List CStep), Ct Tryz.prog 27 [ag a.av, deps d, steps s] [] (sl (.bool (f a d s))) [] []) :
    Ct Tryz.prog 4 [ag a.av, deps d, steps s] [] (sl (.bool true)) [] [] := by
  refine ct_of_vc mixed tab_ok H4 Tryz.func4 rfl (by kernel_rfl) (by kernel_rfl) (by rfl) ?_
  intro hw _
  conv => whnf
  refine .inl ?_
  conv => whnf
  refine ⟨_, _, _, _, ct_szInstance a 1048576 (by omega) (by omega), ?_⟩
  conv => whnf
  refine ⟨fun h0 => ?_, fun h0 => ?_⟩
  · conv => whnf
    refine ⟨rfl, ?_⟩
    conv => whnf
    trivial
  conv => whnf
  refine .inl ?_
  conv => whnf
  refine ⟨_, _, _, _, ct_szDependencyS d _ (by simpa using h0) (szInst_ok a _ (by omega)).2, ?_⟩
  conv => whnf
  refine ⟨fun h1 => ?_, fun h1 => ?_⟩
  · conv => whnf
    refine ⟨rfl, ?_⟩
    conv => whnf
    trivial
  conv => whnf
  refine .inl ?_
  conv => whnf
  refine ⟨_, _, _, _, ct_szChaseStepS s _ (by simpa using h1) (szL_ok szDep_ok d _ (szInst_ok a _ (by omega)).2).2, ?_⟩
  conv => whnf
  refine ⟨fun h2 => ?_, fun h2 => ?_⟩
  · conv => whnf
    refine ⟨rfl, ?_⟩
    conv => whnf
    trivial
  conv => whnf
  have e0 : 0 ≤ szInst a 1048576 := by simpa using h0
  have e1 : 0 ≤ szL szDep d (szInst a 1048576) := by simpa using h1
  have e2 : 0 ≤ szL szStep s (szL szDep d (szInst a 1048576)) := by simpa using h2
  have b0 := (szInst_ok a 1048576 (by omega)).2
  have b1 := (szL_ok szDep_ok d _ b0).2
  have hsa : a.small := szInst_small e0
  have hd : d.length ≤ 1048576 := (szL_mem szDep_ok b0 e1).1
  have hds : ∀ x ∈ d, x.small := fun x hx => szDep_small ((szL_mem szDep_ok b0 e1).2 x hx)
  have hs : s.length ≤ 1048576 := (szL_mem szStep_ok b1 e2).1
  have hss : ∀ x ∈ s, x.small := fun x hx => szInts_small ((szL_mem szStep_ok b1 e2).2 x hx)
  refine .inl ?_
  conv => whnf
  refine ⟨_, _, _, _, ct_toInstance a hsa, ?_⟩
  conv => whnf
  refine .inl ?_
  conv => whnf
  refine ⟨_, _, _, _, ct_toDependencyS d hd hds, ?_⟩
  conv => whnf
  refine .inl ?_
  conv => whnf
  refine ⟨_, _, _, _, ct_toChaseStepS s hs hss, ?_⟩
  conv => whnf
  refine .inl ?_
  conv => whnf
  refine ⟨_, _, _, _, hS a d s, ?_⟩
  conv => whnf
  refine .inl ?_
  conv => whnf
  refine ⟨_, _, _, _, ct_toInstance a hsa, ?_⟩
  conv => whnf
  refine .inl ?_
  conv => whnf
  refine ⟨_, _, _, _, ct_toDependencyS d hd hds, ?_⟩
  conv => whnf
  refine .inl ?_
  conv => whnf
  refine ⟨_, _, _, _, ct_toChaseStepS s hs hss, ?_⟩
  conv => whnf
  refine .inl ?_
  conv => whnf
  refine ⟨_, _, _, _, hI a d s, ?_⟩
  conv => whnf
  refine ⟨fun h3 => absurd h3 (by simp), fun h3 => ?_⟩
  conv => whnf
  refine .inl ?_
  conv => whnf
  refine ⟨_, _, _, _, ct_toInstance a hsa, ?_⟩
  conv => whnf
  refine .inl ?_
  conv => whnf
  refine ⟨_, _, _, _, ct_eqInstance a a hsa, ?_⟩
  conv => whnf
  refine ⟨fun h4 => absurd h4 (by simp), fun h4 => ?_⟩
  conv => whnf
  refine .inl ?_
  conv => whnf
  refine ⟨_, _, _, _, ct_toDependencyS d hd hds, ?_⟩
  conv => whnf
  refine .inl ?_
  conv => whnf
  refine ⟨_, _, _, _, ct_eqDependencyS d d hd hds, ?_⟩
  conv => whnf
  refine ⟨fun h5 => absurd h5 (by simp), fun h5 => ?_⟩
  conv => whnf
  refine .inl ?_
  conv => whnf
  refine ⟨_, _, _, _, ct_toChaseStepS s hs hss, ?_⟩
  conv => whnf
  refine .inl ?_
  conv => whnf
  refine ⟨_, _, _, _, ct_eqChaseStepS s s hs hss, ?_⟩
  conv => whnf
  refine ⟨fun h6 => absurd h6 (by simp), fun h6 => ?_⟩
  conv => whnf
  refine ⟨rfl, ?_⟩
  conv => whnf
  trivial
end Go.Proofs.YtccbimcikbbecaaGreat
