/- Part 12 of what the row leans on: Cnf, Brd, Bra, Rwc. No statement of the program stands here by itself. -/
import Derived.Test.YtccbimcikbbecaaGreatW11
import Derived.Test.YtccbimcikbbecaaGreatW1
import Derived.SizedLaws
import Derived.ChangeArms
import Derived.ChangeOld
import Derived.Test.YtccbimcikbbecaaGreatW4
import Derived.Test.YtccbimcikbbecaaGreatProg
import Derived.Test.YtccbimcikbbecaaGreatRows
import Derived.WalkKit
import Derived.ProofKit
import Derived.OpenShut
import Derived.ShutString
import Derived.Below
import Derived.Carry
set_option linter.all false
set_option linter.unusedVariables false
set_option linter.unusedSimpArgs false
/- Conflicting constants; the two laws walked. -/
namespace Go.Proofs.YtccbimcikbbecaaGreat
open Go P1
theorem trigR_two {x : Inst} {d : Dep} {b : List Int} (h : (trigR x d b).2 = 2) : isAct x d b = true ∧ d.egd = true := by
  by_cases ha : isAct x d b = true
  · refine ⟨ha, ?_⟩
    by_cases he : d.egd = true
    · exact he
    · simp only [trigR, if_pos ha, if_neg he] at h
      split at h
      · simp at h
      · split at h <;> simp at h
  · rw [trigR_no (by simpa using ha)] at h; simp at h
theorem fail_spec {x : Inst} {ds : List Dep} {ss : List CStep} (h : failB x ds ss = true) : ∃ (h1 : ss.length - 1 < ss.length) (h2 : ss[ss.length - 1].dep.toNat < ds.length), 0 ≤ ss[ss.length - 1].dep ∧ ss[ss.length - 1].bind.length = 5 ∧ (0 ≤ ds[ss[ss.length - 1].dep.toNat].left ∧ ds[ss[ss.length - 1].dep.toNat].left ≤ 4) ∧ (0 ≤ ds[ss[ss.length - 1].dep.toNat].right ∧ ds[ss[ss.length - 1].dep.toNat].right ≤ 4) := by
  have hb : replayB x ds ss = true := by
    by_cases hb : replayB x ds ss = true
    · exact hb
    · simp only [failB, replay_f (Bool.not_eq_true _ ▸ hb : replayB x ds ss = false)] at h; simp at h
  simp only [failB, replay_t hb, Bool.true_and, decide_eq_true_eq] at h
  simp only [replayB, Bool.and_eq_true, List.all_eq_true, List.mem_range] at hb
  rcases Nat.eq_zero_or_pos ss.length with h0 | h0
  · rw [h0] at h; simp [stAt] at h
  · have h1 : ss.length - 1 < ss.length := by omega
    have hk := hb.2 _ h1
    have hr : inR ss[ss.length - 1].dep 0 (ds.length - 1) = true := by
      simp only [stepOk, stepAt_eq h1, Bool.and_eq_true] at hk; exact hk.2.1
    have hi := inR_iff.1 hr
    have h2 : ss[ss.length - 1].dep.toNat < ds.length := by omega
    have hS := stAt_S (x := x) h1 h2
    have e : ss.length - 1 + 1 = ss.length := by omega
    rw [e] at hS
    rw [hS] at h
    obtain ⟨ha, he⟩ := trigR_two h
    obtain ⟨_, hvd, hbl⟩ := isAct_spec ha
    exact ⟨h1, h2, hi.1, hbl, egd_lt hvd he⟩
def confR (x : Inst) (ds : List Dep) (ss : List CStep) : Int × Int × Bool :=
  if failB x ds ss then ((stepAt ss (ss.length - 1)).bind.getD (depAt ds (stepAt ss (ss.length - 1))).left.toNat 0, (stepAt ss (ss.length - 1)).bind.getD (depAt ds (stepAt ss (ss.length - 1))).right.toNat 0, true) else (0, 0, false)
def confT (x : Inst) (ds : List Dep) (ss : List CStep) : Sl := .tup [sl (i64 (confR x ds ss).1), sl (i64 (confR x ds ss).2.1), sl (.bool (confR x ds ss).2.2)]
theorem conf_f {x : Inst} {ds : List Dep} {ss : List CStep} (h : failB x ds ss = false) : confR x ds ss = (0, 0, false) := by simp only [confR, h]; rfl
theorem conf_t {x : Inst} {ds : List Dep} {ss : List CStep} (h : failB x ds ss = true) (h1 : ss.length - 1 < ss.length) (h2 : ss[ss.length - 1].dep.toNat < ds.length)
    (h3 : ds[ss[ss.length - 1].dep.toNat].left.toNat < ss[ss.length - 1].bind.length) (h4 : ds[ss[ss.length - 1].dep.toNat].right.toNat < ss[ss.length - 1].bind.length) :
    confR x ds ss = (ss[ss.length - 1].bind[ds[ss[ss.length - 1].dep.toNat].left.toNat], ss[ss.length - 1].bind[ds[ss[ss.length - 1].dep.toNat].right.toNat], true) := by
  simp only [confR, h, stepAt_eq h1, depAt_eq h2, getD_eq h3, getD_eq h4, if_true]
def H30 : List (Nat × Hint) := [(0, ⟨[], [0, 6, 7, 8]⟩), (1, ⟨[], [3, 10, 11, 12, 13]⟩), (3, ⟨[], [2, 15, 16, 17, 18, 19, 20]⟩), (4, ⟨[(false, []), (false, []), (false, [0, 1]), (false, [0, 1, 2]), (false, [1, 2, 3]), (false, [3, 4]), (false, [4, 5]), (false, [5, 6]), (false, []), (false, []), (false, [0, 1, 2, 3, 4, 5, 6, 7, 8, 9]), (false, [1, 2, 3, 4, 5, 6, 7, 8, 9, 10]), (false, [0, 1, 2, 3, 4, 5, 6, 7, 8, 9, 10, 11]), (false, [0, 1, 2, 3, 4, 5, 6, 7, 8, 9, 10, 11, 12]), (false, [1, 2, 3, 4, 5, 6, 7, 8, 9, 10, 11, 12, 13]), (false, [3, 4, 5, 6, 7, 8, 9, 10, 11, 12, 13, 14]), (false, [4, 5, 6, 7, 8, 9, 10, 11, 12, 13, 14, 15]), (false, [5, 6, 7, 8, 9, 10, 11, 12, 13, 14, 15, 16]), (false, [8, 9, 10, 11, 12, 13, 14, 15, 16, 17]), (false, [9, 10, 11, 12, 13, 14, 15, 16, 17, 18]), (false, [0, 1, 2, 3, 4, 5, 6, 7, 8, 9]), (false, []), (false, [])], [1, 9, 21, 22, 23, 24, 25, 26, 27, 28, 29, 30, 31, 32, 33, 34, 35, 36, 37, 38, 39, 40]⟩)]
set_option maxHeartbeats 4000000 in
set_option maxRecDepth 100000 in
theorem ct_sConflicting (x : Inst) (ds : List Dep) (ss : List CStep) : Ct Tryz.prog 30 [ag x.av, sl (.row (ds.map Dep.av)), sl (.row (ss.map CStep.av))] [] (confT x ds ss) [] [] := by
  refine ct_of_vc mixed tab_ok H30 Tryz.func30 rfl (by kernel_rfl) (by kernel_rfl) (by rfl) ?_
  intro hw _
  have hsl : ss.length ≤ 1125899906842624 := Wf.lenM (hw _ (.tail _ (.tail _ (.head _)))); clear hw; have hwr : IntKind.i64.wrap (↑(ss.map CStep.av).length - 1) = ss.length - 1 := (by rw [List.length_map]; exact wrap64 (by omega) (by omega))
  conv => whnf
  refine .inl ?_
  conv => whnf
  refine ⟨_, _, _, _, ct_sIsFailureProof x ds ss, ?_⟩
  conv => whnf
  refine ⟨fun hf => ?_, fun hf => ?_⟩ <;> (try simp at hf) <;> (conv => whnf)
  · rw [conf_f hf]
    repeat' (first
      | exact trivial
      | (refine ⟨rfl, ?_⟩; (conv => whnf))
      | (refine ⟨fun h => ?_, fun h => ?_⟩ <;> (try simp at h) <;> (try (exfalso; omega)) <;> (conv => whnf))
      | (intro b hb; (conv => whnf))
      | (refine And.intro ?_ ?_; (focus (rw [wrap64 (by omega) (by omega)] <;> rfl)); (conv => whnf))
      | (refine And.intro ?_ (And.intro ?_ (And.intro ?_ (And.intro ?_ ?_))); (focus (first | omega | (rw [wrap64 (by omega) (by omega)] <;> first | omega | rfl) | (simp; omega))); (focus (first | omega | (rw [wrap64 (by omega) (by omega)] <;> first | omega | rfl) | (simp; omega))); (focus (first | omega | (rw [wrap64 (by omega) (by omega)] <;> first | omega | rfl) | (simp; omega))); (focus ((repeat' (first | exact sz_nil | exact sz_map fun _ => rfl | apply sz_take | apply sz_drop | apply sz_append | apply sz_cons rfl)); done)); (conv => whnf))
      | (refine And.intro ?_ (And.intro ?_ ?_); (focus (first | omega | (rw [wrap64 (by omega) (by omega)] <;> first | omega | rfl) | (simp; omega))); (focus ((repeat' (first | exact sz_nil | exact sz_map fun _ => rfl | apply sz_take | apply sz_drop | apply sz_append | apply sz_cons rfl)); done)); (conv => whnf))
      | (refine And.intro ?_ (And.intro ?_ ?_); (focus (first | omega | (rw [wrap64 (by omega) (by omega)] <;> first | omega | rfl) | (simp; omega))); (focus (first | omega | (rw [wrap64 (by omega) (by omega)] <;> first | omega | rfl) | (simp; omega))); (conv => whnf))
      | (rw [beq_g]; (conv => whnf))
      | fail)
  obtain ⟨h1, h2, h3, h4, h5, h6⟩ := fail_spec hf; have h7 : ds[ss[ss.length - 1].dep.toNat].left.toNat < ss[ss.length - 1].bind.length := by omega
  have h8 : ds[ss[ss.length - 1].dep.toNat].right.toNat < ss[ss.length - 1].bind.length := by omega
  rw [hwr]
  repeat' (first
    | exact trivial
    | (refine ⟨rfl, ?_⟩; (conv => whnf))
    | (refine ⟨fun h => ?_, fun h => ?_⟩ <;> (try simp at h) <;> (try (exfalso; omega)) <;> (conv => whnf))
    | (intro b hb; (conv => whnf))
    | (refine And.intro ?_ ?_; (focus (rw [wrap64 (by omega) (by omega)] <;> rfl)); (conv => whnf))
    | (refine ⟨ss[ss.length - 1].av, ?_, map_getI ?_ ?_, rfl, ?_⟩; (focus (first | omega | (rw [wrap64 (by omega) (by omega)] <;> first | omega | rfl) | (simp; omega))); (focus (first | rfl | omega | (rw [wrap64 (by omega) (by omega)] <;> first | omega | rfl))); (focus omega); (conv => whnf))
    | (refine ⟨ss[ss.length - 1].av, map_getI ?_ ?_, ?_, ?_, ?_⟩; (focus (first | rfl | omega | (rw [wrap64 (by omega) (by omega)] <;> first | omega | rfl))); (focus omega); (focus (simp; done)); (focus (simp; done)); (conv => whnf))
    | (refine ⟨ss[ss.length - 1].av, map_getI ?_ ?_, ?_⟩; (focus (first | rfl | omega | (rw [wrap64 (by omega) (by omega)] <;> first | omega | rfl))); (focus omega); (conv => whnf))
    | (refine ⟨ds[ss[ss.length - 1].dep.toNat].av, ?_, map_getI ?_ ?_, rfl, ?_⟩; (focus (first | omega | (rw [wrap64 (by omega) (by omega)] <;> first | omega | rfl) | (simp; omega))); (focus (first | rfl | omega | (rw [wrap64 (by omega) (by omega)] <;> first | omega | rfl))); (focus omega); (conv => whnf))
    | (refine ⟨ds[ss[ss.length - 1].dep.toNat].av, map_getI ?_ ?_, ?_, ?_, ?_⟩; (focus (first | rfl | omega | (rw [wrap64 (by omega) (by omega)] <;> first | omega | rfl))); (focus omega); (focus (simp; done)); (focus (simp; done)); (conv => whnf))
    | (refine ⟨ds[ss[ss.length - 1].dep.toNat].av, map_getI ?_ ?_, ?_⟩; (focus (first | rfl | omega | (rw [wrap64 (by omega) (by omega)] <;> first | omega | rfl))); (focus omega); (conv => whnf))
    | (refine ⟨[i64 ss[ss.length - 1].bind[ds[ss[ss.length - 1].dep.toNat].left.toNat]], ?_, map_getI ?_ ?_, rfl, ?_⟩; (focus (first | omega | (rw [wrap64 (by omega) (by omega)] <;> first | omega | rfl) | (simp; omega))); (focus (first | rfl | omega | (rw [wrap64 (by omega) (by omega)] <;> first | omega | rfl))); (focus omega); (conv => whnf))
    | (refine ⟨[i64 ss[ss.length - 1].bind[ds[ss[ss.length - 1].dep.toNat].left.toNat]], map_getI ?_ ?_, ?_, ?_, ?_⟩; (focus (first | rfl | omega | (rw [wrap64 (by omega) (by omega)] <;> first | omega | rfl))); (focus omega); (focus (simp; done)); (focus (simp; done)); (conv => whnf))
    | (refine ⟨[i64 ss[ss.length - 1].bind[ds[ss[ss.length - 1].dep.toNat].left.toNat]], map_getI ?_ ?_, ?_⟩; (focus (first | rfl | omega | (rw [wrap64 (by omega) (by omega)] <;> first | omega | rfl))); (focus omega); (conv => whnf))
    | (refine ⟨[i64 ss[ss.length - 1].bind[ds[ss[ss.length - 1].dep.toNat].right.toNat]], ?_, map_getI ?_ ?_, rfl, ?_⟩; (focus (first | omega | (rw [wrap64 (by omega) (by omega)] <;> first | omega | rfl) | (simp; omega))); (focus (first | rfl | omega | (rw [wrap64 (by omega) (by omega)] <;> first | omega | rfl))); (focus omega); (conv => whnf))
    | (refine ⟨[i64 ss[ss.length - 1].bind[ds[ss[ss.length - 1].dep.toNat].right.toNat]], map_getI ?_ ?_, ?_, ?_, ?_⟩; (focus (first | rfl | omega | (rw [wrap64 (by omega) (by omega)] <;> first | omega | rfl))); (focus omega); (focus (simp; done)); (focus (simp; done)); (conv => whnf))
    | (refine ⟨[i64 ss[ss.length - 1].bind[ds[ss[ss.length - 1].dep.toNat].right.toNat]], map_getI ?_ ?_, ?_⟩; (focus (first | rfl | omega | (rw [wrap64 (by omega) (by omega)] <;> first | omega | rfl))); (focus omega); (conv => whnf))
    | (refine And.intro ?_ (And.intro ?_ (And.intro ?_ (And.intro ?_ ?_))); (focus (first | omega | (rw [wrap64 (by omega) (by omega)] <;> first | omega | rfl) | (simp; omega))); (focus (first | omega | (rw [wrap64 (by omega) (by omega)] <;> first | omega | rfl) | (simp; omega))); (focus (first | omega | (rw [wrap64 (by omega) (by omega)] <;> first | omega | rfl) | (simp; omega))); (focus ((repeat' (first | exact sz_nil | exact sz_map fun _ => rfl | apply sz_take | apply sz_drop | apply sz_append | apply sz_cons rfl)); done)); (conv => whnf))
    | (refine And.intro ?_ (And.intro ?_ ?_); (focus (first | omega | (rw [wrap64 (by omega) (by omega)] <;> first | omega | rfl) | (simp; omega))); (focus ((repeat' (first | exact sz_nil | exact sz_map fun _ => rfl | apply sz_take | apply sz_drop | apply sz_append | apply sz_cons rfl)); done)); (conv => whnf))
    | (refine And.intro ?_ (And.intro ?_ ?_); (focus (first | omega | (rw [wrap64 (by omega) (by omega)] <;> first | omega | rfl) | (simp; omega))); (focus (first | omega | (rw [wrap64 (by omega) (by omega)] <;> first | omega | rfl) | (simp; omega))); (conv => whnf))
    | (refine And.intro ?_ ?_; (focus ((rw [conf_t hf h1 h2 h7 h8] <;> rfl))); (conv => whnf))
    | (rw [beq_g]; (conv => whnf))
    | fail)
def H31 : List (Nat × Hint) := [(0, ⟨[], [0, 6, 7, 8]⟩), (1, ⟨[], [3, 11, 12, 13, 14]⟩), (3, ⟨[], [2, 16, 17, 18, 19, 20, 21]⟩), (4, ⟨[], [1, 22, 23, 24, 25, 26]⟩), (5, ⟨[(false, []), (false, []), (false, [0, 1]), (false, [1, 2]), (false, []), (false, []), (false, [0, 1, 2, 3, 4, 5]), (false, [1, 2, 3, 4, 5, 6]), (false, [0, 1, 2, 3, 4, 5, 6, 7]), (false, [1, 2, 3, 4, 5, 6, 7, 8]), (false, [4, 5, 6, 7, 8, 9]), (false, [5, 6, 7, 8, 9, 10]), (false, [0, 1, 2, 3, 4, 5]), (false, []), (false, [])], [9, 10, 27, 28, 29, 30, 31, 32, 33, 34, 35, 36, 37, 38]⟩)]
set_option maxHeartbeats 4000000 in
set_option maxRecDepth 100000 in
theorem ct_iConflicting (x : Inst) (ds : List Dep) (ss : List CStep) : Ct Tryz.prog 31 [ag x.av, sl (.row (ds.map Dep.av)), sl (.row (ss.map CStep.av))] [] (confT x ds ss) [] [] := by
  refine ct_of_vc mixed tab_ok H31 Tryz.func31 rfl (by kernel_rfl) (by kernel_rfl) (by rfl) ?_
  intro hw _
  have hsl : ss.length ≤ 1125899906842624 := Wf.lenM (hw _ (.tail _ (.tail _ (.head _)))); clear hw; have hwr : IntKind.i64.wrap (↑(ss.map CStep.av).length - 1) = ss.length - 1 := (by rw [List.length_map]; exact wrap64 (by omega) (by omega))
  conv => whnf
  refine .inl ?_
  conv => whnf
  refine ⟨_, _, _, _, ct_iIsFailureProof x ds ss, ?_⟩
  conv => whnf
  refine ⟨fun hf => ?_, fun hf => ?_⟩ <;> (try simp at hf) <;> (conv => whnf)
  · rw [conf_f hf]
    repeat' (first
      | exact trivial
      | (refine ⟨rfl, ?_⟩; (conv => whnf))
      | (refine ⟨fun h => ?_, fun h => ?_⟩ <;> (try simp at h) <;> (try (exfalso; omega)) <;> (conv => whnf))
      | (intro b hb; (conv => whnf))
      | (refine And.intro ?_ ?_; (focus (rw [wrap64 (by omega) (by omega)] <;> rfl)); (conv => whnf))
      | (refine And.intro ?_ (And.intro ?_ (And.intro ?_ (And.intro ?_ ?_))); (focus (first | omega | (rw [wrap64 (by omega) (by omega)] <;> first | omega | rfl) | (simp; omega))); (focus (first | omega | (rw [wrap64 (by omega) (by omega)] <;> first | omega | rfl) | (simp; omega))); (focus (first | omega | (rw [wrap64 (by omega) (by omega)] <;> first | omega | rfl) | (simp; omega))); (focus ((repeat' (first | exact sz_nil | exact sz_map fun _ => rfl | apply sz_take | apply sz_drop | apply sz_append | apply sz_cons rfl)); done)); (conv => whnf))
      | (refine And.intro ?_ (And.intro ?_ ?_); (focus (first | omega | (rw [wrap64 (by omega) (by omega)] <;> first | omega | rfl) | (simp; omega))); (focus ((repeat' (first | exact sz_nil | exact sz_map fun _ => rfl | apply sz_take | apply sz_drop | apply sz_append | apply sz_cons rfl)); done)); (conv => whnf))
      | (refine And.intro ?_ (And.intro ?_ ?_); (focus (first | omega | (rw [wrap64 (by omega) (by omega)] <;> first | omega | rfl) | (simp; omega))); (focus (first | omega | (rw [wrap64 (by omega) (by omega)] <;> first | omega | rfl) | (simp; omega))); (conv => whnf))
      | (rw [beq_g]; (conv => whnf))
      | fail)
  obtain ⟨h1, h2, h3, h4, h5, h6⟩ := fail_spec hf; have h7 : ds[ss[ss.length - 1].dep.toNat].left.toNat < ss[ss.length - 1].bind.length := by omega
  have h8 : ds[ss[ss.length - 1].dep.toNat].right.toNat < ss[ss.length - 1].bind.length := by omega
  rw [hwr]
  repeat' (first
    | exact trivial
    | (refine ⟨rfl, ?_⟩; (conv => whnf))
    | (refine ⟨fun h => ?_, fun h => ?_⟩ <;> (try simp at h) <;> (try (exfalso; omega)) <;> (conv => whnf))
    | (intro b hb; (conv => whnf))
    | (refine And.intro ?_ ?_; (focus (rw [wrap64 (by omega) (by omega)] <;> rfl)); (conv => whnf))
    | (refine ⟨ss[ss.length - 1].av, ?_, map_getI ?_ ?_, rfl, ?_⟩; (focus (first | omega | (rw [wrap64 (by omega) (by omega)] <;> first | omega | rfl) | (simp; omega))); (focus (first | rfl | omega | (rw [wrap64 (by omega) (by omega)] <;> first | omega | rfl))); (focus omega); (conv => whnf))
    | (refine ⟨ss[ss.length - 1].av, map_getI ?_ ?_, ?_, ?_, ?_⟩; (focus (first | rfl | omega | (rw [wrap64 (by omega) (by omega)] <;> first | omega | rfl))); (focus omega); (focus (simp; done)); (focus (simp; done)); (conv => whnf))
    | (refine ⟨ss[ss.length - 1].av, map_getI ?_ ?_, ?_⟩; (focus (first | rfl | omega | (rw [wrap64 (by omega) (by omega)] <;> first | omega | rfl))); (focus omega); (conv => whnf))
    | (refine ⟨ds[ss[ss.length - 1].dep.toNat].av, ?_, map_getI ?_ ?_, rfl, ?_⟩; (focus (first | omega | (rw [wrap64 (by omega) (by omega)] <;> first | omega | rfl) | (simp; omega))); (focus (first | rfl | omega | (rw [wrap64 (by omega) (by omega)] <;> first | omega | rfl))); (focus omega); (conv => whnf))
    | (refine ⟨ds[ss[ss.length - 1].dep.toNat].av, map_getI ?_ ?_, ?_, ?_, ?_⟩; (focus (first | rfl | omega | (rw [wrap64 (by omega) (by omega)] <;> first | omega | rfl))); (focus omega); (focus (simp; done)); (focus (simp; done)); (conv => whnf))
    | (refine ⟨ds[ss[ss.length - 1].dep.toNat].av, map_getI ?_ ?_, ?_⟩; (focus (first | rfl | omega | (rw [wrap64 (by omega) (by omega)] <;> first | omega | rfl))); (focus omega); (conv => whnf))
    | (refine ⟨[i64 ss[ss.length - 1].bind[ds[ss[ss.length - 1].dep.toNat].left.toNat]], ?_, map_getI ?_ ?_, rfl, ?_⟩; (focus (first | omega | (rw [wrap64 (by omega) (by omega)] <;> first | omega | rfl) | (simp; omega))); (focus (first | rfl | omega | (rw [wrap64 (by omega) (by omega)] <;> first | omega | rfl))); (focus omega); (conv => whnf))
    | (refine ⟨[i64 ss[ss.length - 1].bind[ds[ss[ss.length - 1].dep.toNat].left.toNat]], map_getI ?_ ?_, ?_, ?_, ?_⟩; (focus (first | rfl | omega | (rw [wrap64 (by omega) (by omega)] <;> first | omega | rfl))); (focus omega); (focus (simp; done)); (focus (simp; done)); (conv => whnf))
    | (refine ⟨[i64 ss[ss.length - 1].bind[ds[ss[ss.length - 1].dep.toNat].left.toNat]], map_getI ?_ ?_, ?_⟩; (focus (first | rfl | omega | (rw [wrap64 (by omega) (by omega)] <;> first | omega | rfl))); (focus omega); (conv => whnf))
    | (refine ⟨[i64 ss[ss.length - 1].bind[ds[ss[ss.length - 1].dep.toNat].right.toNat]], ?_, map_getI ?_ ?_, rfl, ?_⟩; (focus (first | omega | (rw [wrap64 (by omega) (by omega)] <;> first | omega | rfl) | (simp; omega))); (focus (first | rfl | omega | (rw [wrap64 (by omega) (by omega)] <;> first | omega | rfl))); (focus omega); (conv => whnf))
    | (refine ⟨[i64 ss[ss.length - 1].bind[ds[ss[ss.length - 1].dep.toNat].right.toNat]], map_getI ?_ ?_, ?_, ?_, ?_⟩; (focus (first | rfl | omega | (rw [wrap64 (by omega) (by omega)] <;> first | omega | rfl))); (focus omega); (focus (simp; done)); (focus (simp; done)); (conv => whnf))
    | (refine ⟨[i64 ss[ss.length - 1].bind[ds[ss[ss.length - 1].dep.toNat].right.toNat]], map_getI ?_ ?_, ?_⟩; (focus (first | rfl | omega | (rw [wrap64 (by omega) (by omega)] <;> first | omega | rfl))); (focus omega); (conv => whnf))
    | (refine And.intro ?_ (And.intro ?_ (And.intro ?_ (And.intro ?_ ?_))); (focus (first | omega | (rw [wrap64 (by omega) (by omega)] <;> first | omega | rfl) | (simp; omega))); (focus (first | omega | (rw [wrap64 (by omega) (by omega)] <;> first | omega | rfl) | (simp; omega))); (focus (first | omega | (rw [wrap64 (by omega) (by omega)] <;> first | omega | rfl) | (simp; omega))); (focus ((repeat' (first | exact sz_nil | exact sz_map fun _ => rfl | apply sz_take | apply sz_drop | apply sz_append | apply sz_cons rfl)); done)); (conv => whnf))
    | (refine And.intro ?_ (And.intro ?_ ?_); (focus (first | omega | (rw [wrap64 (by omega) (by omega)] <;> first | omega | rfl) | (simp; omega))); (focus ((repeat' (first | exact sz_nil | exact sz_map fun _ => rfl | apply sz_take | apply sz_drop | apply sz_append | apply sz_cons rfl)); done)); (conv => whnf))
    | (refine And.intro ?_ (And.intro ?_ ?_); (focus (first | omega | (rw [wrap64 (by omega) (by omega)] <;> first | omega | rfl) | (simp; omega))); (focus (first | omega | (rw [wrap64 (by omega) (by omega)] <;> first | omega | rfl) | (simp; omega))); (conv => whnf))
    | (refine And.intro ?_ ?_; (focus ((rw [conf_t hf h1 h2 h7 h8] <;> rfl))); (conv => whnf))
    | (rw [beq_g]; (conv => whnf))
    | fail)
theorem ct_law_IsFailureProof (a : Inst) (d : List Dep) (s : List CStep) : Ct Tryz.prog 4 [ag a.av, deps d, steps s] [] (sl (.bool true)) [] [] :=
  ct_lawIsFailureProof a d s failB ct_sIsFailureProof ct_iIsFailureProof
def H5 : List (Nat × Hint) := [(0, ⟨[], [0, 6]⟩), (2, ⟨[], [17, 18, 19]⟩), (3, ⟨[], [20]⟩), (5, ⟨[], [22, 23, 24]⟩), (6, ⟨[], [25]⟩), (8, ⟨[], [27, 28, 29]⟩), (9, ⟨[], [7, 30]⟩), (11, ⟨[], [32, 33, 34, 35, 36, 37, 38, 39, 40, 41, 42]⟩), (12, ⟨[], [43, 44]⟩), (13, ⟨[], [45, 46]⟩), (14, ⟨[], [47, 48]⟩), (15, ⟨[], [49, 50, 51, 52, 53, 54, 55, 56]⟩), (16, ⟨[(false, []), (false, []), (false, []), (true, []), (false, []), (false, []), (false, []), (false, []), (true, []), (false, []), (false, []), (false, []), (false, [])], [8, 9, 10, 14, 15, 16, 57, 58, 59, 60, 61, 62, 63, 64, 65, 66, 67, 68]⟩), (18, ⟨[(false, []), (false, [0]), (false, [1]), (false, []), (false, [])], [3, 11, 70, 71, 72, 73]⟩), (20, ⟨[], [1, 12, 75, 76, 77, 78]⟩), (22, ⟨[], [2, 13, 80, 81, 82, 83]⟩)]
set_option maxHeartbeats 4000000 in
set_option maxRecDepth 100000 in
theorem ct_law_ConflictingConstants (a : Inst) (d : List Dep) (s : List CStep) : Ct Tryz.prog 5 [ag a.av, deps d, steps s] [] (sl (.bool true)) [] [] := by
  refine ct_of_vc mixed tab_ok H5 Tryz.func5 rfl (by kernel_rfl) (by kernel_rfl) (by rfl) ?_
  intro hw _
  clear hw
  conv => whnf
  refine .inl ?_
  conv => whnf
  refine ⟨_, _, _, _, ct_szInstance a 1048576 (by omega) (by omega), ?_⟩
  conv => whnf
  refine ⟨fun h0 => ?_, fun h0 => ?_⟩
  · conv => whnf
    refine ⟨rfl, ?_⟩
    conv => whnf
    trivial
  conv => whnf
  refine .inl ?_
  conv => whnf
  refine ⟨_, _, _, _, ct_szDependencyS d _ (by simpa using h0) (szInst_ok a _ (by omega)).2, ?_⟩
  conv => whnf
  refine ⟨fun h1 => ?_, fun h1 => ?_⟩
  · conv => whnf
    refine ⟨rfl, ?_⟩
    conv => whnf
    trivial
  conv => whnf
  refine .inl ?_
  conv => whnf
  refine ⟨_, _, _, _, ct_szChaseStepS s _ (by simpa using h1) (szL_ok szDep_ok d _ (szInst_ok a _ (by omega)).2).2, ?_⟩
  conv => whnf
  refine ⟨fun h2 => ?_, fun h2 => ?_⟩
  · conv => whnf
    refine ⟨rfl, ?_⟩
    conv => whnf
    trivial
  conv => whnf
  have e0 : 0 ≤ szInst a 1048576 := by simpa using h0
  have e1 : 0 ≤ szL szDep d (szInst a 1048576) := by simpa using h1
  have e2 : 0 ≤ szL szStep s (szL szDep d (szInst a 1048576)) := by simpa using h2
  have b0 := (szInst_ok a 1048576 (by omega)).2
  have b1 := (szL_ok szDep_ok d _ b0).2
  have hsa : a.small := szInst_small e0
  have hd : d.length ≤ 1048576 := (szL_mem szDep_ok b0 e1).1
  have hds : ∀ x ∈ d, x.small := fun x hx => szDep_small ((szL_mem szDep_ok b0 e1).2 x hx)
  have hs : s.length ≤ 1048576 := (szL_mem szStep_ok b1 e2).1
  have hss : ∀ x ∈ s, x.small := fun x hx => szInts_small ((szL_mem szStep_ok b1 e2).2 x hx)
  refine .inl ?_
  conv => whnf
  refine ⟨_, _, _, _, ct_toInstance a hsa, ?_⟩
  conv => whnf
  refine .inl ?_
  conv => whnf
  refine ⟨_, _, _, _, ct_toDependencyS d hd hds, ?_⟩
  conv => whnf
  refine .inl ?_
  conv => whnf
  refine ⟨_, _, _, _, ct_toChaseStepS s hs hss, ?_⟩
  conv => whnf
  refine .inl ?_
  conv => whnf
  refine ⟨_, _, _, _, ct_sConflicting a d s, ?_⟩
  conv => whnf
  refine .inl ?_
  conv => whnf
  refine ⟨_, _, _, _, ct_toInstance a hsa, ?_⟩
  conv => whnf
  refine .inl ?_
  conv => whnf
  refine ⟨_, _, _, _, ct_toDependencyS d hd hds, ?_⟩
  conv => whnf
  refine .inl ?_
  conv => whnf
  refine ⟨_, _, _, _, ct_toChaseStepS s hs hss, ?_⟩
  conv => whnf
  refine .inl ?_
  conv => whnf
  refine ⟨_, _, _, _, ct_iConflicting a d s, ?_⟩
  conv => whnf
  refine ⟨fun h3 => absurd h3 (by simp), fun h3 => ?_⟩
  conv => whnf
  refine ⟨fun h3 => absurd h3 (by simp), fun h3 => ?_⟩
  conv => whnf
  refine ⟨fun h3 => absurd h3 (by simp), fun h3 => ?_⟩
  conv => whnf
  refine .inl ?_
  conv => whnf
  refine ⟨_, _, _, _, ct_toInstance a hsa, ?_⟩
  conv => whnf
  refine .inl ?_
  conv => whnf
  refine ⟨_, _, _, _, ct_eqInstance a a hsa, ?_⟩
  conv => whnf
  refine ⟨fun h4 => absurd h4 (by simp), fun h4 => ?_⟩
  conv => whnf
  refine .inl ?_
  conv => whnf
  refine ⟨_, _, _, _, ct_toDependencyS d hd hds, ?_⟩
  conv => whnf
  refine .inl ?_
  conv => whnf
  refine ⟨_, _, _, _, ct_eqDependencyS d d hd hds, ?_⟩
  conv => whnf
  refine ⟨fun h5 => absurd h5 (by simp), fun h5 => ?_⟩
  conv => whnf
  refine .inl ?_
  conv => whnf
  refine ⟨_, _, _, _, ct_toChaseStepS s hs hss, ?_⟩
  conv => whnf
  refine .inl ?_
  conv => whnf
  refine ⟨_, _, _, _, ct_eqChaseStepS s s hs hss, ?_⟩
  conv => whnf
  refine ⟨fun h6 => absurd h6 (by simp), fun h6 => ?_⟩
  conv => whnf
  refine ⟨rfl, ?_⟩
  conv => whnf
  trivial
end Go.Proofs.YtccbimcikbbecaaGreat
/- Arguments as a row tells them read as data. -/
namespace Go.Proofs.YtccbimcikbbecaaGreat.P1
open Go
section
variable {H : Type} {enc : TypeId × Value → H} {P : Program} {W : World}
abbrev Old (W : World) : Nat → Prop := fun b => b < W.heap.size
def Fits (P : Program) (t : TypeId) (d : DataW H) : Prop := ∀ n ∈ d.weights P t, n ≤ reachBytes
def One (enc : TypeId × Value → H) (P : Program) (W : World) (t : TypeId) (Q : AV → Prop) : Prop :=
  ∀ (fuel : Nat) (cs : List Value) (x : DataW H × List MemPlace), DataW.trod enc P W 0 (fun _ => true) true fuel t cs = some x → Fits P t x.1 → ∃ u a, cs = [u] ∧ Q a ∧ Rd W (Old W) u a
def Many (enc : TypeId × Value → H) (P : Program) (W : World) (t : TypeId) (R : List AV → Prop) : Prop :=
  ∀ (fuel : Nat) (cs : List Value) (x : DataW H × List MemPlace), DataW.trod enc P W 0 (fun _ => true) true fuel t cs = some x → Fits P t x.1 → ∃ al, R al ∧ All2 (Rd W (Old W)) cs al
theorem one_int {t : TypeId} {k : IntKind} (ht : P.underlying t = some (.int k)) : One enc P W t (fun a => ∃ n, a = .int k n) := fun _ _ _ h _ => by
  obtain ⟨n, rfl, _, hw⟩ := DataW.trod_int ht h
  exact ⟨_, _, rfl, ⟨n, rfl⟩, .int hw⟩
theorem one_bool {t : TypeId} (ht : P.underlying t = some .bool) : One enc P W t (fun a => ∃ b, a = .bool b) := fun _ _ _ h _ => by
  obtain ⟨b, rfl, _⟩ := DataW.trod_bool ht h
  exact ⟨_, _, rfl, ⟨b, rfl⟩, .bool⟩
theorem one_str {t : TypeId} (ht : P.underlying t = some .string) : One enc P W t (fun a => ∃ s, a = .str s) := fun _ _ x h hf => by
  obtain ⟨s, rfl, hx, _⟩ := DataW.trod_string ht h
  subst hx
  have h1 : s.data.toList.length ≤ reachBytes := hf _ (by simp [DataW.weights])
  refine ⟨_, _, rfl, ⟨s.data.toList, rfl⟩, ?_⟩
  have := Rd.str (w := W) (F := Old W) (s := s.data.toList) (Nat.le_trans h1 (by decide))
  simpa using this
theorem one_many {t : TypeId} {Q : AV → Prop} (h : One enc P W t Q) : Many enc P W t (fun al => ∃ a, al = [a] ∧ Q a) := fun fuel cs x hx hf => by
  obtain ⟨u, a, rfl, h1, h2⟩ := h fuel cs x hx hf
  exact ⟨[a], ⟨a, rfl, h1⟩, .cons h2 .nil⟩
theorem weightsAll_sub {e : TypeId} : ∀ {l : List (DataW H)} {d : DataW H}, d ∈ l → ∀ n ∈ d.weights P e, n ∈ DataW.weightsAll P e l
  | a :: l, d, h, n, hn => by
    simp only [DataW.weightsAll, List.mem_append]
    rcases List.mem_cons.1 h with rfl | h
    · exact .inl hn
    · exact .inr (weightsAll_sub h n hn)
theorem weightsEach_sub : ∀ {ts : List TypeId} {ds : List (DataW H)} {j : Nat} {t : TypeId} {d : DataW H}, ts[j]? = some t → ds[j]? = some d → ∀ n ∈ d.weights P t, n ∈ DataW.weightsEach P ts ds := fun ht hd n hn => DataW.weights_mem_each ht hd n hn
theorem one_slice {t e : TypeId} {sz : Nat} (ht : P.underlying t = some (.slice e)) (hc : P.cellsOf e = sz) (h0 : 0 < sz) (hb : 0 < P.bytesOf e) {R : List AV → Prop} (he : Many enc P W e R) :
    One enc P W t (fun a => ∃ es : List (List AV), (∀ x ∈ es, R x) ∧ a = .row es) := by
  intro fuel cs x h hf
  rcases DataW.trod_slice ht h with ⟨rfl, rfl⟩ | ⟨a, len, cap, elems, rest, n, _, rfl, rfl, _, hl, hm, hlen, hel, _, _⟩
  · exact ⟨_, _, rfl, ⟨[], fun x hx => by simp at hx, rfl⟩, .emp (fun _ => rfl)⟩
  by_cases hz : len = 0
  · subst hz
    exact ⟨_, _, rfl, ⟨[], fun x hx => by simp at hx, rfl⟩, .emp (fun h => by cases h)⟩
  have hw : ∀ n ∈ DataW.weights P t (.slice (elems.map (·.1)) (rest.map (·.1))), n ≤ reachBytes := hf
  have hbig : len ≤ reachBytes := by
    have := hw (((elems.map (·.1)).length + (rest.map (·.1)).length) * P.bytesOf e) (by simp [DataW.weights, ht])
    rw [List.length_map, List.length_map, hlen] at this
    have h1 : len * 1 ≤ (len + rest.length) * P.bytesOf e := Nat.mul_le_mul (Nat.le_add_right _ _) hb
    omega
  have each : ∀ i, ∃ p : List AV × List Value, i < len → R p.1 ∧ W.cells? 0 (a.add (i * sz)) sz = some p.2 ∧ All2 (Rd W (Old W)) p.2 p.1 := fun i => by
    by_cases hi : i < len
    · have h1 := hel i hi
      rw [List.getElem?_eq_getElem (by omega), hc] at h1
      obtain ⟨cs, h2, h3⟩ := Option.bind_eq_some_iff.1 h1
      obtain ⟨al, h4, h5⟩ := he _ _ _ h3 fun n hn => hw n (by
        simp only [DataW.weights, ht, List.mem_cons, List.mem_append]
        exact .inr (.inl (weightsAll_sub (List.mem_map.2 ⟨_, List.getElem_mem (by omega), rfl⟩) n hn)))
      exact ⟨(al, cs), fun _ => ⟨h4, h2, h5⟩⟩
    · exact ⟨([], []), fun h => absurd h hi⟩
  obtain ⟨f, hfa⟩ := Classical.axiomOfChoice each
  have hcell : ∀ i j, i < len → j < sz → W.cell? ((a.add (i * sz)).add j) = (f i).2[j]? ∧ (f i).2.length = sz := fun i j hi hj => by
    have := World.cells?_some (hfa i hi).2.1
    exact ⟨this.2.2 j hj, this.2.1⟩
  have ha : a.spot = none ∧ a.block < W.heap.size := by
    obtain ⟨h1, h2⟩ := hcell 0 0 (by omega) h0
    rw [Nat.zero_mul] at h1
    have e1 : (a.add 0).add 0 = a := by simp [Addr.add]
    rw [e1, List.getElem?_eq_getElem (by omega)] at h1
    refine ⟨?_, World.cells?_block (hfa 0 (by omega)).2.1 h0 |> fun h => by simpa [Addr.add] using h⟩
    simp only [World.cell?] at h1
    split at h1
    · split at h1
      · cases h1
      · rename_i hs; simpa using hs
    · cases h1
  obtain ⟨b, o, sp⟩ := a
  obtain ⟨hsp, hbl⟩ := ha
  simp only at hsp hbl
  subst hsp
  have hadd : ∀ i j, ((⟨b, o, none⟩ : Addr).add i).add j = ⟨b, o + i + j, none⟩ := fun i j => by
    simp only [Addr.add]
    split
    · rename_i hi; subst hi
      split
      · rename_i hj; subst hj; rfl
      · rfl
    · split
      · rename_i hj; subst hj; rfl
      · rfl
  have hlenf : ∀ i, i < len → (f i).1.length = sz := fun i hi => by
    rw [← (hfa i hi).2.2.length]; exact (hcell i 0 hi h0).2
  refine ⟨_, .row ((List.range len).map fun i => (f i).1), rfl, ⟨_, fun x hx => ?_, rfl⟩, ?_⟩
  · obtain ⟨i, hi, rfl⟩ := List.mem_map.1 hx
    exact (hfa i (List.mem_range.1 hi)).1
  · refine .row (sz := sz) (fun i j => (f i).2.getD j undef) hbl (by simp) hl (Nat.le_trans hbig (by decide)) h0 (fun i hi => ?_) (fun i j hi hj => ?_) (fun i j hi hj => ?_)
    · simp only [List.length_map, List.length_range] at hi
      simp only [List.getElem_map, List.getElem_range]
      exact hlenf i hi
    · simp only [List.length_map, List.length_range] at hi
      obtain ⟨h1, h2⟩ := hcell i j hi hj
      rw [hadd] at h1
      rw [h1, List.getElem?_eq_getElem (by omega), List.getD_eq_getElem?_getD, List.getElem?_eq_getElem (by omega)]
      rfl
    · simp only [List.length_map, List.length_range] at hi
      simp only [List.getElem_map, List.getElem_range] at hj ⊢
      obtain ⟨u, h1, h2⟩ := (hfa i hi).2.2.get j _ (List.getElem?_eq_getElem hj)
      simp only [List.getD_eq_getElem?_getD, h1, Option.getD_some]
      exact h2
theorem many_struct {t : TypeId} {fs : Array Field} {Q : Nat → AV → Prop} (ht : P.underlying t = some (.struct fs)) (hc : P.cellsOf t = fs.size)
    (hfs : ∀ i f, fs[i]? = some f → f.offset = i ∧ P.cellsOf f.type = 1 ∧ One enc P W f.type (Q i)) : Many enc P W t (fun al => al.length = fs.size ∧ ∀ i a, al[i]? = some a → Q i a) := by
  intro fuel cs x h hf
  obtain ⟨xs, n, _, rfl, hl, hxl, hx⟩ := DataW.trod_struct ht h
  rw [hc] at hl
  have each : ∀ i, ∃ p : AV × Value, i < fs.size → Q i p.1 ∧ cs[i]? = some p.2 ∧ Rd W (Old W) p.2 p.1 := fun i => by
    by_cases hi : i < fs.size
    · obtain ⟨h1, h2, h3⟩ := hfs i fs[i] (Array.getElem?_eq_getElem hi)
      have h4 := hx i fs[i] (Array.getElem?_eq_getElem hi)
      rw [h1, h2, List.getElem?_eq_getElem (by omega)] at h4
      obtain ⟨u, a, h5, h6, h7⟩ := h3 _ _ _ h4 fun n hn => hf n (by
        simp only [DataW.weights, ht]
        exact weightsEach_sub (j := i) (by simp [hi]) (by simp [hxl, hi]) n hn)
      refine ⟨(a, u), fun _ => ⟨h6, ?_, h7⟩⟩
      have : ((cs.drop i).take 1)[0]? = some u := by rw [h5]; rfl
      simpa using this
    · exact ⟨(.bool true, undef), fun h => absurd h hi⟩
  obtain ⟨f, hfa⟩ := Classical.axiomOfChoice each
  refine ⟨(List.range fs.size).map fun i => (f i).1, ⟨by simp, fun i a ha => ?_⟩, .of_get (by simp [hl]) fun i u a hu ha => ?_⟩
  · have hi : i < fs.size := by
      rcases Nat.lt_or_ge i fs.size with h | h
      · exact h
      · rw [List.getElem?_eq_none (by simpa using h)] at ha; cases ha
    simp [hi] at ha
    subst ha
    exact (hfa i hi).1
  · have hi : i < fs.size := by
      rcases Nat.lt_or_ge i fs.size with h | h
      · exact h
      · rw [List.getElem?_eq_none (by simpa using h)] at ha; cases ha
    simp [hi] at ha
    subst ha
    rw [(hfa i hi).2.1] at hu
    cases hu
    exact (hfa i hi).2.2
theorem list_of {α : Type} {f : α → List AV} : ∀ {es : List (List AV)}, (∀ x ∈ es, ∃ a, x = f a) → ∃ l : List α, es = l.map f
  | [], _ => ⟨[], rfl⟩
  | e :: es, h => by
    obtain ⟨a, ha⟩ := h e (by simp)
    obtain ⟨l, hl⟩ := list_of (es := es) fun x hx => h x (by simp [hx])
    exact ⟨a :: l, by rw [ha, hl]; rfl⟩
end
end Go.Proofs.YtccbimcikbbecaaGreat.P1
/- The arguments of the laws, as a row tells them. -/
namespace Go.Proofs.YtccbimcikbbecaaGreat
open Go P1
section
variable {H : Type} {enc : TypeId × Value → H} {W : World}
theorem P1.One.imp {t : TypeId} {Q Q' : AV → Prop} (h : One enc Tryz.prog W t Q) (hi : ∀ a, Q a → Q' a) : One enc Tryz.prog W t Q' := fun f c x hx hf => by
  obtain ⟨u, a, h1, h2, h3⟩ := h f c x hx hf
  exact ⟨u, a, h1, hi a h2, h3⟩
theorem P1.Many.imp {t : TypeId} {Q Q' : List AV → Prop} (h : Many enc Tryz.prog W t Q) (hi : ∀ a, Q a → Q' a) : Many enc Tryz.prog W t Q' := fun f c x hx hf => by
  obtain ⟨a, h2, h3⟩ := h f c x hx hf
  exact ⟨a, hi a h2, h3⟩
theorem rd_int : One enc Tryz.prog W 3 (fun a => ∃ n, a = i64 n) := one_int Tryz.underlying3
theorem rd_bool : One enc Tryz.prog W 4 (fun a => ∃ b, a = .bool b) := one_bool Tryz.underlying4
theorem rd_str : One enc Tryz.prog W 9 (fun a => ∃ b, a = .str b) := one_str Tryz.underlying9
theorem rows_of {α : Type} {f : α → List AV} {t e : TypeId} {sz : Nat} (ht : Tryz.prog.underlying t = some (.slice e)) (hc : Tryz.prog.cellsOf e = sz) (h0 : 0 < sz) (hb : 0 < Tryz.prog.bytesOf e) (he : Many enc Tryz.prog W e (fun al => ∃ a, al = f a)) :
    One enc Tryz.prog W t (fun a => ∃ l : List α, a = .row (l.map f)) := (one_slice ht hc h0 hb he).imp fun a ⟨es, h1, h2⟩ => by
  obtain ⟨l, rfl⟩ := list_of h1
  exact ⟨l, h2⟩
theorem rd_ints : One enc Tryz.prog W 73 (fun a => ∃ l, a = ints l) :=
  rows_of (f := fun n => [i64 n]) Tryz.underlying73 (by kernel_rfl : Tryz.prog.cellsOf 3 = 1) (by decide) (of_decide_eq_true (by kernel_rfl)) ((one_many rd_int).imp fun al ⟨a, h1, n, h2⟩ => ⟨n, by rw [h1, h2]⟩)
theorem rd_rel : Many enc Tryz.prog W 70 (fun al => ∃ r : Relation, al = r.av) :=
  (many_struct (Q := fun i a => match i with | 0 => ∃ s, a = .str s | 1 => ∃ n, a = i64 n | _ => ∃ b, a = .bool b) Tryz.underlying70 (by kernel_rfl) (fun i f hf => by
    match i, hf with
    | 0, hf => cases hf; exact ⟨rfl, by kernel_rfl, rd_str⟩
    | 1, hf => cases hf; exact ⟨rfl, by kernel_rfl, rd_int⟩
    | 2, hf => cases hf; exact ⟨rfl, by kernel_rfl, rd_bool⟩)).imp fun al ⟨hl, h⟩ => by
  match al, hl with
  | [a, b, c], _ =>
    obtain ⟨s, rfl⟩ := h 0 a rfl
    obtain ⟨n, rfl⟩ := h 1 b rfl
    obtain ⟨t, rfl⟩ := h 2 c rfl
    exact ⟨⟨s, n, t⟩, rfl⟩
theorem rd_rels : One enc Tryz.prog W 22 (fun a => ∃ l : List Relation, a = .row (l.map Relation.av)) :=
  rows_of Tryz.underlying22 (by kernel_rfl : Tryz.prog.cellsOf 70 = 3) (by decide) (of_decide_eq_true (by kernel_rfl)) rd_rel
theorem rd_pair {t : TypeId} {fs : Array Field} {f0 f1 : Field} (he : fs = #[f0, f1]) (ht : Tryz.prog.underlying t = some (.struct fs)) (hc : Tryz.prog.cellsOf t = 2) (h0 : f0.offset = 0 ∧ f0.type = 3) (h1 : f1.offset = 1 ∧ f1.type = 73) :
    Many enc Tryz.prog W t (fun al => ∃ (n : Int) (l : List Int), al = [i64 n, ints l]) := by
  subst he
  refine (many_struct (Q := fun i a => match i with | 0 => ∃ n, a = i64 n | _ => ∃ l, a = ints l) ht hc (fun i f hf => ?_)).imp fun al ⟨hl, h⟩ => ?_
  · match i, hf with
    | 0, hf => cases hf; show f0.offset = 0 ∧ Tryz.prog.cellsOf f0.type = 1 ∧ P1.One enc Tryz.prog W f0.type _; rw [h0.2]; exact ⟨h0.1, by kernel_rfl, rd_int⟩
    | 1, hf => cases hf; show f1.offset = 1 ∧ Tryz.prog.cellsOf f1.type = 1 ∧ P1.One enc Tryz.prog W f1.type _; rw [h1.2]; exact ⟨h1.1, by kernel_rfl, rd_ints⟩
  · match al, hl with
    | [a, b], _ =>
      obtain ⟨n, rfl⟩ := h 0 a rfl
      obtain ⟨l, rfl⟩ := h 1 b rfl
      exact ⟨n, l, rfl⟩
theorem rd_fact : Many enc Tryz.prog W 130 (fun al => ∃ r : Fact, al = r.av) :=
  (rd_pair rfl Tryz.underlying130 (by kernel_rfl) ⟨rfl, rfl⟩ ⟨rfl, rfl⟩).imp fun _ ⟨n, l, h⟩ => ⟨⟨n, l⟩, h⟩
theorem rd_facts : One enc Tryz.prog W 47 (fun a => ∃ l : List Fact, a = .row (l.map Fact.av)) :=
  rows_of Tryz.underlying47 (by kernel_rfl : Tryz.prog.cellsOf 130 = 2) (by decide) (of_decide_eq_true (by kernel_rfl)) rd_fact
theorem rd_atom : Many enc Tryz.prog W 110 (fun al => ∃ r : Atom, al = r.av) :=
  (rd_pair rfl Tryz.underlying110 (by kernel_rfl) ⟨rfl, rfl⟩ ⟨rfl, rfl⟩).imp fun _ ⟨n, l, h⟩ => ⟨⟨n, l⟩, h⟩
theorem rd_atoms : One enc Tryz.prog W 23 (fun a => ∃ l : List Atom, a = .row (l.map Atom.av)) :=
  rows_of Tryz.underlying23 (by kernel_rfl : Tryz.prog.cellsOf 110 = 2) (by decide) (of_decide_eq_true (by kernel_rfl)) rd_atom
theorem rd_step : Many enc Tryz.prog W 96 (fun al => ∃ r : CStep, al = r.av) :=
  (rd_pair rfl Tryz.underlying96 (by kernel_rfl) ⟨rfl, rfl⟩ ⟨rfl, rfl⟩).imp fun _ ⟨n, l, h⟩ => ⟨⟨n, l⟩, h⟩
theorem rd_steps : One enc Tryz.prog W 50 (fun a => ∃ l : List CStep, a = .row (l.map CStep.av)) :=
  rows_of Tryz.underlying50 (by kernel_rfl : Tryz.prog.cellsOf 96 = 2) (by decide) (of_decide_eq_true (by kernel_rfl)) rd_step
theorem rd_dep : Many enc Tryz.prog W 25 (fun al => ∃ r : Dep, al = r.av) :=
  (many_struct (Q := fun i a => match i with | 0 => ∃ l : List Atom, a = .row (l.map Atom.av) | 1 => ∃ l : List Atom, a = .row (l.map Atom.av) | 2 => ∃ b, a = .bool b | 3 => ∃ n, a = i64 n | _ => ∃ n, a = i64 n) Tryz.underlying25 (by kernel_rfl) (fun i f hf => by
    match i, hf with
    | 0, hf => cases hf; exact ⟨rfl, by kernel_rfl, rd_atoms⟩
    | 1, hf => cases hf; exact ⟨rfl, by kernel_rfl, rd_atoms⟩
    | 2, hf => cases hf; exact ⟨rfl, by kernel_rfl, rd_bool⟩
    | 3, hf => cases hf; exact ⟨rfl, by kernel_rfl, rd_int⟩
    | 4, hf => cases hf; exact ⟨rfl, by kernel_rfl, rd_int⟩)).imp fun al ⟨hl, h⟩ => by
  match al, hl with
  | [a, b, c, d, e], _ =>
    obtain ⟨l, rfl⟩ := h 0 a rfl
    obtain ⟨m, rfl⟩ := h 1 b rfl
    obtain ⟨t, rfl⟩ := h 2 c rfl
    obtain ⟨x, rfl⟩ := h 3 d rfl
    obtain ⟨y, rfl⟩ := h 4 e rfl
    exact ⟨⟨l, m, t, x, y⟩, rfl⟩
theorem rd_deps : One enc Tryz.prog W 26 (fun a => ∃ l : List Dep, a = .row (l.map Dep.av)) :=
  rows_of Tryz.underlying26 (by kernel_rfl : Tryz.prog.cellsOf 25 = 5) (by decide) (of_decide_eq_true (by kernel_rfl)) rd_dep
theorem rd_inst : Many enc Tryz.prog W 49 (fun al => ∃ r : Inst, al = r.av) :=
  (many_struct (Q := fun i a => match i with | 0 => ∃ l : List Relation, a = .row (l.map Relation.av) | _ => ∃ l : List Fact, a = .row (l.map Fact.av)) Tryz.underlying49 (by kernel_rfl) (fun i f hf => by
    match i, hf with
    | 0, hf => cases hf; exact ⟨rfl, by kernel_rfl, rd_rels⟩
    | 1, hf => cases hf; exact ⟨rfl, by kernel_rfl, rd_facts⟩)).imp fun al ⟨hl, h⟩ => by
  match al, hl with
  | [a, b], _ =>
    obtain ⟨l, rfl⟩ := h 0 a rfl
    obtain ⟨m, rfl⟩ := h 1 b rfl
    exact ⟨⟨l, m⟩, rfl⟩
/-- A slice's argument. -/
theorem arg_one {t : TypeId} {Q : AV → Prop} (h : One enc Tryz.prog W t Q) {A : Option Addr} {n c : Nat} {d : DataW H} {ps : List MemPlace} (hv : DataW.Trod enc Tryz.prog W 0 (fun _ => true) true t (.slice A n c) d ps) (hf : Fits Tryz.prog t d) :
    ∃ a, Q a ∧ SlR ⟨fun _ => 0, fun _ => undef, Old W⟩ W (.slice A n c) (sl a) := by
  obtain ⟨fuel, h1⟩ := hv
  obtain ⟨u, a, h2, h3, h4⟩ := h _ _ _ h1 hf
  have h2 : [Value.slice A n c] = [u] := h2
  cases h2
  exact ⟨a, h3, h4⟩
theorem lf_av {F : Nat → Prop} : ∀ {vs : List Value} {l : List AV}, All2 (Rd W F) vs l → All2 (LfR ⟨fun _ => 0, fun _ => undef, F⟩ W) vs (l.map .av)
  | [], [], _ => .nil
  | _ :: _, _ :: _, .cons h t => .cons h (lf_av t)
theorem arg_many {t : TypeId} {R : List AV → Prop} (h : Many enc Tryz.prog W t R) {cs : Array Value} {d : DataW H} {ps : List MemPlace} (hv : DataW.Trod enc Tryz.prog W 0 (fun _ => true) true t (.agg cs) d ps) (hf : Fits Tryz.prog t d) :
    ∃ a, R a ∧ SlR ⟨fun _ => 0, fun _ => undef, Old W⟩ W (.agg cs) (ag a) := by
  obtain ⟨fuel, h1⟩ := hv
  obtain ⟨a, h3, h4⟩ := h _ _ _ h1 hf
  have h4 : All2 (Rd W (Old W)) cs.toList a := h4
  exact ⟨a, h3, cs.toList, by simp, lf_av h4⟩
end
end Go.Proofs.YtccbimcikbbecaaGreat
/- From a contract of a law to the calls that a row speaks of. -/
namespace Go.Proofs.YtccbimcikbbecaaGreat
open Go.ChangeShapes Go.WideShapes Go.ChangeAt Go.RowKit Go P1
theorem ownKnobs : ownKnob Tryz.prog.godebug = none := by kernel_rfl
theorem laidOut : laidOutB Tryz.prog = true := by kernel_rfl
theorem below_of_fr {W W' : World} (h : Fr W (fun _ => False) W') : Below W.heap.size W W' := ⟨h.os, h.tape, h.output, h.size, fun k hk => h.block k hk fun h => h⟩
theorem law_calls {f : FuncId} {args : List Sl} (h : Ct Tryz.prog f args [] (sl (.bool true)) [] []) {W : World} {vals : List Value} (hv : SlsR ⟨fun _ => 0, fun _ => undef, Old W⟩ W vals args) :
    Calls Tryz.prog f vals.toArray W fun e W' => e = .returned (.bool true) ∧ Below W.heap.size W W' :=
  (h.2 (fun _ => 0) (fun _ => undef) (Old W) W vals ⟨fun _ h => by simp at h, fun _ h => by simp at h, fun _ h => by simp at h⟩ (fun _ h => h) hv).mono fun e w' ⟨v, G', he, hp⟩ => by
    have hr : Rd w' G'.F v (.bool true) := hp.res
    refine ⟨?_, below_of_fr (hp.fr.mono fun i ⟨p, hp, _⟩ => by simp at hp)⟩
    cases hr
    exact he
end Go.Proofs.YtccbimcikbbecaaGreat
