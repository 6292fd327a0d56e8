/- Part 9 of what the row leans on: Sub, Put, Fcs, Srf, ShF, Srg. No statement of the program stands here by itself. -/
import Derived.Test.YtccbimcikbbecaaGreatW8
import Derived.Test.YtccbimcikbbecaaGreatW5
import Derived.Test.YtccbimcikbbecaaGreatProg
import Derived.Shelf.SlSortCmp.WholeK
import Derived.Shelf.SlSortCmp.NoneTotal
set_option linter.all false
set_option linter.unusedVariables false
set_option linter.unusedSimpArgs false
/- Substitutions. -/
namespace Go.Proofs.YtccbimcikbbecaaGreat
open Go P1
structure Sub where
  nulls : List Int
  vals : List Int
def Sub.av (s : Sub) : List AV := [ints s.nulls, ints s.vals]
def subAt (s : Sub) (i : Nat) : Bool := inR (s.nulls.getD i 0) 0 39 && ((decide (i = 0) || decide (s.nulls.getD (i - 1) 0 < s.nulls.getD i 0)) && validVal (s.vals.getD i 0))
def validSub (s : Sub) : Bool := decide (s.nulls.length = s.vals.length) && (List.range s.nulls.length).all (subAt s)
theorem subAt_bad1 {s : Sub} {i : Nat} (h : i < s.nulls.length) (hr : inR s.nulls[i] 0 39 = false) : subAt s i = false := by simp only [subAt, getD_eq h, hr, Bool.false_and]
theorem subAt_bad2 {s : Sub} {i : Nat} (h : i < s.nulls.length) (h0 : 0 < i) (hc : s.nulls[i] ≤ s.nulls[i - 1]'(by omega)) : subAt s i = false := by
  have h1 : decide (i = 0) = false := by simp; omega
  have h2 : decide (s.nulls[i - 1]'(by omega) < s.nulls[i]) = false := by simp; omega
  simp only [subAt, getD_eq h, getD_eq (show i - 1 < s.nulls.length by omega), h1, h2, Bool.false_or, Bool.false_and, Bool.and_false]
theorem subAt_bad3 {s : Sub} {i : Nat} (h : i < s.vals.length) (hv : validVal s.vals[i] = false) : subAt s i = false := by simp only [subAt, getD_eq h, hv, Bool.and_false]
theorem subAt_good {s : Sub} {i : Nat} (h : i < s.nulls.length) (h' : i < s.vals.length) (hr : inR s.nulls[i] 0 39 = true) (hc : i = 0 ∨ (0 < i ∧ s.nulls[i - 1]'(by omega) < s.nulls[i])) (hv : validVal s.vals[i] = true) : subAt s i = true := by
  simp only [subAt, getD_eq h, getD_eq h', hr, hv, Bool.true_and, Bool.and_true, Bool.or_eq_true, decide_eq_true_eq]
  rcases hc with hc | ⟨_, hc⟩
  · exact .inl hc
  · rw [getD_eq (show i - 1 < s.nulls.length by omega)]; exact .inr hc
def H158 : List (Nat × Hint) := [(0, ⟨[], [0, 2]⟩), (1, ⟨[], [4, 5, 6, 7, 8, 9]⟩), (4, ⟨[], [11, 12, 13, 14]⟩), (5, ⟨[], [16, 17]⟩), (6, ⟨[(false, []), (false, []), (false, [0, 1]), (false, []), (false, []), (false, []), (false, []), (true, []), (false, []), (false, []), (true, []), (false, []), (false, []), (false, [0, 1]), (false, []), (false, []), (false, [0, 1, 2, 3, 4]), (false, [1, 2, 3, 4, 5]), (false, [0, 1, 2, 3, 4, 5, 6]), (false, [1, 2, 3, 4, 5, 6, 7]), (false, [4, 5, 6, 7, 8]), (false, [5, 6, 7, 8, 9]), (false, []), (false, []), (false, []), (true, []), (false, []), (false, []), (false, [0, 1]), (false, []), (false, []), (false, []), (false, []), (false, [])], [18, 19, 20, 21, 22, 23, 24, 25, 26, 27, 28, 29, 30, 31, 32, 33, 34, 35, 36, 37, 38, 39, 40, 41, 42, 43, 44, 45, 46, 47, 48, 49, 50]⟩)]
set_option maxHeartbeats 4000000 in
set_option maxRecDepth 100000 in
theorem ct_sIsValidSubstitution (s : Sub) : Ct Tryz.prog 158 [ag s.av] [] (sl (.bool (validSub s))) [] [] := by
  refine ct_of_vc mixed tab_ok H158 Tryz.func158 rfl (by kernel_rfl) (by kernel_rfl) (by rfl) ?_
  intro hw _
  have hln : s.nulls.length ≤ 1125899906842624 := Wf.lenI (hw (ag s.av) (.head _) (.av (ints s.nulls)) (by simp [Sub.av]))
  clear hw
  conv => whnf
  refine ⟨fun h => ?_, fun h => ?_⟩ <;> (try simp at h) <;> (conv => whnf)
  · have h1 : decide (s.nulls.length = s.vals.length) = false := by simp; omega
    repeat' (first
      | exact trivial
      | (refine ⟨rfl, ?_⟩; (conv => whnf))
      | (refine ⟨fun h => ?_, fun h => ?_⟩ <;> (try simp at h) <;> (try (exfalso; omega)) <;> (conv => whnf))
      | (intro b hb; (conv => whnf))
      | (refine And.intro ?_ ?_; (focus (rw [wrap64 (by omega) (by omega)] <;> rfl)); (conv => whnf))
      | (refine And.intro ?_ (And.intro ?_ (And.intro ?_ (And.intro ?_ ?_))); (focus (first | omega | (rw [wrap64 (by omega) (by omega)] <;> first | omega | rfl) | (simp; omega))); (focus (first | omega | (rw [wrap64 (by omega) (by omega)] <;> first | omega | rfl) | (simp; omega))); (focus (first | omega | (rw [wrap64 (by omega) (by omega)] <;> first | omega | rfl) | (simp; omega))); (focus ((repeat' (first | exact sz_nil | exact sz_map fun _ => rfl | apply sz_take | apply sz_drop | apply sz_append | apply sz_cons rfl)); done)); (conv => whnf))
      | (refine And.intro ?_ (And.intro ?_ ?_); (focus (first | omega | (rw [wrap64 (by omega) (by omega)] <;> first | omega | rfl) | (simp; omega))); (focus ((repeat' (first | exact sz_nil | exact sz_map fun _ => rfl | apply sz_take | apply sz_drop | apply sz_append | apply sz_cons rfl)); done)); (conv => whnf))
      | (refine And.intro ?_ (And.intro ?_ ?_); (focus (first | omega | (rw [wrap64 (by omega) (by omega)] <;> first | omega | rfl) | (simp; omega))); (focus (first | omega | (rw [wrap64 (by omega) (by omega)] <;> first | omega | rfl) | (simp; omega))); (conv => whnf))
      | (refine And.intro ?_ ?_; (focus (simp [validSub, h1])); (conv => whnf))
      | (rw [beq_g]; (conv => whnf))
      | fail)
  have hl : s.nulls.length = s.vals.length := by omega
  have hv : validSub s = (List.range s.nulls.length).all (subAt s) := by simp only [validSub, decide_eq_true hl, Bool.true_and]
  rw [hv]
  refine loop_rule mixed tab_ok H158 (I := Nat) (fun i => [(.slot 3, iv i), (.slot 1, .s (.lf (.ptr (1, 0) 0))), (.leaf (1, 0) 0, .l (.av (ints s.nulls))), (.leaf (1, 0) 1, .l (.av (ints s.vals)))]) (fun i => i ≤ s.nulls.length ∧ (List.range i).all (subAt s) = true) (fun i => s.nulls.length - i) (by kernel_rfl) 0 (by simp) (wk_sound (ψ := []) ?_) ?_
  · conv => whnf
    repeat' (first
      | exact trivial
      | (refine ⟨rfl, ?_⟩; (conv => whnf))
      | (refine ⟨fun h => ?_, fun h => ?_⟩ <;> (try simp at h) <;> (try (exfalso; omega)) <;> (conv => whnf))
      | (intro b hb; (conv => whnf))
      | (refine And.intro ?_ ?_; (focus (rw [wrap64 (by omega) (by omega)] <;> rfl)); (conv => whnf))
      | (refine And.intro ?_ (And.intro ?_ (And.intro ?_ (And.intro ?_ ?_))); (focus (first | omega | (rw [wrap64 (by omega) (by omega)] <;> first | omega | rfl) | (simp; omega))); (focus (first | omega | (rw [wrap64 (by omega) (by omega)] <;> first | omega | rfl) | (simp; omega))); (focus (first | omega | (rw [wrap64 (by omega) (by omega)] <;> first | omega | rfl) | (simp; omega))); (focus ((repeat' (first | exact sz_nil | exact sz_map fun _ => rfl | apply sz_take | apply sz_drop | apply sz_append | apply sz_cons rfl)); done)); (conv => whnf))
      | (refine And.intro ?_ (And.intro ?_ ?_); (focus (first | omega | (rw [wrap64 (by omega) (by omega)] <;> first | omega | rfl) | (simp; omega))); (focus ((repeat' (first | exact sz_nil | exact sz_map fun _ => rfl | apply sz_take | apply sz_drop | apply sz_append | apply sz_cons rfl)); done)); (conv => whnf))
      | (refine And.intro ?_ (And.intro ?_ ?_); (focus (first | omega | (rw [wrap64 (by omega) (by omega)] <;> first | omega | rfl) | (simp; omega))); (focus (first | omega | (rw [wrap64 (by omega) (by omega)] <;> first | omega | rfl) | (simp; omega))); (conv => whnf))
      | (rw [beq_g]; (conv => whnf))
      | fail)
  rintro i ⟨hi, hok⟩
  conv => whnf
  refine ⟨fun hlt => ?_, fun hlt => ?_⟩ <;> (try simp at hlt) <;> (conv => whnf)
  · have hlt2 : i < s.vals.length := by omega
    repeat' (first
      | exact trivial
      | (refine ⟨rfl, ?_⟩; (conv => whnf))
      | (refine ⟨fun h => ?_, fun h => ?_⟩ <;> (try simp at h) <;> (try (exfalso; omega)) <;> (conv => whnf))
      | (intro b hb; (conv => whnf))
      | (refine .inl ?_; (conv => whnf); first | (refine ⟨_, _, _, _, ct_l1In _ _ _, ?_⟩; (conv => whnf)) | (refine ⟨_, _, _, _, ct_sIsValidValue _, ?_⟩; (conv => whnf)) | fail)
      | (refine And.intro ?_ ?_; (focus (rw [wrap64 (by omega) (by omega)] <;> rfl)); (conv => whnf))
      | (refine ⟨[i64 s.nulls[i]], ?_, map_getI ?_ ?_, rfl, ?_⟩; (focus (first | omega | (rw [wrap64 (by omega) (by omega)] <;> first | omega | rfl) | (simp; omega))); (focus (first | rfl | omega | (rw [wrap64 (by omega) (by omega)] <;> first | omega | rfl))); (focus omega); (conv => whnf))
      | (refine ⟨[i64 s.nulls[i]], map_getI ?_ ?_, ?_, ?_, ?_⟩; (focus (first | rfl | omega | (rw [wrap64 (by omega) (by omega)] <;> first | omega | rfl))); (focus omega); (focus (simp; done)); (focus (simp; done)); (conv => whnf))
      | (refine ⟨[i64 s.nulls[i]], map_getI ?_ ?_, ?_⟩; (focus (first | rfl | omega | (rw [wrap64 (by omega) (by omega)] <;> first | omega | rfl))); (focus omega); (conv => whnf))
      | (refine ⟨[i64 s.nulls[i - 1]], ?_, map_getI ?_ ?_, rfl, ?_⟩; (focus (first | omega | (rw [wrap64 (by omega) (by omega)] <;> first | omega | rfl) | (simp; omega))); (focus (first | rfl | omega | (rw [wrap64 (by omega) (by omega)] <;> first | omega | rfl))); (focus omega); (conv => whnf))
      | (refine ⟨[i64 s.nulls[i - 1]], map_getI ?_ ?_, ?_, ?_, ?_⟩; (focus (first | rfl | omega | (rw [wrap64 (by omega) (by omega)] <;> first | omega | rfl))); (focus omega); (focus (simp; done)); (focus (simp; done)); (conv => whnf))
      | (refine ⟨[i64 s.nulls[i - 1]], map_getI ?_ ?_, ?_⟩; (focus (first | rfl | omega | (rw [wrap64 (by omega) (by omega)] <;> first | omega | rfl))); (focus omega); (conv => whnf))
      | (refine ⟨[i64 s.vals[i]], ?_, map_getI ?_ ?_, rfl, ?_⟩; (focus (first | omega | (rw [wrap64 (by omega) (by omega)] <;> first | omega | rfl) | (simp; omega))); (focus (first | rfl | omega | (rw [wrap64 (by omega) (by omega)] <;> first | omega | rfl))); (focus omega); (conv => whnf))
      | (refine ⟨[i64 s.vals[i]], map_getI ?_ ?_, ?_, ?_, ?_⟩; (focus (first | rfl | omega | (rw [wrap64 (by omega) (by omega)] <;> first | omega | rfl))); (focus omega); (focus (simp; done)); (focus (simp; done)); (conv => whnf))
      | (refine ⟨[i64 s.vals[i]], map_getI ?_ ?_, ?_⟩; (focus (first | rfl | omega | (rw [wrap64 (by omega) (by omega)] <;> first | omega | rfl))); (focus omega); (conv => whnf))
      | (refine And.intro ?_ (And.intro ?_ (And.intro ?_ (And.intro ?_ ?_))); (focus (first | omega | (rw [wrap64 (by omega) (by omega)] <;> first | omega | rfl) | (simp; omega))); (focus (first | omega | (rw [wrap64 (by omega) (by omega)] <;> first | omega | rfl) | (simp; omega))); (focus (first | omega | (rw [wrap64 (by omega) (by omega)] <;> first | omega | rfl) | (simp; omega))); (focus ((repeat' (first | exact sz_nil | exact sz_map fun _ => rfl | apply sz_take | apply sz_drop | apply sz_append | apply sz_cons rfl)); done)); (conv => whnf))
      | (refine And.intro ?_ (And.intro ?_ ?_); (focus (first | omega | (rw [wrap64 (by omega) (by omega)] <;> first | omega | rfl) | (simp; omega))); (focus ((repeat' (first | exact sz_nil | exact sz_map fun _ => rfl | apply sz_take | apply sz_drop | apply sz_append | apply sz_cons rfl)); done)); (conv => whnf))
      | (refine And.intro ?_ (And.intro ?_ ?_); (focus (first | omega | (rw [wrap64 (by omega) (by omega)] <;> first | omega | rfl) | (simp; omega))); (focus (first | omega | (rw [wrap64 (by omega) (by omega)] <;> first | omega | rfl) | (simp; omega))); (conv => whnf))
      | (refine ⟨i + 1, ?_, ?_, wk_sound (ψ := []) ?_⟩; (focus (exact ⟨hlt, range_next hok (subAt_good hlt hlt2 (by assumption) (by first | exact .inl (by assumption) | exact .inr ⟨by assumption, by assumption⟩) (by assumption))⟩)); (focus (first | omega | (rw [wrap64 (by omega) (by omega)] <;> first | omega | rfl) | (simp; omega))); (conv => whnf); (fail_if_success show False))
      | (refine And.intro ?_ ?_; (focus (first | (rw [range_bad hlt (subAt_bad1 hlt (by assumption))]; done) | (rw [range_bad hlt (subAt_bad2 hlt (by assumption) (by assumption))]; done) | (rw [range_bad hlt (subAt_bad3 hlt2 (by assumption))]; done))); (conv => whnf))
      | (rw [beq_g]; (conv => whnf))
      | fail)
  · have e : i = s.nulls.length := by omega
    subst e
    rw [hok]
    repeat' (first
      | exact trivial
      | (refine ⟨rfl, ?_⟩; (conv => whnf))
      | (refine ⟨fun h => ?_, fun h => ?_⟩ <;> (try simp at h) <;> (try (exfalso; omega)) <;> (conv => whnf))
      | (intro b hb; (conv => whnf))
      | (refine And.intro ?_ ?_; (focus (rw [wrap64 (by omega) (by omega)] <;> rfl)); (conv => whnf))
      | (refine And.intro ?_ (And.intro ?_ (And.intro ?_ (And.intro ?_ ?_))); (focus (first | omega | (rw [wrap64 (by omega) (by omega)] <;> first | omega | rfl) | (simp; omega))); (focus (first | omega | (rw [wrap64 (by omega) (by omega)] <;> first | omega | rfl) | (simp; omega))); (focus (first | omega | (rw [wrap64 (by omega) (by omega)] <;> first | omega | rfl) | (simp; omega))); (focus ((repeat' (first | exact sz_nil | exact sz_map fun _ => rfl | apply sz_take | apply sz_drop | apply sz_append | apply sz_cons rfl)); done)); (conv => whnf))
      | (refine And.intro ?_ (And.intro ?_ ?_); (focus (first | omega | (rw [wrap64 (by omega) (by omega)] <;> first | omega | rfl) | (simp; omega))); (focus ((repeat' (first | exact sz_nil | exact sz_map fun _ => rfl | apply sz_take | apply sz_drop | apply sz_append | apply sz_cons rfl)); done)); (conv => whnf))
      | (refine And.intro ?_ (And.intro ?_ ?_); (focus (first | omega | (rw [wrap64 (by omega) (by omega)] <;> first | omega | rfl) | (simp; omega))); (focus (first | omega | (rw [wrap64 (by omega) (by omega)] <;> first | omega | rfl) | (simp; omega))); (conv => whnf))
      | (rw [beq_g]; (conv => whnf))
      | fail)
def H195 : List (Nat × Hint) := [(0, ⟨[], [0, 2]⟩), (1, ⟨[], [5, 6, 7, 8, 9, 10]⟩), (3, ⟨[], [12]⟩), (5, ⟨[], [17, 18, 19]⟩), (6, ⟨[(false, []), (false, []), (false, []), (true, []), (false, []), (false, []), (true, []), (false, []), (false, []), (false, []), (false, []), (false, []), (false, []), (false, []), (false, []), (false, []), (false, []), (true, []), (false, []), (false, []), (false, []), (false, []), (false, []), (false, []), (false, []), (false, [])], [3, 4, 20, 21, 22, 23, 24, 25, 26, 27, 28, 29, 30, 31, 32, 33, 34, 35, 36, 37, 38, 39, 40, 41, 42, 43, 44]⟩), (8, ⟨[], [46]⟩)]
set_option maxHeartbeats 4000000 in
set_option maxRecDepth 100000 in
theorem ct_iIsValidSubstitution (s : Sub) : Ct Tryz.prog 195 [ag s.av] [] (sl (.bool (validSub s))) [] [] := by
  refine ct_of_vc mixed tab_ok H195 Tryz.func195 rfl (by kernel_rfl) (by kernel_rfl) (by rfl) ?_
  intro hw _
  have hln : s.nulls.length ≤ 1125899906842624 := Wf.lenI (hw (ag s.av) (.head _) (.av (ints s.nulls)) (by simp [Sub.av]))
  clear hw
  conv => whnf
  refine ⟨fun h => ?_, fun h => ?_⟩ <;> (try simp at h) <;> (conv => whnf)
  · have h1 : decide (s.nulls.length = s.vals.length) = false := by simp; omega
    repeat' (first
      | exact trivial
      | (refine ⟨rfl, ?_⟩; (conv => whnf))
      | (refine ⟨fun h => ?_, fun h => ?_⟩ <;> (try simp at h) <;> (try (exfalso; omega)) <;> (conv => whnf))
      | (intro b hb; (conv => whnf))
      | (refine And.intro ?_ ?_; (focus (rw [wrap64 (by omega) (by omega)] <;> rfl)); (conv => whnf))
      | (refine And.intro ?_ (And.intro ?_ (And.intro ?_ (And.intro ?_ ?_))); (focus (first | omega | (rw [wrap64 (by omega) (by omega)] <;> first | omega | rfl) | (simp; omega))); (focus (first | omega | (rw [wrap64 (by omega) (by omega)] <;> first | omega | rfl) | (simp; omega))); (focus (first | omega | (rw [wrap64 (by omega) (by omega)] <;> first | omega | rfl) | (simp; omega))); (focus ((repeat' (first | exact sz_nil | exact sz_map fun _ => rfl | apply sz_take | apply sz_drop | apply sz_append | apply sz_cons rfl)); done)); (conv => whnf))
      | (refine And.intro ?_ (And.intro ?_ ?_); (focus (first | omega | (rw [wrap64 (by omega) (by omega)] <;> first | omega | rfl) | (simp; omega))); (focus ((repeat' (first | exact sz_nil | exact sz_map fun _ => rfl | apply sz_take | apply sz_drop | apply sz_append | apply sz_cons rfl)); done)); (conv => whnf))
      | (refine And.intro ?_ (And.intro ?_ ?_); (focus (first | omega | (rw [wrap64 (by omega) (by omega)] <;> first | omega | rfl) | (simp; omega))); (focus (first | omega | (rw [wrap64 (by omega) (by omega)] <;> first | omega | rfl) | (simp; omega))); (conv => whnf))
      | (refine And.intro ?_ ?_; (focus (simp [validSub, h1])); (conv => whnf))
      | (rw [beq_g]; (conv => whnf))
      | fail)
  have hl : s.nulls.length = s.vals.length := by omega
  have hv : validSub s = (List.range s.nulls.length).all (subAt s) := by simp only [validSub, decide_eq_true hl, Bool.true_and]
  rw [hv]
  refine loop_rule mixed tab_ok H195 (I := Nat) (fun i => [(.slot 15, iv i), (.slot 14, iv s.nulls.length), (.slot 13, .s (sl (ints s.nulls))), (.slot 1, .s (.lf (.ptr (1, 0) 0))), (.leaf (1, 0) 0, .l (.av (ints s.nulls))), (.leaf (1, 0) 1, .l (.av (ints s.vals)))]) (fun i => i ≤ s.nulls.length ∧ (List.range i).all (subAt s) = true) (fun i => s.nulls.length - i) (by kernel_rfl) 0 (by simp) (wk_sound (ψ := []) ?_) ?_
  · conv => whnf
    repeat' (first
      | exact trivial
      | (refine ⟨rfl, ?_⟩; (conv => whnf))
      | (refine ⟨fun h => ?_, fun h => ?_⟩ <;> (try simp at h) <;> (try (exfalso; omega)) <;> (conv => whnf))
      | (intro b hb; (conv => whnf))
      | (refine And.intro ?_ ?_; (focus (rw [wrap64 (by omega) (by omega)] <;> rfl)); (conv => whnf))
      | (refine And.intro ?_ (And.intro ?_ (And.intro ?_ (And.intro ?_ ?_))); (focus (first | omega | (rw [wrap64 (by omega) (by omega)] <;> first | omega | rfl) | (simp; omega))); (focus (first | omega | (rw [wrap64 (by omega) (by omega)] <;> first | omega | rfl) | (simp; omega))); (focus (first | omega | (rw [wrap64 (by omega) (by omega)] <;> first | omega | rfl) | (simp; omega))); (focus ((repeat' (first | exact sz_nil | exact sz_map fun _ => rfl | apply sz_take | apply sz_drop | apply sz_append | apply sz_cons rfl)); done)); (conv => whnf))
      | (refine And.intro ?_ (And.intro ?_ ?_); (focus (first | omega | (rw [wrap64 (by omega) (by omega)] <;> first | omega | rfl) | (simp; omega))); (focus ((repeat' (first | exact sz_nil | exact sz_map fun _ => rfl | apply sz_take | apply sz_drop | apply sz_append | apply sz_cons rfl)); done)); (conv => whnf))
      | (refine And.intro ?_ (And.intro ?_ ?_); (focus (first | omega | (rw [wrap64 (by omega) (by omega)] <;> first | omega | rfl) | (simp; omega))); (focus (first | omega | (rw [wrap64 (by omega) (by omega)] <;> first | omega | rfl) | (simp; omega))); (conv => whnf))
      | (refine And.intro ?_ ?_; (focus (simp; done)); (conv => whnf))
      | (rw [beq_g]; (conv => whnf))
      | fail)
  rintro i ⟨hi, hok⟩
  conv => whnf
  refine ⟨fun hlt => ?_, fun hlt => ?_⟩ <;> (try simp at hlt) <;> (conv => whnf)
  · have hlt2 : i < s.vals.length := by omega
    repeat' (first
      | exact trivial
      | (refine ⟨rfl, ?_⟩; (conv => whnf))
      | (refine ⟨fun h => ?_, fun h => ?_⟩ <;> (try simp at h) <;> (try (exfalso; omega)) <;> (conv => whnf))
      | (intro b hb; (conv => whnf))
      | (refine .inl ?_; (conv => whnf); first | (refine ⟨_, _, _, _, ct_within _ _ _, ?_⟩; (conv => whnf)) | (refine ⟨_, _, _, _, ct_iIsValidValue _, ?_⟩; (conv => whnf)) | fail)
      | (refine And.intro ?_ ?_; (focus (rw [wrap64 (by omega) (by omega)] <;> rfl)); (conv => whnf))
      | (refine ⟨[i64 s.nulls[i]], ?_, map_getI ?_ ?_, rfl, ?_⟩; (focus (first | omega | (rw [wrap64 (by omega) (by omega)] <;> first | omega | rfl) | (simp; omega))); (focus (first | rfl | omega | (rw [wrap64 (by omega) (by omega)] <;> first | omega | rfl))); (focus omega); (conv => whnf))
      | (refine ⟨[i64 s.nulls[i]], map_getI ?_ ?_, ?_, ?_, ?_⟩; (focus (first | rfl | omega | (rw [wrap64 (by omega) (by omega)] <;> first | omega | rfl))); (focus omega); (focus (simp; done)); (focus (simp; done)); (conv => whnf))
      | (refine ⟨[i64 s.nulls[i]], map_getI ?_ ?_, ?_⟩; (focus (first | rfl | omega | (rw [wrap64 (by omega) (by omega)] <;> first | omega | rfl))); (focus omega); (conv => whnf))
      | (refine ⟨[i64 s.nulls[i - 1]], ?_, map_getI ?_ ?_, rfl, ?_⟩; (focus (first | omega | (rw [wrap64 (by omega) (by omega)] <;> first | omega | rfl) | (simp; omega))); (focus (first | rfl | omega | (rw [wrap64 (by omega) (by omega)] <;> first | omega | rfl))); (focus omega); (conv => whnf))
      | (refine ⟨[i64 s.nulls[i - 1]], map_getI ?_ ?_, ?_, ?_, ?_⟩; (focus (first | rfl | omega | (rw [wrap64 (by omega) (by omega)] <;> first | omega | rfl))); (focus omega); (focus (simp; done)); (focus (simp; done)); (conv => whnf))
      | (refine ⟨[i64 s.nulls[i - 1]], map_getI ?_ ?_, ?_⟩; (focus (first | rfl | omega | (rw [wrap64 (by omega) (by omega)] <;> first | omega | rfl))); (focus omega); (conv => whnf))
      | (refine ⟨[i64 s.vals[i]], ?_, map_getI ?_ ?_, rfl, ?_⟩; (focus (first | omega | (rw [wrap64 (by omega) (by omega)] <;> first | omega | rfl) | (simp; omega))); (focus (first | rfl | omega | (rw [wrap64 (by omega) (by omega)] <;> first | omega | rfl))); (focus omega); (conv => whnf))
      | (refine ⟨[i64 s.vals[i]], map_getI ?_ ?_, ?_, ?_, ?_⟩; (focus (first | rfl | omega | (rw [wrap64 (by omega) (by omega)] <;> first | omega | rfl))); (focus omega); (focus (simp; done)); (focus (simp; done)); (conv => whnf))
      | (refine ⟨[i64 s.vals[i]], map_getI ?_ ?_, ?_⟩; (focus (first | rfl | omega | (rw [wrap64 (by omega) (by omega)] <;> first | omega | rfl))); (focus omega); (conv => whnf))
      | (refine And.intro ?_ (And.intro ?_ (And.intro ?_ (And.intro ?_ ?_))); (focus (first | omega | (rw [wrap64 (by omega) (by omega)] <;> first | omega | rfl) | (simp; omega))); (focus (first | omega | (rw [wrap64 (by omega) (by omega)] <;> first | omega | rfl) | (simp; omega))); (focus (first | omega | (rw [wrap64 (by omega) (by omega)] <;> first | omega | rfl) | (simp; omega))); (focus ((repeat' (first | exact sz_nil | exact sz_map fun _ => rfl | apply sz_take | apply sz_drop | apply sz_append | apply sz_cons rfl)); done)); (conv => whnf))
      | (refine And.intro ?_ (And.intro ?_ ?_); (focus (first | omega | (rw [wrap64 (by omega) (by omega)] <;> first | omega | rfl) | (simp; omega))); (focus ((repeat' (first | exact sz_nil | exact sz_map fun _ => rfl | apply sz_take | apply sz_drop | apply sz_append | apply sz_cons rfl)); done)); (conv => whnf))
      | (refine And.intro ?_ (And.intro ?_ ?_); (focus (first | omega | (rw [wrap64 (by omega) (by omega)] <;> first | omega | rfl) | (simp; omega))); (focus (first | omega | (rw [wrap64 (by omega) (by omega)] <;> first | omega | rfl) | (simp; omega))); (conv => whnf))
      | (refine ⟨i + 1, ?_, ?_, wk_sound (ψ := []) ?_⟩; (focus (exact ⟨hlt, range_next hok (subAt_good hlt hlt2 (by assumption) (by first | exact .inl (by assumption) | exact .inr ⟨by assumption, by assumption⟩) (by assumption))⟩)); (focus (first | omega | (rw [wrap64 (by omega) (by omega)] <;> first | omega | rfl) | (simp; omega))); (conv => whnf); (fail_if_success show False))
      | (refine And.intro ?_ ?_; (focus (first | (rw [range_bad hlt (subAt_bad1 hlt (by assumption))]; done) | (rw [range_bad hlt (subAt_bad2 hlt (by assumption) (by assumption))]; done) | (rw [range_bad hlt (subAt_bad3 hlt2 (by assumption))]; done))); (conv => whnf))
      | (rw [beq_g]; (conv => whnf))
      | fail)
  · have e : i = s.nulls.length := by omega
    subst e
    rw [hok]
    repeat' (first
      | exact trivial
      | (refine ⟨rfl, ?_⟩; (conv => whnf))
      | (refine ⟨fun h => ?_, fun h => ?_⟩ <;> (try simp at h) <;> (try (exfalso; omega)) <;> (conv => whnf))
      | (intro b hb; (conv => whnf))
      | (refine And.intro ?_ ?_; (focus (rw [wrap64 (by omega) (by omega)] <;> rfl)); (conv => whnf))
      | (refine And.intro ?_ (And.intro ?_ (And.intro ?_ (And.intro ?_ ?_))); (focus (first | omega | (rw [wrap64 (by omega) (by omega)] <;> first | omega | rfl) | (simp; omega))); (focus (first | omega | (rw [wrap64 (by omega) (by omega)] <;> first | omega | rfl) | (simp; omega))); (focus (first | omega | (rw [wrap64 (by omega) (by omega)] <;> first | omega | rfl) | (simp; omega))); (focus ((repeat' (first | exact sz_nil | exact sz_map fun _ => rfl | apply sz_take | apply sz_drop | apply sz_append | apply sz_cons rfl)); done)); (conv => whnf))
      | (refine And.intro ?_ (And.intro ?_ ?_); (focus (first | omega | (rw [wrap64 (by omega) (by omega)] <;> first | omega | rfl) | (simp; omega))); (focus ((repeat' (first | exact sz_nil | exact sz_map fun _ => rfl | apply sz_take | apply sz_drop | apply sz_append | apply sz_cons rfl)); done)); (conv => whnf))
      | (refine And.intro ?_ (And.intro ?_ ?_); (focus (first | omega | (rw [wrap64 (by omega) (by omega)] <;> first | omega | rfl) | (simp; omega))); (focus (first | omega | (rw [wrap64 (by omega) (by omega)] <;> first | omega | rfl) | (simp; omega))); (conv => whnf))
      | (rw [beq_g]; (conv => whnf))
      | fail)
def subIx (s : Sub) (v : Int) : Int := fidx (fun k => decide (-1 - k = v)) s.nulls
def applyV (s : Sub) (v : Int) : Int := if validSub s = true ∧ 0 ≤ subIx s v then s.vals.getD (subIx s v).toNat 0 else v
theorem validSub_nulls {s : Sub} (h : validSub s = true) : s.nulls.length = s.vals.length ∧ ∀ i (hi : i < s.nulls.length), 0 ≤ s.nulls[i] ∧ s.nulls[i] ≤ 39 := by
  simp only [validSub, Bool.and_eq_true, decide_eq_true_eq, List.all_eq_true, List.mem_range] at h
  refine ⟨h.1, fun i hi => ?_⟩
  have := h.2 i hi
  simp only [subAt, getD_eq hi, Bool.and_eq_true] at this
  exact inR_iff.1 this.1
theorem applyV_inv {s : Sub} {v : Int} (h : validSub s = false) : applyV s v = v := by simp [applyV, h]
theorem applyV_hit {s : Sub} {v : Int} {i : Nat} (h : validSub s = true) (hi : i < s.nulls.length) (hl : i < s.vals.length) (he : -1 - s.nulls[i] = v) (hb : (s.nulls.take i).any (fun k => decide (-1 - k = v)) = false) : applyV s v = s.vals[i] := by
  have h1 : subIx s v = i := fidx_hit (p := fun k => decide (-1 - k = v)) hi (by simpa using he) hb
  simp only [applyV, h1]
  rw [if_pos ⟨h, by omega⟩, show ((i : Int)).toNat = i by omega, getD_eq hl]
theorem applyV_end {s : Sub} {v : Int} {i : Nat} (hi : s.nulls.length ≤ i) (hb : (s.nulls.take i).any (fun k => decide (-1 - k = v)) = false) : applyV s v = v := by
  have h1 : subIx s v = -1 := fidx_end (p := fun k => decide (-1 - k = v)) hi hb
  simp [applyV, h1]
def H190 : List (Nat × Hint) := [(0, ⟨[], [0, 4]⟩), (2, ⟨[(false, []), (false, []), (false, []), (false, []), (false, []), (true, []), (false, []), (false, []), (false, [])], [6, 7, 8, 9, 10, 11, 12, 13]⟩), (3, ⟨[], [15, 16]⟩), (4, ⟨[], [17, 18, 19, 20, 21, 22, 23]⟩), (5, ⟨[], [2, 5, 25, 26, 27, 28, 29]⟩), (6, ⟨[], [1, 30]⟩)]
set_option maxHeartbeats 4000000 in
set_option maxRecDepth 100000 in
theorem ct_sApplyToValue (s : Sub) (v : Int) : Ct Tryz.prog 190 [ag s.av, sl (i64 v)] [] (sl (i64 (applyV s v))) [] [] := by
  refine ct_of_vc mixed tab_ok H190 Tryz.func190 rfl (by kernel_rfl) (by kernel_rfl) (by rfl) ?_
  intro hw _
  have hln : s.nulls.length ≤ 1125899906842624 := Wf.lenI (hw (ag s.av) (.head _) (.av (ints s.nulls)) (by simp [Sub.av]))
  clear hw
  conv => whnf
  refine loop_rule mixed tab_ok H190 (I := Nat) (fun i => [(.slot 5, iv i), (.slot 1, iv v), (.slot 2, .s (.lf (.ptr (2, 0) 0))), (.leaf (2, 0) 0, .l (.av (ints s.nulls))), (.leaf (2, 0) 1, .l (.av (ints s.vals)))]) (fun i => i ≤ s.nulls.length ∧ (s.nulls.take i).any (fun k => decide (-1 - k = v)) = false) (fun i => s.nulls.length - i) (by kernel_rfl) 0 (by simp) (wk_sound (ψ := []) ?_) ?_
  · conv => whnf
    repeat' (first
      | exact trivial
      | (refine ⟨rfl, ?_⟩; (conv => whnf))
      | (refine ⟨fun h => ?_, fun h => ?_⟩ <;> (try simp at h) <;> (try (exfalso; omega)) <;> (conv => whnf))
      | (intro b hb; (conv => whnf))
      | (refine And.intro ?_ ?_; (focus (rw [wrap64 (by omega) (by omega)] <;> rfl)); (conv => whnf))
      | (refine And.intro ?_ (And.intro ?_ (And.intro ?_ (And.intro ?_ ?_))); (focus (first | omega | (rw [wrap64 (by omega) (by omega)] <;> first | omega | rfl) | (simp; omega))); (focus (first | omega | (rw [wrap64 (by omega) (by omega)] <;> first | omega | rfl) | (simp; omega))); (focus (first | omega | (rw [wrap64 (by omega) (by omega)] <;> first | omega | rfl) | (simp; omega))); (focus ((repeat' (first | exact sz_nil | exact sz_map fun _ => rfl | apply sz_take | apply sz_drop | apply sz_append | apply sz_cons rfl)); done)); (conv => whnf))
      | (refine And.intro ?_ (And.intro ?_ ?_); (focus (first | omega | (rw [wrap64 (by omega) (by omega)] <;> first | omega | rfl) | (simp; omega))); (focus ((repeat' (first | exact sz_nil | exact sz_map fun _ => rfl | apply sz_take | apply sz_drop | apply sz_append | apply sz_cons rfl)); done)); (conv => whnf))
      | (refine And.intro ?_ (And.intro ?_ ?_); (focus (first | omega | (rw [wrap64 (by omega) (by omega)] <;> first | omega | rfl) | (simp; omega))); (focus (first | omega | (rw [wrap64 (by omega) (by omega)] <;> first | omega | rfl) | (simp; omega))); (conv => whnf))
      | (rw [beq_g]; (conv => whnf))
      | fail)
  rintro i ⟨hi, hb⟩
  conv => whnf
  refine ⟨fun hlt => ?_, fun hlt => ?_⟩ <;> (try simp at hlt) <;> (conv => whnf)
  · refine .inl ?_
    conv => whnf
    refine ⟨_, _, _, _, ct_sIsValidSubstitution s, ?_⟩
    conv => whnf
    refine ⟨fun hv => ?_, fun hv => ?_⟩ <;> (try simp at hv) <;> (conv => whnf)
    · have hvs := validSub_nulls hv
      have hlt2 : i < s.vals.length := by omega
      repeat' (first
        | exact trivial
        | (refine ⟨rfl, ?_⟩; (conv => whnf))
        | (refine ⟨fun h => ?_, fun h => ?_⟩ <;> (try simp at h) <;> (try (exfalso; omega)) <;> (conv => whnf))
        | (intro b hb; (conv => whnf))
        | (refine .inl ?_; (conv => whnf); first | (refine ⟨_, _, _, _, ct_sNullValue _ (hvs.2 i hlt).1, ?_⟩; (conv => whnf)) | fail)
        | (refine And.intro ?_ ?_; (focus (rw [wrap64 (by omega) (by omega)] <;> rfl)); (conv => whnf))
        | (refine ⟨[i64 s.nulls[i]], ?_, map_getI ?_ ?_, rfl, ?_⟩; (focus (first | omega | (rw [wrap64 (by omega) (by omega)] <;> first | omega | rfl) | (simp; omega))); (focus (first | rfl | omega | (rw [wrap64 (by omega) (by omega)] <;> first | omega | rfl))); (focus omega); (conv => whnf))
        | (refine ⟨[i64 s.nulls[i]], map_getI ?_ ?_, ?_, ?_, ?_⟩; (focus (first | rfl | omega | (rw [wrap64 (by omega) (by omega)] <;> first | omega | rfl))); (focus omega); (focus (simp; done)); (focus (simp; done)); (conv => whnf))
        | (refine ⟨[i64 s.nulls[i]], map_getI ?_ ?_, ?_⟩; (focus (first | rfl | omega | (rw [wrap64 (by omega) (by omega)] <;> first | omega | rfl))); (focus omega); (conv => whnf))
        | (refine ⟨[i64 s.vals[i]], ?_, map_getI ?_ ?_, rfl, ?_⟩; (focus (first | omega | (rw [wrap64 (by omega) (by omega)] <;> first | omega | rfl) | (simp; omega))); (focus (first | rfl | omega | (rw [wrap64 (by omega) (by omega)] <;> first | omega | rfl))); (focus omega); (conv => whnf))
        | (refine ⟨[i64 s.vals[i]], map_getI ?_ ?_, ?_, ?_, ?_⟩; (focus (first | rfl | omega | (rw [wrap64 (by omega) (by omega)] <;> first | omega | rfl))); (focus omega); (focus (simp; done)); (focus (simp; done)); (conv => whnf))
        | (refine ⟨[i64 s.vals[i]], map_getI ?_ ?_, ?_⟩; (focus (first | rfl | omega | (rw [wrap64 (by omega) (by omega)] <;> first | omega | rfl))); (focus omega); (conv => whnf))
        | (refine And.intro ?_ (And.intro ?_ (And.intro ?_ (And.intro ?_ ?_))); (focus (first | omega | (rw [wrap64 (by omega) (by omega)] <;> first | omega | rfl) | (simp; omega))); (focus (first | omega | (rw [wrap64 (by omega) (by omega)] <;> first | omega | rfl) | (simp; omega))); (focus (first | omega | (rw [wrap64 (by omega) (by omega)] <;> first | omega | rfl) | (simp; omega))); (focus ((repeat' (first | exact sz_nil | exact sz_map fun _ => rfl | apply sz_take | apply sz_drop | apply sz_append | apply sz_cons rfl)); done)); (conv => whnf))
        | (refine And.intro ?_ (And.intro ?_ ?_); (focus (first | omega | (rw [wrap64 (by omega) (by omega)] <;> first | omega | rfl) | (simp; omega))); (focus ((repeat' (first | exact sz_nil | exact sz_map fun _ => rfl | apply sz_take | apply sz_drop | apply sz_append | apply sz_cons rfl)); done)); (conv => whnf))
        | (refine And.intro ?_ (And.intro ?_ ?_); (focus (first | omega | (rw [wrap64 (by omega) (by omega)] <;> first | omega | rfl) | (simp; omega))); (focus (first | omega | (rw [wrap64 (by omega) (by omega)] <;> first | omega | rfl) | (simp; omega))); (conv => whnf))
        | (refine ⟨i + 1, ?_, ?_, wk_sound (ψ := []) ?_⟩; (focus (exact ⟨hlt, any_next (p := fun k => decide (-1 - k = v)) hlt (by simpa using h) hb⟩)); (focus (first | omega | (rw [wrap64 (by omega) (by omega)] <;> first | omega | rfl) | (simp; omega))); (conv => whnf); (fail_if_success show False))
        | (refine And.intro ?_ ?_; (focus (rw [applyV_hit hv hlt hlt2 (by assumption) hb])); (conv => whnf))
        | (rw [beq_g]; (conv => whnf))
        | fail)
    · repeat' (first
        | exact trivial
        | (refine ⟨rfl, ?_⟩; (conv => whnf))
        | (refine ⟨fun h => ?_, fun h => ?_⟩ <;> (try simp at h) <;> (try (exfalso; omega)) <;> (conv => whnf))
        | (intro b hb; (conv => whnf))
        | (refine And.intro ?_ ?_; (focus (rw [wrap64 (by omega) (by omega)] <;> rfl)); (conv => whnf))
        | (refine And.intro ?_ (And.intro ?_ (And.intro ?_ (And.intro ?_ ?_))); (focus (first | omega | (rw [wrap64 (by omega) (by omega)] <;> first | omega | rfl) | (simp; omega))); (focus (first | omega | (rw [wrap64 (by omega) (by omega)] <;> first | omega | rfl) | (simp; omega))); (focus (first | omega | (rw [wrap64 (by omega) (by omega)] <;> first | omega | rfl) | (simp; omega))); (focus ((repeat' (first | exact sz_nil | exact sz_map fun _ => rfl | apply sz_take | apply sz_drop | apply sz_append | apply sz_cons rfl)); done)); (conv => whnf))
        | (refine And.intro ?_ (And.intro ?_ ?_); (focus (first | omega | (rw [wrap64 (by omega) (by omega)] <;> first | omega | rfl) | (simp; omega))); (focus ((repeat' (first | exact sz_nil | exact sz_map fun _ => rfl | apply sz_take | apply sz_drop | apply sz_append | apply sz_cons rfl)); done)); (conv => whnf))
        | (refine And.intro ?_ (And.intro ?_ ?_); (focus (first | omega | (rw [wrap64 (by omega) (by omega)] <;> first | omega | rfl) | (simp; omega))); (focus (first | omega | (rw [wrap64 (by omega) (by omega)] <;> first | omega | rfl) | (simp; omega))); (conv => whnf))
        | (refine And.intro ?_ ?_; (focus (rw [applyV_inv hv])); (conv => whnf))
        | (rw [beq_g]; (conv => whnf))
        | fail)
  · repeat' (first
      | exact trivial
      | (refine ⟨rfl, ?_⟩; (conv => whnf))
      | (refine ⟨fun h => ?_, fun h => ?_⟩ <;> (try simp at h) <;> (try (exfalso; omega)) <;> (conv => whnf))
      | (intro b hb; (conv => whnf))
      | (refine And.intro ?_ ?_; (focus (rw [wrap64 (by omega) (by omega)] <;> rfl)); (conv => whnf))
      | (refine And.intro ?_ (And.intro ?_ (And.intro ?_ (And.intro ?_ ?_))); (focus (first | omega | (rw [wrap64 (by omega) (by omega)] <;> first | omega | rfl) | (simp; omega))); (focus (first | omega | (rw [wrap64 (by omega) (by omega)] <;> first | omega | rfl) | (simp; omega))); (focus (first | omega | (rw [wrap64 (by omega) (by omega)] <;> first | omega | rfl) | (simp; omega))); (focus ((repeat' (first | exact sz_nil | exact sz_map fun _ => rfl | apply sz_take | apply sz_drop | apply sz_append | apply sz_cons rfl)); done)); (conv => whnf))
      | (refine And.intro ?_ (And.intro ?_ ?_); (focus (first | omega | (rw [wrap64 (by omega) (by omega)] <;> first | omega | rfl) | (simp; omega))); (focus ((repeat' (first | exact sz_nil | exact sz_map fun _ => rfl | apply sz_take | apply sz_drop | apply sz_append | apply sz_cons rfl)); done)); (conv => whnf))
      | (refine And.intro ?_ (And.intro ?_ ?_); (focus (first | omega | (rw [wrap64 (by omega) (by omega)] <;> first | omega | rfl) | (simp; omega))); (focus (first | omega | (rw [wrap64 (by omega) (by omega)] <;> first | omega | rfl) | (simp; omega))); (conv => whnf))
      | (refine And.intro ?_ ?_; (focus (rw [applyV_end hlt hb])); (conv => whnf))
      | (rw [beq_g]; (conv => whnf))
      | fail)
theorem subIx_no {s : Sub} {v : Int} (h : validSub s = true) (hn : isNo v = false) : subIx s v = -1 := by
  have hvs := validSub_nulls h
  refine fidx_end (p := fun k => decide (-1 - k = v)) (i := s.nulls.length) (Nat.le_refl _) ?_
  rw [List.take_length, List.any_eq_false]
  intro k hk
  obtain ⟨i, hi, rfl⟩ := List.getElem_of_mem hk
  have := hvs.2 i hi
  have h3 : ¬ (0 ≤ -1 - v ∧ -1 - v ≤ 39) := fun hh => by rw [isNo, inR_iff.2 hh] at hn; cases hn
  simp; omega
theorem fidx_congr {α : Type} {p q : α → Bool} {l : List α} (h : ∀ x, p x = q x) : fidx p l = fidx q l := by
  have : p = q := funext h
  rw [this]
theorem subIx_eq {s : Sub} {v : Int} (hn : isNo v = true) : fidx (fun y => decide (nullNo v = y)) s.nulls = subIx s v := by
  rw [nullNo_eq hn]
  exact fidx_congr fun x => decide_eq_decide.2 (by omega)
def H206 : List (Nat × Hint) := [(0, ⟨[], [0, 4]⟩), (1, ⟨[], [8, 9, 10, 11, 12]⟩), (2, ⟨[], [5, 13, 14, 15, 16]⟩), (3, ⟨[(false, []), (false, []), (true, []), (false, []), (false, []), (false, []), (true, []), (false, []), (false, []), (false, []), (false, [])], [6, 17, 18, 19, 20, 21, 22, 23, 24, 25, 26]⟩), (4, ⟨[], [1, 28]⟩), (5, ⟨[], [2, 7, 29, 30, 31, 32, 33]⟩)]
set_option maxHeartbeats 4000000 in
set_option maxRecDepth 100000 in
theorem ct_iApplyToValue (s : Sub) (v : Int) : Ct Tryz.prog 206 [ag s.av, sl (i64 v)] [] (sl (i64 (applyV s v))) [] [] := by
  refine ct_of_vc mixed tab_ok H206 Tryz.func206 rfl (by kernel_rfl) (by kernel_rfl) (by rfl) ?_
  intro hw _
  clear hw
  conv => whnf
  refine .inl ?_
  conv => whnf
  refine ⟨_, _, _, _, ct_iNullNumber v, ?_⟩
  conv => whnf
  refine .inl ?_
  conv => whnf
  refine ⟨_, _, _, _, ct_IndexInt _ _, ?_⟩
  conv => whnf
  refine ⟨fun hn => ?_, fun hn => ?_⟩ <;> (try simp at hn) <;> (conv => whnf)
  · have e : applyV s v = v := by
      cases hv : validSub s with
      | false => exact applyV_inv hv
      | true => simp [applyV, subIx_no hv hn]
    rw [e]
    repeat' (first
      | exact trivial
      | (refine ⟨rfl, ?_⟩; (conv => whnf))
      | (refine ⟨fun h => ?_, fun h => ?_⟩ <;> (try simp at h) <;> (try (exfalso; omega)) <;> (conv => whnf))
      | (intro b hb; (conv => whnf))
      | (refine And.intro ?_ ?_; (focus (rw [wrap64 (by omega) (by omega)] <;> rfl)); (conv => whnf))
      | (refine And.intro ?_ (And.intro ?_ (And.intro ?_ (And.intro ?_ ?_))); (focus (first | omega | (rw [wrap64 (by omega) (by omega)] <;> first | omega | rfl) | (simp; omega))); (focus (first | omega | (rw [wrap64 (by omega) (by omega)] <;> first | omega | rfl) | (simp; omega))); (focus (first | omega | (rw [wrap64 (by omega) (by omega)] <;> first | omega | rfl) | (simp; omega))); (focus ((repeat' (first | exact sz_nil | exact sz_map fun _ => rfl | apply sz_take | apply sz_drop | apply sz_append | apply sz_cons rfl)); done)); (conv => whnf))
      | (refine And.intro ?_ (And.intro ?_ ?_); (focus (first | omega | (rw [wrap64 (by omega) (by omega)] <;> first | omega | rfl) | (simp; omega))); (focus ((repeat' (first | exact sz_nil | exact sz_map fun _ => rfl | apply sz_take | apply sz_drop | apply sz_append | apply sz_cons rfl)); done)); (conv => whnf))
      | (refine And.intro ?_ (And.intro ?_ ?_); (focus (first | omega | (rw [wrap64 (by omega) (by omega)] <;> first | omega | rfl) | (simp; omega))); (focus (first | omega | (rw [wrap64 (by omega) (by omega)] <;> first | omega | rfl) | (simp; omega))); (conv => whnf))
      | (rw [beq_g]; (conv => whnf))
      | fail)
  rw [subIx_eq hn]
  refine ⟨fun hi => ?_, fun hi => ?_⟩ <;> (try simp at hi) <;> (conv => whnf)
  · have e : applyV s v = v := by simp only [applyV]; rw [if_neg (by omega)]
    rw [e]
    repeat' (first
      | exact trivial
      | (refine ⟨rfl, ?_⟩; (conv => whnf))
      | (refine ⟨fun h => ?_, fun h => ?_⟩ <;> (try simp at h) <;> (try (exfalso; omega)) <;> (conv => whnf))
      | (intro b hb; (conv => whnf))
      | (refine And.intro ?_ ?_; (focus (rw [wrap64 (by omega) (by omega)] <;> rfl)); (conv => whnf))
      | (refine And.intro ?_ (And.intro ?_ (And.intro ?_ (And.intro ?_ ?_))); (focus (first | omega | (rw [wrap64 (by omega) (by omega)] <;> first | omega | rfl) | (simp; omega))); (focus (first | omega | (rw [wrap64 (by omega) (by omega)] <;> first | omega | rfl) | (simp; omega))); (focus (first | omega | (rw [wrap64 (by omega) (by omega)] <;> first | omega | rfl) | (simp; omega))); (focus ((repeat' (first | exact sz_nil | exact sz_map fun _ => rfl | apply sz_take | apply sz_drop | apply sz_append | apply sz_cons rfl)); done)); (conv => whnf))
      | (refine And.intro ?_ (And.intro ?_ ?_); (focus (first | omega | (rw [wrap64 (by omega) (by omega)] <;> first | omega | rfl) | (simp; omega))); (focus ((repeat' (first | exact sz_nil | exact sz_map fun _ => rfl | apply sz_take | apply sz_drop | apply sz_append | apply sz_cons rfl)); done)); (conv => whnf))
      | (refine And.intro ?_ (And.intro ?_ ?_); (focus (first | omega | (rw [wrap64 (by omega) (by omega)] <;> first | omega | rfl) | (simp; omega))); (focus (first | omega | (rw [wrap64 (by omega) (by omega)] <;> first | omega | rfl) | (simp; omega))); (conv => whnf))
      | (rw [beq_g]; (conv => whnf))
      | fail)
  refine .inl ?_
  conv => whnf
  refine ⟨_, _, _, _, ct_iIsValidSubstitution s, ?_⟩
  conv => whnf
  refine ⟨fun hv => ?_, fun hv => ?_⟩ <;> (try simp at hv) <;> (conv => whnf)
  · rw [applyV_inv hv]
    repeat' (first
      | exact trivial
      | (refine ⟨rfl, ?_⟩; (conv => whnf))
      | (refine ⟨fun h => ?_, fun h => ?_⟩ <;> (try simp at h) <;> (try (exfalso; omega)) <;> (conv => whnf))
      | (intro b hb; (conv => whnf))
      | (refine And.intro ?_ ?_; (focus (rw [wrap64 (by omega) (by omega)] <;> rfl)); (conv => whnf))
      | (refine And.intro ?_ (And.intro ?_ (And.intro ?_ (And.intro ?_ ?_))); (focus (first | omega | (rw [wrap64 (by omega) (by omega)] <;> first | omega | rfl) | (simp; omega))); (focus (first | omega | (rw [wrap64 (by omega) (by omega)] <;> first | omega | rfl) | (simp; omega))); (focus (first | omega | (rw [wrap64 (by omega) (by omega)] <;> first | omega | rfl) | (simp; omega))); (focus ((repeat' (first | exact sz_nil | exact sz_map fun _ => rfl | apply sz_take | apply sz_drop | apply sz_append | apply sz_cons rfl)); done)); (conv => whnf))
      | (refine And.intro ?_ (And.intro ?_ ?_); (focus (first | omega | (rw [wrap64 (by omega) (by omega)] <;> first | omega | rfl) | (simp; omega))); (focus ((repeat' (first | exact sz_nil | exact sz_map fun _ => rfl | apply sz_take | apply sz_drop | apply sz_append | apply sz_cons rfl)); done)); (conv => whnf))
      | (refine And.intro ?_ (And.intro ?_ ?_); (focus (first | omega | (rw [wrap64 (by omega) (by omega)] <;> first | omega | rfl) | (simp; omega))); (focus (first | omega | (rw [wrap64 (by omega) (by omega)] <;> first | omega | rfl) | (simp; omega))); (conv => whnf))
      | (rw [beq_g]; (conv => whnf))
      | fail)
  have hl := (validSub_nulls hv).1
  have hix : (subIx s v).toNat < s.vals.length := by
    have h1 : s.nulls.any (fun k => decide (-1 - k = v)) = true := by
      rw [← fidx_any]; simpa [subIx] using hi
    have h2 : subIx s v = (s.nulls.findIdx (fun k => decide (-1 - k = v)) : Int) := by simp [subIx, fidx, h1]
    have h3 := List.findIdx_lt_length.2 (List.any_eq_true.1 h1)
    omega
  have e : applyV s v = s.vals[(subIx s v).toNat] := by simp only [applyV]; rw [if_pos ⟨hv, hi⟩, getD_eq hix]
  rw [e]
  repeat' (first
    | exact trivial
    | (refine ⟨rfl, ?_⟩; (conv => whnf))
    | (refine ⟨fun h => ?_, fun h => ?_⟩ <;> (try simp at h) <;> (try (exfalso; omega)) <;> (conv => whnf))
    | (intro b hb; (conv => whnf))
    | (refine And.intro ?_ ?_; (focus (rw [wrap64 (by omega) (by omega)] <;> rfl)); (conv => whnf))
    | (refine ⟨[i64 s.vals[(subIx s v).toNat]], ?_, map_getI ?_ ?_, rfl, ?_⟩; (focus (first | omega | (rw [wrap64 (by omega) (by omega)] <;> first | omega | rfl) | (simp; omega))); (focus (first | rfl | omega | (rw [wrap64 (by omega) (by omega)] <;> first | omega | rfl))); (focus omega); (conv => whnf))
    | (refine ⟨[i64 s.vals[(subIx s v).toNat]], map_getI ?_ ?_, ?_, ?_, ?_⟩; (focus (first | rfl | omega | (rw [wrap64 (by omega) (by omega)] <;> first | omega | rfl))); (focus omega); (focus (simp; done)); (focus (simp; done)); (conv => whnf))
    | (refine ⟨[i64 s.vals[(subIx s v).toNat]], map_getI ?_ ?_, ?_⟩; (focus (first | rfl | omega | (rw [wrap64 (by omega) (by omega)] <;> first | omega | rfl))); (focus omega); (conv => whnf))
    | (refine And.intro ?_ (And.intro ?_ (And.intro ?_ (And.intro ?_ ?_))); (focus (first | omega | (rw [wrap64 (by omega) (by omega)] <;> first | omega | rfl) | (simp; omega))); (focus (first | omega | (rw [wrap64 (by omega) (by omega)] <;> first | omega | rfl) | (simp; omega))); (focus (first | omega | (rw [wrap64 (by omega) (by omega)] <;> first | omega | rfl) | (simp; omega))); (focus ((repeat' (first | exact sz_nil | exact sz_map fun _ => rfl | apply sz_take | apply sz_drop | apply sz_append | apply sz_cons rfl)); done)); (conv => whnf))
    | (refine And.intro ?_ (And.intro ?_ ?_); (focus (first | omega | (rw [wrap64 (by omega) (by omega)] <;> first | omega | rfl) | (simp; omega))); (focus ((repeat' (first | exact sz_nil | exact sz_map fun _ => rfl | apply sz_take | apply sz_drop | apply sz_append | apply sz_cons rfl)); done)); (conv => whnf))
    | (refine And.intro ?_ (And.intro ?_ ?_); (focus (first | omega | (rw [wrap64 (by omega) (by omega)] <;> first | omega | rfl) | (simp; omega))); (focus (first | omega | (rw [wrap64 (by omega) (by omega)] <;> first | omega | rfl) | (simp; omega))); (conv => whnf))
    | (refine And.intro ?_ ?_; (focus (fail)); (conv => whnf))
    | (rw [beq_g]; (conv => whnf))
    | fail)
end Go.Proofs.YtccbimcikbbecaaGreat
/- Facts under substitutions; facts put into instances; nulls of instances. -/
namespace Go.Proofs.YtccbimcikbbecaaGreat
open Go P1
def applyF (s : Sub) (f : Fact) : Fact := ⟨f.rel, f.vals.map (applyV s)⟩
def H159 : List (Nat × Hint) := [(0, ⟨[], [0, 1]⟩), (1, ⟨[], [7, 8, 9]⟩), (3, ⟨[], [10, 11, 12, 13]⟩), (4, ⟨[], [15, 16]⟩), (5, ⟨[(false, []), (false, []), (false, [0, 1]), (false, [0, 1, 2]), (false, [1, 2, 3]), (false, [0, 1, 2, 3, 4]), (false, [3, 4, 5]), (false, [4, 5, 6]), (false, [6, 7]), (false, [7, 8]), (false, []), (false, []), (false, [])], [17, 18, 19, 20, 21, 22, 23, 24, 25, 26, 27, 28]⟩), (6, ⟨[], [5, 29]⟩)]
set_option maxHeartbeats 4000000 in
set_option maxRecDepth 100000 in
theorem ct_sApplyToFact (s : Sub) (f : Fact) (hn : f.vals.length ≤ 1000000) : Ct Tryz.prog 159 [ag s.av, ag f.av] [] (ag (applyF s f).av) [] [] := by
  refine ct_of_vc mixed tab_ok H159 Tryz.func159 rfl (by kernel_rfl) (by kernel_rfl) (by rfl) ?_
  intro hw _
  clear hw
  conv => whnf
  refine loop_rule mixed tab_ok H159 (I := Nat) (fun i => [(.leaf (5, 0) 1, .l (.own (0, 0))), (.row (0, 0), .r ⟨3, 1, true, ((f.vals.take i).map (applyV s)).map ielem⟩), (.leaf (5, 0) 0, .l (.av (i64 f.rel))), (.slot 5, .s (.lf (.ptr (5, 0) 0))), (.slot 6, iv i), (.slot 4, .s (.lf (.ptr (4, 0) 0))), (.leaf (4, 0) 0, .l (.av (i64 0))), (.leaf (4, 0) 1, .l .nil), (.slot 2, .s (.lf (.ptr (2, 0) 0))), (.leaf (2, 0) 0, .l (.av (ints s.nulls))), (.leaf (2, 0) 1, .l (.av (ints s.vals))), (.slot 3, .s (.lf (.ptr (3, 0) 0))), (.leaf (3, 0) 0, .l (.av (i64 f.rel))), (.leaf (3, 0) 1, .l (.av (ints f.vals)))]) (fun i => i ≤ f.vals.length) (fun i => f.vals.length - i) (by kernel_rfl) 0 (by omega) (wk_nil (.leaf (5, 0) 1) 0 3 1 (ψ := []) (by decide) ?_) ?_
  · conv => whnf
    repeat' (first
      | exact trivial
      | (refine ⟨rfl, ?_⟩; (conv => whnf))
      | (refine ⟨fun h => ?_, fun h => ?_⟩ <;> (try simp at h) <;> (try (exfalso; omega)) <;> (conv => whnf))
      | (intro b hb; (conv => whnf))
      | (refine And.intro ?_ ?_; (focus (rw [wrap64 (by omega) (by omega)] <;> rfl)); (conv => whnf))
      | (refine And.intro ?_ (And.intro ?_ (And.intro ?_ (And.intro ?_ ?_))); (focus (first | omega | (rw [wrap64 (by omega) (by omega)] <;> first | omega | rfl) | (simp; omega))); (focus (first | omega | (rw [wrap64 (by omega) (by omega)] <;> first | omega | rfl) | (simp; omega))); (focus (first | omega | (rw [wrap64 (by omega) (by omega)] <;> first | omega | rfl) | (simp; omega))); (focus ((repeat' (first | exact sz_nil | exact sz_map fun _ => rfl | apply sz_take | apply sz_drop | apply sz_append | apply sz_cons rfl)); done)); (conv => whnf))
      | (refine And.intro ?_ (And.intro ?_ ?_); (focus (first | omega | (rw [wrap64 (by omega) (by omega)] <;> first | omega | rfl) | (simp; omega))); (focus ((repeat' (first | exact sz_nil | exact sz_map fun _ => rfl | apply sz_take | apply sz_drop | apply sz_append | apply sz_cons rfl)); done)); (conv => whnf))
      | (refine And.intro ?_ (And.intro ?_ ?_); (focus (first | omega | (rw [wrap64 (by omega) (by omega)] <;> first | omega | rfl) | (simp; omega))); (focus (first | omega | (rw [wrap64 (by omega) (by omega)] <;> first | omega | rfl) | (simp; omega))); (conv => whnf))
      | (rw [beq_g]; (conv => whnf))
      | fail)
  intro i hi
  conv => whnf
  repeat' (first
    | exact trivial
    | (refine ⟨rfl, ?_⟩; (conv => whnf))
    | (refine ⟨fun h => ?_, fun h => ?_⟩ <;> (try simp at h) <;> (try (exfalso; omega)) <;> (conv => whnf))
    | (intro b hb; (conv => whnf))
    | (refine .inl ?_; (conv => whnf); first | (refine ⟨_, _, _, _, ct_sApplyToValue _ _, ?_⟩; (conv => whnf)) | fail)
    | (refine And.intro ?_ ?_; (focus (rw [wrap64 (by omega) (by omega)] <;> rfl)); (conv => whnf))
    | (refine ⟨[i64 f.vals[i]], ?_, map_getI ?_ ?_, rfl, ?_⟩; (focus (first | omega | (rw [wrap64 (by omega) (by omega)] <;> first | omega | rfl) | (simp; omega))); (focus (first | rfl | omega | (rw [wrap64 (by omega) (by omega)] <;> first | omega | rfl))); (focus omega); (conv => whnf))
    | (refine ⟨[i64 f.vals[i]], map_getI ?_ ?_, ?_, ?_, ?_⟩; (focus (first | rfl | omega | (rw [wrap64 (by omega) (by omega)] <;> first | omega | rfl))); (focus omega); (focus (simp; done)); (focus (simp; done)); (conv => whnf))
    | (refine ⟨[i64 f.vals[i]], map_getI ?_ ?_, ?_⟩; (focus (first | rfl | omega | (rw [wrap64 (by omega) (by omega)] <;> first | omega | rfl))); (focus omega); (conv => whnf))
    | (refine And.intro ?_ (And.intro ?_ (And.intro ?_ (And.intro ?_ ?_))); (focus (first | omega | (rw [wrap64 (by omega) (by omega)] <;> first | omega | rfl) | (simp; omega))); (focus (first | omega | (rw [wrap64 (by omega) (by omega)] <;> first | omega | rfl) | (simp; omega))); (focus (first | omega | (rw [wrap64 (by omega) (by omega)] <;> first | omega | rfl) | (simp; omega))); (focus ((repeat' (first | exact sz_nil | exact sz_map fun _ => rfl | apply sz_take | apply sz_drop | apply sz_append | apply sz_cons rfl)); done)); (conv => whnf))
    | (refine And.intro ?_ (And.intro ?_ ?_); (focus (first | omega | (rw [wrap64 (by omega) (by omega)] <;> first | omega | rfl) | (simp; omega))); (focus ((repeat' (first | exact sz_nil | exact sz_map fun _ => rfl | apply sz_take | apply sz_drop | apply sz_append | apply sz_cons rfl)); done)); (conv => whnf))
    | (refine And.intro ?_ (And.intro ?_ ?_); (focus (first | omega | (rw [wrap64 (by omega) (by omega)] <;> first | omega | rfl) | (simp; omega))); (focus (first | omega | (rw [wrap64 (by omega) (by omega)] <;> first | omega | rfl) | (simp; omega))); (conv => whnf))
    | (refine ⟨i + 1, ?_, ?_, wk_sound (ψ := [((0, 0), (27, 0))]) ?_⟩; (focus (omega)); (focus (first | omega | (rw [wrap64 (by omega) (by omega)] <;> first | omega | rfl) | (simp; omega))); (conv => whnf); (fail_if_success show False))
    | (refine And.intro ?_ ?_; (focus (first | (rw [List.take_of_length_le (by assumption)]; rfl) | (rw [take_snoc (by assumption), List.map_append, List.map_append]; rfl))); (conv => whnf))
    | (rw [beq_g]; (conv => whnf))
    | fail)
def fillV (s : Sub) (l : List Int) (i : Nat) : List Int := (l.take i).map (applyV s) ++ l.drop i
theorem fillV_len {s : Sub} {l : List Int} {i : Nat} (h : i ≤ l.length) : (fillV s l i).length = l.length := by simp [fillV]; omega
theorem fillV_set {s : Sub} {l : List Int} {i : Nat} (h : i < l.length) : (fillV s l i).set i (applyV s l[i]) = fillV s l (i + 1) := by
  simp only [fillV]
  rw [List.set_append_right _ _ (by simp; omega), take_snoc h, List.map_append]
  have h1 : i - ((l.take i).map (applyV s)).length = 0 := by simp; omega
  rw [h1, drop_cons h, List.set_cons_zero, List.append_assoc]; rfl
def H196 : List (Nat × Hint) := [(0, ⟨[], [0, 1]⟩), (1, ⟨[], [8, 9]⟩), (2, ⟨[], [3, 10]⟩), (4, ⟨[], [15, 16, 17]⟩), (5, ⟨[(false, []), (false, []), (false, [0, 1]), (false, [0, 1, 2]), (false, [0, 1, 2, 3]), (false, [2, 3, 4]), (false, []), (false, [])], [6, 7, 18, 19, 20, 21, 22, 23, 24]⟩), (6, ⟨[], [25]⟩), (7, ⟨[], [5, 26]⟩)]
set_option maxHeartbeats 4000000 in
set_option maxRecDepth 100000 in
theorem ct_iApplyToFact (s : Sub) (f : Fact) (hn : f.vals.length ≤ 1000000) (h0 : f.vals ≠ []) : Ct Tryz.prog 196 [ag s.av, ag f.av] [] (ag (applyF s f).av) [] [] := by
  refine ct_of_vc mixed tab_ok H196 Tryz.func196 rfl (by kernel_rfl) (by kernel_rfl) (by rfl) ?_
  intro hw _
  clear hw
  conv => whnf
  repeat' (first
    | exact trivial
    | (refine ⟨rfl, ?_⟩; (conv => whnf))
    | (refine ⟨fun h => ?_, fun h => ?_⟩ <;> (try simp at h) <;> (try (exfalso; omega)) <;> (conv => whnf))
    | (intro b hb; (conv => whnf))
    | (refine .inl ?_; (conv => whnf); first | (refine ⟨_, _, _, _, ct_factCopyo f hn h0, ?_⟩; (conv => whnf)) | fail)
    | (refine And.intro ?_ ?_; (focus (rw [wrap64 (by omega) (by omega)] <;> rfl)); (conv => whnf))
    | (refine And.intro ?_ (And.intro ?_ (And.intro ?_ (And.intro ?_ ?_))); (focus (first | omega | (rw [wrap64 (by omega) (by omega)] <;> first | omega | rfl) | (simp; omega))); (focus (first | omega | (rw [wrap64 (by omega) (by omega)] <;> first | omega | rfl) | (simp; omega))); (focus (first | omega | (rw [wrap64 (by omega) (by omega)] <;> first | omega | rfl) | (simp; omega))); (focus ((repeat' (first | exact sz_nil | exact sz_map fun _ => rfl | apply sz_take | apply sz_drop | apply sz_append | apply sz_cons rfl)); done)); (conv => whnf))
    | (refine And.intro ?_ (And.intro ?_ ?_); (focus (first | omega | (rw [wrap64 (by omega) (by omega)] <;> first | omega | rfl) | (simp; omega))); (focus ((repeat' (first | exact sz_nil | exact sz_map fun _ => rfl | apply sz_take | apply sz_drop | apply sz_append | apply sz_cons rfl)); done)); (conv => whnf))
    | (refine And.intro ?_ (And.intro ?_ ?_); (focus (first | omega | (rw [wrap64 (by omega) (by omega)] <;> first | omega | rfl) | (simp; omega))); (focus (first | omega | (rw [wrap64 (by omega) (by omega)] <;> first | omega | rfl) | (simp; omega))); (conv => whnf))
    | (rw [beq_g]; (conv => whnf))
    | fail)
  refine loop_rule mixed tab_ok H196 (I := Nat) (fun i => [(.leaf (5, 0) 1, .l (.own (9, 0))), (.row (9, 0), .r ⟨3, 1, true, (fillV s f.vals i).map ielem⟩), (.leaf (5, 0) 0, .l (.av (i64 f.rel))), (.slot 5, .s (.lf (.ptr (5, 0) 0))), (.slot 13, iv i), (.slot 12, iv f.vals.length), (.slot 11, .s (sl (ints f.vals))), (.slot 4, .s (.lf (.ptr (4, 0) 0))), (.leaf (4, 0) 0, .l (.av (i64 0))), (.leaf (4, 0) 1, .l .nil), (.slot 2, .s (.lf (.ptr (2, 0) 0))), (.leaf (2, 0) 0, .l (.av (ints s.nulls))), (.leaf (2, 0) 1, .l (.av (ints s.vals)))]) (fun i => i ≤ f.vals.length) (fun i => f.vals.length - i) (by kernel_rfl) 0 (by omega) (wk_sound (ψ := []) ?_) ?_
  · conv => whnf
    repeat' (first
      | exact trivial
      | (refine ⟨rfl, ?_⟩; (conv => whnf))
      | (refine ⟨fun h => ?_, fun h => ?_⟩ <;> (try simp at h) <;> (try (exfalso; omega)) <;> (conv => whnf))
      | (intro b hb; (conv => whnf))
      | (refine And.intro ?_ ?_; (focus (rw [wrap64 (by omega) (by omega)] <;> rfl)); (conv => whnf))
      | (refine And.intro ?_ (And.intro ?_ (And.intro ?_ (And.intro ?_ ?_))); (focus (first | omega | (rw [wrap64 (by omega) (by omega)] <;> first | omega | rfl) | (simp; omega))); (focus (first | omega | (rw [wrap64 (by omega) (by omega)] <;> first | omega | rfl) | (simp; omega))); (focus (first | omega | (rw [wrap64 (by omega) (by omega)] <;> first | omega | rfl) | (simp; omega))); (focus ((repeat' (first | exact sz_nil | exact sz_map fun _ => rfl | apply sz_take | apply sz_drop | apply sz_append | apply sz_cons rfl)); done)); (conv => whnf))
      | (refine And.intro ?_ (And.intro ?_ ?_); (focus (first | omega | (rw [wrap64 (by omega) (by omega)] <;> first | omega | rfl) | (simp; omega))); (focus ((repeat' (first | exact sz_nil | exact sz_map fun _ => rfl | apply sz_take | apply sz_drop | apply sz_append | apply sz_cons rfl)); done)); (conv => whnf))
      | (refine And.intro ?_ (And.intro ?_ ?_); (focus (first | omega | (rw [wrap64 (by omega) (by omega)] <;> first | omega | rfl) | (simp; omega))); (focus (first | omega | (rw [wrap64 (by omega) (by omega)] <;> first | omega | rfl) | (simp; omega))); (conv => whnf))
      | (refine And.intro ?_ ?_; (focus (simp [fillV]; done)); (conv => whnf))
      | (rw [beq_g]; (conv => whnf))
      | fail)
  intro i hi
  have hfl := fillV_len (s := s) hi
  conv => whnf
  refine ⟨fun hlt => ?_, fun hlt => ?_⟩ <;> (try simp at hlt) <;> (conv => whnf)
  · have hq : i < (fillV s f.vals i).length := by omega
    repeat' (first
      | exact trivial
      | (refine ⟨rfl, ?_⟩; (conv => whnf))
      | (refine ⟨fun h => ?_, fun h => ?_⟩ <;> (try simp at h) <;> (try (exfalso; omega)) <;> (conv => whnf))
      | (intro b hb; (conv => whnf))
      | (refine .inl ?_; (conv => whnf); first | (refine ⟨_, _, _, _, ct_iApplyToValue _ _, ?_⟩; (conv => whnf)) | fail)
      | (refine And.intro ?_ ?_; (focus (rw [wrap64 (by omega) (by omega)] <;> rfl)); (conv => whnf))
      | (refine ⟨[i64 f.vals[i]], ?_, map_getI ?_ ?_, rfl, ?_⟩; (focus (first | omega | (rw [wrap64 (by omega) (by omega)] <;> first | omega | rfl) | (simp; omega))); (focus (first | rfl | omega | (rw [wrap64 (by omega) (by omega)] <;> first | omega | rfl))); (focus omega); (conv => whnf))
      | (refine ⟨[i64 f.vals[i]], map_getI ?_ ?_, ?_, ?_, ?_⟩; (focus (first | rfl | omega | (rw [wrap64 (by omega) (by omega)] <;> first | omega | rfl))); (focus omega); (focus (simp; done)); (focus (simp; done)); (conv => whnf))
      | (refine ⟨[i64 f.vals[i]], map_getI ?_ ?_, ?_⟩; (focus (first | rfl | omega | (rw [wrap64 (by omega) (by omega)] <;> first | omega | rfl))); (focus omega); (conv => whnf))
      | (refine ⟨[i64 (fillV s f.vals i)[i]], ?_, map_getI ?_ ?_, rfl, ?_⟩; (focus (first | omega | (rw [wrap64 (by omega) (by omega)] <;> first | omega | rfl) | (simp; omega))); (focus (first | rfl | omega | (rw [wrap64 (by omega) (by omega)] <;> first | omega | rfl))); (focus omega); (conv => whnf))
      | (refine ⟨[i64 (fillV s f.vals i)[i]], map_getI ?_ ?_, ?_, ?_, ?_⟩; (focus (first | rfl | omega | (rw [wrap64 (by omega) (by omega)] <;> first | omega | rfl))); (focus omega); (focus (simp; done)); (focus (simp; done)); (conv => whnf))
      | (refine ⟨[i64 (fillV s f.vals i)[i]], map_getI ?_ ?_, ?_⟩; (focus (first | rfl | omega | (rw [wrap64 (by omega) (by omega)] <;> first | omega | rfl))); (focus omega); (conv => whnf))
      | (refine And.intro ?_ (And.intro ?_ (And.intro ?_ (And.intro ?_ ?_))); (focus (first | omega | (rw [wrap64 (by omega) (by omega)] <;> first | omega | rfl) | (simp; omega))); (focus (first | omega | (rw [wrap64 (by omega) (by omega)] <;> first | omega | rfl) | (simp; omega))); (focus (first | omega | (rw [wrap64 (by omega) (by omega)] <;> first | omega | rfl) | (simp; omega))); (focus ((repeat' (first | exact sz_nil | exact sz_map fun _ => rfl | apply sz_take | apply sz_drop | apply sz_append | apply sz_cons rfl)); done)); (conv => whnf))
      | (refine And.intro ?_ (And.intro ?_ ?_); (focus (first | omega | (rw [wrap64 (by omega) (by omega)] <;> first | omega | rfl) | (simp; omega))); (focus ((repeat' (first | exact sz_nil | exact sz_map fun _ => rfl | apply sz_take | apply sz_drop | apply sz_append | apply sz_cons rfl)); done)); (conv => whnf))
      | (refine And.intro ?_ (And.intro ?_ ?_); (focus (first | omega | (rw [wrap64 (by omega) (by omega)] <;> first | omega | rfl) | (simp; omega))); (focus (first | omega | (rw [wrap64 (by omega) (by omega)] <;> first | omega | rfl) | (simp; omega))); (conv => whnf))
      | (refine ⟨i + 1, ?_, ?_, wk_sound (ψ := []) ?_⟩; (focus (omega)); (focus (first | omega | (rw [wrap64 (by omega) (by omega)] <;> first | omega | rfl) | (simp; omega))); (conv => whnf); (fail_if_success show False))
      | (refine And.intro ?_ ?_; (focus (first | (rw [← fillV_set hlt, List.map_set] <;> rfl))); (conv => whnf))
      | (rw [beq_g]; (conv => whnf))
      | fail)
  · have e : i = f.vals.length := by omega
    subst e
    have e2 : fillV s f.vals f.vals.length = f.vals.map (applyV s) := by simp [fillV]
    rw [e2]
    repeat' (first
      | exact trivial
      | (refine ⟨rfl, ?_⟩; (conv => whnf))
      | (refine ⟨fun h => ?_, fun h => ?_⟩ <;> (try simp at h) <;> (try (exfalso; omega)) <;> (conv => whnf))
      | (intro b hb; (conv => whnf))
      | (refine And.intro ?_ ?_; (focus (rw [wrap64 (by omega) (by omega)] <;> rfl)); (conv => whnf))
      | (refine And.intro ?_ (And.intro ?_ (And.intro ?_ (And.intro ?_ ?_))); (focus (first | omega | (rw [wrap64 (by omega) (by omega)] <;> first | omega | rfl) | (simp; omega))); (focus (first | omega | (rw [wrap64 (by omega) (by omega)] <;> first | omega | rfl) | (simp; omega))); (focus (first | omega | (rw [wrap64 (by omega) (by omega)] <;> first | omega | rfl) | (simp; omega))); (focus ((repeat' (first | exact sz_nil | exact sz_map fun _ => rfl | apply sz_take | apply sz_drop | apply sz_append | apply sz_cons rfl)); done)); (conv => whnf))
      | (refine And.intro ?_ (And.intro ?_ ?_); (focus (first | omega | (rw [wrap64 (by omega) (by omega)] <;> first | omega | rfl) | (simp; omega))); (focus ((repeat' (first | exact sz_nil | exact sz_map fun _ => rfl | apply sz_take | apply sz_drop | apply sz_append | apply sz_cons rfl)); done)); (conv => whnf))
      | (refine And.intro ?_ (And.intro ?_ ?_); (focus (first | omega | (rw [wrap64 (by omega) (by omega)] <;> first | omega | rfl) | (simp; omega))); (focus (first | omega | (rw [wrap64 (by omega) (by omega)] <;> first | omega | rfl) | (simp; omega))); (conv => whnf))
      | (rw [beq_g]; (conv => whnf))
      | fail)
def insF : List Fact → Fact → List Fact
  | [], f => [f]
  | g :: l, f => if cmpFacts g f < 0 then g :: insF l f else f :: g :: l
def putF (l : List Fact) (f : Fact) : List Fact := if hasF l f then l else insF l f
theorem insF_at : ∀ {l : List Fact} {f : Fact} {i : Nat}, i ≤ l.length → (∀ j (h : j < l.length), j < i → cmpFacts l[j] f < 0) → (∀ h : i < l.length, 0 ≤ cmpFacts l[i] f) → insF l f = l.take i ++ f :: l.drop i
  | [], f, i, hi, _, _ => by simp at hi; subst hi; rfl
  | g :: l, f, 0, hi, _, h => by
    have := h (by simp)
    simp at this
    simp only [insF]
    rw [if_neg (by omega)]; rfl
  | g :: l, f, i + 1, hi, hb, h => by
    have h0 := hb 0 (by simp) (by omega)
    simp at h0
    simp only [insF, if_pos h0]
    rw [insF_at (l := l) (i := i) (by simpa using hi) (fun j hj hji => by have := hb (j + 1) (by simpa using hj) (by omega); simpa using this) (fun hh => by have := h (by simpa using hh); simpa using this)]
    rfl
theorem insF_len : ∀ (l : List Fact) (f : Fact), (insF l f).length = l.length + 1
  | [], f => rfl
  | g :: l, f => by
    simp only [insF]; split
    · simp [insF_len l f]
    · rfl
theorem putF_len (l : List Fact) (f : Fact) : (putF l f).length ≤ l.length + 1 := by
  simp only [putF]; split
  · omega
  · rw [insF_len]; omega
def H132 : List (Nat × Hint) := [(0, ⟨[], [0, 1]⟩), (1, ⟨[], [7, 8, 9]⟩), (2, ⟨[], [2, 11]⟩), (4, ⟨[(false, []), (false, [0]), (false, [1]), (false, [2]), (false, []), (true, []), (false, []), (false, []), (false, [0, 1]), (false, []), (false, []), (false, [0, 1, 2, 3, 4]), (false, []), (false, []), (false, [])], [12, 13, 14, 15, 16, 17, 18, 19, 20, 21, 22, 23, 24, 25]⟩), (5, ⟨[], [27, 28]⟩), (6, ⟨[(false, []), (false, []), (false, []), (false, [0, 1, 2]), (false, [1, 2, 3]), (false, [0, 1, 2, 3, 4]), (false, [3, 4, 5]), (false, []), (false, [])], [3, 29, 30, 31, 32, 33, 34, 35, 36]⟩), (7, ⟨[(false, []), (false, []), (false, [0, 1]), (false, [0, 1, 2]), (false, [1, 2, 3]), (false, [0, 1, 2, 3, 4]), (false, [3, 4, 5]), (false, [5, 6]), (false, [0, 1, 2, 3, 4, 5, 6, 7]), (false, [7, 8]), (false, []), (false, [])], [2, 5, 6, 37, 38, 39, 40, 41, 42, 43, 44, 45, 46, 47]⟩)]
set_option maxHeartbeats 4000000 in
set_option maxRecDepth 100000 in
theorem ct_l5Put (x : Inst) (f : Fact) (hx : x.facts.length ≤ 1000000) (hn : f.vals.length ≤ 1000000) : Ct Tryz.prog 132 [ag x.av, ag f.av] [] (ag (Inst.mk x.rels (putF x.facts f)).av) [] [] := by
  refine ct_of_vc mixed tab_ok H132 Tryz.func132 rfl (by kernel_rfl) (by kernel_rfl) (by rfl) ?_
  intro hw _
  clear hw
  conv => whnf
  refine .inl ?_
  conv => whnf
  refine ⟨_, _, _, _, ct_l5Place x f, ?_⟩
  conv => whnf
  refine ⟨fun hp => ?_, fun hp => ?_⟩ <;> (try simp at hp) <;> (conv => whnf)
  · have e : putF x.facts f = x.facts := by simp only [putF, place_pos hp, if_true]
    rw [e]
    repeat' (first
      | exact trivial
      | (refine ⟨rfl, ?_⟩; (conv => whnf))
      | (refine ⟨fun h => ?_, fun h => ?_⟩ <;> (try simp at h) <;> (try (exfalso; omega)) <;> (conv => whnf))
      | (intro b hb; (conv => whnf))
      | (refine And.intro ?_ ?_; (focus (rw [wrap64 (by omega) (by omega)] <;> rfl)); (conv => whnf))
      | (refine And.intro ?_ (And.intro ?_ (And.intro ?_ (And.intro ?_ ?_))); (focus (first | omega | (rw [wrap64 (by omega) (by omega)] <;> first | omega | rfl) | (simp; omega))); (focus (first | omega | (rw [wrap64 (by omega) (by omega)] <;> first | omega | rfl) | (simp; omega))); (focus (first | omega | (rw [wrap64 (by omega) (by omega)] <;> first | omega | rfl) | (simp; omega))); (focus ((repeat' (first | exact sz_nil | exact sz_map fun _ => rfl | apply sz_take | apply sz_drop | apply sz_append | apply sz_cons rfl)); done)); (conv => whnf))
      | (refine And.intro ?_ (And.intro ?_ ?_); (focus (first | omega | (rw [wrap64 (by omega) (by omega)] <;> first | omega | rfl) | (simp; omega))); (focus ((repeat' (first | exact sz_nil | exact sz_map fun _ => rfl | apply sz_take | apply sz_drop | apply sz_append | apply sz_cons rfl)); done)); (conv => whnf))
      | (refine And.intro ?_ (And.intro ?_ ?_); (focus (first | omega | (rw [wrap64 (by omega) (by omega)] <;> first | omega | rfl) | (simp; omega))); (focus (first | omega | (rw [wrap64 (by omega) (by omega)] <;> first | omega | rfl) | (simp; omega))); (conv => whnf))
      | (rw [beq_g]; (conv => whnf))
      | fail)
  have e : putF x.facts f = insF x.facts f := by simp [putF, place_neg hp]
  rw [e]
  refine loop_rule mixed tab_ok H132 (I := Nat) (fun i => [(.slot 5, iv i), (.slot 3, .s (.lf (.ptr (3, 0) 0))), (.leaf (3, 0) 0, .l (.av (i64 f.rel))), (.leaf (3, 0) 1, .l (.av (ints f.vals))), (.slot 4, .s (.lf (.ptr (4, 0) 0))), (.leaf (4, 0) 0, .l .nil), (.leaf (4, 0) 1, .l .nil), (.slot 2, .s (.lf (.ptr (2, 0) 0))), (.leaf (2, 0) 0, .l (.av (.row (x.rels.map Relation.av)))), (.leaf (2, 0) 1, .l (.av (.row (x.facts.map Fact.av))))]) (fun i => i ≤ x.facts.length ∧ ∀ j (h : j < x.facts.length), j < i → cmpFacts x.facts[j] f < 0) (fun i => x.facts.length - i) (by kernel_rfl) 0 ⟨by omega, fun j _ hj => by omega⟩ (wk_sound (ψ := []) ?_) ?_
  · conv => whnf
    repeat' (first
      | exact trivial
      | (refine ⟨rfl, ?_⟩; (conv => whnf))
      | (refine ⟨fun h => ?_, fun h => ?_⟩ <;> (try simp at h) <;> (try (exfalso; omega)) <;> (conv => whnf))
      | (intro b hb; (conv => whnf))
      | (refine And.intro ?_ ?_; (focus (rw [wrap64 (by omega) (by omega)] <;> rfl)); (conv => whnf))
      | (refine And.intro ?_ (And.intro ?_ (And.intro ?_ (And.intro ?_ ?_))); (focus (first | omega | (rw [wrap64 (by omega) (by omega)] <;> first | omega | rfl) | (simp; omega))); (focus (first | omega | (rw [wrap64 (by omega) (by omega)] <;> first | omega | rfl) | (simp; omega))); (focus (first | omega | (rw [wrap64 (by omega) (by omega)] <;> first | omega | rfl) | (simp; omega))); (focus ((repeat' (first | exact sz_nil | exact sz_map fun _ => rfl | apply sz_take | apply sz_drop | apply sz_append | apply sz_cons rfl)); done)); (conv => whnf))
      | (refine And.intro ?_ (And.intro ?_ ?_); (focus (first | omega | (rw [wrap64 (by omega) (by omega)] <;> first | omega | rfl) | (simp; omega))); (focus ((repeat' (first | exact sz_nil | exact sz_map fun _ => rfl | apply sz_take | apply sz_drop | apply sz_append | apply sz_cons rfl)); done)); (conv => whnf))
      | (refine And.intro ?_ (And.intro ?_ ?_); (focus (first | omega | (rw [wrap64 (by omega) (by omega)] <;> first | omega | rfl) | (simp; omega))); (focus (first | omega | (rw [wrap64 (by omega) (by omega)] <;> first | omega | rfl) | (simp; omega))); (conv => whnf))
      | (rw [beq_g]; (conv => whnf))
      | fail)
  rintro i ⟨hi, hb⟩
  conv => whnf
  repeat' (first
    | exact trivial
    | (refine ⟨rfl, ?_⟩; (conv => whnf))
    | (refine ⟨fun h => ?_, fun h => ?_⟩ <;> (try simp at h) <;> (try (exfalso; omega)) <;> (conv => whnf))
    | (intro b hb; (conv => whnf))
    | (refine .inl ?_; (conv => whnf); first | (refine ⟨_, _, _, _, ct_sCompareFacts _ _, ?_⟩; (conv => whnf)) | (refine ⟨_, _, _, _, ct_l5Fact _ hn, ?_⟩; (conv => whnf)) | fail)
    | (refine And.intro ?_ ?_; (focus (rw [wrap64 (by omega) (by omega)] <;> rfl)); (conv => whnf))
    | (refine ⟨x.facts[i].av, ?_, map_getI ?_ ?_, rfl, ?_⟩; (focus (first | omega | (rw [wrap64 (by omega) (by omega)] <;> first | omega | rfl) | (simp; omega))); (focus (first | rfl | omega | (rw [wrap64 (by omega) (by omega)] <;> first | omega | rfl))); (focus omega); (conv => whnf))
    | (refine ⟨x.facts[i].av, map_getI ?_ ?_, ?_, ?_, ?_⟩; (focus (first | rfl | omega | (rw [wrap64 (by omega) (by omega)] <;> first | omega | rfl))); (focus omega); (focus (simp; done)); (focus (simp; done)); (conv => whnf))
    | (refine ⟨x.facts[i].av, map_getI ?_ ?_, ?_⟩; (focus (first | rfl | omega | (rw [wrap64 (by omega) (by omega)] <;> first | omega | rfl))); (focus omega); (conv => whnf))
    | (refine And.intro ?_ (And.intro ?_ (And.intro ?_ (And.intro ?_ ?_))); (focus (first | omega | (rw [wrap64 (by omega) (by omega)] <;> first | omega | rfl) | (simp; omega))); (focus (first | omega | (rw [wrap64 (by omega) (by omega)] <;> first | omega | rfl) | (simp; omega))); (focus (first | omega | (rw [wrap64 (by omega) (by omega)] <;> first | omega | rfl) | (simp; omega))); (focus ((repeat' (first | exact sz_nil | exact sz_map fun _ => rfl | apply sz_take | apply sz_drop | apply sz_append | apply sz_cons rfl)); done)); (conv => whnf))
    | (refine And.intro ?_ (And.intro ?_ ?_); (focus (first | omega | (rw [wrap64 (by omega) (by omega)] <;> first | omega | rfl) | (simp; omega))); (focus ((repeat' (first | exact sz_nil | exact sz_map fun _ => rfl | apply sz_take | apply sz_drop | apply sz_append | apply sz_cons rfl)); done)); (conv => whnf))
    | (refine And.intro ?_ (And.intro ?_ ?_); (focus (first | omega | (rw [wrap64 (by omega) (by omega)] <;> first | omega | rfl) | (simp; omega))); (focus (first | omega | (rw [wrap64 (by omega) (by omega)] <;> first | omega | rfl) | (simp; omega))); (conv => whnf))
    | (refine ⟨i + 1, ?_, ?_, wk_sound (ψ := []) ?_⟩; (focus (refine ⟨by omega, fun j hj hji => ?_⟩; rcases Nat.lt_or_ge j i with h | h; exact hb j hj h; obtain rfl : j = i := (by omega); assumption)); (focus (first | omega | (rw [wrap64 (by omega) (by omega)] <;> first | omega | rfl) | (simp; omega))); (conv => whnf); (fail_if_success show False))
    | (refine And.intro ?_ ?_; (focus ((rw [insF_at (i := i) hi hb (by intro _; first | assumption | omega)]; refine congrArg AV.row ?_; simp [List.map_take, List.map_drop, take_map_len, Fact.av]; done))); (conv => whnf))
    | (rw [beq_g]; (conv => whnf))
    | fail)
def allVals (x : Inst) : List Int := x.facts.flatMap (·.vals)
def nullsI (x : Inst) : List Int := nulls (allVals x)
def valsTo (x : Inst) (i : Nat) : List Int := (x.facts.take i).flatMap (·.vals)
theorem valsTo_snoc {x : Inst} {i : Nat} (h : i < x.facts.length) : valsTo x (i + 1) = valsTo x i ++ x.facts[i].vals := by
  simp only [valsTo]; rw [take_snoc h, List.flatMap_append]; simp
theorem valsTo_end {x : Inst} {i : Nat} (h : x.facts.length ≤ i) : valsTo x i = allVals x := by
  simp only [valsTo, allVals]; rw [List.take_of_length_le h]
theorem valsTo_le {x : Inst} {i : Nat} (h : i < x.facts.length) : (valsTo x i).length + x.facts[i].vals.length ≤ (allVals x).length := by
  have h1 : allVals x = valsTo x (i + 1) ++ (x.facts.drop (i + 1)).flatMap (·.vals) := by
    simp only [allVals, valsTo, ← List.flatMap_append, List.take_append_drop]
  rw [h1, valsTo_snoc h]
  simp only [List.length_append]
  omega
theorem foldPut_putAll (l m : List Int) : (putAll m).foldl put (putAll l) = putAll (l ++ m) :=
  strict_ext TO_int (foldPut_strict (putAll_strict l)) (putAll_strict _) fun x => by
    rw [foldPut_mem, putAll_mem, putAll_mem, putAll_mem, List.mem_append]
    constructor
    · rintro (h | h) <;> simp [h]
    · rintro (h | h) <;> simp [h]
theorem nulls_append (l m : List Int) : (nulls m).foldl put (nulls l) = nulls (l ++ m) := by
  simp only [nulls, noOf_append]; exact foldPut_putAll _ _
theorem nulls_len (l : List Int) : (nulls l).length ≤ l.length := Nat.le_trans (putAll_length _) (noOf_length l)
theorem foldl_snoc {α β : Type} {f : β → α → β} {a : β} {l : List α} {k : Nat} (h : k < l.length) : (l.take (k + 1)).foldl f a = f ((l.take k).foldl f a) l[k] := by
  rw [take_snoc h, List.foldl_append]; rfl
def H160 : List (Nat × Hint) := [(0, ⟨[], [0, 2]⟩), (1, ⟨[], [7]⟩), (3, ⟨[], [8, 9, 10, 11]⟩), (4, ⟨[], [13, 14]⟩), (5, ⟨[], [15, 16, 17, 18, 19, 20]⟩), (7, ⟨[], [21, 22, 23]⟩), (8, ⟨[], [25, 26]⟩), (9, ⟨[], [27, 28, 29, 30, 31, 32]⟩), (10, ⟨[], [3, 33]⟩)]
set_option maxHeartbeats 4000000 in
set_option maxRecDepth 100000 in
theorem ct_sNullsOfInstance (x : Inst) (ho : x.ok) (hn : (allVals x).length ≤ 1000000) : Ct Tryz.prog 160 [ag x.av] [] (sl (ints (nullsI x))) [] [] := by
  refine ct_of_vc mixed tab_ok H160 Tryz.func160 rfl (by kernel_rfl) (by kernel_rfl) (by rfl) ?_
  intro hw _
  clear hw
  have hxf := ho.f
  conv => whnf
  refine loop_rule mixed tab_ok H160 (I := Nat) (fun i => [(.slot 4, iv i), (.slot 3, .s (sl (ints (nulls (valsTo x i))))), (.slot 1, .s (.lf (.ptr (1, 0) 0))), (.leaf (1, 0) 0, .l (.av (.row (x.rels.map Relation.av)))), (.leaf (1, 0) 1, .l (.av (.row (x.facts.map Fact.av))))]) (fun i => i ≤ x.facts.length) (fun i => x.facts.length - i) (by kernel_rfl) 0 (by omega) (wk_sound (ψ := []) ?_) ?_
  · conv => whnf
    repeat' (first
      | exact trivial
      | (refine ⟨rfl, ?_⟩; (conv => whnf))
      | (refine ⟨fun h => ?_, fun h => ?_⟩ <;> (try simp at h) <;> (try (exfalso; omega)) <;> (conv => whnf))
      | (intro b hb; (conv => whnf))
      | (refine And.intro ?_ ?_; (focus (rw [wrap64 (by omega) (by omega)] <;> rfl)); (conv => whnf))
      | (refine And.intro ?_ (And.intro ?_ (And.intro ?_ (And.intro ?_ ?_))); (focus (first | omega | (rw [wrap64 (by omega) (by omega)] <;> first | omega | rfl) | (simp; omega))); (focus (first | omega | (rw [wrap64 (by omega) (by omega)] <;> first | omega | rfl) | (simp; omega))); (focus (first | omega | (rw [wrap64 (by omega) (by omega)] <;> first | omega | rfl) | (simp; omega))); (focus ((repeat' (first | exact sz_nil | exact sz_map fun _ => rfl | apply sz_take | apply sz_drop | apply sz_append | apply sz_cons rfl)); done)); (conv => whnf))
      | (refine And.intro ?_ (And.intro ?_ ?_); (focus (first | omega | (rw [wrap64 (by omega) (by omega)] <;> first | omega | rfl) | (simp; omega))); (focus ((repeat' (first | exact sz_nil | exact sz_map fun _ => rfl | apply sz_take | apply sz_drop | apply sz_append | apply sz_cons rfl)); done)); (conv => whnf))
      | (refine And.intro ?_ (And.intro ?_ ?_); (focus (first | omega | (rw [wrap64 (by omega) (by omega)] <;> first | omega | rfl) | (simp; omega))); (focus (first | omega | (rw [wrap64 (by omega) (by omega)] <;> first | omega | rfl) | (simp; omega))); (conv => whnf))
      | (rw [beq_g]; (conv => whnf))
      | fail)
  intro i hi
  conv => whnf
  refine ⟨fun hlt => ?_, fun hlt => ?_⟩ <;> (try simp at hlt) <;> (conv => whnf)
  · refine ⟨x.facts[i].av, by omega, map_get (by omega), rfl, ?_⟩
    conv => whnf
    refine .inl ?_
    conv => whnf
    refine ⟨_, _, _, _, ct_sNullsOfFact _ (ho.v _ (List.getElem_mem hlt)), ?_⟩
    conv => whnf
    have hle := valsTo_le hlt
    have hb := nulls_len (valsTo x i)
    have hb2 := nulls_len x.facts[i].vals
    refine loop_rule mixed tab_ok H160 (I := Nat) (fun k => [(.slot 6, iv k), (.slot 5, .s (sl (ints (nulls x.facts[i].vals)))), (.slot 4, iv i), (.slot 3, .s (sl (ints (((nulls x.facts[i].vals).take k).foldl put (nulls (valsTo x i)))))), (.slot 1, .s (.lf (.ptr (1, 0) 0))), (.leaf (1, 0) 0, .l (.av (.row (x.rels.map Relation.av)))), (.leaf (1, 0) 1, .l (.av (.row (x.facts.map Fact.av))))]) (fun k => k ≤ (nulls x.facts[i].vals).length) (fun k => (nulls x.facts[i].vals).length - k) (by kernel_rfl) 0 (by omega) (wk_sound (ψ := []) ?_) ?_
    · conv => whnf
      repeat' (first
        | exact trivial
        | (refine ⟨rfl, ?_⟩; (conv => whnf))
        | (refine ⟨fun h => ?_, fun h => ?_⟩ <;> (try simp at h) <;> (try (exfalso; omega)) <;> (conv => whnf))
        | (intro b hb; (conv => whnf))
        | (refine And.intro ?_ ?_; (focus (rw [wrap64 (by omega) (by omega)] <;> rfl)); (conv => whnf))
        | (refine And.intro ?_ (And.intro ?_ (And.intro ?_ (And.intro ?_ ?_))); (focus (first | omega | (rw [wrap64 (by omega) (by omega)] <;> first | omega | rfl) | (simp; omega))); (focus (first | omega | (rw [wrap64 (by omega) (by omega)] <;> first | omega | rfl) | (simp; omega))); (focus (first | omega | (rw [wrap64 (by omega) (by omega)] <;> first | omega | rfl) | (simp; omega))); (focus ((repeat' (first | exact sz_nil | exact sz_map fun _ => rfl | apply sz_take | apply sz_drop | apply sz_append | apply sz_cons rfl)); done)); (conv => whnf))
        | (refine And.intro ?_ (And.intro ?_ ?_); (focus (first | omega | (rw [wrap64 (by omega) (by omega)] <;> first | omega | rfl) | (simp; omega))); (focus ((repeat' (first | exact sz_nil | exact sz_map fun _ => rfl | apply sz_take | apply sz_drop | apply sz_append | apply sz_cons rfl)); done)); (conv => whnf))
        | (refine And.intro ?_ (And.intro ?_ ?_); (focus (first | omega | (rw [wrap64 (by omega) (by omega)] <;> first | omega | rfl) | (simp; omega))); (focus (first | omega | (rw [wrap64 (by omega) (by omega)] <;> first | omega | rfl) | (simp; omega))); (conv => whnf))
        | (rw [beq_g]; (conv => whnf))
        | fail)
    intro k hk
    have hf := foldPut_length ((nulls x.facts[i].vals).take k) (nulls (valsTo x i))
    have hk2 : ((nulls x.facts[i].vals).take k).length ≤ k := by simp; omega
    conv => whnf
    repeat' (first
      | exact trivial
      | (refine ⟨rfl, ?_⟩; (conv => whnf))
      | (refine ⟨fun h => ?_, fun h => ?_⟩ <;> (try simp at h) <;> (try (exfalso; omega)) <;> (conv => whnf))
      | (intro b hb; (conv => whnf))
      | (refine .inl ?_; (conv => whnf); first | (refine ⟨_, _, _, _, ct_l4Put _ _ (by omega), ?_⟩; (conv => whnf)) | fail)
      | (refine And.intro ?_ ?_; (focus (rw [wrap64 (by omega) (by omega)] <;> rfl)); (conv => whnf))
      | (refine ⟨[i64 (nulls x.facts[i].vals)[k]], ?_, map_getI ?_ ?_, rfl, ?_⟩; (focus (first | omega | (rw [wrap64 (by omega) (by omega)] <;> first | omega | rfl) | (simp; omega))); (focus (first | rfl | omega | (rw [wrap64 (by omega) (by omega)] <;> first | omega | rfl))); (focus omega); (conv => whnf))
      | (refine ⟨[i64 (nulls x.facts[i].vals)[k]], map_getI ?_ ?_, ?_, ?_, ?_⟩; (focus (first | rfl | omega | (rw [wrap64 (by omega) (by omega)] <;> first | omega | rfl))); (focus omega); (focus (simp; done)); (focus (simp; done)); (conv => whnf))
      | (refine ⟨[i64 (nulls x.facts[i].vals)[k]], map_getI ?_ ?_, ?_⟩; (focus (first | rfl | omega | (rw [wrap64 (by omega) (by omega)] <;> first | omega | rfl))); (focus omega); (conv => whnf))
      | (refine And.intro ?_ (And.intro ?_ (And.intro ?_ (And.intro ?_ ?_))); (focus (first | omega | (rw [wrap64 (by omega) (by omega)] <;> first | omega | rfl) | (simp; omega))); (focus (first | omega | (rw [wrap64 (by omega) (by omega)] <;> first | omega | rfl) | (simp; omega))); (focus (first | omega | (rw [wrap64 (by omega) (by omega)] <;> first | omega | rfl) | (simp; omega))); (focus ((repeat' (first | exact sz_nil | exact sz_map fun _ => rfl | apply sz_take | apply sz_drop | apply sz_append | apply sz_cons rfl)); done)); (conv => whnf))
      | (refine And.intro ?_ (And.intro ?_ ?_); (focus (first | omega | (rw [wrap64 (by omega) (by omega)] <;> first | omega | rfl) | (simp; omega))); (focus ((repeat' (first | exact sz_nil | exact sz_map fun _ => rfl | apply sz_take | apply sz_drop | apply sz_append | apply sz_cons rfl)); done)); (conv => whnf))
      | (refine And.intro ?_ (And.intro ?_ ?_); (focus (first | omega | (rw [wrap64 (by omega) (by omega)] <;> first | omega | rfl) | (simp; omega))); (focus (first | omega | (rw [wrap64 (by omega) (by omega)] <;> first | omega | rfl) | (simp; omega))); (conv => whnf))
      | (refine ⟨k + 1, ?_, ?_, wk_sound (ψ := []) ?_⟩; (focus (omega)); (focus (first | omega | (rw [wrap64 (by omega) (by omega)] <;> first | omega | rfl) | (simp; omega))); (conv => whnf); (fail_if_success show False))
      | (refine ⟨i + 1, ?_, ?_, wk_sound (ψ := []) ?_⟩; (focus (omega)); (focus (first | omega | (rw [wrap64 (by omega) (by omega)] <;> first | omega | rfl) | (simp; omega))); (conv => whnf); (fail_if_success show False))
      | (refine And.intro ?_ ?_; (focus (refine congrArg ints ?_; first | (rw [foldl_snoc (by assumption)]; done) | (have e := List.take_of_length_le (l := nulls x.facts[i].vals) (i := k) (by omega); rw [e, nulls_append, valsTo_snoc hlt]; done))); (conv => whnf))
      | (rw [beq_g]; (conv => whnf))
      | fail)
  · rw [valsTo_end hlt]
    repeat' (first
      | exact trivial
      | (refine ⟨rfl, ?_⟩; (conv => whnf))
      | (refine ⟨fun h => ?_, fun h => ?_⟩ <;> (try simp at h) <;> (try (exfalso; omega)) <;> (conv => whnf))
      | (intro b hb; (conv => whnf))
      | (refine And.intro ?_ ?_; (focus (rw [wrap64 (by omega) (by omega)] <;> rfl)); (conv => whnf))
      | (refine And.intro ?_ (And.intro ?_ (And.intro ?_ (And.intro ?_ ?_))); (focus (first | omega | (rw [wrap64 (by omega) (by omega)] <;> first | omega | rfl) | (simp; omega))); (focus (first | omega | (rw [wrap64 (by omega) (by omega)] <;> first | omega | rfl) | (simp; omega))); (focus (first | omega | (rw [wrap64 (by omega) (by omega)] <;> first | omega | rfl) | (simp; omega))); (focus ((repeat' (first | exact sz_nil | exact sz_map fun _ => rfl | apply sz_take | apply sz_drop | apply sz_append | apply sz_cons rfl)); done)); (conv => whnf))
      | (refine And.intro ?_ (And.intro ?_ ?_); (focus (first | omega | (rw [wrap64 (by omega) (by omega)] <;> first | omega | rfl) | (simp; omega))); (focus ((repeat' (first | exact sz_nil | exact sz_map fun _ => rfl | apply sz_take | apply sz_drop | apply sz_append | apply sz_cons rfl)); done)); (conv => whnf))
      | (refine And.intro ?_ (And.intro ?_ ?_); (focus (first | omega | (rw [wrap64 (by omega) (by omega)] <;> first | omega | rfl) | (simp; omega))); (focus (first | omega | (rw [wrap64 (by omega) (by omega)] <;> first | omega | rfl) | (simp; omega))); (conv => whnf))
      | (rw [beq_g]; (conv => whnf))
      | fail)
def H173 : List (Nat × Hint) := [(0, ⟨[], [0, 2]⟩), (1, ⟨[], [6]⟩), (2, ⟨[], [1, 7]⟩), (4, ⟨[], [12, 13]⟩), (5, ⟨[], [5, 14, 15, 16, 17]⟩), (6, ⟨[], [18]⟩), (7, ⟨[], [3, 19, 20]⟩)]
set_option maxHeartbeats 4000000 in
set_option maxRecDepth 100000 in
theorem ct_iNullsOfInstance (x : Inst) (ho : x.ok) (hn : (allVals x).length ≤ 1000000) : Ct Tryz.prog 173 [ag x.av] [] (sl (ints (nullsI x))) [] [] := by
  refine ct_of_vc mixed tab_ok H173 Tryz.func173 rfl (by kernel_rfl) (by kernel_rfl) (by rfl) ?_
  intro hw _
  clear hw
  have hxf := ho.f
  conv => whnf
  refine loop_rule mixed tab_ok H173 (I := Nat) (fun i => [(.slot 3, .s (.lf (.own (6, 0)))), (.row (6, 0), .r ⟨3, 1, true, (valsTo x i).map ielem⟩), (.slot 10, iv i), (.slot 9, iv x.facts.length), (.slot 8, .s (sl (.row (x.facts.map Fact.av))))]) (fun i => i ≤ x.facts.length) (fun i => x.facts.length - i) (by kernel_rfl) 0 (by omega) (wk_sound (ψ := []) ?_) ?_
  · conv => whnf
    repeat' (first
      | exact trivial
      | (refine ⟨rfl, ?_⟩; (conv => whnf))
      | (refine ⟨fun h => ?_, fun h => ?_⟩ <;> (try simp at h) <;> (try (exfalso; omega)) <;> (conv => whnf))
      | (intro b hb; (conv => whnf))
      | (refine And.intro ?_ ?_; (focus (rw [wrap64 (by omega) (by omega)] <;> rfl)); (conv => whnf))
      | (refine And.intro ?_ (And.intro ?_ (And.intro ?_ (And.intro ?_ ?_))); (focus (first | omega | (rw [wrap64 (by omega) (by omega)] <;> first | omega | rfl) | (simp; omega))); (focus (first | omega | (rw [wrap64 (by omega) (by omega)] <;> first | omega | rfl) | (simp; omega))); (focus (first | omega | (rw [wrap64 (by omega) (by omega)] <;> first | omega | rfl) | (simp; omega))); (focus ((repeat' (first | exact sz_nil | exact sz_map fun _ => rfl | apply sz_take | apply sz_drop | apply sz_append | apply sz_cons rfl)); done)); (conv => whnf))
      | (refine And.intro ?_ (And.intro ?_ ?_); (focus (first | omega | (rw [wrap64 (by omega) (by omega)] <;> first | omega | rfl) | (simp; omega))); (focus ((repeat' (first | exact sz_nil | exact sz_map fun _ => rfl | apply sz_take | apply sz_drop | apply sz_append | apply sz_cons rfl)); done)); (conv => whnf))
      | (refine And.intro ?_ (And.intro ?_ ?_); (focus (first | omega | (rw [wrap64 (by omega) (by omega)] <;> first | omega | rfl) | (simp; omega))); (focus (first | omega | (rw [wrap64 (by omega) (by omega)] <;> first | omega | rfl) | (simp; omega))); (conv => whnf))
      | (refine And.intro ?_ ?_; (focus (simp; done)); (conv => whnf))
      | (rw [beq_g]; (conv => whnf))
      | fail)
  intro i hi
  conv => whnf
  refine ⟨fun hlt => ?_, fun hlt => ?_⟩ <;> (try simp at hlt) <;> (conv => whnf)
  · have hle := valsTo_le hlt
    repeat' (first
      | exact trivial
      | (refine ⟨rfl, ?_⟩; (conv => whnf))
      | (refine ⟨fun h => ?_, fun h => ?_⟩ <;> (try simp at h) <;> (try (exfalso; omega)) <;> (conv => whnf))
      | (intro b hb; (conv => whnf))
      | (refine And.intro ?_ ?_; (focus (rw [wrap64 (by omega) (by omega)] <;> rfl)); (conv => whnf))
      | (refine ⟨x.facts[i].av, ?_, map_getI ?_ ?_, rfl, ?_⟩; (focus (first | omega | (rw [wrap64 (by omega) (by omega)] <;> first | omega | rfl) | (simp; omega))); (focus (first | rfl | omega | (rw [wrap64 (by omega) (by omega)] <;> first | omega | rfl))); (focus omega); (conv => whnf))
      | (refine ⟨x.facts[i].av, map_getI ?_ ?_, ?_, ?_, ?_⟩; (focus (first | rfl | omega | (rw [wrap64 (by omega) (by omega)] <;> first | omega | rfl))); (focus omega); (focus (simp; done)); (focus (simp; done)); (conv => whnf))
      | (refine ⟨x.facts[i].av, map_getI ?_ ?_, ?_⟩; (focus (first | rfl | omega | (rw [wrap64 (by omega) (by omega)] <;> first | omega | rfl))); (focus omega); (conv => whnf))
      | (refine And.intro ?_ (And.intro ?_ (And.intro ?_ (And.intro ?_ ?_))); (focus (first | omega | (rw [wrap64 (by omega) (by omega)] <;> first | omega | rfl) | (simp; omega))); (focus (first | omega | (rw [wrap64 (by omega) (by omega)] <;> first | omega | rfl) | (simp; omega))); (focus (first | omega | (rw [wrap64 (by omega) (by omega)] <;> first | omega | rfl) | (simp; omega))); (focus ((repeat' (first | exact sz_nil | exact sz_map fun _ => rfl | apply sz_take | apply sz_drop | apply sz_append | apply sz_cons rfl)); done)); (conv => whnf))
      | (refine And.intro ?_ (And.intro ?_ ?_); (focus (first | omega | (rw [wrap64 (by omega) (by omega)] <;> first | omega | rfl) | (simp; omega))); (focus ((repeat' (first | exact sz_nil | exact sz_map fun _ => rfl | apply sz_take | apply sz_drop | apply sz_append | apply sz_cons rfl)); done)); (conv => whnf))
      | (refine And.intro ?_ (And.intro ?_ ?_); (focus (first | omega | (rw [wrap64 (by omega) (by omega)] <;> first | omega | rfl) | (simp; omega))); (focus (first | omega | (rw [wrap64 (by omega) (by omega)] <;> first | omega | rfl) | (simp; omega))); (conv => whnf))
      | (refine ⟨i + 1, ?_, ?_, wk_sound (ψ := [((6, 0), (17, 0))]) ?_⟩; (focus (omega)); (focus (first | omega | (rw [wrap64 (by omega) (by omega)] <;> first | omega | rfl) | (simp; omega))); (conv => whnf); (fail_if_success show False))
      | (refine ⟨i + 1, ?_, ?_, wk_sound (ψ := []) ?_⟩; (focus (omega)); (focus (first | omega | (rw [wrap64 (by omega) (by omega)] <;> first | omega | rfl) | (simp; omega))); (conv => whnf); (fail_if_success show False))
      | (refine And.intro ?_ ?_; (focus (first | (simp; omega) | (rw [valsTo_snoc hlt, List.map_append]; done))); (conv => whnf))
      | (rw [beq_g]; (conv => whnf))
      | fail)
  · rw [valsTo_end hlt]
    repeat' (first
      | exact trivial
      | (refine ⟨rfl, ?_⟩; (conv => whnf))
      | (refine ⟨fun h => ?_, fun h => ?_⟩ <;> (try simp at h) <;> (try (exfalso; omega)) <;> (conv => whnf))
      | (intro b hb; (conv => whnf))
      | (refine .inl ?_; (conv => whnf); first | (refine ⟨_, _, _, _, ct_nullsOf (allVals x) hn, ?_⟩; (conv => whnf)) | fail)
      | (refine And.intro ?_ ?_; (focus (rw [wrap64 (by omega) (by omega)] <;> rfl)); (conv => whnf))
      | (refine And.intro ?_ (And.intro ?_ (And.intro ?_ (And.intro ?_ ?_))); (focus (first | omega | (rw [wrap64 (by omega) (by omega)] <;> first | omega | rfl) | (simp; omega))); (focus (first | omega | (rw [wrap64 (by omega) (by omega)] <;> first | omega | rfl) | (simp; omega))); (focus (first | omega | (rw [wrap64 (by omega) (by omega)] <;> first | omega | rfl) | (simp; omega))); (focus ((repeat' (first | exact sz_nil | exact sz_map fun _ => rfl | apply sz_take | apply sz_drop | apply sz_append | apply sz_cons rfl)); done)); (conv => whnf))
      | (refine And.intro ?_ (And.intro ?_ ?_); (focus (first | omega | (rw [wrap64 (by omega) (by omega)] <;> first | omega | rfl) | (simp; omega))); (focus ((repeat' (first | exact sz_nil | exact sz_map fun _ => rfl | apply sz_take | apply sz_drop | apply sz_append | apply sz_cons rfl)); done)); (conv => whnf))
      | (refine And.intro ?_ (And.intro ?_ ?_); (focus (first | omega | (rw [wrap64 (by omega) (by omega)] <;> first | omega | rfl) | (simp; omega))); (focus (first | omega | (rw [wrap64 (by omega) (by omega)] <;> first | omega | rfl) | (simp; omega))); (conv => whnf))
      | (rw [beq_g]; (conv => whnf))
      | fail)
def nextN (x : Inst) : Int := if (nullsI x).length = 0 then 0 else (nullsI x).getD ((nullsI x).length - 1) 0 + 1
theorem nullsI_lt {x : Inst} {k : Int} (h : k ∈ nullsI x) : 0 ≤ k ∧ k ≤ 39 := by
  have h1 := putAll_mem.1 h
  simp only [noOf, List.mem_map, List.mem_filter] at h1
  obtain ⟨v, ⟨_, hv⟩, rfl⟩ := h1
  exact inR_iff.1 hv
theorem nextN_range (x : Inst) : 0 ≤ nextN x ∧ nextN x ≤ 40 := by
  simp only [nextN]
  split
  · omega
  · have h : (nullsI x).length - 1 < (nullsI x).length := by omega
    have := nullsI_lt (List.getElem_mem h)
    rw [getD_eq h]; omega
def H129 : List (Nat × Hint) := [(0, ⟨[], [0, 2]⟩), (1, ⟨[], [1, 4, 5]⟩), (2, ⟨[], [6, 7]⟩), (4, ⟨[], [3, 9, 10, 11, 12, 13, 14, 15]⟩)]
set_option maxHeartbeats 4000000 in
set_option maxRecDepth 100000 in
theorem ct_sNextNull (x : Inst) (ho : x.ok) (hn : (allVals x).length ≤ 1000000) : Ct Tryz.prog 129 [ag x.av] [] (sl (i64 (nextN x))) [] [] := by
  refine ct_of_vc mixed tab_ok H129 Tryz.func129 rfl (by kernel_rfl) (by kernel_rfl) (by rfl) ?_
  intro hw _
  clear hw
  conv => whnf
  refine .inl ?_
  conv => whnf
  refine ⟨_, _, _, _, ct_sNullsOfInstance x ho hn, ?_⟩
  conv => whnf
  have hlen := nulls_len (allVals x)
  have hlen2 : (nullsI x).length ≤ 1000000 := Nat.le_trans hlen hn
  refine ⟨fun h => ?_, fun h => ?_⟩ <;> (try simp at h) <;> (conv => whnf)
  · have e : nextN x = 0 := by simp [nextN, h]
    rw [e]
    repeat' (first
      | exact trivial
      | (refine ⟨rfl, ?_⟩; (conv => whnf))
      | (refine ⟨fun h => ?_, fun h => ?_⟩ <;> (try simp at h) <;> (try (exfalso; omega)) <;> (conv => whnf))
      | (intro b hb; (conv => whnf))
      | (refine And.intro ?_ ?_; (focus (rw [wrap64 (by omega) (by omega)] <;> rfl)); (conv => whnf))
      | (refine And.intro ?_ (And.intro ?_ (And.intro ?_ (And.intro ?_ ?_))); (focus (first | omega | (rw [wrap64 (by omega) (by omega)] <;> first | omega | rfl) | (simp; omega))); (focus (first | omega | (rw [wrap64 (by omega) (by omega)] <;> first | omega | rfl) | (simp; omega))); (focus (first | omega | (rw [wrap64 (by omega) (by omega)] <;> first | omega | rfl) | (simp; omega))); (focus ((repeat' (first | exact sz_nil | exact sz_map fun _ => rfl | apply sz_take | apply sz_drop | apply sz_append | apply sz_cons rfl)); done)); (conv => whnf))
      | (refine And.intro ?_ (And.intro ?_ ?_); (focus (first | omega | (rw [wrap64 (by omega) (by omega)] <;> first | omega | rfl) | (simp; omega))); (focus ((repeat' (first | exact sz_nil | exact sz_map fun _ => rfl | apply sz_take | apply sz_drop | apply sz_append | apply sz_cons rfl)); done)); (conv => whnf))
      | (refine And.intro ?_ (And.intro ?_ ?_); (focus (first | omega | (rw [wrap64 (by omega) (by omega)] <;> first | omega | rfl) | (simp; omega))); (focus (first | omega | (rw [wrap64 (by omega) (by omega)] <;> first | omega | rfl) | (simp; omega))); (conv => whnf))
      | (rw [beq_g]; (conv => whnf))
      | fail)
  · have h2 : ¬ (nullsI x).length = 0 := fun hh => h (List.length_eq_zero_iff.1 hh)
    have h0 : (nullsI x).length - 1 < (nullsI x).length := by omega
    have hlt := nullsI_lt (List.getElem_mem h0)
    have e : nextN x = (nullsI x)[(nullsI x).length - 1] + 1 := by simp only [nextN]; rw [if_neg h2, getD_eq h0]
    rw [e, List.length_map]
    repeat' (first
      | exact trivial
      | (refine ⟨rfl, ?_⟩; (conv => whnf))
      | (refine ⟨fun h => ?_, fun h => ?_⟩ <;> (try simp at h) <;> (try (exfalso; omega)) <;> (conv => whnf))
      | (intro b hb; (conv => whnf))
      | (refine And.intro ?_ ?_; (focus (rw [wrap64 (by omega) (by omega)] <;> rfl)); (conv => whnf))
      | (refine ⟨[i64 (nullsI x)[(nullsI x).length - 1]], ?_, map_getI ?_ ?_, rfl, ?_⟩; (focus (first | omega | (rw [wrap64 (by omega) (by omega)] <;> first | omega | rfl) | (simp; omega))); (focus (first | rfl | omega | (rw [wrap64 (by omega) (by omega)] <;> first | omega | rfl))); (focus omega); (conv => whnf))
      | (refine ⟨[i64 (nullsI x)[(nullsI x).length - 1]], map_getI ?_ ?_, ?_, ?_, ?_⟩; (focus (first | rfl | omega | (rw [wrap64 (by omega) (by omega)] <;> first | omega | rfl))); (focus omega); (focus (simp; done)); (focus (simp; done)); (conv => whnf))
      | (refine ⟨[i64 (nullsI x)[(nullsI x).length - 1]], map_getI ?_ ?_, ?_⟩; (focus (first | rfl | omega | (rw [wrap64 (by omega) (by omega)] <;> first | omega | rfl))); (focus omega); (conv => whnf))
      | (refine And.intro ?_ (And.intro ?_ (And.intro ?_ (And.intro ?_ ?_))); (focus (first | omega | (rw [wrap64 (by omega) (by omega)] <;> first | omega | rfl) | (simp; omega))); (focus (first | omega | (rw [wrap64 (by omega) (by omega)] <;> first | omega | rfl) | (simp; omega))); (focus (first | omega | (rw [wrap64 (by omega) (by omega)] <;> first | omega | rfl) | (simp; omega))); (focus ((repeat' (first | exact sz_nil | exact sz_map fun _ => rfl | apply sz_take | apply sz_drop | apply sz_append | apply sz_cons rfl)); done)); (conv => whnf))
      | (refine And.intro ?_ (And.intro ?_ ?_); (focus (first | omega | (rw [wrap64 (by omega) (by omega)] <;> first | omega | rfl) | (simp; omega))); (focus ((repeat' (first | exact sz_nil | exact sz_map fun _ => rfl | apply sz_take | apply sz_drop | apply sz_append | apply sz_cons rfl)); done)); (conv => whnf))
      | (refine And.intro ?_ (And.intro ?_ ?_); (focus (first | omega | (rw [wrap64 (by omega) (by omega)] <;> first | omega | rfl) | (simp; omega))); (focus (first | omega | (rw [wrap64 (by omega) (by omega)] <;> first | omega | rfl) | (simp; omega))); (conv => whnf))
      | (refine And.intro ?_ ?_; (focus (fail)); (conv => whnf))
      | (rw [beq_g]; (conv => whnf))
      | fail)
def H140 : List (Nat × Hint) := [(0, ⟨[], [0, 2]⟩), (1, ⟨[], [1, 4, 5]⟩), (2, ⟨[], [6, 7]⟩), (4, ⟨[], [3, 9, 10, 11, 12, 13, 14, 15]⟩)]
set_option maxHeartbeats 4000000 in
set_option maxRecDepth 100000 in
theorem ct_iNextNull (x : Inst) (ho : x.ok) (hn : (allVals x).length ≤ 1000000) : Ct Tryz.prog 140 [ag x.av] [] (sl (i64 (nextN x))) [] [] := by
  refine ct_of_vc mixed tab_ok H140 Tryz.func140 rfl (by kernel_rfl) (by kernel_rfl) (by rfl) ?_
  intro hw _
  clear hw
  conv => whnf
  refine .inl ?_
  conv => whnf
  refine ⟨_, _, _, _, ct_iNullsOfInstance x ho hn, ?_⟩
  conv => whnf
  have hlen := nulls_len (allVals x)
  have hlen2 : (nullsI x).length ≤ 1000000 := Nat.le_trans hlen hn
  refine ⟨fun h => ?_, fun h => ?_⟩ <;> (try simp at h) <;> (conv => whnf)
  · have e : nextN x = 0 := by simp [nextN, h]
    rw [e]
    repeat' (first
      | exact trivial
      | (refine ⟨rfl, ?_⟩; (conv => whnf))
      | (refine ⟨fun h => ?_, fun h => ?_⟩ <;> (try simp at h) <;> (try (exfalso; omega)) <;> (conv => whnf))
      | (intro b hb; (conv => whnf))
      | (refine And.intro ?_ ?_; (focus (rw [wrap64 (by omega) (by omega)] <;> rfl)); (conv => whnf))
      | (refine And.intro ?_ (And.intro ?_ (And.intro ?_ (And.intro ?_ ?_))); (focus (first | omega | (rw [wrap64 (by omega) (by omega)] <;> first | omega | rfl) | (simp; omega))); (focus (first | omega | (rw [wrap64 (by omega) (by omega)] <;> first | omega | rfl) | (simp; omega))); (focus (first | omega | (rw [wrap64 (by omega) (by omega)] <;> first | omega | rfl) | (simp; omega))); (focus ((repeat' (first | exact sz_nil | exact sz_map fun _ => rfl | apply sz_take | apply sz_drop | apply sz_append | apply sz_cons rfl)); done)); (conv => whnf))
      | (refine And.intro ?_ (And.intro ?_ ?_); (focus (first | omega | (rw [wrap64 (by omega) (by omega)] <;> first | omega | rfl) | (simp; omega))); (focus ((repeat' (first | exact sz_nil | exact sz_map fun _ => rfl | apply sz_take | apply sz_drop | apply sz_append | apply sz_cons rfl)); done)); (conv => whnf))
      | (refine And.intro ?_ (And.intro ?_ ?_); (focus (first | omega | (rw [wrap64 (by omega) (by omega)] <;> first | omega | rfl) | (simp; omega))); (focus (first | omega | (rw [wrap64 (by omega) (by omega)] <;> first | omega | rfl) | (simp; omega))); (conv => whnf))
      | (rw [beq_g]; (conv => whnf))
      | fail)
  · have h2 : ¬ (nullsI x).length = 0 := fun hh => h (List.length_eq_zero_iff.1 hh)
    have h0 : (nullsI x).length - 1 < (nullsI x).length := by omega
    have hlt := nullsI_lt (List.getElem_mem h0)
    have e : nextN x = (nullsI x)[(nullsI x).length - 1] + 1 := by simp only [nextN]; rw [if_neg h2, getD_eq h0]
    rw [e, List.length_map]
    repeat' (first
      | exact trivial
      | (refine ⟨rfl, ?_⟩; (conv => whnf))
      | (refine ⟨fun h => ?_, fun h => ?_⟩ <;> (try simp at h) <;> (try (exfalso; omega)) <;> (conv => whnf))
      | (intro b hb; (conv => whnf))
      | (refine And.intro ?_ ?_; (focus (rw [wrap64 (by omega) (by omega)] <;> rfl)); (conv => whnf))
      | (refine ⟨[i64 (nullsI x)[(nullsI x).length - 1]], ?_, map_getI ?_ ?_, rfl, ?_⟩; (focus (first | omega | (rw [wrap64 (by omega) (by omega)] <;> first | omega | rfl) | (simp; omega))); (focus (first | rfl | omega | (rw [wrap64 (by omega) (by omega)] <;> first | omega | rfl))); (focus omega); (conv => whnf))
      | (refine ⟨[i64 (nullsI x)[(nullsI x).length - 1]], map_getI ?_ ?_, ?_, ?_, ?_⟩; (focus (first | rfl | omega | (rw [wrap64 (by omega) (by omega)] <;> first | omega | rfl))); (focus omega); (focus (simp; done)); (focus (simp; done)); (conv => whnf))
      | (refine ⟨[i64 (nullsI x)[(nullsI x).length - 1]], map_getI ?_ ?_, ?_⟩; (focus (first | rfl | omega | (rw [wrap64 (by omega) (by omega)] <;> first | omega | rfl))); (focus omega); (conv => whnf))
      | (refine And.intro ?_ (And.intro ?_ (And.intro ?_ (And.intro ?_ ?_))); (focus (first | omega | (rw [wrap64 (by omega) (by omega)] <;> first | omega | rfl) | (simp; omega))); (focus (first | omega | (rw [wrap64 (by omega) (by omega)] <;> first | omega | rfl) | (simp; omega))); (focus (first | omega | (rw [wrap64 (by omega) (by omega)] <;> first | omega | rfl) | (simp; omega))); (focus ((repeat' (first | exact sz_nil | exact sz_map fun _ => rfl | apply sz_take | apply sz_drop | apply sz_append | apply sz_cons rfl)); done)); (conv => whnf))
      | (refine And.intro ?_ (And.intro ?_ ?_); (focus (first | omega | (rw [wrap64 (by omega) (by omega)] <;> first | omega | rfl) | (simp; omega))); (focus ((repeat' (first | exact sz_nil | exact sz_map fun _ => rfl | apply sz_take | apply sz_drop | apply sz_append | apply sz_cons rfl)); done)); (conv => whnf))
      | (refine And.intro ?_ (And.intro ?_ ?_); (focus (first | omega | (rw [wrap64 (by omega) (by omega)] <;> first | omega | rfl) | (simp; omega))); (focus (first | omega | (rw [wrap64 (by omega) (by omega)] <;> first | omega | rfl) | (simp; omega))); (conv => whnf))
      | (refine And.intro ?_ ?_; (focus (fail)); (conv => whnf))
      | (rw [beq_g]; (conv => whnf))
      | fail)
end Go.Proofs.YtccbimcikbbecaaGreat
/- The order of facts; sets of facts as sorted lists. -/
namespace Go.Proofs.YtccbimcikbbecaaGreat
open Go P1
theorem cmpInts_self : ∀ l : List Int, cmpInts l l = 0
  | [] => rfl
  | a :: l => by simp [cmpInts, cmpInts_self l]
theorem cmpInts_zero : ∀ {l m : List Int}, cmpInts l m = 0 → l = m
  | [], [], _ => rfl
  | [], _ :: _, h => by simp [cmpInts] at h
  | _ :: _, [], h => by simp [cmpInts] at h
  | a :: l, b :: m, h => by
    simp only [cmpInts] at h
    split at h
    · omega
    · split at h
      · omega
      · rw [cmpInts_zero h]; congr 1; omega
theorem cmpInts_flip : ∀ l m : List Int, cmpInts m l = - cmpInts l m
  | [], [] => rfl
  | [], _ :: _ => rfl
  | _ :: _, [] => rfl
  | a :: l, b :: m => by
    simp only [cmpInts]
    have := cmpInts_flip l m
    split
    · split <;> omega
    · split <;> omega
theorem cmpInts_tr : ∀ {l m n : List Int}, cmpInts l m < 0 → cmpInts m n < 0 → cmpInts l n < 0
  | [], [], _, h, _ => by simp [cmpInts] at h
  | [], _ :: _, [], _, h => by simp [cmpInts] at h
  | [], _ :: _, _ :: _, _, _ => by simp [cmpInts]
  | _ :: _, [], _, h, _ => by simp [cmpInts] at h
  | _ :: _, _ :: _, [], _, h => by simp [cmpInts] at h
  | a :: l, b :: m, c :: n, h, h' => by
    simp only [cmpInts] at h h' ⊢
    have := @cmpInts_tr l m n
    split at h
    · split at h'
      · split <;> omega
      · split at h'
        · omega
        · split <;> omega
    · split at h
      · omega
      · split at h'
        · split <;> omega
        · split at h'
          · omega
          · split
            · omega
            · split
              · omega
              · exact this h h'
theorem cmpFacts_self (f : Fact) : cmpFacts f f = 0 := by simp [cmpFacts, cmpInts_self]
theorem cmpFacts_zero {f g : Fact} (h : cmpFacts f g = 0) : f = g := by
  obtain ⟨r, v⟩ := f
  obtain ⟨r', v'⟩ := g
  simp only [cmpFacts] at h
  split at h
  · omega
  · split at h
    · omega
    · have e := cmpInts_zero h
      subst e
      have : r = r' := by omega
      subst this; rfl
theorem cmpFacts_flip (f g : Fact) : cmpFacts g f = - cmpFacts f g := by
  simp only [cmpFacts]
  have := cmpInts_flip f.vals g.vals
  split
  · split <;> omega
  · split <;> omega
theorem cmpFacts_tr {f g h : Fact} (h1 : cmpFacts f g < 0) (h2 : cmpFacts g h < 0) : cmpFacts f h < 0 := by
  simp only [cmpFacts] at h1 h2 ⊢
  have := @cmpInts_tr f.vals g.vals h.vals
  split at h1
  · split at h2
    · split <;> omega
    · split at h2
      · omega
      · split <;> omega
  · split at h1
    · omega
    · split at h2
      · split <;> omega
      · split at h2
        · omega
        · split
          · omega
          · split
            · omega
            · exact this h1 h2
def ltF (f g : Fact) : Prop := cmpFacts f g < 0
theorem TO_fact : TO ltF := ⟨fun a h => by simp only [ltF, cmpFacts_self] at h; omega, fun _ _ _ h h' => cmpFacts_tr h h', fun a b => by
  by_cases h : cmpFacts a b = 0
  · exact .inl (cmpFacts_zero h)
  · have := cmpFacts_flip a b
    simp only [ltF]; right; omega⟩
theorem hasF_iff {l : List Fact} {f : Fact} : hasF l f = true ↔ f ∈ l := by
  simp only [hasF, List.any_eq_true, same, decide_eq_true_eq]
  constructor
  · rintro ⟨g, hg, h⟩; rw [← cmpFacts_zero h]; exact hg
  · intro h; exact ⟨f, h, cmpFacts_self f⟩
theorem insF_mem : ∀ {l : List Fact} {f g : Fact}, g ∈ insF l f ↔ g = f ∨ g ∈ l
  | [], f, g => by simp [insF]
  | a :: l, f, g => by
    simp only [insF]
    split
    · rw [List.mem_cons, insF_mem (l := l), List.mem_cons]
      constructor
      · rintro (h | h | h) <;> simp [h]
      · rintro (h | h | h) <;> simp [h]
    · simp
theorem insF_strict : ∀ {l : List Fact} {f : Fact}, l.Pairwise ltF → f ∉ l → (insF l f).Pairwise ltF
  | [], f, _, _ => by simp [insF]
  | a :: l, f, h, hn => by
    rw [List.pairwise_cons] at h
    simp only [insF]
    split
    · rename_i ha
      rw [List.pairwise_cons]
      refine ⟨fun y hy => ?_, insF_strict h.2 fun hm => hn (by simp [hm])⟩
      rcases insF_mem.1 hy with e | e
      · subst e; exact ha
      · exact h.1 y e
    · rename_i ha
      have hfa : ltF f a := by
        rcases TO_fact.tri f a with e | e | e
        · subst e; exact absurd (by simp) hn
        · exact e
        · exact absurd e ha
      rw [List.pairwise_cons, List.pairwise_cons]
      refine ⟨fun y hy => ?_, h⟩
      rcases List.mem_cons.1 hy with e | e
      · subst e; exact hfa
      · exact TO_fact.tr _ _ _ hfa (h.1 y e)
theorem putF_mem {l : List Fact} {f g : Fact} : g ∈ putF l f ↔ g = f ∨ g ∈ l := by
  simp only [putF]
  split
  · rename_i h
    constructor
    · intro h; simp [h]
    · rintro (e | e)
      · subst e; exact hasF_iff.1 h
      · exact e
  · exact insF_mem
theorem putF_strict {l : List Fact} {f : Fact} (h : l.Pairwise ltF) : (putF l f).Pairwise ltF := by
  simp only [putF]
  split
  · exact h
  · rename_i hn
    exact insF_strict h fun hm => hn (hasF_iff.2 hm)
theorem foldF_mem : ∀ {l acc : List Fact} {x : Fact}, x ∈ l.foldl putF acc ↔ x ∈ l ∨ x ∈ acc
  | [], acc, x => by simp
  | a :: l, acc, x => by
    rw [List.foldl_cons, foldF_mem (l := l), putF_mem, List.mem_cons]
    constructor
    · rintro (h | h | h) <;> simp [h]
    · rintro ((h | h) | h) <;> simp [h]
theorem foldF_strict : ∀ {l acc : List Fact}, acc.Pairwise ltF → (l.foldl putF acc).Pairwise ltF
  | [], _, h => h
  | _ :: l, _, h => foldF_strict (l := l) (putF_strict h)
theorem foldF_len : ∀ (l acc : List Fact), (l.foldl putF acc).length ≤ l.length + acc.length
  | [], acc => by simp
  | a :: l, acc => by
    rw [List.foldl_cons, List.length_cons]
    have h1 := foldF_len l (putF acc a)
    have h2 := putF_len acc a
    omega
theorem sortF_sorted (l : List Fact) : (sortF l).Pairwise fun a b => ¬ ltF b a := by
  have := List.pairwise_mergeSort (le := fun x y : Fact => decide (cmpFacts x y ≤ 0))
    (fun a b c h h' => by
      simp only [decide_eq_true_eq] at h h' ⊢
      rcases Nat.eq_zero_or_pos 0 with _ | hh
      · by_cases h0 : cmpFacts a b = 0
        · rw [cmpFacts_zero h0]; exact h'
        · by_cases h1 : cmpFacts b c = 0
          · rw [← cmpFacts_zero h1]; exact h
          · have := cmpFacts_tr (f := a) (g := b) (h := c) (by omega) (by omega)
            omega
      · omega)
    (fun a b => by
      have := cmpFacts_flip a b
      simp only [Bool.or_eq_true, decide_eq_true_eq]; omega) l
  exact this.imp fun {a b} h => by
    have := cmpFacts_flip a b
    simp only [decide_eq_true_eq, ltF] at h ⊢; omega
theorem sortF_perm (l : List Fact) : (sortF l).Perm l := List.mergeSort_perm l _
theorem sortF_length (l : List Fact) : (sortF l).length = l.length := (sortF_perm l).length_eq
theorem comp_strictF (l : List Fact) : (comp (sortF l)).Pairwise ltF := comp_strict TO_fact (sortF_sorted l)
/-- Sorting and compaction of what is strict already with more behind it: the same as insertion. -/
theorem comp_sortF {l acc : List Fact} (h : acc.Pairwise ltF) : comp (sortF (acc ++ l)) = l.foldl putF acc :=
  strict_ext TO_fact (comp_strictF _) (foldF_strict h) fun x => by
    rw [comp_mem, foldF_mem, (sortF_perm _).mem_iff, List.mem_append]; exact Or.comm
theorem comp_sortF0 (l : List Fact) : comp (sortF l) = l.foldl putF [] := comp_sortF (l := l) (acc := []) .nil
theorem strict_of_adj {lt : Fact → Fact → Prop} (h : TO lt) : ∀ {l : List Fact}, (∀ i (hi : i + 1 < l.length), lt (l[i]'(by omega)) l[i + 1]) → l.Pairwise lt
  | [], _ => .nil
  | [a], _ => by simp
  | a :: b :: l, ha => by
    have h1 : (b :: l).Pairwise lt := strict_of_adj h fun i hi => by have := ha (i + 1) (by simpa using hi); simpa using this
    have hab : lt a b := by have := ha 0 (by simp); simpa using this
    rw [List.pairwise_cons]
    refine ⟨fun y hy => ?_, h1⟩
    rcases List.mem_cons.1 hy with e | e
    · subst e; exact hab
    · exact h.tr _ _ _ hab ((List.pairwise_cons.1 h1).1 y e)
theorem validInst_strict {x : Inst} (h : validInst x = true) : x.facts.Pairwise ltF := by
  refine strict_of_adj TO_fact fun i hi => ?_
  simp only [validInst, Bool.and_eq_true, List.all_eq_true, List.mem_range] at h
  have := h.1 (i + 1) hi
  rw [fOkAt_S hi (by omega)] at this
  simp only [Bool.and_eq_true, decide_eq_true_eq] at this
  exact this.2.1
theorem validInst_of {x : Inst} (hr : validRels x.rels = true) (hl : x.facts.length ≤ 30) (hs : x.facts.Pairwise ltF) (hv : ∀ f ∈ x.facts, validFact x.rels f = true ∧ noSrc x.rels f = true) : validInst x = true := by
  simp only [validInst, Bool.and_eq_true, List.all_eq_true, List.mem_range, hr, decide_eq_true hl]
  refine ⟨fun i hi => ?_, trivial, trivial⟩
  have h1 := hv _ (List.getElem_mem hi)
  refine fOkAt_good hi h1.1 ?_ h1.2
  rcases Nat.eq_zero_or_pos i with h0 | h0
  · exact .inl h0
  · exact .inr ⟨h0, List.pairwise_iff_getElem.1 hs (i - 1) i (by omega) hi (by omega)⟩
end Go.Proofs.YtccbimcikbbecaaGreat
/- Elements of a row of facts, as the library's sort sees them. -/
namespace Go.Proofs.YtccbimcikbbecaaGreat
open Go P1
/-- An element: two cells that read as a fact. -/
structure El (w : World) (F : Nat → Prop) where
  f : Fact
  x : Value
  y : Value
  hx : Rd w F x (i64 f.rel)
  hy : Rd w F y (ints f.vals)
instance (w : World) (F : Nat → Prop) : Inhabited (El w F) := ⟨⟨⟨0, []⟩, .int .i64 0, .slice none 0 0, .int (by decide), .emp (fun _ => rfl)⟩⟩
def El.enc {w : World} {F : Nat → Prop} (e : El w F) : List Value := [e.x, e.y]
theorem els_read {w : World} {F : Nat → Prop} : ∀ {xs : List Value} {l : List Fact}, All2 (Rd w F) xs (l.map Fact.av).flatten → ∃ els : List (El w F), els.map El.f = l ∧ xs = els.flatMap El.enc
  | xs, [], h => by
    cases h
    exact ⟨[], rfl, rfl⟩
  | xs, f :: l, h => by
    have h2 : All2 (Rd w F) xs (i64 f.rel :: ints f.vals :: (l.map Fact.av).flatten) := h
    cases h2 with
    | cons hx t =>
      cases t with
      | cons hy t =>
        obtain ⟨els, e1, e2⟩ := els_read t
        exact ⟨⟨f, _, _, hx, hy⟩ :: els, by simp [e1], by simp [e2, El.enc]⟩
theorem els_rd {w w' : World} {F : Nat → Prop} (hF : ∀ b, F b → w'.heap[b]? = w.heap[b]?) : ∀ (els : List (El w F)), All2 (Rd w' F) (els.flatMap El.enc) ((els.map El.f).map Fact.av).flatten
  | [] => .nil
  | e :: els => .cons (e.hx.mono hF fun _ h => h) (.cons (e.hy.mono hF fun _ h => h) (els_rd hF els))
theorem flat_len {w : World} {F : Nat → Prop} : ∀ (els : List (El w F)), (els.flatMap El.enc).length = els.length * 2
  | [] => rfl
  | e :: els => by rw [List.flatMap_cons, List.length_append, flat_len els, List.length_cons]; simp [El.enc]; omega
/-- A call that changes nothing old: the world has grown. -/
theorem fr_grown {w w' : World} (h : Fr w (fun _ => False) w') : ∃ q os, w' = Go.Sort.grow (w.drewN q) os := by
  refine ⟨w'.drawn - w.drawn, w'.heap.extract w.heap.size w'.heap.size, ?_⟩
  have hh : w'.heap = w.heap ++ w'.heap.extract w.heap.size w'.heap.size := by
    apply Array.ext_getElem?
    intro i
    rcases Nat.lt_or_ge i w.heap.size with hi | hi
    · rw [Array.getElem?_append_left hi]; exact h.block i hi fun h => h
    · rw [Array.getElem?_append_right hi, Array.getElem?_extract]
      split
      · congr 1; omega
      · rw [Array.getElem?_eq_none (by omega)]
  have hd : w.drawn + (w'.drawn - w.drawn) = w'.drawn := by have := h.drawn; omega
  have ho := h.os
  have ht := h.tape
  have hp := h.output
  obtain ⟨heap, tape, drawn, os, output⟩ := w'
  simp only at ho ht hp hh hd
  subst ho; subst ht; subst hp
  simp only [Go.Sort.grow, World.drewN]
  rw [← hh, hd]
theorem ct_grown {f : FuncId} {args : List Sl} {x : AV} (h : Ct Tryz.prog f args [] (sl x) [] []) {F : Nat → Prop} {W : World} {vals : List Value} (hFlt : ∀ b, F b → b < W.heap.size) (hv : SlsR (gh F) W vals args) :
    Calls Tryz.prog f vals.toArray W fun e w' => ∃ v, e = .returned v ∧ (∃ F', Rd w' F' v x) ∧ ∃ q os, w' = Go.Sort.grow (W.drewN q) os :=
  (h.2 (fun _ => 0) (fun _ => undef) F W vals ⟨fun _ h => by simp at h, fun _ h => by simp at h, fun _ h => by simp at h⟩ hFlt hv).mono fun e w' ⟨v, G', he, hp⟩ =>
    ⟨v, he, ⟨G'.F, hp.res⟩, fr_grown (hp.fr.mono fun i ⟨p, hp, _⟩ => by simp at hp)⟩
theorem sorted_unique {α : Type} {lt : α → α → Prop} (h : TO lt) : ∀ {l m : List α}, l.Perm m → l.Pairwise (fun a b => ¬ lt b a) → m.Pairwise (fun a b => ¬ lt b a) → l = m
  | [], m, hp, _, _ => (List.Perm.nil_eq hp)
  | a :: l, [], hp, _, _ => by have := hp.length_eq; simp at this
  | a :: l, b :: m, hp, hl, hm => by
    rw [List.pairwise_cons] at hl hm
    have hab : a = b := by
      rcases List.mem_cons.1 (hp.mem_iff.1 (List.mem_cons_self (a := a) (l := l))) with e | e
      · exact e
      · rcases List.mem_cons.1 (hp.mem_iff.2 (List.mem_cons_self (a := b) (l := m))) with e2 | e2
        · exact e2.symm
        · rcases h.tri a b with e3 | e3 | e3
          · exact e3
          · exact absurd e3 (hm.1 a e)
          · exact absurd e3 (hl.1 b e2)
    subst hab
    rw [sorted_unique h (List.perm_cons _ |>.1 hp) hl.2 hm.2]
end Go.Proofs.YtccbimcikbbecaaGreat
/- Contracts of the library at this program: a text of the kit's tool. -/
namespace Go.Proofs
open Go.Shelf
def Tryz.sortF_ren : Go.Shelf.Ren := ⟨fun | 6 => 174 | 15 => 151 | 14 => 197 | 28 => 187 | 29 => 188 | 20 => 207 | 21 => 208 | 22 => 209 | 23 => 210 | 24 => 211 | 25 => 212 | 26 => 213 | 27 => 214 | 46 => 217 | 47 => 199 | 48 => 200 | 49 => 218 | 50 => 219 | 57 => 220 | n => n, fun | 22 => 54 | 24 => 136 | 25 => 148 | 3 => 3 | 39 => 170 | 0 => 0 | 53 => 194 | 55 => 196 | 4 => 4 | 46 => 187 | 45 => 186 | 50 => 124 | 5 => 5 | 9 => 9 | 66 => 202 | 70 => 206 | 76 => 216 | 77 => 217 | n => n, fun | n => n⟩
theorem Tryz.sortF : Go.Proofs.SlLaysF0.n6 Tryz.prog Tryz.sortF_ren := {
  mixed := by kernel_rfl
  f6 := ⟨Tryz.f174.name, by decide, Tryz.func174.trans (congrArg some (by kernel_rfl))⟩
  f14 := ⟨Tryz.f197.name, by decide, Tryz.func197.trans (congrArg some (by kernel_rfl))⟩
  f15 := Tryz.func151.trans (congrArg some (by kernel_rfl))
  f20 := ⟨Tryz.f207.name, by decide, Tryz.func207.trans (congrArg some (by kernel_rfl))⟩
  f21 := ⟨Tryz.f208.name, by decide, Tryz.func208.trans (congrArg some (by kernel_rfl))⟩
  f22 := ⟨Tryz.f209.name, by decide, Tryz.func209.trans (congrArg some (by kernel_rfl))⟩
  f23 := ⟨Tryz.f210.name, by decide, Tryz.func210.trans (congrArg some (by kernel_rfl))⟩
  f24 := ⟨Tryz.f211.name, by decide, Tryz.func211.trans (congrArg some (by kernel_rfl))⟩
  f25 := ⟨Tryz.f212.name, by decide, Tryz.func212.trans (congrArg some (by kernel_rfl))⟩
  f26 := ⟨Tryz.f213.name, by decide, Tryz.func213.trans (congrArg some (by kernel_rfl))⟩
  f27 := ⟨Tryz.f214.name, by decide, Tryz.func214.trans (congrArg some (by kernel_rfl))⟩
  f28 := Tryz.func187.trans (congrArg some (by kernel_rfl))
  f29 := Tryz.func188.trans (congrArg some (by kernel_rfl))
  f46 := ⟨Tryz.f217.name, by decide, Tryz.func217.trans (congrArg some (by kernel_rfl))⟩
  f47 := Tryz.func199.trans (congrArg some (by kernel_rfl))
  f48 := Tryz.func200.trans (congrArg some (by kernel_rfl))
  f49 := ⟨Tryz.f218.name, by decide, Tryz.func218.trans (congrArg some (by kernel_rfl))⟩
  f50 := ⟨Tryz.f219.name, by decide, Tryz.func219.trans (congrArg some (by kernel_rfl))⟩
  f57 := ⟨Tryz.f220.name, by decide, Tryz.func220.trans (congrArg some (by kernel_rfl))⟩
  t0 := Tryz.underlying0
  a0 := Tryz.isAgg0
  z0 := Tryz.sizeOf0
  v0 := Tryz.zeroValue0
  t3 := Tryz.underlying3
  a3 := Tryz.isAgg3
  z3 := Tryz.sizeOf3
  v3 := Tryz.zeroValue3
  t4 := Tryz.underlying4
  a4 := Tryz.isAgg4
  z4 := Tryz.sizeOf4
  v4 := Tryz.zeroValue4
  t5 := Tryz.underlying5
  a5 := Tryz.isAgg5
  z5 := Tryz.sizeOf5
  v5 := Tryz.zeroValue5
  t9 := Tryz.underlying9
  a9 := Tryz.isAgg9
  z9 := Tryz.sizeOf9
  v9 := Tryz.zeroValue9
  t22 := Tryz.underlying54
  a22 := Tryz.isAgg54
  z22 := Tryz.sizeOf54
  v22 := Tryz.zeroValue54
  t25 := Tryz.underlying148
  a25 := Tryz.isAgg148
  z25 := Tryz.sizeOf148
  v25 := Tryz.zeroValue148
  t39 := Tryz.underlying170
  a39 := Tryz.isAgg170
  z39 := Tryz.sizeOf170
  v39 := Tryz.zeroValue170
  t45 := Tryz.underlying186
  a45 := Tryz.isAgg186
  z45 := Tryz.sizeOf186
  v45 := Tryz.zeroValue186
  t46 := Tryz.underlying187
  a46 := Tryz.isAgg187
  z46 := Tryz.sizeOf187
  v46 := Tryz.zeroValue187
  t50 := Tryz.underlying124
  a50 := Tryz.isAgg124
  z50 := Tryz.sizeOf124
  v50 := Tryz.zeroValue124
  t53 := Tryz.underlying194
  a53 := Tryz.isAgg194
  z53 := Tryz.sizeOf194
  v53 := Tryz.zeroValue194
  t55 := Tryz.underlying196
  a55 := Tryz.isAgg196
  z55 := Tryz.sizeOf196
  v55 := Tryz.zeroValue196
  t66 := Tryz.underlying202
  a66 := Tryz.isAgg202
  z66 := Tryz.sizeOf202
  v66 := Tryz.zeroValue202
  t70 := Tryz.underlying206
  a70 := Tryz.isAgg206
  z70 := Tryz.sizeOf206
  v70 := Tryz.zeroValue206
  t76 := Tryz.underlying216
  a76 := Tryz.isAgg216
  z76 := Tryz.sizeOf216
  v76 := Tryz.zeroValue216
  t77 := Tryz.underlying217
  a77 := Tryz.isAgg217
  z77 := Tryz.sizeOf217
  v77 := Tryz.zeroValue217 }
end Go.Proofs
/- The library's sort at a row of facts. -/
namespace Go.Proofs.YtccbimcikbbecaaGreat
open Go P1 Go.Shelf Go.RowKit Go.Lib
section
variable {w : World} {F : Nat → Prop}
theorem flat_get : ∀ (els : List (El w F)) (t : Nat), t < els.length * 2 → (els.flatMap El.enc)[t]? = some (El.enc els[t / 2]!)[t % 2]!
  | [], t, h => by simp at h
  | e :: els, 0, _ => by simp [El.enc]
  | e :: els, 1, _ => by simp [El.enc]
  | e :: els, t + 2, h => by
    have ih := flat_get els t (by simp at h; omega)
    have e1 : (t + 2) / 2 = t / 2 + 1 := by omega
    have e2 : (t + 2) % 2 = t % 2 := by omega
    have e3 : ((e :: els).flatMap El.enc)[t + 2]? = (els.flatMap El.enc)[t]? := by simp [List.flatMap_cons, El.enc]
    rw [e1, e2, e3, ih]
    rfl
theorem flat_toList (d : Array (El w F)) : (Go.Sort.flatK El.enc 2 d).toList = d.toList.flatMap El.enc := by
  apply List.ext_getElem?
  intro t
  rcases Nat.lt_or_ge t (d.size * 2) with h | h
  · rw [flat_get d.toList t (by simpa using h), Array.getElem?_toList, Array.getElem?_eq_getElem (by simpa using h)]
    have := Go.Sort.get_flatK El.enc 2 d t h
    rw [getElem!_pos _ t (by simpa using h)] at this
    rw [this]
    congr 3
    have hd : t / 2 < d.size := by omega
    rw [getElem!_pos d _ hd, getElem!_pos d.toList _ (by simpa using hd)]
    simp
  · rw [List.getElem?_eq_none (by simpa using h), List.getElem?_eq_none (by rw [flat_len]; simpa using h)]
theorem els_holds {g : Nat} {e : TypeId} {cur : Array Value} {els : List (El w F)} (hg : w.heap[g]? = some (.cells cur e (0, 0))) (ht : cur.toList.take (els.length * 2) = els.flatMap El.enc) : Go.Sort.HoldsK El.enc 2 w g 0 els.toArray := by
  intro j hj
  have hj2 : j < els.length * 2 := by simpa using hj
  refine ⟨?_, ?_⟩
  · have h1 : (cur.toList.take (els.length * 2))[j]? = some (El.enc els[j / 2]!)[j % 2]! := by rw [ht]; exact flat_get els j hj2
    rw [List.getElem?_take, if_pos hj2, Array.getElem?_toList] at h1
    simp only [World.cell?, hg, Nat.zero_add]
    rw [Go.Sort.get_flatK El.enc 2 _ j (by simpa using hj2)]
    simpa using h1
  · simp [World.frozen?, hg]
end
def cfE {w : World} {F : Nat → Prop} (a b : El w F) : Int := cmpFacts a.f b.f
theorem swo_cfE {w : World} {F : Nat → Prop} : Go.Sort.SWO (ltOf (cfE (w := w) (F := F))) where
  irrefl x := by simp [ltOf, cfE, cmpFacts_self]
  trans x y z h1 h2 := by
    exact decide_eq_true (cmpFacts_tr (of_decide_eq_true h1) (of_decide_eq_true h2))
  ntrans x y z h1 h2 := by
    have h1 : ¬ cmpFacts x.f y.f < 0 := of_decide_eq_false h1
    have h2 : ¬ cmpFacts y.f z.f < 0 := of_decide_eq_false h2
    refine decide_eq_false fun h3 => ?_
    have h3 : cmpFacts x.f z.f < 0 := h3
    have a1 := cmpFacts_flip x.f y.f
    have a2 := cmpFacts_flip y.f z.f
    by_cases e1 : cmpFacts x.f y.f = 0
    · rw [cmpFacts_zero e1] at h3; exact h2 h3
    · by_cases e2 : cmpFacts y.f z.f = 0
      · rw [← cmpFacts_zero e2] at h3; exact h1 h3
      · have := cmpFacts_tr (f := z.f) (g := y.f) (h := x.f) (by omega) (by omega)
        have a3 := cmpFacts_flip x.f z.f
        omega
theorem sortWorld_other {w w0 : World} {F : Nat → Prop} {g m : Nat} {dk : Array (El w F)} {os : Array Obj} {i : Nat} (h : i ≠ g) (hi : i < w0.heap.size) : (sortWorldK El.enc 2 w0 g 0 m dk os).heap[i]? = w0.heap[i]? := put_other h hi
theorem cmpLays {w : World} {F : Nat → Prop} {g n : Nat} (hFlt : ∀ b, F b → b < w.heap.size) (hF : ¬ F g) : CmpLays Tryz.prog 134 #[] (El.enc (w := w) (F := F)) 2 cfE g 0 n w := fun m os dk _ x y => by
  have hm : ∀ b, F b → (sortWorldK (El.enc (w := w) (F := F)) 2 w g 0 m dk os).heap[b]? = w.heap[b]? := fun b hb => sortWorld_other (fun e => hF (e ▸ hb)) (hFlt b hb)
  have hsz : w.heap.size ≤ (sortWorldK (El.enc (w := w) (F := F)) 2 w g 0 m dk os).heap.size := size_sortWorldK_c El.enc 2 w g 0 m dk os
  refine (ct_grown (ct_iCompareFacts x.f y.f) (F := F) (vals := [.agg #[x.x, x.y], .agg #[y.x, y.y]]) (fun b hb => Nat.lt_of_lt_of_le (hFlt b hb) hsz)
    ⟨⟨_, rfl, .cons (x.hx.mono hm fun _ h => h) (.cons (x.hy.mono hm fun _ h => h) .nil)⟩, ⟨_, rfl, .cons (y.hx.mono hm fun _ h => h) (.cons (y.hy.mono hm fun _ h => h) .nil)⟩, trivial⟩).mono fun e w' ⟨v, he, ⟨F', hv⟩, hg⟩ => ⟨?_, hg⟩
  cases hv
  exact he
theorem ctr_SortF (l : List Fact) (h : l.length ≤ 1000000) : CtR Tryz.prog 174 [.lf (.fn 134 [])] ⟨136, 2, true, l.map Fact.av⟩ false ((sortF l).map Fact.av) := by
  refine ⟨⟨_, _, Tryz.func174, rfl, by kernel_rfl⟩, fun F w v vals hFlt hrow hone hcold hvals => ?_⟩
  match vals, hvals with
  | [fv], ⟨hfv, _⟩ =>
  have hfv2 : fv = .func (.func 134) #[] #[] := hfv
  subst hfv2
  by_cases h0 : l = []
  · subst h0
    obtain ⟨A, cap, rfl⟩ := rowNil hrow
    have hcon := AnyF.slices_SortFunc_none Tryz.sortF A cap (.func (.func 134) #[] #[]) w
    change Calls Tryz.prog 174 _ _ _ at hcon
    refine hcon.mono fun e w' ⟨he, hw⟩ => ?_
    subst hw
    exact ⟨_, he, Fr.refl _ _, by simpa [sortF] using hrow, hone, fun g hg => hg, fun _ => rfl⟩
  have hne : l.map Fact.av ≠ [] := by simpa using h0
  obtain ⟨g, cap, cur, xs, hv, hg, hc, hm, hs, ht, hx, hA⟩ := rowParts hrow hne
  subst hv
  obtain ⟨els, hl, rfl⟩ := els_read hA
  subst hl
  simp only [List.length_map] at ht hc h
  have hgs : g < w.heap.size := by
    rcases Nat.lt_or_ge g w.heap.size with h1 | h1
    · exact h1
    · rw [Array.getElem?_eq_none h1] at hg; cases hg
  have hFg : ¬ F g := hcold g rfl
  have eg : ∀ args w, (callFunc 134 args).run Tryz.prog w = .ok (.enter 134 args) w := enters_of Tryz.func134 (by kernel_rfl) rfl
  have hcon := AnyQ.slices_SortFunc Tryz.sortF 2 Tryz.isAgg136 Tryz.sizeOf136 El.enc (fun _ => rfl) (fun e v hv => by
    rcases List.mem_cons.1 hv with rfl | hv
    · exact e.hx.oneCell
    · rcases List.mem_cons.1 hv with rfl | hv
      · exact e.hy.oneCell
      · cases hv) cfE swo_cfE 134 #[] g 0 cap els.toArray w eg (cmpLays hFlt hFg) (els_holds hg ht) hgs (by simp; omega)
  simp only [List.length_map]
  change Calls Tryz.prog 174 _ _ _ at hcon
  simp only [List.size_toArray] at hcon
  refine hcon.mono fun e w' ⟨he, d', n, os, hp, hso, hw⟩ => ?_
  subst hw
  have hd : d'.size = els.length := by simpa using hp.1
  have hperm : d'.toList.Perm els := by
    have := hp.2.2
    have e1 : d'.extract 0 els.length = d' := by rw [← hd]; simp
    have e2 : els.toArray.extract 0 els.length = els.toArray := by simp
    rw [e1, e2] at this
    simpa using this
  have hsorted : (d'.toList.map El.f).Pairwise fun a b => ¬ ltF b a := by
    rw [List.pairwise_map, List.pairwise_iff_getElem]
    intro i j hi hj hij
    have := hso i j (Nat.zero_le _) hij (by simpa [hd] using hj)
    have hi2 : i < d'.size := by simpa using hi
    have hj2 : j < d'.size := by simpa using hj
    rw [getElem!_pos d' i hi2, getElem!_pos d' j hj2] at this
    have this : ¬ cmpFacts d'[j].f d'[i].f < 0 := of_decide_eq_false this
    simpa [ltF] using this
  have hfin : d'.toList.map El.f = sortF (els.map El.f) := sorted_unique TO_fact ((hperm.map El.f).trans (sortF_perm _).symm) hsorted (sortF_sorted _)
  have hlen : (sortF (els.map El.f)).length = els.length := by rw [sortF_length, List.length_map]
  refine ⟨_, he, put_fr rfl, ?_, rfl, fun _ hg => hg, fun _ => rfl⟩
  have := put_row (enc := id) (w := w) (g := g) (n := n) (d := Go.Sort.flatK El.enc 2 d') (os := os) (F := F) (e := 136) (sz := 2) (m := els.length) (cap := cap) (cur := cur) (es' := (sortF (els.map El.f)).map Fact.av) (by omega) hg hs hc hm (by simp [hd]) (by simp [hlen]) (by rw [List.length_map, hlen]; exact Nat.le_trans h (by decide)) (fun x hx => by obtain ⟨_, _, rfl⟩ := List.mem_map.1 hx; rfl) (by
    rw [List.map_id, flat_toList, List.take_of_length_le (by rw [flat_len, List.length_map, hlen]; simp [hd]), ← hfin]
    exact els_rd (fun b hb => put_other (fun e => hFg (by rw [← e]; exact hb)) (hFlt b hb)) d'.toList)
  rw [List.length_map, hlen] at this
  exact this
end Go.Proofs.YtccbimcikbbecaaGreat
