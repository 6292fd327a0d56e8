/- Part 10 of what the row leans on: Cpf, Apl, Apt, Apu. No statement of the program stands here by itself. -/
import Derived.Test.YtccbimcikbbecaaGreatW9
import Derived.Shelf.SlSortCmp.KitK
import Derived.Lib.SlicesCompact
set_option linter.all false
set_option linter.unusedVariables false
set_option linter.unusedSimpArgs false
/- The library's compaction at a row of facts. -/
namespace Go.Proofs.YtccbimcikbbecaaGreat
open Go P1 Go.Shelf Go.RowKit Go.Lib Go.Sort
instance : Inhabited Fact := ⟨⟨0, []⟩⟩
section
variable {w : World} {F : Nat → Prop}
theorem sameLays {g off : Nat} (hFlt : ∀ b, F b → b < w.heap.size) (hF : ¬ F g) (m : Nat) (os : Array Obj) (dk : Array (El w F)) (x y : El w F) :
    Calls Tryz.prog 176 #[.agg x.enc.toArray, .agg y.enc.toArray] (sortWorldK El.enc 2 w g off m dk os) fun e w' => e = .returned (.bool (same x.f y.f)) ∧ ∃ q os', w' = Go.Sort.grow ((sortWorldK El.enc 2 w g off m dk os).drewN q) os' := by
  have hm : ∀ b, F b → (sortWorldK (El.enc (w := w) (F := F)) 2 w g off m dk os).heap[b]? = w.heap[b]? := fun b hb => put_otherO (fun e => hF (by rw [← e]; exact hb)) (hFlt b hb)
  have hsz : w.heap.size ≤ (sortWorldK (El.enc (w := w) (F := F)) 2 w g off m dk os).heap.size := size_sortWorldK_c El.enc 2 w g off m dk os
  refine (ct_grown (ct_sameFact x.f y.f) (F := F) (vals := [.agg #[x.x, x.y], .agg #[y.x, y.y]]) (fun b hb => Nat.lt_of_lt_of_le (hFlt b hb) hsz)
    ⟨⟨_, rfl, .cons (x.hx.mono hm fun _ h => h) (.cons (x.hy.mono hm fun _ h => h) .nil)⟩, ⟨_, rfl, .cons (y.hx.mono hm fun _ h => h) (.cons (y.hy.mono hm fun _ h => h) .nil)⟩, trivial⟩).mono fun e w' ⟨v, he, ⟨F', hv⟩, hg⟩ => ⟨?_, hg⟩
  cases hv
  exact he
theorem flat_set (dk : Array (El w F)) (i : Nat) (x : El w F) (hi : i < dk.size) : Go.Sort.setMany (Go.Sort.flatK El.enc 2 dk) (i * 2) x.enc = Go.Sort.flatK El.enc 2 (dk.setIfInBounds i x) := by
  refine Go.Sort.ext_get! (by simp) fun t ht => ?_
  have ht' : t < dk.size * 2 := by simpa using ht
  rw [Go.Sort.get_setMany _ _ _ t (by simpa using ht'), Go.Sort.get_flatK _ _ _ t ht', Go.Sort.get_flatK _ _ _ t (by simpa using ht')]
  by_cases h : t / 2 = i
  · subst h
    have e1 : t / 2 * 2 ≤ t ∧ t < t / 2 * 2 + x.enc.length := by simp [El.enc]; omega
    have e2 : t - t / 2 * 2 = t % 2 := by omega
    rw [if_pos e1, e2, getElem!_set_same dk _ x hi]
  · have e1 : ¬ (i * 2 ≤ t ∧ t < i * 2 + x.enc.length) := by simp [El.enc]; omega
    rw [if_neg e1, getElem!_set_other dk i _ x h]
theorem world_set {w0 : World} {blk off m : Nat} (dk : Array (El w F)) (os : Array Obj) (i : Nat) (x : El w F) (hi : i < dk.size) (hblk : blk < w0.heap.size) :
    (sortWorldK El.enc 2 w0 blk off m dk os).setCells blk (off + i * 2) x.enc = sortWorldK El.enc 2 w0 blk off m (dk.setIfInBounds i x) os := by
  unfold sortWorldK
  rw [setCells_grow os blk _ _ _ (by rw [size_putRowK]; exact hblk)]
  unfold putRowK
  rw [setCells_putRow _ _ _ _ _ _ (by simp [El.enc]; omega), flat_set dk i x hi]
def zsF (n : Nat) : List Value := (Builtin.zeroCells #[.int .i64 0, .slice none 0 0] n).toList
theorem zsF_len (n : Nat) : (zsF n).length = n * 2 := by simp [zsF, Builtin.zeroCells]
theorem zsF_one (n : Nat) : ∀ v ∈ zsF n, v.oneCell' = true := fun v hv => by
  simp only [zsF, Builtin.zeroCells, Array.toList_map, List.mem_map] at hv
  obtain ⟨i, _, rfl⟩ := hv
  have : i % 2 = 0 ∨ i % 2 = 1 := by omega
  rcases this with h | h <;> simp [h] <;> rfl
theorem run_clearF (W : World) (ty : TypeId) (b o s n c : Nat) (G : Array Value) (hH : Go.Sort.Holds id W b o G) (hn : 0 < n) (hs : s + n * 2 ≤ G.size) :
    (Builtin.clear_ #[54] ty #[.slice (some ⟨b, o + s, none⟩) n c]).run Tryz.prog W = .ok (.tuple #[]) (W.setCells b (o + s) (zsF n)) := by
  have hst := stores_of_holds Tryz.prog hH s (zsF n) (by rw [zsF_len]; exact hs) (zsF_one n)
  obtain ⟨m, rfl⟩ : ∃ m, n = m + 1 := ⟨n - 1, by omega⟩
  simp only [zsF] at hst
  simp [Builtin.clear_, Tryz.runUnderlying54, Tryz.zeroValue136, Value.cells, hst, zsF]
theorem world_clear {w0 : World} {blk off m : Nat} (dk : Array (El w F)) (os : Array Obj) (i : Nat) (hi : i ≤ dk.size) (hblk : blk < w0.heap.size) :
    (sortWorldK El.enc 2 w0 blk off m dk os).setCells blk (off + i * 2) (zsF (dk.size - i)) = Go.Sort.grow (Go.Sort.putRow id (Go.Sort.ahead w0 m) blk off (Go.Sort.setMany (Go.Sort.flatK El.enc 2 dk) (i * 2) (zsF (dk.size - i)))) os := by
  unfold sortWorldK
  rw [setCells_grow os blk _ _ _ (by rw [size_putRowK]; exact hblk)]
  unfold putRowK
  rw [setCells_putRow _ _ _ _ _ _ (by rw [zsF_len]; simp; omega)]
theorem map_get! (d : Array (El w F)) (j : Nat) (h : j < d.size) : (d.map El.f)[j]! = (d[j]!).f := by
  rw [getElem!_pos _ j (by simpa using h), getElem!_pos d j h]; simp
theorem facts_arr (els : Array (El w F)) : (els.toList.map El.f).toArray = els.map El.f := by
  apply Array.ext'
  simp
theorem comp_arr (els : Array (El w F)) : compactUpTo (els.map El.f) els.size = comp (els.toList.map El.f) := by
  rw [← comp_lib, Lib.compact, facts_arr]
  simp
theorem compactF_end {w0 : World} {blk off m cap : Nat} {os : Array Obj} {els : Array (El w F)} (hall : ∀ j, j < els.size → keeps (els.map El.f) j = true) :
    ∃ (kk : Nat) (dk : Array (El w F)), dk.size = els.size ∧ kk ≤ els.size ∧ (Ending.returned (.slice (some ⟨blk, off, none⟩) els.size cap) = .returned (.slice (some ⟨blk, off, none⟩) kk cap)) ∧
      (dk.toList.take kk).map El.f = comp (els.toList.map El.f) ∧ ∃ q os' zs, zs.length = (els.size - kk) * 2 ∧ sortWorldK El.enc 2 w0 blk off m els os = Go.Sort.grow (Go.Sort.putRow id (Go.Sort.ahead w0 q) blk off (Go.Sort.setMany (Go.Sort.flatK El.enc 2 dk) (kk * 2) zs)) os' := by
  refine ⟨els.size, els, rfl, Nat.le_refl _, rfl, ?_, m, os, [], by simp, rfl⟩
  rw [← comp_lib, compact_all _ (by rw [facts_arr]; simpa using hall), List.take_of_length_le (by simp)]
theorem comp_inv {els dk : Array (El w F)} {kk : Nat} (hds : dk.size = els.size) (h : CompInv (els.map El.f) els.size kk (dk.map El.f)) : (dk.toList.take kk).map El.f = comp (els.toList.map El.f) := by
  rw [← comp_arr]
  have hlt := h.lt
  apply List.ext_getElem?
  intro j
  rcases Nat.lt_or_ge j kk with hj | hj
  · have hj2 : j < dk.size := by omega
    rw [h.low j hj, map_get! dk j hj2, List.getElem?_map, List.getElem?_take, if_pos hj, Array.getElem?_toList, Array.getElem?_eq_getElem hj2, getElem!_pos dk j hj2]
    rfl
  · rw [List.getElem?_eq_none (by simp; omega), List.getElem?_eq_none (by rw [h.len]; exact hj)]
theorem same_ne {f g : Fact} (h : same f g = false) : f ≠ g := fun e => by subst e; simp [same, cmpFacts_self] at h
theorem same_eq {f g : Fact} (h : same f g = true) : f = g := cmpFacts_zero (of_decide_eq_true h)
end
set_option maxHeartbeats 4000000 in
set_option maxRecDepth 1000000 in
theorem compactF_calls {w : World} {F : Nat → Prop} (blk off cap : Nat) (els : Array (El w F)) (hH : Go.Sort.HoldsK El.enc 2 w blk off els) (hblk : blk < w.heap.size) (hFlt : ∀ b, F b → b < w.heap.size) (hF : ¬ F blk) (hcap : els.size ≤ cap) (hsz : els.size ≤ 1000000) :
    Calls Tryz.prog 175 #[.slice (some ⟨blk, off, none⟩) els.size cap, .func (.func 176) #[] #[]] w fun e w' => ∃ (kk : Nat) (dk : Array (El w F)), dk.size = els.size ∧ kk ≤ els.size ∧ e = .returned (.slice (some ⟨blk, off, none⟩) kk cap) ∧
      (dk.toList.take kk).map El.f = comp (els.toList.map El.f) ∧ ∃ q os zs, zs.length = (els.size - kk) * 2 ∧ w' = Go.Sort.grow (Go.Sort.putRow id (Go.Sort.ahead w q) blk off (Go.Sort.setMany (Go.Sort.flatK El.enc 2 dk) (kk * 2) zs)) os := by
  have HC : Aside _ := fun m os dk x y => sameLays (w := w) (F := F) (g := blk) (off := off) hFlt hF m os dk x y
  have HST : Hid (w = sortWorldK El.enc 2 w blk off 0 els #[]) := by show w = _; unfold sortWorldK; rw [Go.Sort.grow_empty]; exact (Go.Sort.putRowK_self El.enc 2 w blk off els hH).symm
  have HH : Hid (Go.Sort.HoldsK El.enc 2 w blk off els) := hH
  have eg : ∀ args w, (callFunc 176 args).run Tryz.prog w = .ok (.enter 176 args) w := enters_of Tryz.func176 (by kernel_rfl) rfl
  have hmx := mixed
  clear hH hFlt hF
  by_cases h2 : els.size < 2
  · go_enter Tryz.func175, Tryz.ntmps175
    go_wp2
    go_ret
    obtain ⟨kk, dk, a1, a2, a3, a4, q, os', zs, a5, a6⟩ := compactF_end (w0 := w) (blk := blk) (off := off) (m := 0) (cap := cap) (os := #[]) (els := els) (fun j hj => keeps_lt_one _ j (by omega))
    exact ⟨kk, dk, a1, a2, a3, a4, q, os', zs, a5, HST.out.trans a6⟩
  · go_enter Tryz.func175, Tryz.ntmps175
    go_wp2
    go_loopg [5] els.size (fun g1 s5 wr => ∃ (k m : Nat) (os : Array Obj), 1 ≤ k ∧ k ≤ els.size ∧ els.size - k ≤ g1 ∧ s5 = .int .i64 k ∧ wr = sortWorldK El.enc 2 w blk off m els os ∧ Hid (∀ j, j < k → keeps (els.map El.f) j = true))
    case atStart => exact ⟨1, 0, #[], Nat.le_refl _, by omega, by omega, rfl, HST.out, keeps_lt_one _⟩
    case round =>
      obtain ⟨k, m, os, hk1, hk, hg, rfl, rfl, hall⟩ := hrel
      by_cases hlt : k < els.size
      · obtain ⟨kp, rfl⟩ : ∃ kp, k = kp + 1 := ⟨k - 1, by omega⟩
        obtain ⟨xk, hxk⟩ : ∃ x, els[kp + 1]! = x := ⟨_, rfl⟩
        obtain ⟨xp, hxp⟩ : ∃ x, els[kp]! = x := ⟨_, rfl⟩
        have hcls : ∀ n' os', Go.Sort.grow ((sortWorldK El.enc 2 w blk off m els os).drewN n') os' = sortWorldK El.enc 2 w blk off (m + n') els (os ++ os') := fun n' os' => sortWorldK_grown_c El.enc 2 w blk off m n' els os os'
        have hHc : ∀ n' os', Go.Sort.HoldsK El.enc 2 (Go.Sort.grow ((sortWorldK El.enc 2 w blk off m els os).drewN n') os') blk off els := fun n' os' => by rw [hcls]; exact holdsK_sortWorldK_c El.enc 2 w blk off els els _ _ HH.out hblk rfl
        have cj0 : ∀ n' os', (Go.Sort.grow ((sortWorldK El.enc 2 w blk off m els os).drewN n') os').cell? ⟨blk, off + (kp + 1) * 2, none⟩ = some xk.x := fun n' os' => by
          have := ((hHc n' os').cell (i := kp + 1) (c := 0) (by omega) (by omega)).1; rw [hxk] at this; exact this
        have cj1 : ∀ n' os', (Go.Sort.grow ((sortWorldK El.enc 2 w blk off m els os).drewN n') os').cell? ⟨blk, off + (kp + 1) * 2 + 1, none⟩ = some xk.y := fun n' os' => by
          have := ((hHc n' os').cell (i := kp + 1) (c := 1) (by omega) (by omega)).1; rw [hxk] at this; exact this
        have cp0 : ∀ n' os', (Go.Sort.grow ((sortWorldK El.enc 2 w blk off m els os).drewN n') os').cell? ⟨blk, off + kp * 2, none⟩ = some xp.x := fun n' os' => by
          have := ((hHc n' os').cell (i := kp) (c := 0) (by omega) (by omega)).1; rw [hxp] at this; exact this
        have cp1 : ∀ n' os', (Go.Sort.grow ((sortWorldK El.enc 2 w blk off m els os).drewN n') os').cell? ⟨blk, off + kp * 2 + 1, none⟩ = some xp.y := fun n' os' => by
          have := ((hHc n' os').cell (i := kp) (c := 1) (by omega) (by omega)).1; rw [hxp] at this; exact this
        have hcg : ∀ n' os', Calls Tryz.prog 176 #[.agg #[xk.x, xk.y], .agg #[xp.x, xp.y]] (Go.Sort.grow ((sortWorldK El.enc 2 w blk off m els os).drewN n') os') fun e w' => e = .returned (.bool (same xk.f xp.f)) ∧ ∃ q os'', w' = Go.Sort.grow ((Go.Sort.grow ((sortWorldK El.enc 2 w blk off m els os).drewN n') os').drewN q) os'' := fun n' os' => by
          rw [hcls]; exact HC.out _ _ els xk xp
        have CLS : Hid _ := hcls
        clear hcls hHc
        have B : Hid (els[kp + 1]! = xk ∧ els[kp]! = xp) := ⟨hxk, hxp⟩
        clear hxk hxp
        have hwp : IntKind.i64.wrap (kp : Int) = (kp : Int) := by rw [IntKind.wrap_i64]; omega
        have jz : (kp : Int) + 1 < (els.size : Int) := by omega
        have jz1 : (kp : Int) < (els.size : Int) := by omega
        have p0 : (0 : Int) ≤ (kp : Int) + 1 := by omega
        have e0 : ((kp : Int) + 1).toNat = kp + 1 := by omega
        generalize hwq : sortWorldK El.enc 2 w blk off m els os = wq at cj0 cj1 cp0 cp1 hcg CLS ⊢
        by_cases hs : same xk.f xp.f = true
        · rw [hs] at hcg
          go_wp2_with fail
          go_quiet_grown (first | (go_at_fn 176; refine Calls.grown_of (hcg _ _)))
          clear hcg cj0 cj1 cp0 cp1
          have hw2 : Go.Sort.grow (wq.drewN nq) osq = sortWorldK El.enc 2 w blk off (m + nq) els (os ++ osq) := CLS.out nq osq
          clear CLS
          go_wp2_with fail
          go_loopg [5, 7] els.size (fun g2 s5 s7 wr => ∃ (kk j2 m2 : Nat) (dk : Array (El w F)) (os2 : Array Obj), s5 = .int .i64 kk ∧ s7 = .int .i64 ((j2 : Int) + 1) ∧ kp + 1 + (j2 + 1) ≤ els.size ∧ els.size - (kp + 1 + (j2 + 1)) ≤ g2 ∧ dk.size = els.size ∧ wr = sortWorldK El.enc 2 w blk off m2 dk os2 ∧ Hid (CompInv (els.map El.f) (kp + 1 + (j2 + 1)) kk (dk.map El.f)) ∧ Hid (∀ j, kk ≤ j → dk[j]! = els[j]!))
          case atStart =>
            exact ⟨kp + 1, 0, m + nq, els, os ++ osq, by go_num, by go_num, by omega, by omega, rfl, rfl, CompInv.start hall.out (keeps_neg (by omega) (by rw [Nat.add_sub_cancel, map_get! _ _ (by omega), map_get! _ _ (by omega), B.out.1, B.out.2]; exact same_eq hs)), fun _ _ => rfl⟩
          case round =>
            obtain ⟨kk, j2, m2, dk, os2, rfl, rfl, h2e, hg2, hds, rfl, hI, hR⟩ := hrel
            by_cases hlt2 : kp + 1 + (j2 + 1) < els.size
            · obtain ⟨xu, hxu⟩ : ∃ x, dk[kp + 1 + (j2 + 1)]! = x := ⟨_, rfl⟩
              obtain ⟨xv, hxv⟩ : ∃ x, dk[kp + 1 + j2]! = x := ⟨_, rfl⟩
              obtain ⟨xo, hxo⟩ : ∃ x, dk[kk]! = x := ⟨_, rfl⟩
              have hkk := hI.out.lt
              have hcls : ∀ n' os', Go.Sort.grow ((sortWorldK El.enc 2 w blk off m2 dk os2).drewN n') os' = sortWorldK El.enc 2 w blk off (m2 + n') dk (os2 ++ os') := fun n' os' => sortWorldK_grown_c El.enc 2 w blk off m2 n' dk os2 os'
              have hHc : ∀ n' os', Go.Sort.HoldsK El.enc 2 (Go.Sort.grow ((sortWorldK El.enc 2 w blk off m2 dk os2).drewN n') os') blk off dk := fun n' os' => by rw [hcls]; exact holdsK_sortWorldK_c El.enc 2 w blk off els dk _ _ HH.out hblk hds
              have cu0 : ∀ n' os', (Go.Sort.grow ((sortWorldK El.enc 2 w blk off m2 dk os2).drewN n') os').cell? ⟨blk, off + (kp + 1) * 2 + (j2 + 1) * 2, none⟩ = some xu.x := fun n' os' => by
                have := ((hHc n' os').cell (i := kp + 1 + (j2 + 1)) (c := 0) (by omega) (by omega)).1; rw [hxu, Nat.add_mul _ _ 2, ← Nat.add_assoc] at this; exact this
              have cu1 : ∀ n' os', (Go.Sort.grow ((sortWorldK El.enc 2 w blk off m2 dk os2).drewN n') os').cell? ⟨blk, off + (kp + 1) * 2 + (j2 + 1) * 2 + 1, none⟩ = some xu.y := fun n' os' => by
                have := ((hHc n' os').cell (i := kp + 1 + (j2 + 1)) (c := 1) (by omega) (by omega)).1; rw [hxu, Nat.add_mul _ _ 2, ← Nat.add_assoc] at this; exact this
              have cv0 : ∀ n' os', (Go.Sort.grow ((sortWorldK El.enc 2 w blk off m2 dk os2).drewN n') os').cell? ⟨blk, off + (kp + 1) * 2 + j2 * 2, none⟩ = some xv.x := fun n' os' => by
                have := ((hHc n' os').cell (i := kp + 1 + j2) (c := 0) (by omega) (by omega)).1; rw [hxv, Nat.add_mul _ _ 2, ← Nat.add_assoc] at this; exact this
              have cv1 : ∀ n' os', (Go.Sort.grow ((sortWorldK El.enc 2 w blk off m2 dk os2).drewN n') os').cell? ⟨blk, off + (kp + 1) * 2 + j2 * 2 + 1, none⟩ = some xv.y := fun n' os' => by
                have := ((hHc n' os').cell (i := kp + 1 + j2) (c := 1) (by omega) (by omega)).1; rw [hxv, Nat.add_mul _ _ 2, ← Nat.add_assoc] at this; exact this
              have co0 : ∀ n' os', (Go.Sort.grow ((sortWorldK El.enc 2 w blk off m2 dk os2).drewN n') os').cell? ⟨blk, off + kk * 2, none⟩ = some xo.x := fun n' os' => by
                have := ((hHc n' os').cell (i := kk) (c := 0) (by omega) (by omega)).1; rw [hxo] at this; exact this
              have co1 : ∀ n' os', (Go.Sort.grow ((sortWorldK El.enc 2 w blk off m2 dk os2).drewN n') os').cell? ⟨blk, off + kk * 2 + 1, none⟩ = some xo.y := fun n' os' => by
                have := ((hHc n' os').cell (i := kk) (c := 1) (by omega) (by omega)).1; rw [hxo] at this; exact this
              have fo0 : ∀ n' os', (Go.Sort.grow ((sortWorldK El.enc 2 w blk off m2 dk os2).drewN n') os').frozen? ⟨blk, off + kk * 2, none⟩ = false := fun n' os' =>
                ((hHc n' os').cell (i := kk) (c := 0) (by omega) (by omega)).2
              have fo1 : ∀ n' os', (Go.Sort.grow ((sortWorldK El.enc 2 w blk off m2 dk os2).drewN n') os').frozen? ⟨blk, off + kk * 2 + 1, none⟩ = false := fun n' os' =>
                ((hHc n' os').cell (i := kk) (c := 1) (by omega) (by omega)).2
              have hcg : ∀ n' os', Calls Tryz.prog 176 #[.agg #[xu.x, xu.y], .agg #[xv.x, xv.y]] (Go.Sort.grow ((sortWorldK El.enc 2 w blk off m2 dk os2).drewN n') os') fun e w' => e = .returned (.bool (same xu.f xv.f)) ∧ ∃ q os'', w' = Go.Sort.grow ((Go.Sort.grow ((sortWorldK El.enc 2 w blk off m2 dk os2).drewN n') os').drewN q) os'' := fun n' os' => by
                rw [hcls]; exact HC.out _ _ dk xu xv
              have CLS : Hid _ := hcls
              clear hcls hHc
              have B2 : Hid (dk[kp + 1 + (j2 + 1)]! = xu ∧ dk[kp + 1 + j2]! = xv ∧ dk[kk]! = xo) := ⟨hxu, hxv, hxo⟩
              clear hxu hxv hxo
              have iz : (j2 : Int) + 1 < ((els.size - (kp + 1) : Nat) : Int) := by omega
              have iz1 : (j2 : Int) < ((els.size - (kp + 1) : Nat) : Int) := by omega
              have q0 : (0 : Int) ≤ (j2 : Int) + 1 := by omega
              have f0 : ((j2 : Int) + 1).toNat = j2 + 1 := by omega
              have kz : (kk : Int) < (els.size : Int) := by omega
              have hwp2 : IntKind.i64.wrap (j2 : Int) = (j2 : Int) := by rw [IntKind.wrap_i64]; omega
              generalize hwq : sortWorldK El.enc 2 w blk off m2 dk os2 = wq at cu0 cu1 cv0 cv1 co0 co1 fo0 fo1 hcg CLS ⊢
              by_cases hs2 : same xu.f xv.f = true
              · rw [hs2] at hcg
                go_wp2_with fail
                go_quiet_grown (first | (go_at_fn 176; refine Calls.grown_of (hcg _ _)))
                have hw3 : Hid (Go.Sort.grow (wq.drewN nq) osq = sortWorldK El.enc 2 w blk off (m2 + nq) dk (os2 ++ osq)) := CLS.out nq osq
                clear hcg cu0 cu1 cv0 cv1 co0 co1 fo0 fo1 CLS
                go_wp2_with fail
                go_roundg (els.size - (kp + 1 + (j2 + 1 + 1)))
                case measure => omega
                case rel =>
                  exact ⟨kk, j2 + 1, m2 + nq, dk, os2 ++ osq, rfl, by go_num, by omega, by omega, hds, hw3.out, hI.out.skip (keeps_neg (by omega) (by rw [show kp + 1 + (j2 + 1) - 1 = kp + 1 + j2 by omega, map_get! _ _ (by omega), map_get! _ _ (by omega), ← hR _ (by omega), ← hR _ (by omega), B2.out.1, B2.out.2.1]; exact same_eq hs2)), hR⟩
              · rw [Bool.not_eq_true] at hs2
                rw [hs2] at hcg
                go_wp2_with fail
                go_quiet_grown (first | (go_at_fn 176; refine Calls.grown_of (hcg _ _)))
                have hw3 : Hid (Go.Sort.grow (wq.drewN nq) osq = sortWorldK El.enc 2 w blk off (m2 + nq) dk (os2 ++ osq)) := CLS.out nq osq
                have st0 : Sem.run Tryz.prog (store ⟨blk, off + kk * 2, none⟩ xu.x) (Go.Sort.grow (wq.drewN nq) osq) = .ok () ((Go.Sort.grow (wq.drewN nq) osq).setCell ⟨blk, off + kk * 2, none⟩ xu.x) := by
                  rw [run_store _ _ _ _ _ xu.hx.oneCell, co0 nq osq]; simp [fo0 nq osq]
                have st1 : Sem.run Tryz.prog (store ⟨blk, off + kk * 2 + 1, none⟩ xu.y) ((Go.Sort.grow (wq.drewN nq) osq).setCell ⟨blk, off + kk * 2, none⟩ xu.x) = .ok () (((Go.Sort.grow (wq.drewN nq) osq).setCell ⟨blk, off + kk * 2, none⟩ xu.x).setCell ⟨blk, off + kk * 2 + 1, none⟩ xu.y) := by
                  have e9 : ((Go.Sort.grow (wq.drewN nq) osq).setCell ⟨blk, off + kk * 2, none⟩ xu.x).cell? ⟨blk, off + kk * 2 + 1, none⟩ = (Go.Sort.grow (wq.drewN nq) osq).cell? ⟨blk, off + kk * 2 + 1, none⟩ := World.cell?_setCells_out blk [xu.x] (off + kk * 2) _ ⟨blk, off + kk * 2 + 1, none⟩ (fun _ _ => .inr (by simp))
                  rw [run_store _ _ _ _ _ xu.hy.oneCell, e9, co1 nq osq]; simp [fo1 nq osq]
                have cu0' := cu0 nq osq
                have cu1' := cu1 nq osq
                clear hcg cu0 cu1 cv0 cv1 co0 co1 fo0 fo1 CLS
                go_wp2_with fail
                go_roundg (els.size - (kp + 1 + (j2 + 1 + 1)))
                case measure => omega
                case rel =>
                  refine ⟨kk + 1, j2 + 1, m2 + nq, dk.setIfInBounds kk xu, os2 ++ osq, by go_num, by go_num, by omega, by omega, by simp [hds], ?_, ?_, ?_⟩
                  · rw [← world_set dk (os2 ++ osq) kk xu (by omega) hblk, ← hw3.out]; rfl
                  · have h1 : dk[kp + 1 + (j2 + 1)]! = els[kp + 1 + (j2 + 1)]! := hR _ (by omega)
                    have h2 : dk[kp + 1 + j2]! = els[kp + 1 + j2]! := hR _ (by omega)
                    have h3 := hI.out.keep (by simp; omega) (keeps_pos (by
                      rw [show kp + 1 + (j2 + 1) - 1 = kp + 1 + j2 by omega, map_get! _ _ (by omega), map_get! _ _ (by omega), ← h1, ← h2, B2.out.1, B2.out.2.1]; exact same_ne hs2))
                    have h4 : (dk.setIfInBounds kk xu).map El.f = (dk.map El.f).setIfInBounds kk (els.map El.f)[kp + 1 + (j2 + 1)]! := by
                      rw [map_get! _ _ (by omega), ← h1, B2.out.1]; simp
                    show CompInv _ _ _ _
                    rw [h4]; exact h3
                  · show ∀ j, kk + 1 ≤ j → (dk.setIfInBounds kk xu)[j]! = els[j]!
                    intro j hj
                    rw [getElem!_set_other dk kk j xu (by omega)]; exact hR j (by omega)
            · have hend : kp + 1 + (j2 + 1) = els.size := by omega
              have hkk := hI.out.lt
              have hHd : Go.Sort.Holds id (sortWorldK El.enc 2 w blk off m2 dk os2) blk off (flatK El.enc 2 dk) := holdsK_sortWorldK_c El.enc 2 w blk off els dk _ _ HH.out hblk hds
              have hcl : ∀ ty, (Builtin.clear_ #[54] ty #[.slice (some ⟨blk, off + kk * 2, none⟩) (els.size - kk) (cap - kk)]).run Tryz.prog (sortWorldK El.enc 2 w blk off m2 dk os2) = .ok (.tuple #[]) ((sortWorldK El.enc 2 w blk off m2 dk os2).setCells blk (off + kk * 2) (zsF (els.size - kk))) :=
                fun ty => run_clearF _ ty blk off (kk * 2) (els.size - kk) (cap - kk) _ hHd (by omega) (by simp [hds]; omega)
              have hfin : Hid ((dk.toList.take kk).map El.f = comp (els.toList.map El.f)) := by
                have h := hI.out
                rw [hend] at h
                exact comp_inv hds h
              have hwc : Hid ((sortWorldK El.enc 2 w blk off m2 dk os2).setCells blk (off + kk * 2) (zsF (els.size - kk)) = Go.Sort.grow (Go.Sort.putRow id (Go.Sort.ahead w m2) blk off (Go.Sort.setMany (Go.Sort.flatK El.enc 2 dk) (kk * 2) (zsF (els.size - kk)))) os2) := by
                have := world_clear (w0 := w) (blk := blk) (off := off) (m := m2) dk os2 kk (by omega) hblk
                rwa [hds] at this
              have kz : (kk : Int) ≤ (els.size : Int) := by omega
              have kz2 : (kk : Int) ≤ (cap : Int) := by omega
              clear hHd
              go_wp2
              go_ret
              exact ⟨kk, dk, hds, by omega, rfl, hfin.out, m2, os2, zsF (els.size - kk), zsF_len _, hwc.out⟩
        · rw [Bool.not_eq_true] at hs
          rw [hs] at hcg
          go_wp2_with fail
          go_quiet_grown (first | (go_at_fn 176; refine Calls.grown_of (hcg _ _)))
          clear hcg cj0 cj1 cp0 cp1
          have hw2 : Hid (Go.Sort.grow (wq.drewN nq) osq = sortWorldK El.enc 2 w blk off (m + nq) els (os ++ osq)) := CLS.out nq osq
          clear CLS
          go_wp2_with fail
          go_roundg (els.size - (kp + 1 + 1))
          case measure => omega
          case rel =>
            refine ⟨kp + 1 + 1, m + nq, os ++ osq, by omega, by omega, Nat.le_refl _, by go_num, hw2.out, ?_⟩
            show ∀ j, j < kp + 1 + 1 → keeps (els.map El.f) j = true
            intro j hj
            by_cases e : j = kp + 1
            · subst e
              exact keeps_pos (by rw [Nat.add_sub_cancel, map_get! _ _ (by omega), map_get! _ _ (by omega), B.out.1, B.out.2]; exact same_ne hs)
            · exact hall.out j (by omega)
      · have e : k = els.size := by omega
        subst e
        go_wp2
        go_ret
        exact compactF_end hall.out
set_option maxHeartbeats 1000000 in
theorem compactF_none (A : Option Addr) (cap : Nat) (w : World) :
    Calls Tryz.prog 175 #[.slice A 0 cap, .func (.func 176) #[] #[]] w fun e w' => e = .returned (.slice A 0 cap) ∧ w' = w := by
  go_enter Tryz.func175, Tryz.ntmps175
  go_wp2
  go_ret
  exact ⟨rfl, rfl⟩
theorem ctr_CompactF (l : List Fact) (h : l.length ≤ 1000000) : CtR Tryz.prog 175 [.lf (.fn 176 [])] ⟨136, 2, true, l.map Fact.av⟩ true ((comp l).map Fact.av) := by
  refine ⟨⟨_, _, Tryz.func175, rfl, by kernel_rfl⟩, fun F w v vals hFlt hrow hone hcold hvals => ?_⟩
  match vals, hvals with
  | [fv], ⟨hfv, _⟩ =>
  have hfv2 : fv = .func (.func 176) #[] #[] := hfv
  subst hfv2
  by_cases h0 : l = []
  · subst h0
    obtain ⟨A, cap, rfl⟩ := rowNil hrow
    refine (compactF_none A cap w).mono fun e w' ⟨he, hw⟩ => ?_
    subst hw
    exact ⟨_, he, Fr.refl _ _, by simpa [comp] using hrow, hone, fun g hg => hg, fun h => by cases h⟩
  have hne : l.map Fact.av ≠ [] := by simpa using h0
  obtain ⟨g, cap, cur, xs, hv, hg, hc, hm, hs, ht, hx, hA⟩ := rowParts hrow hne
  subst hv
  obtain ⟨els, hl, rfl⟩ := els_read hA
  subst hl
  simp only [List.length_map] at ht hc h
  have hgs : g < w.heap.size := by
    rcases Nat.lt_or_ge g w.heap.size with h1 | h1
    · exact h1
    · rw [Array.getElem?_eq_none h1] at hg; cases hg
  have hFg : ¬ F g := hcold g rfl
  have hcon := compactF_calls g 0 cap els.toArray (els_holds hg ht) hgs hFlt hFg (by simpa using hc) (by simpa using h)
  simp only [List.size_toArray] at hcon
  simp only [List.length_map]
  refine hcon.mono fun e w' ⟨kk, dk, hd, hkk, he, hcomp, q, os, zs, hzs, hw⟩ => ?_
  subst hw
  have hlen : (comp (els.map El.f)).length = kk := by rw [← hcomp]; simp; omega
  refine ⟨_, he, put_fr rfl, ?_, rfl, fun _ hg => hg, fun h => by cases h⟩
  have htake : (setMany (flatK El.enc 2 dk) (kk * 2) zs).toList.take (kk * 2) = (dk.toList.take kk).flatMap El.enc := by
    have e1 : (setMany (flatK El.enc 2 dk) (kk * 2) zs).toList.take (kk * 2) = (flatK El.enc 2 dk).toList.take (kk * 2) := by
      apply List.ext_getElem?
      intro t
      rw [List.getElem?_take, List.getElem?_take]
      split
      · rename_i ht
        have h1 : t < (flatK El.enc 2 dk).size := by simp; omega
        have h2 : t < (setMany (flatK El.enc 2 dk) (kk * 2) zs).size := by rw [size_setMany]; exact h1
        have := get_setMany zs (kk * 2) (flatK El.enc 2 dk) t h1
        rw [if_neg (by omega), getElem!_pos _ t h2, getElem!_pos _ t h1] at this
        rw [Array.getElem?_toList, Array.getElem?_toList, Array.getElem?_eq_getElem h2, Array.getElem?_eq_getElem h1, this]
      · rfl
    rw [e1, flat_toList]
    have e2 : dk.toList.flatMap El.enc = (dk.toList.take kk).flatMap El.enc ++ (dk.toList.drop kk).flatMap El.enc := by rw [← List.flatMap_append, List.take_append_drop]
    rw [e2, List.take_append_of_le_length (by rw [flat_len]; simp; omega), List.take_of_length_le (by rw [flat_len]; simp; omega)]
  have := put_row (enc := id) (w := w) (g := g) (n := q) (d := setMany (flatK El.enc 2 dk) (kk * 2) zs) (os := os) (F := F) (e := 136) (sz := 2) (m := els.length) (cap := cap) (cur := cur) (es' := (comp (els.map El.f)).map Fact.av) (by omega) hg hs hc hm (by rw [size_setMany]; simp [hd]) (by simp [hlen]; exact hkk) (by rw [List.length_map, hlen]; exact Nat.le_trans (Nat.le_trans hkk h) (by decide)) (fun x hx => by obtain ⟨_, _, rfl⟩ := List.mem_map.1 hx; rfl) (by
    rw [List.map_id, List.length_map, hlen, htake, ← hcomp]
    exact els_rd (fun b hb => put_other (fun e => hFg (by rw [← e]; exact hb)) (hFlt b hb)) (dk.toList.take kk))
  rw [List.length_map, hlen] at this
  exact this
end Go.Proofs.YtccbimcikbbecaaGreat
/- Sets of facts; instances under substitutions. -/
namespace Go.Proofs.YtccbimcikbbecaaGreat
open Go P1
def H143 : List (Nat × Hint) := [(0, ⟨[], [2]⟩), (1, ⟨[], [0, 4, 5]⟩), (2, ⟨[], [6, 7]⟩), (3, ⟨[], [3, 8, 9]⟩)]
set_option maxHeartbeats 4000000 in
set_option maxRecDepth 100000 in
theorem ct_factsSet (l : List Fact) (hn : l.length ≤ 1000000) (hv : ∀ f ∈ l, f.vals.length ≤ 1000000) : Ct Tryz.prog 143 [sl (.row (l.map Fact.av))] [] (sl (.row ((comp (sortF l)).map Fact.av))) [] [] := by
  refine ct_of_vc mixed tab_ok H143 Tryz.func143 rfl (by kernel_rfl) (by kernel_rfl) (by rfl) ?_
  intro hw _
  clear hw
  conv => whnf
  have hn2 : (sortF l).length ≤ 1000000 := by rw [sortF_length]; exact hn
  repeat' (first
    | exact trivial
    | (refine ⟨rfl, ?_⟩; (conv => whnf))
    | (refine ⟨fun h => ?_, fun h => ?_⟩ <;> (try simp at h) <;> (try (exfalso; omega)) <;> (conv => whnf))
    | (intro b hb; (conv => whnf))
    | (refine .inr ⟨rfl, ?_⟩; (conv => whnf); first | (refine ⟨_, _, ctr_SortF l hn, ?_⟩; (conv => whnf)) | (refine ⟨_, _, ctr_CompactF (sortF l) hn2, ?_⟩; (conv => whnf)) | fail)
    | (refine .inl ?_; (conv => whnf); first | (refine ⟨_, _, _, _, ct_factsCopy l hn hv, ?_⟩; (conv => whnf)) | fail)
    | (refine And.intro ?_ ?_; (focus (rw [wrap64 (by omega) (by omega)] <;> rfl)); (conv => whnf))
    | (refine And.intro ?_ (And.intro ?_ (And.intro ?_ (And.intro ?_ ?_))); (focus (first | omega | (rw [wrap64 (by omega) (by omega)] <;> first | omega | rfl) | (simp; omega))); (focus (first | omega | (rw [wrap64 (by omega) (by omega)] <;> first | omega | rfl) | (simp; omega))); (focus (first | omega | (rw [wrap64 (by omega) (by omega)] <;> first | omega | rfl) | (simp; omega))); (focus ((repeat' (first | exact sz_nil | exact sz_map fun _ => rfl | apply sz_take | apply sz_drop | apply sz_append | apply sz_cons rfl)); done)); (conv => whnf))
    | (refine And.intro ?_ (And.intro ?_ ?_); (focus (first | omega | (rw [wrap64 (by omega) (by omega)] <;> first | omega | rfl) | (simp; omega))); (focus ((repeat' (first | exact sz_nil | exact sz_map fun _ => rfl | apply sz_take | apply sz_drop | apply sz_append | apply sz_cons rfl)); done)); (conv => whnf))
    | (refine And.intro ?_ (And.intro ?_ ?_); (focus (first | omega | (rw [wrap64 (by omega) (by omega)] <;> first | omega | rfl) | (simp; omega))); (focus (first | omega | (rw [wrap64 (by omega) (by omega)] <;> first | omega | rfl) | (simp; omega))); (conv => whnf))
    | (rw [beq_g]; (conv => whnf))
    | fail)
def applyI (s : Sub) (x : Inst) : Inst := ⟨x.rels, (x.facts.map (applyF s)).foldl putF []⟩
def applyR (s : Sub) (x : Inst) : Inst × Bool := if validSub s && validInst x then (applyI s x, true) else (Inst.mk [] [], false)
theorem applyR_t {s : Sub} {x : Inst} (h : validSub s = true) (h' : validInst x = true) : applyR s x = (applyI s x, true) := by simp [applyR, h, h']
theorem applyR_f1 {s : Sub} {x : Inst} (h : validSub s = false) : applyR s x = (Inst.mk [] [], false) := by simp [applyR, h]
theorem applyR_f2 {s : Sub} {x : Inst} (h' : validInst x = false) : applyR s x = (Inst.mk [] [], false) := by simp [applyR, h']
def applyT (s : Sub) (x : Inst) : Sl := .tup [ag (applyR s x).1.av, sl (.bool (applyR s x).2)]
theorem applyT_t {s : Sub} {x : Inst} (h : validSub s = true) (h' : validInst x = true) : applyT s x = .tup [ag (applyI s x).av, sl (.bool true)] := by simp only [applyT, applyR_t h h']
theorem applyT_f1 {s : Sub} {x : Inst} (h : validSub s = false) : applyT s x = .tup [ag (Inst.mk [] []).av, sl (.bool false)] := by simp only [applyT, applyR_f1 h]
theorem applyT_f2 {s : Sub} {x : Inst} (h : validInst x = false) : applyT s x = .tup [ag (Inst.mk [] []).av, sl (.bool false)] := by simp only [applyT, applyR_f2 h]
theorem validFact_len {rels : List Relation} {f : Fact} (h : validFact rels f = true) : 1 ≤ f.vals.length ∧ f.vals.length ≤ 3 := headOk_small (validFact_head h)
theorem validInst_len {x : Inst} (h : validInst x = true) : x.facts.length ≤ 30 ∧ x.rels.length ≤ 6 := by
  simp only [validInst, Bool.and_eq_true, decide_eq_true_eq] at h
  exact ⟨h.2.2, validRels_small h.2.1⟩
theorem validInst_fl {x : Inst} (h : validInst x = true) {f : Fact} (hf : f ∈ x.facts) : 1 ≤ f.vals.length ∧ f.vals.length ≤ 3 := validFact_len (validInst_facts h f hf)
theorem applyF_len (s : Sub) (f : Fact) : (applyF s f).vals.length = f.vals.length := by simp [applyF]
def accF (s : Sub) (x : Inst) (i : Nat) : Inst := ⟨x.rels, ((x.facts.take i).map (applyF s)).foldl putF []⟩
theorem accF_len (s : Sub) (x : Inst) (i : Nat) : (accF s x i).facts.length ≤ i := by
  have := foldF_len ((x.facts.take i).map (applyF s)) []
  have h2 : ((x.facts.take i).map (applyF s)).length ≤ i := by simp; omega
  simp only [accF]; simp only [List.length_nil] at this; omega
theorem accF_snoc {s : Sub} {x : Inst} {i : Nat} (h : i < x.facts.length) : Inst.mk (accF s x i).rels (putF (accF s x i).facts (applyF s x.facts[i])) = accF s x (i + 1) := by
  simp only [accF]; rw [take_snoc h, List.map_append, List.foldl_append]; rfl
theorem accF_end {s : Sub} {x : Inst} {i : Nat} (h : x.facts.length ≤ i) : accF s x i = applyI s x := by
  simp only [accF, applyI]; rw [List.take_of_length_le h]
theorem applyI_ok {s : Sub} {x : Inst} (h : validInst x = true) : (applyI s x).ok := by
  have h1 := validInst_len h
  refine ⟨by simp only [applyI]; omega, ?_, fun f hf => ?_⟩
  · have := foldF_len (x.facts.map (applyF s)) []
    simp only [applyI]; simp at this; omega
  · rcases foldF_mem.1 hf with e | e
    · obtain ⟨g, hg, rfl⟩ := List.mem_map.1 e
      have := validInst_fl h hg
      rw [applyF_len]; omega
    · cases e
def H128 : List (Nat × Hint) := [(0, ⟨[], [0, 1, 5]⟩), (1, ⟨[(false, []), (false, []), (false, []), (true, []), (false, []), (false, []), (false, []), (false, [])], [8, 9, 10, 11, 12, 13, 14]⟩), (2, ⟨[], [16]⟩), (3, ⟨[], [17, 18, 19, 20, 21]⟩), (5, ⟨[], [22, 23, 24, 25]⟩), (6, ⟨[], [27, 28]⟩), (7, ⟨[(false, []), (false, [0]), (false, [0, 1]), (false, [1, 2]), (false, [0, 1, 2, 3]), (false, [3, 4]), (false, [4, 5]), (false, [6]), (false, []), (false, [])], [29, 30, 31, 32, 33, 34, 35, 36, 37]⟩), (8, ⟨[], [6, 38, 39]⟩)]
set_option maxHeartbeats 4000000 in
set_option maxRecDepth 100000 in
theorem ct_sApplyToInstance (s : Sub) (x : Inst) : Ct Tryz.prog 128 [ag s.av, ag x.av] [] (applyT s x) [] [] := by
  refine ct_of_vc mixed tab_ok H128 Tryz.func128 rfl (by kernel_rfl) (by kernel_rfl) (by rfl) ?_
  intro hw _
  clear hw
  conv => whnf
  refine .inl ?_
  conv => whnf
  refine ⟨_, _, _, _, ct_sIsValidSubstitution s, ?_⟩
  conv => whnf
  refine ⟨fun h1 => ?_, fun h1 => ?_⟩ <;> (try simp at h1) <;> (conv => whnf)
  · rw [applyR_f1 h1]
    repeat' (first
      | exact trivial
      | (refine ⟨rfl, ?_⟩; (conv => whnf))
      | (refine ⟨fun h => ?_, fun h => ?_⟩ <;> (try simp at h) <;> (try (exfalso; omega)) <;> (conv => whnf))
      | (intro b hb; (conv => whnf))
      | (refine And.intro ?_ ?_; (focus (rw [wrap64 (by omega) (by omega)] <;> rfl)); (conv => whnf))
      | (refine And.intro ?_ (And.intro ?_ (And.intro ?_ (And.intro ?_ ?_))); (focus (first | omega | (rw [wrap64 (by omega) (by omega)] <;> first | omega | rfl) | (simp; omega))); (focus (first | omega | (rw [wrap64 (by omega) (by omega)] <;> first | omega | rfl) | (simp; omega))); (focus (first | omega | (rw [wrap64 (by omega) (by omega)] <;> first | omega | rfl) | (simp; omega))); (focus ((repeat' (first | exact sz_nil | exact sz_map fun _ => rfl | apply sz_take | apply sz_drop | apply sz_append | apply sz_cons rfl)); done)); (conv => whnf))
      | (refine And.intro ?_ (And.intro ?_ ?_); (focus (first | omega | (rw [wrap64 (by omega) (by omega)] <;> first | omega | rfl) | (simp; omega))); (focus ((repeat' (first | exact sz_nil | exact sz_map fun _ => rfl | apply sz_take | apply sz_drop | apply sz_append | apply sz_cons rfl)); done)); (conv => whnf))
      | (refine And.intro ?_ (And.intro ?_ ?_); (focus (first | omega | (rw [wrap64 (by omega) (by omega)] <;> first | omega | rfl) | (simp; omega))); (focus (first | omega | (rw [wrap64 (by omega) (by omega)] <;> first | omega | rfl) | (simp; omega))); (conv => whnf))
      | (rw [beq_g]; (conv => whnf))
      | fail)
  refine .inl ?_
  conv => whnf
  refine ⟨_, _, _, _, ct_sIsValidInstance x, ?_⟩
  conv => whnf
  refine ⟨fun h2 => ?_, fun h2 => ?_⟩ <;> (try simp at h2) <;> (conv => whnf)
  · rw [applyR_f2 h2]
    repeat' (first
      | exact trivial
      | (refine ⟨rfl, ?_⟩; (conv => whnf))
      | (refine ⟨fun h => ?_, fun h => ?_⟩ <;> (try simp at h) <;> (try (exfalso; omega)) <;> (conv => whnf))
      | (intro b hb; (conv => whnf))
      | (refine And.intro ?_ ?_; (focus (rw [wrap64 (by omega) (by omega)] <;> rfl)); (conv => whnf))
      | (refine And.intro ?_ (And.intro ?_ (And.intro ?_ (And.intro ?_ ?_))); (focus (first | omega | (rw [wrap64 (by omega) (by omega)] <;> first | omega | rfl) | (simp; omega))); (focus (first | omega | (rw [wrap64 (by omega) (by omega)] <;> first | omega | rfl) | (simp; omega))); (focus (first | omega | (rw [wrap64 (by omega) (by omega)] <;> first | omega | rfl) | (simp; omega))); (focus ((repeat' (first | exact sz_nil | exact sz_map fun _ => rfl | apply sz_take | apply sz_drop | apply sz_append | apply sz_cons rfl)); done)); (conv => whnf))
      | (refine And.intro ?_ (And.intro ?_ ?_); (focus (first | omega | (rw [wrap64 (by omega) (by omega)] <;> first | omega | rfl) | (simp; omega))); (focus ((repeat' (first | exact sz_nil | exact sz_map fun _ => rfl | apply sz_take | apply sz_drop | apply sz_append | apply sz_cons rfl)); done)); (conv => whnf))
      | (refine And.intro ?_ (And.intro ?_ ?_); (focus (first | omega | (rw [wrap64 (by omega) (by omega)] <;> first | omega | rfl) | (simp; omega))); (focus (first | omega | (rw [wrap64 (by omega) (by omega)] <;> first | omega | rfl) | (simp; omega))); (conv => whnf))
      | (rw [beq_g]; (conv => whnf))
      | fail)
  rw [applyT_t h1 h2]
  have hl := validInst_len h2
  conv => whnf
  repeat' (first
    | exact trivial
    | (refine ⟨rfl, ?_⟩; (conv => whnf))
    | (refine ⟨fun h => ?_, fun h => ?_⟩ <;> (try simp at h) <;> (try (exfalso; omega)) <;> (conv => whnf))
    | (intro b hb; (conv => whnf))
    | (refine And.intro ?_ ?_; (focus (rw [wrap64 (by omega) (by omega)] <;> rfl)); (conv => whnf))
    | (refine And.intro ?_ (And.intro ?_ (And.intro ?_ (And.intro ?_ ?_))); (focus (first | omega | (rw [wrap64 (by omega) (by omega)] <;> first | omega | rfl) | (simp; omega))); (focus (first | omega | (rw [wrap64 (by omega) (by omega)] <;> first | omega | rfl) | (simp; omega))); (focus (first | omega | (rw [wrap64 (by omega) (by omega)] <;> first | omega | rfl) | (simp; omega))); (focus ((repeat' (first | exact sz_nil | exact sz_map fun _ => rfl | apply sz_take | apply sz_drop | apply sz_append | apply sz_cons rfl)); done)); (conv => whnf))
    | (refine And.intro ?_ (And.intro ?_ ?_); (focus (first | omega | (rw [wrap64 (by omega) (by omega)] <;> first | omega | rfl) | (simp; omega))); (focus ((repeat' (first | exact sz_nil | exact sz_map fun _ => rfl | apply sz_take | apply sz_drop | apply sz_append | apply sz_cons rfl)); done)); (conv => whnf))
    | (refine And.intro ?_ (And.intro ?_ ?_); (focus (first | omega | (rw [wrap64 (by omega) (by omega)] <;> first | omega | rfl) | (simp; omega))); (focus (first | omega | (rw [wrap64 (by omega) (by omega)] <;> first | omega | rfl) | (simp; omega))); (conv => whnf))
    | (rw [beq_g]; (conv => whnf))
    | fail)
  refine loop_rule mixed tab_ok H128 (I := Nat) (fun i => [(.slot 7, iv i), (.slot 6, .s (.lf (.ptr (6, 0) 0))), (.leaf (6, 0) 0, .l (.av (.row ((accF s x i).rels.map Relation.av)))), (.leaf (6, 0) 1, .l (.av (.row ((accF s x i).facts.map Fact.av)))), (.slot 4, .s (.lf (.ptr (4, 0) 0))), (.leaf (4, 0) 0, .l .nil), (.leaf (4, 0) 1, .l .nil), (.slot 2, .s (.lf (.ptr (2, 0) 0))), (.leaf (2, 0) 0, .l (.av (ints s.nulls))), (.leaf (2, 0) 1, .l (.av (ints s.vals))), (.slot 3, .s (.lf (.ptr (3, 0) 0))), (.leaf (3, 0) 0, .l (.av (.row (x.rels.map Relation.av)))), (.leaf (3, 0) 1, .l (.av (.row (x.facts.map Fact.av))))]) (fun i => i ≤ x.facts.length) (fun i => x.facts.length - i) (by kernel_rfl) 0 (by omega) (wk_sound (ψ := []) ?_) ?_
  · conv => whnf
    repeat' (first
      | exact trivial
      | (refine ⟨rfl, ?_⟩; (conv => whnf))
      | (refine ⟨fun h => ?_, fun h => ?_⟩ <;> (try simp at h) <;> (try (exfalso; omega)) <;> (conv => whnf))
      | (intro b hb; (conv => whnf))
      | (refine And.intro ?_ ?_; (focus (rw [wrap64 (by omega) (by omega)] <;> rfl)); (conv => whnf))
      | (refine And.intro ?_ (And.intro ?_ (And.intro ?_ (And.intro ?_ ?_))); (focus (first | omega | (rw [wrap64 (by omega) (by omega)] <;> first | omega | rfl) | (simp; omega))); (focus (first | omega | (rw [wrap64 (by omega) (by omega)] <;> first | omega | rfl) | (simp; omega))); (focus (first | omega | (rw [wrap64 (by omega) (by omega)] <;> first | omega | rfl) | (simp; omega))); (focus ((repeat' (first | exact sz_nil | exact sz_map fun _ => rfl | apply sz_take | apply sz_drop | apply sz_append | apply sz_cons rfl)); done)); (conv => whnf))
      | (refine And.intro ?_ (And.intro ?_ ?_); (focus (first | omega | (rw [wrap64 (by omega) (by omega)] <;> first | omega | rfl) | (simp; omega))); (focus ((repeat' (first | exact sz_nil | exact sz_map fun _ => rfl | apply sz_take | apply sz_drop | apply sz_append | apply sz_cons rfl)); done)); (conv => whnf))
      | (refine And.intro ?_ (And.intro ?_ ?_); (focus (first | omega | (rw [wrap64 (by omega) (by omega)] <;> first | omega | rfl) | (simp; omega))); (focus (first | omega | (rw [wrap64 (by omega) (by omega)] <;> first | omega | rfl) | (simp; omega))); (conv => whnf))
      | (rw [beq_g]; (conv => whnf))
      | fail)
  intro i hi
  have hal := accF_len s x i
  conv => whnf
  refine ⟨fun hlt => ?_, fun hlt => ?_⟩ <;> (try simp at hlt) <;> (conv => whnf)
  · have hfl := validInst_fl h2 (List.getElem_mem hlt)
    have hfl2 := applyF_len s x.facts[i]
    repeat' (first
      | exact trivial
      | (refine ⟨rfl, ?_⟩; (conv => whnf))
      | (refine ⟨fun h => ?_, fun h => ?_⟩ <;> (try simp at h) <;> (try (exfalso; omega)) <;> (conv => whnf))
      | (intro b hb; (conv => whnf))
      | (refine .inl ?_; (conv => whnf); first | (refine ⟨_, _, _, _, ct_sApplyToFact s x.facts[i] (by omega), ?_⟩; (conv => whnf)) | (refine ⟨_, _, _, _, ct_l5Put (accF s x i) (applyF s x.facts[i]) (by omega) (by omega), ?_⟩; (conv => whnf)) | fail)
      | (refine And.intro ?_ ?_; (focus (rw [wrap64 (by omega) (by omega)] <;> rfl)); (conv => whnf))
      | (refine ⟨x.facts[i].av, ?_, map_getI ?_ ?_, rfl, ?_⟩; (focus (first | omega | (rw [wrap64 (by omega) (by omega)] <;> first | omega | rfl) | (simp; omega))); (focus (first | rfl | omega | (rw [wrap64 (by omega) (by omega)] <;> first | omega | rfl))); (focus omega); (conv => whnf))
      | (refine ⟨x.facts[i].av, map_getI ?_ ?_, ?_, ?_, ?_⟩; (focus (first | rfl | omega | (rw [wrap64 (by omega) (by omega)] <;> first | omega | rfl))); (focus omega); (focus (simp; done)); (focus (simp; done)); (conv => whnf))
      | (refine ⟨x.facts[i].av, map_getI ?_ ?_, ?_⟩; (focus (first | rfl | omega | (rw [wrap64 (by omega) (by omega)] <;> first | omega | rfl))); (focus omega); (conv => whnf))
      | (refine And.intro ?_ (And.intro ?_ (And.intro ?_ (And.intro ?_ ?_))); (focus (first | omega | (rw [wrap64 (by omega) (by omega)] <;> first | omega | rfl) | (simp; omega))); (focus (first | omega | (rw [wrap64 (by omega) (by omega)] <;> first | omega | rfl) | (simp; omega))); (focus (first | omega | (rw [wrap64 (by omega) (by omega)] <;> first | omega | rfl) | (simp; omega))); (focus ((repeat' (first | exact sz_nil | exact sz_map fun _ => rfl | apply sz_take | apply sz_drop | apply sz_append | apply sz_cons rfl)); done)); (conv => whnf))
      | (refine And.intro ?_ (And.intro ?_ ?_); (focus (first | omega | (rw [wrap64 (by omega) (by omega)] <;> first | omega | rfl) | (simp; omega))); (focus ((repeat' (first | exact sz_nil | exact sz_map fun _ => rfl | apply sz_take | apply sz_drop | apply sz_append | apply sz_cons rfl)); done)); (conv => whnf))
      | (refine And.intro ?_ (And.intro ?_ ?_); (focus (first | omega | (rw [wrap64 (by omega) (by omega)] <;> first | omega | rfl) | (simp; omega))); (focus (first | omega | (rw [wrap64 (by omega) (by omega)] <;> first | omega | rfl) | (simp; omega))); (conv => whnf))
      | (refine ⟨i + 1, ?_, ?_, wk_sound (ψ := []) ?_⟩; (focus (omega)); (focus (first | omega | (rw [wrap64 (by omega) (by omega)] <;> first | omega | rfl) | (simp; omega))); (conv => whnf); (fail_if_success show False))
      | (refine And.intro ?_ ?_; (focus (first | rfl | (rw [← accF_snoc hlt]; done))); (conv => whnf))
      | (rw [beq_g]; (conv => whnf))
      | fail)
  · have e := accF_end (s := s) (x := x) (i := i) (by omega)
    rw [e]
    repeat' (first
      | exact trivial
      | (refine ⟨rfl, ?_⟩; (conv => whnf))
      | (refine ⟨fun h => ?_, fun h => ?_⟩ <;> (try simp at h) <;> (try (exfalso; omega)) <;> (conv => whnf))
      | (intro b hb; (conv => whnf))
      | (refine .inl ?_; (conv => whnf); first | (refine ⟨_, _, _, _, ct_l5Copy _ (applyI_ok h2), ?_⟩; (conv => whnf)) | fail)
      | (refine And.intro ?_ ?_; (focus (rw [wrap64 (by omega) (by omega)] <;> rfl)); (conv => whnf))
      | (refine And.intro ?_ (And.intro ?_ (And.intro ?_ (And.intro ?_ ?_))); (focus (first | omega | (rw [wrap64 (by omega) (by omega)] <;> first | omega | rfl) | (simp; omega))); (focus (first | omega | (rw [wrap64 (by omega) (by omega)] <;> first | omega | rfl) | (simp; omega))); (focus (first | omega | (rw [wrap64 (by omega) (by omega)] <;> first | omega | rfl) | (simp; omega))); (focus ((repeat' (first | exact sz_nil | exact sz_map fun _ => rfl | apply sz_take | apply sz_drop | apply sz_append | apply sz_cons rfl)); done)); (conv => whnf))
      | (refine And.intro ?_ (And.intro ?_ ?_); (focus (first | omega | (rw [wrap64 (by omega) (by omega)] <;> first | omega | rfl) | (simp; omega))); (focus ((repeat' (first | exact sz_nil | exact sz_map fun _ => rfl | apply sz_take | apply sz_drop | apply sz_append | apply sz_cons rfl)); done)); (conv => whnf))
      | (refine And.intro ?_ (And.intro ?_ ?_); (focus (first | omega | (rw [wrap64 (by omega) (by omega)] <;> first | omega | rfl) | (simp; omega))); (focus (first | omega | (rw [wrap64 (by omega) (by omega)] <;> first | omega | rfl) | (simp; omega))); (conv => whnf))
      | (rw [beq_g]; (conv => whnf))
      | fail)
def fillF (s : Sub) (l : List Fact) (i : Nat) : List Fact := (l.take i).map (applyF s) ++ l.drop i
theorem fillF_len {s : Sub} {l : List Fact} {i : Nat} (h : i ≤ l.length) : (fillF s l i).length = l.length := by simp [fillF]; omega
theorem fillF_set {s : Sub} {l : List Fact} {i : Nat} (h : i < l.length) : (fillF s l i).set i (applyF s l[i]) = fillF s l (i + 1) := by
  simp only [fillF]
  rw [List.set_append_right _ _ (by simp; omega), take_snoc h, List.map_append]
  have h1 : i - ((l.take i).map (applyF s)).length = 0 := by simp; omega
  rw [h1, drop_cons h, List.set_cons_zero, List.append_assoc]; rfl
theorem applyI_set (s : Sub) (x : Inst) : Inst.mk x.rels (comp (sortF (fillF s x.facts x.facts.length))) = applyI s x := by
  have e : fillF s x.facts x.facts.length = x.facts.map (applyF s) := by simp [fillF]
  rw [e, comp_sortF0]; rfl
def H172 : List (Nat × Hint) := [(0, ⟨[], [0, 1, 5]⟩), (1, ⟨[(false, []), (false, []), (false, []), (true, []), (false, []), (false, []), (false, []), (false, [])], [9, 10, 11, 12, 13, 14, 15]⟩), (2, ⟨[], [17]⟩), (3, ⟨[], [18, 19]⟩), (4, ⟨[], [3, 20]⟩), (6, ⟨[], [25, 26, 27]⟩), (7, ⟨[(false, []), (false, []), (false, [0, 1]), (false, [0, 1, 2]), (false, [0, 1, 2, 3]), (false, [2, 3, 4]), (false, []), (false, [])], [7, 8, 28, 29, 30, 31, 32, 33, 34]⟩), (8, ⟨[], [35]⟩), (9, ⟨[], [36, 37, 38, 39]⟩), (10, ⟨[], [6, 40]⟩)]
set_option maxHeartbeats 4000000 in
set_option maxRecDepth 100000 in
theorem ct_iApplyToInstance (s : Sub) (x : Inst) : Ct Tryz.prog 172 [ag s.av, ag x.av] [] (applyT s x) [] [] := by
  refine ct_of_vc mixed tab_ok H172 Tryz.func172 rfl (by kernel_rfl) (by kernel_rfl) (by rfl) ?_
  intro hw _
  clear hw
  conv => whnf
  refine .inl ?_
  conv => whnf
  refine ⟨_, _, _, _, ct_iIsValidSubstitution s, ?_⟩
  conv => whnf
  refine ⟨fun h1 => ?_, fun h1 => ?_⟩ <;> (try simp at h1) <;> (conv => whnf)
  · rw [applyR_f1 h1]
    repeat' (first
      | exact trivial
      | (refine ⟨rfl, ?_⟩; (conv => whnf))
      | (refine ⟨fun h => ?_, fun h => ?_⟩ <;> (try simp at h) <;> (try (exfalso; omega)) <;> (conv => whnf))
      | (intro b hb; (conv => whnf))
      | (refine And.intro ?_ ?_; (focus (rw [wrap64 (by omega) (by omega)] <;> rfl)); (conv => whnf))
      | (refine And.intro ?_ (And.intro ?_ (And.intro ?_ (And.intro ?_ ?_))); (focus (first | omega | (rw [wrap64 (by omega) (by omega)] <;> first | omega | rfl) | (simp; omega))); (focus (first | omega | (rw [wrap64 (by omega) (by omega)] <;> first | omega | rfl) | (simp; omega))); (focus (first | omega | (rw [wrap64 (by omega) (by omega)] <;> first | omega | rfl) | (simp; omega))); (focus ((repeat' (first | exact sz_nil | exact sz_map fun _ => rfl | apply sz_take | apply sz_drop | apply sz_append | apply sz_cons rfl)); done)); (conv => whnf))
      | (refine And.intro ?_ (And.intro ?_ ?_); (focus (first | omega | (rw [wrap64 (by omega) (by omega)] <;> first | omega | rfl) | (simp; omega))); (focus ((repeat' (first | exact sz_nil | exact sz_map fun _ => rfl | apply sz_take | apply sz_drop | apply sz_append | apply sz_cons rfl)); done)); (conv => whnf))
      | (refine And.intro ?_ (And.intro ?_ ?_); (focus (first | omega | (rw [wrap64 (by omega) (by omega)] <;> first | omega | rfl) | (simp; omega))); (focus (first | omega | (rw [wrap64 (by omega) (by omega)] <;> first | omega | rfl) | (simp; omega))); (conv => whnf))
      | (rw [beq_g]; (conv => whnf))
      | fail)
  refine .inl ?_
  conv => whnf
  refine ⟨_, _, _, _, ct_iIsValidInstance x, ?_⟩
  conv => whnf
  refine ⟨fun h2 => ?_, fun h2 => ?_⟩ <;> (try simp at h2) <;> (conv => whnf)
  · rw [applyR_f2 h2]
    repeat' (first
      | exact trivial
      | (refine ⟨rfl, ?_⟩; (conv => whnf))
      | (refine ⟨fun h => ?_, fun h => ?_⟩ <;> (try simp at h) <;> (try (exfalso; omega)) <;> (conv => whnf))
      | (intro b hb; (conv => whnf))
      | (refine And.intro ?_ ?_; (focus (rw [wrap64 (by omega) (by omega)] <;> rfl)); (conv => whnf))
      | (refine And.intro ?_ (And.intro ?_ (And.intro ?_ (And.intro ?_ ?_))); (focus (first | omega | (rw [wrap64 (by omega) (by omega)] <;> first | omega | rfl) | (simp; omega))); (focus (first | omega | (rw [wrap64 (by omega) (by omega)] <;> first | omega | rfl) | (simp; omega))); (focus (first | omega | (rw [wrap64 (by omega) (by omega)] <;> first | omega | rfl) | (simp; omega))); (focus ((repeat' (first | exact sz_nil | exact sz_map fun _ => rfl | apply sz_take | apply sz_drop | apply sz_append | apply sz_cons rfl)); done)); (conv => whnf))
      | (refine And.intro ?_ (And.intro ?_ ?_); (focus (first | omega | (rw [wrap64 (by omega) (by omega)] <;> first | omega | rfl) | (simp; omega))); (focus ((repeat' (first | exact sz_nil | exact sz_map fun _ => rfl | apply sz_take | apply sz_drop | apply sz_append | apply sz_cons rfl)); done)); (conv => whnf))
      | (refine And.intro ?_ (And.intro ?_ ?_); (focus (first | omega | (rw [wrap64 (by omega) (by omega)] <;> first | omega | rfl) | (simp; omega))); (focus (first | omega | (rw [wrap64 (by omega) (by omega)] <;> first | omega | rfl) | (simp; omega))); (conv => whnf))
      | (rw [beq_g]; (conv => whnf))
      | fail)
  rw [applyT_t h1 h2]
  have hl := validInst_len h2
  conv => whnf
  repeat' (first
    | exact trivial
    | (refine ⟨rfl, ?_⟩; (conv => whnf))
    | (refine ⟨fun h => ?_, fun h => ?_⟩ <;> (try simp at h) <;> (try (exfalso; omega)) <;> (conv => whnf))
    | (intro b hb; (conv => whnf))
    | (refine .inl ?_; (conv => whnf); first | (refine ⟨_, _, _, _, ct_instanceCopy x (validInst_ok h2), ?_⟩; (conv => whnf)) | fail)
    | (refine And.intro ?_ ?_; (focus (rw [wrap64 (by omega) (by omega)] <;> rfl)); (conv => whnf))
    | (refine And.intro ?_ (And.intro ?_ (And.intro ?_ (And.intro ?_ ?_))); (focus (first | omega | (rw [wrap64 (by omega) (by omega)] <;> first | omega | rfl) | (simp; omega))); (focus (first | omega | (rw [wrap64 (by omega) (by omega)] <;> first | omega | rfl) | (simp; omega))); (focus (first | omega | (rw [wrap64 (by omega) (by omega)] <;> first | omega | rfl) | (simp; omega))); (focus ((repeat' (first | exact sz_nil | exact sz_map fun _ => rfl | apply sz_take | apply sz_drop | apply sz_append | apply sz_cons rfl)); done)); (conv => whnf))
    | (refine And.intro ?_ (And.intro ?_ ?_); (focus (first | omega | (rw [wrap64 (by omega) (by omega)] <;> first | omega | rfl) | (simp; omega))); (focus ((repeat' (first | exact sz_nil | exact sz_map fun _ => rfl | apply sz_take | apply sz_drop | apply sz_append | apply sz_cons rfl)); done)); (conv => whnf))
    | (refine And.intro ?_ (And.intro ?_ ?_); (focus (first | omega | (rw [wrap64 (by omega) (by omega)] <;> first | omega | rfl) | (simp; omega))); (focus (first | omega | (rw [wrap64 (by omega) (by omega)] <;> first | omega | rfl) | (simp; omega))); (conv => whnf))
    | (rw [beq_g]; (conv => whnf))
    | fail)
  refine loop_rule mixed tab_ok H172 (I := Nat) (fun i => [(.leaf (6, 0) 1, .l (.own (19, 0))), (.row (19, 0), .r ⟨136, 2, true, (fillF s x.facts i).map Fact.av⟩), (.slot 23, iv i), (.slot 22, iv x.facts.length), (.slot 21, .s (sl (.row (x.facts.map Fact.av)))), (.slot 6, .s (.lf (.ptr (6, 0) 0))), (.leaf (6, 0) 0, .l (.av (.row (x.rels.map Relation.av)))), (.slot 4, .s (.lf (.ptr (4, 0) 0))), (.leaf (4, 0) 0, .l .nil), (.leaf (4, 0) 1, .l .nil), (.slot 2, .s (.lf (.ptr (2, 0) 0))), (.leaf (2, 0) 0, .l (.av (ints s.nulls))), (.leaf (2, 0) 1, .l (.av (ints s.vals)))]) (fun i => i ≤ x.facts.length) (fun i => x.facts.length - i) (by kernel_rfl) 0 (by omega) (wk_sound (ψ := []) ?_) ?_
  · conv => whnf
    repeat' (first
      | exact trivial
      | (refine ⟨rfl, ?_⟩; (conv => whnf))
      | (refine ⟨fun h => ?_, fun h => ?_⟩ <;> (try simp at h) <;> (try (exfalso; omega)) <;> (conv => whnf))
      | (intro b hb; (conv => whnf))
      | (refine And.intro ?_ ?_; (focus (rw [wrap64 (by omega) (by omega)] <;> rfl)); (conv => whnf))
      | (refine And.intro ?_ (And.intro ?_ (And.intro ?_ (And.intro ?_ ?_))); (focus (first | omega | (rw [wrap64 (by omega) (by omega)] <;> first | omega | rfl) | (simp; omega))); (focus (first | omega | (rw [wrap64 (by omega) (by omega)] <;> first | omega | rfl) | (simp; omega))); (focus (first | omega | (rw [wrap64 (by omega) (by omega)] <;> first | omega | rfl) | (simp; omega))); (focus ((repeat' (first | exact sz_nil | exact sz_map fun _ => rfl | apply sz_take | apply sz_drop | apply sz_append | apply sz_cons rfl)); done)); (conv => whnf))
      | (refine And.intro ?_ (And.intro ?_ ?_); (focus (first | omega | (rw [wrap64 (by omega) (by omega)] <;> first | omega | rfl) | (simp; omega))); (focus ((repeat' (first | exact sz_nil | exact sz_map fun _ => rfl | apply sz_take | apply sz_drop | apply sz_append | apply sz_cons rfl)); done)); (conv => whnf))
      | (refine And.intro ?_ (And.intro ?_ ?_); (focus (first | omega | (rw [wrap64 (by omega) (by omega)] <;> first | omega | rfl) | (simp; omega))); (focus (first | omega | (rw [wrap64 (by omega) (by omega)] <;> first | omega | rfl) | (simp; omega))); (conv => whnf))
      | (refine And.intro ?_ ?_; (focus (simp [fillF]; done)); (conv => whnf))
      | (rw [beq_g]; (conv => whnf))
      | fail)
  intro i hi
  have hfl := fillF_len (s := s) hi
  conv => whnf
  refine ⟨fun hlt => ?_, fun hlt => ?_⟩ <;> (try simp at hlt) <;> (conv => whnf)
  · have hq : i < (fillF s x.facts i).length := by omega
    have hfl := validInst_fl h2 (List.getElem_mem hlt)
    have hne : x.facts[i].vals ≠ [] := fun e => by rw [e] at hfl; simp at hfl
    repeat' (first
      | exact trivial
      | (refine ⟨rfl, ?_⟩; (conv => whnf))
      | (refine ⟨fun h => ?_, fun h => ?_⟩ <;> (try simp at h) <;> (try (exfalso; omega)) <;> (conv => whnf))
      | (intro b hb; (conv => whnf))
      | (refine .inl ?_; (conv => whnf); first | (refine ⟨_, _, _, _, ct_iApplyToFact s x.facts[i] (by omega) hne, ?_⟩; (conv => whnf)) | fail)
      | (refine And.intro ?_ ?_; (focus (rw [wrap64 (by omega) (by omega)] <;> rfl)); (conv => whnf))
      | (refine And.intro (Nat.le_refl 2) (And.intro (by simp) ?_); (conv => whnf))
      | (refine ⟨x.facts[i].av, ?_, map_getI ?_ ?_, rfl, ?_⟩; (focus (first | omega | (rw [wrap64 (by omega) (by omega)] <;> first | omega | rfl) | (simp; omega))); (focus (first | rfl | omega | (rw [wrap64 (by omega) (by omega)] <;> first | omega | rfl))); (focus omega); (conv => whnf))
      | (refine ⟨x.facts[i].av, map_getI ?_ ?_, ?_, ?_, ?_⟩; (focus (first | rfl | omega | (rw [wrap64 (by omega) (by omega)] <;> first | omega | rfl))); (focus omega); (focus (simp; done)); (focus (simp; done)); (conv => whnf))
      | (refine ⟨x.facts[i].av, map_getI ?_ ?_, ?_⟩; (focus (first | rfl | omega | (rw [wrap64 (by omega) (by omega)] <;> first | omega | rfl))); (focus omega); (conv => whnf))
      | (refine ⟨(fillF s x.facts i)[i].av, ?_, map_getI ?_ ?_, rfl, ?_⟩; (focus (first | omega | (rw [wrap64 (by omega) (by omega)] <;> first | omega | rfl) | (simp; omega))); (focus (first | rfl | omega | (rw [wrap64 (by omega) (by omega)] <;> first | omega | rfl))); (focus omega); (conv => whnf))
      | (refine ⟨(fillF s x.facts i)[i].av, map_getI ?_ ?_, ?_, ?_, ?_⟩; (focus (first | rfl | omega | (rw [wrap64 (by omega) (by omega)] <;> first | omega | rfl))); (focus omega); (focus (simp; done)); (focus (simp; done)); (conv => whnf))
      | (refine ⟨(fillF s x.facts i)[i].av, map_getI ?_ ?_, ?_⟩; (focus (first | rfl | omega | (rw [wrap64 (by omega) (by omega)] <;> first | omega | rfl))); (focus omega); (conv => whnf))
      | (refine And.intro ?_ (And.intro ?_ (And.intro ?_ (And.intro ?_ ?_))); (focus (first | omega | (rw [wrap64 (by omega) (by omega)] <;> first | omega | rfl) | (simp; omega))); (focus (first | omega | (rw [wrap64 (by omega) (by omega)] <;> first | omega | rfl) | (simp; omega))); (focus (first | omega | (rw [wrap64 (by omega) (by omega)] <;> first | omega | rfl) | (simp; omega))); (focus ((repeat' (first | exact sz_nil | exact sz_map fun _ => rfl | apply sz_take | apply sz_drop | apply sz_append | apply sz_cons rfl)); done)); (conv => whnf))
      | (refine And.intro ?_ (And.intro ?_ ?_); (focus (first | omega | (rw [wrap64 (by omega) (by omega)] <;> first | omega | rfl) | (simp; omega))); (focus ((repeat' (first | exact sz_nil | exact sz_map fun _ => rfl | apply sz_take | apply sz_drop | apply sz_append | apply sz_cons rfl)); done)); (conv => whnf))
      | (refine And.intro ?_ (And.intro ?_ ?_); (focus (first | omega | (rw [wrap64 (by omega) (by omega)] <;> first | omega | rfl) | (simp; omega))); (focus (first | omega | (rw [wrap64 (by omega) (by omega)] <;> first | omega | rfl) | (simp; omega))); (conv => whnf))
      | (refine ⟨i + 1, ?_, ?_, wk_sound (ψ := []) ?_⟩; (focus (omega)); (focus (first | omega | (rw [wrap64 (by omega) (by omega)] <;> first | omega | rfl) | (simp; omega))); (conv => whnf); (fail_if_success show False))
      | (refine And.intro ?_ ?_; (focus (first | (rw [← fillF_set hlt, List.map_set] <;> rfl))); (conv => whnf))
      | (rw [beq_g]; (conv => whnf))
      | fail)
  · have e : i = x.facts.length := by omega
    subst e
    have hv : ∀ f ∈ fillF s x.facts x.facts.length, f.vals.length ≤ 1000000 := fun f hf => by
      have e : fillF s x.facts x.facts.length = x.facts.map (applyF s) := by simp [fillF]
      rw [e] at hf
      obtain ⟨g, hg, rfl⟩ := List.mem_map.1 hf
      have := validInst_fl h2 hg
      rw [applyF_len]; omega
    rw [← applyI_set]
    repeat' (first
      | exact trivial
      | (refine ⟨rfl, ?_⟩; (conv => whnf))
      | (refine ⟨fun h => ?_, fun h => ?_⟩ <;> (try simp at h) <;> (try (exfalso; omega)) <;> (conv => whnf))
      | (intro b hb; (conv => whnf))
      | (refine .inl ?_; (conv => whnf); first | (refine ⟨_, _, _, _, ct_factsSet (fillF s x.facts x.facts.length) (by omega) hv, ?_⟩; (conv => whnf)) | fail)
      | (refine And.intro ?_ ?_; (focus (rw [wrap64 (by omega) (by omega)] <;> rfl)); (conv => whnf))
      | (refine And.intro ?_ (And.intro ?_ (And.intro ?_ (And.intro ?_ ?_))); (focus (first | omega | (rw [wrap64 (by omega) (by omega)] <;> first | omega | rfl) | (simp; omega))); (focus (first | omega | (rw [wrap64 (by omega) (by omega)] <;> first | omega | rfl) | (simp; omega))); (focus (first | omega | (rw [wrap64 (by omega) (by omega)] <;> first | omega | rfl) | (simp; omega))); (focus ((repeat' (first | exact sz_nil | exact sz_map fun _ => rfl | apply sz_take | apply sz_drop | apply sz_append | apply sz_cons rfl)); done)); (conv => whnf))
      | (refine And.intro ?_ (And.intro ?_ ?_); (focus (first | omega | (rw [wrap64 (by omega) (by omega)] <;> first | omega | rfl) | (simp; omega))); (focus ((repeat' (first | exact sz_nil | exact sz_map fun _ => rfl | apply sz_take | apply sz_drop | apply sz_append | apply sz_cons rfl)); done)); (conv => whnf))
      | (refine And.intro ?_ (And.intro ?_ ?_); (focus (first | omega | (rw [wrap64 (by omega) (by omega)] <;> first | omega | rfl) | (simp; omega))); (focus (first | omega | (rw [wrap64 (by omega) (by omega)] <;> first | omega | rfl) | (simp; omega))); (conv => whnf))
      | (rw [beq_g]; (conv => whnf))
      | fail)
end Go.Proofs.YtccbimcikbbecaaGreat
/- Triggers applied. -/
namespace Go.Proofs.YtccbimcikbbecaaGreat
open Go P1
def eqdS (a b : Int) : Sub := ⟨[nullNo (if b < a then b else a)], [if b > a then b else a]⟩
def eqd (x : Inst) (a b : Int) : Inst × Int := if 0 ≤ a ∧ 0 ≤ b then (x, 2) else ((applyR (eqdS a b) x).1, 1)
theorem eqd_t {x : Inst} {a b : Int} (h : 0 ≤ a) (h' : 0 ≤ b) : eqd x a b = (x, 2) := by simp [eqd, h, h']
theorem eqd_f {x : Inst} {a b : Int} (h : ¬ (0 ≤ a ∧ 0 ≤ b)) : eqd x a b = ((applyR (eqdS a b) x).1, 1) := by simp only [eqd, if_neg h]
def exB (V : List Int) (n : Int) (b : List Int) : Nat → List Int
  | 0 => b
  | i + 1 => (exB V n b i).set (V.getD i 0).toNat (-1 - (n + i))
theorem exB_len (V : List Int) (n : Int) (b : List Int) : ∀ i, (exB V n b i).length = b.length
  | 0 => rfl
  | i + 1 => by rw [exB, List.length_set, exB_len V n b i]
def trigB (x : Inst) (d : Dep) (b : List Int) : List Int := exB (exV d) (nextN x) b (exV d).length
def headF (d : Dep) (bb : List Int) (j : Nat) : List Fact := (d.head.take j).map fun a => instF a bb
def newF (x : Inst) (d : Dep) (bb : List Int) (j : Nat) : List Fact := (headF d bb j).foldl putF x.facts
def trigR (x : Inst) (d : Dep) (b : List Int) : Inst × Int :=
  if isAct x d b = true then
    if d.egd = true then eqd x (b.getD d.left.toNat 0) (b.getD d.right.toNat 0)
    else if 40 < nextN x + (exV d).length then (x, 3)
    else if 30 < (newF x d (trigB x d b) d.head.length).length then (x, 3)
    else (Inst.mk x.rels (newF x d (trigB x d b) d.head.length), 1)
  else (x, 0)
def instI (p : Inst × Int) : Sl := .tup [ag p.1.av, sl (i64 p.2)]
theorem trigR_no {x : Inst} {d : Dep} {b : List Int} (h : isAct x d b = false) : trigR x d b = (x, 0) := by simp [trigR, h]
theorem trigR_egd {x : Inst} {d : Dep} {b : List Int} (h : isAct x d b = true) (he : d.egd = true) : trigR x d b = eqd x (b.getD d.left.toNat 0) (b.getD d.right.toNat 0) := by simp [trigR, h, he]
theorem trigR_null {x : Inst} {d : Dep} {b : List Int} (h : isAct x d b = true) (he : d.egd = false) (hn : 40 < nextN x + (exV d).length) : trigR x d b = (x, 3) := by simp [trigR, h, he, hn]
theorem trigR_many {x : Inst} {d : Dep} {b : List Int} (h : isAct x d b = true) (he : d.egd = false) (hm : 30 < (newF x d (trigB x d b) d.head.length).length) : trigR x d b = (x, 3) := by
  simp only [trigR, h, he, if_true, hm]; simp
theorem trigR_ok {x : Inst} {d : Dep} {b : List Int} (h : isAct x d b = true) (he : d.egd = false) (hn : ¬ 40 < nextN x + (exV d).length) (hm : ¬ 30 < (newF x d (trigB x d b) d.head.length).length) : trigR x d b = (Inst.mk x.rels (newF x d (trigB x d b) d.head.length), 1) := by
  simp only [trigR, h, he, if_true, if_neg hn, if_neg hm]; simp
theorem isAct_spec {x : Inst} {d : Dep} {b : List Int} (h : isAct x d b = true) : validInst x = true ∧ validDep x.rels d = true ∧ b.length = 5 := by
  simp only [isAct, Bool.and_eq_true] at h; exact isTrig_spec h.1
theorem validDep_head {rels : List Relation} {d : Dep} (h : validDep rels d = true) (he : d.egd = false) : d.head.length ≤ 2 ∧ d.head.all (validAtom rels) = true := by
  simp only [validDep, Bool.and_eq_true] at h
  have h2 := h.2.2
  rw [restOk_f he] at h2
  simp only [tgdOk, Bool.and_eq_true] at h2
  have := inR_iff.1 h2.2.1
  refine ⟨by omega, List.all_eq_true.2 fun a ha => ?_⟩
  have := List.all_eq_true.1 h2.1 a ha
  simp only [headAtomOk, Bool.and_eq_true] at this
  exact this.1
theorem exV_lt {rels : List Relation} {d : Dep} (h : validDep rels d = true) (he : d.egd = false) {v : Int} (hv : v ∈ exV d) : 0 ≤ v ∧ v ≤ 4 :=
  vars_lt (validDep_head h he).2 (List.mem_filter.1 hv).1
theorem exV_len {rels : List Relation} {d : Dep} (h : validDep rels d = true) (he : d.egd = false) : (exV d).length ≤ 6 := by
  have h1 := validDep_head h he
  have h2 := terms_valid h1.2
  have h3 := vars_len d.head
  have h4 : (exV d).length ≤ (vars d.head).length := List.length_filter_le _ _
  omega
theorem instF_len (a : Atom) (b : List Int) : (instF a b).vals.length ≤ a.terms.length := by
  simp only [instF]; split <;> simp
theorem allVals_len {x : Inst} (h : validInst x = true) : (allVals x).length ≤ 90 := by
  have h1 := validInst_len h
  have : ∀ l : List Fact, (∀ f ∈ l, f.vals.length ≤ 3) → (l.flatMap (·.vals)).length ≤ 3 * l.length := fun l => by
    induction l with
    | nil => intro _; simp
    | cons a l ih =>
      intro hl
      have ha := hl a (by simp)
      have := ih fun f hf => hl f (by simp [hf])
      simp only [List.flatMap_cons, List.length_append, List.length_cons]; omega
  have := this x.facts fun f hf => (validInst_fl h hf).2
  simp only [allVals]; omega
theorem newF_len (x : Inst) (d : Dep) (bb : List Int) (j : Nat) : (newF x d bb j).length ≤ j + x.facts.length := by
  have h1 := foldF_len (headF d bb j) x.facts
  have h2 : (headF d bb j).length ≤ j := by simp [headF]; omega
  simp only [newF]; omega
theorem newF_snoc {x : Inst} {d : Dep} {bb : List Int} {j : Nat} (h : j < d.head.length) : putF (newF x d bb j) (instF d.head[j] bb) = newF x d bb (j + 1) := by
  simp only [newF, headF]; rw [take_snoc h, List.map_append, List.foldl_append]; rfl
theorem headF_snoc {d : Dep} {bb : List Int} {j : Nat} (h : j < d.head.length) : headF d bb (j + 1) = headF d bb j ++ [instF d.head[j] bb] := by
  simp only [headF]; rw [take_snoc h, List.map_append]; rfl
theorem newF_ok {x : Inst} {d : Dep} {bb : List Int} {j : Nat} (h : validInst x = true) (hd : validDep x.rels d = true) (he : d.egd = false) (hj : j ≤ d.head.length) : (Inst.mk x.rels (newF x d bb j)).ok := by
  have h1 := validInst_len h
  have h2 := validDep_head hd he
  have h3 := newF_len x d bb j
  refine ⟨by simp only; omega, by simp only; omega, fun f hf => ?_⟩
  rcases foldF_mem.1 hf with e | e
  · obtain ⟨a, ha, rfl⟩ := List.mem_map.1 e
    have h4 := instF_len a bb
    have h5 := validAtom_terms (List.all_eq_true.1 h2.2 a (List.mem_of_mem_take ha))
    omega
  · have := validInst_fl h e; omega
def H139 : List (Nat × Hint) := [(0, ⟨[], [0, 7]⟩), (1, ⟨[(false, []), (false, []), (false, []), (true, []), (false, []), (false, []), (false, []), (false, [])], [12, 13, 14, 15, 16, 17, 18]⟩), (2, ⟨[], [3, 20, 21]⟩), (3, ⟨[], [9, 22, 23, 24, 25, 26, 27, 28]⟩), (4, ⟨[], [1, 2, 3, 8, 11, 29, 30, 31, 32, 33, 34, 35, 36, 37, 38, 39, 40]⟩), (5, ⟨[], [10, 41]⟩)]
set_option maxHeartbeats 4000000 in
set_option maxRecDepth 100000 in
theorem ct_equated (x : Inst) (a b : Int) (ho : x.ok) : Ct Tryz.prog 139 [ag x.av, sl (i64 a), sl (i64 b)] [] (instI (eqd x a b)) [] [] := by
  refine ct_of_vc mixed tab_ok H139 Tryz.func139 rfl (by kernel_rfl) (by kernel_rfl) (by rfl) ?_
  intro hw _
  clear hw
  conv => whnf
  repeat' (first
    | exact trivial
    | (refine ⟨rfl, ?_⟩; (conv => whnf))
    | (refine ⟨fun h => ?_, fun h => ?_⟩ <;> (try simp at h) <;> (try (exfalso; omega)) <;> (conv => whnf))
    | (intro b hb; (conv => whnf))
    | (refine .inl ?_; (conv => whnf); first | (refine ⟨_, _, _, _, ct_iIsNull _, ?_⟩; (conv => whnf)) | (refine ⟨_, _, _, _, ct_instanceCopyD x ho, ?_⟩; (conv => whnf)) | (refine ⟨_, _, _, _, ct_iNullNumber _, ?_⟩; (conv => whnf)) | (refine ⟨_, _, _, _, ct_iApplyToInstance (eqdS a b) x, ?_⟩; (conv => whnf)) | fail)
    | (refine And.intro ?_ ?_; (focus (rw [wrap64 (by omega) (by omega)] <;> rfl)); (conv => whnf))
    | (refine And.intro ?_ (And.intro ?_ (And.intro ?_ (And.intro ?_ ?_))); (focus (first | omega | (rw [wrap64 (by omega) (by omega)] <;> first | omega | rfl) | (simp; omega))); (focus (first | omega | (rw [wrap64 (by omega) (by omega)] <;> first | omega | rfl) | (simp; omega))); (focus (first | omega | (rw [wrap64 (by omega) (by omega)] <;> first | omega | rfl) | (simp; omega))); (focus ((repeat' (first | exact sz_nil | exact sz_map fun _ => rfl | apply sz_take | apply sz_drop | apply sz_append | apply sz_cons rfl)); done)); (conv => whnf))
    | (refine And.intro ?_ (And.intro ?_ ?_); (focus (first | omega | (rw [wrap64 (by omega) (by omega)] <;> first | omega | rfl) | (simp; omega))); (focus ((repeat' (first | exact sz_nil | exact sz_map fun _ => rfl | apply sz_take | apply sz_drop | apply sz_append | apply sz_cons rfl)); done)); (conv => whnf))
    | (refine And.intro ?_ (And.intro ?_ ?_); (focus (first | omega | (rw [wrap64 (by omega) (by omega)] <;> first | omega | rfl) | (simp; omega))); (focus (first | omega | (rw [wrap64 (by omega) (by omega)] <;> first | omega | rfl) | (simp; omega))); (conv => whnf))
    | (refine And.intro ?_ ?_; (focus (first | (rw [eqd_t (by assumption) (by assumption)] <;> rfl) | (rw [eqd_f (by omega)] <;> rfl))); (conv => whnf))
    | (rw [beq_g]; (conv => whnf))
    | fail)
def H99 : List (Nat × Hint) := [(0, ⟨[], [0, 1, 7]⟩), (1, ⟨[], [23, 24]⟩), (2, ⟨[], [25, 26, 27, 28]⟩), (3, ⟨[], [8, 30]⟩), (4, ⟨[], [31]⟩), (5, ⟨[], [33, 34, 35, 36, 37]⟩), (6, ⟨[], [2, 4, 38, 39, 40, 41, 42]⟩), (7, ⟨[(false, []), (false, []), (true, []), (false, []), (false, []), (false, [])], [43, 44, 45, 46, 47]⟩), (8, ⟨[], [8, 49]⟩), (9, ⟨[], [12, 50, 51, 52, 53, 54, 55, 56]⟩), (10, ⟨[], [3, 9, 10, 11, 14, 57, 58, 59, 60, 61, 62, 63, 64, 65, 66, 67, 68]⟩), (11, ⟨[], [13, 69]⟩), (12, ⟨[], [2, 70, 71, 72]⟩), (13, ⟨[], [73, 74]⟩), (15, ⟨[], [75, 76, 77]⟩), (16, ⟨[], [79, 80]⟩), (17, ⟨[], [81, 82, 83, 84]⟩), (18, ⟨[], [85]⟩), (19, ⟨[], [8, 87]⟩), (20, ⟨[(false, []), (false, [0]), (false, [0, 1]), (false, [2]), (false, [3]), (false, [0, 1, 2, 3, 4]), (false, [1, 2, 3, 4, 5]), (false, []), (false, [])], [18, 88, 89, 90, 91, 92, 93, 94, 95]⟩), (21, ⟨[], [96]⟩), (23, ⟨[], [97, 98, 99, 100]⟩), (24, ⟨[], [102, 103]⟩), (25, ⟨[], [22, 104, 105, 106, 107, 108, 109, 110, 111, 112, 113]⟩), (26, ⟨[], [21, 114, 115, 116]⟩), (27, ⟨[], [117, 118, 119]⟩), (28, ⟨[], [8, 121]⟩), (29, ⟨[], [19, 122, 123]⟩)]
set_option maxHeartbeats 4000000 in
set_option maxRecDepth 100000 in
theorem ct_sApplyTrigger (x : Inst) (d : Dep) (b : List Int) (ho : x.ok) : Ct Tryz.prog 99 [ag x.av, ag d.av, sl (ints b)] [] (instI (trigR x d b)) [] [] := by
  refine ct_of_vc mixed tab_ok H99 Tryz.func99 rfl (by kernel_rfl) (by kernel_rfl) (by rfl) ?_
  intro hw _
  clear hw
  conv => whnf
  refine .inl ?_
  conv => whnf
  refine ⟨_, _, _, _, ct_l5Copy x ho, ?_⟩
  conv => whnf
  refine .inl ?_
  conv => whnf
  refine ⟨_, _, _, _, ct_sIsActiveTrigger x d b, ?_⟩
  conv => whnf
  refine ⟨fun ha => ?_, fun ha => ?_⟩ <;> (try simp at ha) <;> (conv => whnf)
  · rw [trigR_no ha]
    repeat' (first
      | exact trivial
      | (refine ⟨rfl, ?_⟩; (conv => whnf))
      | (refine ⟨fun h => ?_, fun h => ?_⟩ <;> (try simp at h) <;> (try (exfalso; omega)) <;> (conv => whnf))
      | (intro b hb; (conv => whnf))
      | (refine And.intro ?_ ?_; (focus (rw [wrap64 (by omega) (by omega)] <;> rfl)); (conv => whnf))
      | (refine And.intro ?_ (And.intro ?_ (And.intro ?_ (And.intro ?_ ?_))); (focus (first | omega | (rw [wrap64 (by omega) (by omega)] <;> first | omega | rfl) | (simp; omega))); (focus (first | omega | (rw [wrap64 (by omega) (by omega)] <;> first | omega | rfl) | (simp; omega))); (focus (first | omega | (rw [wrap64 (by omega) (by omega)] <;> first | omega | rfl) | (simp; omega))); (focus ((repeat' (first | exact sz_nil | exact sz_map fun _ => rfl | apply sz_take | apply sz_drop | apply sz_append | apply sz_cons rfl)); done)); (conv => whnf))
      | (refine And.intro ?_ (And.intro ?_ ?_); (focus (first | omega | (rw [wrap64 (by omega) (by omega)] <;> first | omega | rfl) | (simp; omega))); (focus ((repeat' (first | exact sz_nil | exact sz_map fun _ => rfl | apply sz_take | apply sz_drop | apply sz_append | apply sz_cons rfl)); done)); (conv => whnf))
      | (refine And.intro ?_ (And.intro ?_ ?_); (focus (first | omega | (rw [wrap64 (by omega) (by omega)] <;> first | omega | rfl) | (simp; omega))); (focus (first | omega | (rw [wrap64 (by omega) (by omega)] <;> first | omega | rfl) | (simp; omega))); (conv => whnf))
      | (rw [beq_g]; (conv => whnf))
      | fail)
  obtain ⟨hvi, hvd, hb⟩ := isAct_spec ha
  have hN := nextN_range x
  refine ⟨fun he => ?_, fun he => ?_⟩ <;> (try simp at he) <;> (conv => whnf)
  · have hl := egd_lt hvd he
    have h1 : d.left.toNat < b.length := by omega
    have h2 : d.right.toNat < b.length := by omega
    rw [trigR_egd ha he, getD_eq h1, getD_eq h2]
    repeat' (first
      | exact trivial
      | (refine ⟨rfl, ?_⟩; (conv => whnf))
      | (refine ⟨fun h => ?_, fun h => ?_⟩ <;> (try simp at h) <;> (try (exfalso; omega)) <;> (conv => whnf))
      | (intro b hb; (conv => whnf))
      | (refine .inl ?_; (conv => whnf); first | (refine ⟨_, _, _, _, ct_sNullNumber _, ?_⟩; (conv => whnf)) | (refine ⟨_, _, _, _, ct_sApplyToInstance (eqdS b[d.left.toNat] b[d.right.toNat]) x, ?_⟩; (conv => whnf)) | fail)
      | (refine And.intro ?_ ?_; (focus (rw [wrap64 (by omega) (by omega)] <;> rfl)); (conv => whnf))
      | (refine ⟨[i64 b[d.left.toNat]], ?_, map_getI ?_ ?_, rfl, ?_⟩; (focus (first | omega | (rw [wrap64 (by omega) (by omega)] <;> first | omega | rfl) | (simp; omega))); (focus (first | rfl | omega | (rw [wrap64 (by omega) (by omega)] <;> first | omega | rfl))); (focus omega); (conv => whnf))
      | (refine ⟨[i64 b[d.left.toNat]], map_getI ?_ ?_, ?_, ?_, ?_⟩; (focus (first | rfl | omega | (rw [wrap64 (by omega) (by omega)] <;> first | omega | rfl))); (focus omega); (focus (simp; done)); (focus (simp; done)); (conv => whnf))
      | (refine ⟨[i64 b[d.left.toNat]], map_getI ?_ ?_, ?_⟩; (focus (first | rfl | omega | (rw [wrap64 (by omega) (by omega)] <;> first | omega | rfl))); (focus omega); (conv => whnf))
      | (refine ⟨[i64 b[d.right.toNat]], ?_, map_getI ?_ ?_, rfl, ?_⟩; (focus (first | omega | (rw [wrap64 (by omega) (by omega)] <;> first | omega | rfl) | (simp; omega))); (focus (first | rfl | omega | (rw [wrap64 (by omega) (by omega)] <;> first | omega | rfl))); (focus omega); (conv => whnf))
      | (refine ⟨[i64 b[d.right.toNat]], map_getI ?_ ?_, ?_, ?_, ?_⟩; (focus (first | rfl | omega | (rw [wrap64 (by omega) (by omega)] <;> first | omega | rfl))); (focus omega); (focus (simp; done)); (focus (simp; done)); (conv => whnf))
      | (refine ⟨[i64 b[d.right.toNat]], map_getI ?_ ?_, ?_⟩; (focus (first | rfl | omega | (rw [wrap64 (by omega) (by omega)] <;> first | omega | rfl))); (focus omega); (conv => whnf))
      | (refine And.intro ?_ (And.intro ?_ (And.intro ?_ (And.intro ?_ ?_))); (focus (first | omega | (rw [wrap64 (by omega) (by omega)] <;> first | omega | rfl) | (simp; omega))); (focus (first | omega | (rw [wrap64 (by omega) (by omega)] <;> first | omega | rfl) | (simp; omega))); (focus (first | omega | (rw [wrap64 (by omega) (by omega)] <;> first | omega | rfl) | (simp; omega))); (focus ((repeat' (first | exact sz_nil | exact sz_map fun _ => rfl | apply sz_take | apply sz_drop | apply sz_append | apply sz_cons rfl)); done)); (conv => whnf))
      | (refine And.intro ?_ (And.intro ?_ ?_); (focus (first | omega | (rw [wrap64 (by omega) (by omega)] <;> first | omega | rfl) | (simp; omega))); (focus ((repeat' (first | exact sz_nil | exact sz_map fun _ => rfl | apply sz_take | apply sz_drop | apply sz_append | apply sz_cons rfl)); done)); (conv => whnf))
      | (refine And.intro ?_ (And.intro ?_ ?_); (focus (first | omega | (rw [wrap64 (by omega) (by omega)] <;> first | omega | rfl) | (simp; omega))); (focus (first | omega | (rw [wrap64 (by omega) (by omega)] <;> first | omega | rfl) | (simp; omega))); (conv => whnf))
      | (refine And.intro ?_ ?_; (focus (first | (rw [eqd_t (by assumption) (by assumption)] <;> rfl) | (rw [eqd_f (by omega)] <;> rfl))); (conv => whnf))
      | (rw [beq_g]; (conv => whnf))
      | fail)
  have hh := validDep_head hvd he
  have hbt := terms_valid (validDep_body hvd).2.1
  have hht := terms_valid hh.2
  have hb2 := (validDep_body hvd).1
  have hvl := exV_len hvd he
  have hal := allVals_len hvi
  repeat' (first
    | exact trivial
    | (refine ⟨rfl, ?_⟩; (conv => whnf))
    | (refine ⟨fun h => ?_, fun h => ?_⟩ <;> (try simp at h) <;> (try (exfalso; omega)) <;> (conv => whnf))
    | (intro b hb; (conv => whnf))
    | (refine .inl ?_; (conv => whnf); first | (refine ⟨_, _, _, _, ct_sExistentialVariables d (by omega) (by omega), ?_⟩; (conv => whnf)) | fail)
    | (refine And.intro ?_ ?_; (focus (rw [wrap64 (by omega) (by omega)] <;> rfl)); (conv => whnf))
    | (refine And.intro ?_ (And.intro ?_ (And.intro ?_ (And.intro ?_ ?_))); (focus (first | omega | (rw [wrap64 (by omega) (by omega)] <;> first | omega | rfl) | (simp; omega))); (focus (first | omega | (rw [wrap64 (by omega) (by omega)] <;> first | omega | rfl) | (simp; omega))); (focus (first | omega | (rw [wrap64 (by omega) (by omega)] <;> first | omega | rfl) | (simp; omega))); (focus ((repeat' (first | exact sz_nil | exact sz_map fun _ => rfl | apply sz_take | apply sz_drop | apply sz_append | apply sz_cons rfl)); done)); (conv => whnf))
    | (refine And.intro ?_ (And.intro ?_ ?_); (focus (first | omega | (rw [wrap64 (by omega) (by omega)] <;> first | omega | rfl) | (simp; omega))); (focus ((repeat' (first | exact sz_nil | exact sz_map fun _ => rfl | apply sz_take | apply sz_drop | apply sz_append | apply sz_cons rfl)); done)); (conv => whnf))
    | (refine And.intro ?_ (And.intro ?_ ?_); (focus (first | omega | (rw [wrap64 (by omega) (by omega)] <;> first | omega | rfl) | (simp; omega))); (focus (first | omega | (rw [wrap64 (by omega) (by omega)] <;> first | omega | rfl) | (simp; omega))); (conv => whnf))
    | (rw [beq_g]; (conv => whnf))
    | fail)
  refine loop_rule mixed tab_ok H99 (I := Nat) (fun i => [(.slot 15, .s (.lf (.own (72, 0)))), (.row (72, 0), .r ⟨3, 1, true, (exB (exV d) (nextN x) b i).map ielem⟩), (.slot 17, iv i), (.slot 16, .s (sl (ints (exV d)))), (.slot 6, .s (.lf (.ptr (6, 0) 0))), (.leaf (6, 0) 0, .l .nil), (.leaf (6, 0) 1, .l .nil), (.slot 4, .s (.lf (.ptr (4, 0) 0))), (.leaf (4, 0) 0, .l (.av (.row (d.body.map Atom.av)))), (.leaf (4, 0) 1, .l (.av (.row (d.head.map Atom.av)))), (.leaf (4, 0) 2, .l (.av (.bool d.egd))), (.leaf (4, 0) 3, .l (.av (i64 d.left))), (.leaf (4, 0) 4, .l (.av (i64 d.right))), (.slot 8, .s (.lf (.ptr (8, 0) 0))), (.leaf (8, 0) 0, .l (.av (.row (x.rels.map Relation.av)))), (.leaf (8, 0) 1, .l (.av (.row (x.facts.map Fact.av)))), (.slot 3, .s (.lf (.ptr (3, 0) 0))), (.leaf (3, 0) 0, .l (.av (.row (x.rels.map Relation.av)))), (.leaf (3, 0) 1, .l (.av (.row (x.facts.map Fact.av))))]) (fun i => i ≤ (exV d).length ∧ nextN x + i ≤ 40) (fun i => (exV d).length - i) (by kernel_rfl) 0 ⟨by omega, by omega⟩ (wk_sound (ψ := []) ?_) ?_
  · conv => whnf
    repeat' (first
      | exact trivial
      | (refine ⟨rfl, ?_⟩; (conv => whnf))
      | (refine ⟨fun h => ?_, fun h => ?_⟩ <;> (try simp at h) <;> (try (exfalso; omega)) <;> (conv => whnf))
      | (intro b hb; (conv => whnf))
      | (refine And.intro ?_ ?_; (focus (rw [wrap64 (by omega) (by omega)] <;> rfl)); (conv => whnf))
      | (refine And.intro ?_ (And.intro ?_ (And.intro ?_ (And.intro ?_ ?_))); (focus (first | omega | (rw [wrap64 (by omega) (by omega)] <;> first | omega | rfl) | (simp; omega))); (focus (first | omega | (rw [wrap64 (by omega) (by omega)] <;> first | omega | rfl) | (simp; omega))); (focus (first | omega | (rw [wrap64 (by omega) (by omega)] <;> first | omega | rfl) | (simp; omega))); (focus ((repeat' (first | exact sz_nil | exact sz_map fun _ => rfl | apply sz_take | apply sz_drop | apply sz_append | apply sz_cons rfl)); done)); (conv => whnf))
      | (refine And.intro ?_ (And.intro ?_ ?_); (focus (first | omega | (rw [wrap64 (by omega) (by omega)] <;> first | omega | rfl) | (simp; omega))); (focus ((repeat' (first | exact sz_nil | exact sz_map fun _ => rfl | apply sz_take | apply sz_drop | apply sz_append | apply sz_cons rfl)); done)); (conv => whnf))
      | (refine And.intro ?_ (And.intro ?_ ?_); (focus (first | omega | (rw [wrap64 (by omega) (by omega)] <;> first | omega | rfl) | (simp; omega))); (focus (first | omega | (rw [wrap64 (by omega) (by omega)] <;> first | omega | rfl) | (simp; omega))); (conv => whnf))
      | (rw [beq_g]; (conv => whnf))
      | fail)
  rintro i ⟨hi, hni⟩
  have hel := exB_len (exV d) (nextN x) b i
  have hwr : IntKind.i64.wrap (nextN x + i) = nextN x + i := wrap64 (by omega) (by omega)
  conv => whnf
  refine ⟨fun hlt => ?_, fun hlt => ?_⟩ <;> (try simp at hlt) <;> (conv => whnf)
  · have hv := exV_lt hvd he (List.getElem_mem hlt)
    have hq : (exV d)[i].toNat < (exB (exV d) (nextN x) b i).length := by omega
    have hg := getD_eq hlt
    repeat' (first
      | exact trivial
      | (refine ⟨rfl, ?_⟩; (conv => whnf))
      | (refine ⟨fun h => ?_, fun h => ?_⟩ <;> (try simp at h) <;> (try (exfalso; omega)) <;> (conv => whnf))
      | (intro b hb; (conv => whnf))
      | (refine .inl ?_; (conv => whnf); first | (refine ⟨_, _, _, _, ct_sNextNull x ho (by omega), ?_⟩; (conv => whnf)) | (refine ⟨_, _, _, _, ct_sNullValue (IntKind.i64.wrap (nextN x + i)) (by omega), ?_⟩; (conv => whnf)) | fail)
      | (refine And.intro ?_ ?_; (focus (rw [wrap64 (by omega) (by omega)] <;> rfl)); (conv => whnf))
      | (refine ⟨[i64 (exV d)[i]], ?_, map_getI ?_ ?_, rfl, ?_⟩; (focus (first | omega | (rw [wrap64 (by omega) (by omega)] <;> first | omega | rfl) | (simp; omega))); (focus (first | rfl | omega | (rw [wrap64 (by omega) (by omega)] <;> first | omega | rfl))); (focus omega); (conv => whnf))
      | (refine ⟨[i64 (exV d)[i]], map_getI ?_ ?_, ?_, ?_, ?_⟩; (focus (first | rfl | omega | (rw [wrap64 (by omega) (by omega)] <;> first | omega | rfl))); (focus omega); (focus (simp; done)); (focus (simp; done)); (conv => whnf))
      | (refine ⟨[i64 (exV d)[i]], map_getI ?_ ?_, ?_⟩; (focus (first | rfl | omega | (rw [wrap64 (by omega) (by omega)] <;> first | omega | rfl))); (focus omega); (conv => whnf))
      | (refine ⟨[i64 (exB (exV d) (nextN x) b i)[(exV d)[i].toNat]], ?_, map_getI ?_ ?_, rfl, ?_⟩; (focus (first | omega | (rw [wrap64 (by omega) (by omega)] <;> first | omega | rfl) | (simp; omega))); (focus (first | rfl | omega | (rw [wrap64 (by omega) (by omega)] <;> first | omega | rfl))); (focus omega); (conv => whnf))
      | (refine ⟨[i64 (exB (exV d) (nextN x) b i)[(exV d)[i].toNat]], map_getI ?_ ?_, ?_, ?_, ?_⟩; (focus (first | rfl | omega | (rw [wrap64 (by omega) (by omega)] <;> first | omega | rfl))); (focus omega); (focus (simp; done)); (focus (simp; done)); (conv => whnf))
      | (refine ⟨[i64 (exB (exV d) (nextN x) b i)[(exV d)[i].toNat]], map_getI ?_ ?_, ?_⟩; (focus (first | rfl | omega | (rw [wrap64 (by omega) (by omega)] <;> first | omega | rfl))); (focus omega); (conv => whnf))
      | (refine And.intro ?_ (And.intro ?_ (And.intro ?_ (And.intro ?_ ?_))); (focus (first | omega | (rw [wrap64 (by omega) (by omega)] <;> first | omega | rfl) | (simp; omega))); (focus (first | omega | (rw [wrap64 (by omega) (by omega)] <;> first | omega | rfl) | (simp; omega))); (focus (first | omega | (rw [wrap64 (by omega) (by omega)] <;> first | omega | rfl) | (simp; omega))); (focus ((repeat' (first | exact sz_nil | exact sz_map fun _ => rfl | apply sz_take | apply sz_drop | apply sz_append | apply sz_cons rfl)); done)); (conv => whnf))
      | (refine And.intro ?_ (And.intro ?_ ?_); (focus (first | omega | (rw [wrap64 (by omega) (by omega)] <;> first | omega | rfl) | (simp; omega))); (focus ((repeat' (first | exact sz_nil | exact sz_map fun _ => rfl | apply sz_take | apply sz_drop | apply sz_append | apply sz_cons rfl)); done)); (conv => whnf))
      | (refine And.intro ?_ (And.intro ?_ ?_); (focus (first | omega | (rw [wrap64 (by omega) (by omega)] <;> first | omega | rfl) | (simp; omega))); (focus (first | omega | (rw [wrap64 (by omega) (by omega)] <;> first | omega | rfl) | (simp; omega))); (conv => whnf))
      | (refine ⟨i + 1, ?_, ?_, wk_sound (ψ := []) ?_⟩; (focus (exact ⟨by omega, by omega⟩)); (focus (first | omega | (rw [wrap64 (by omega) (by omega)] <;> first | omega | rfl) | (simp; omega))); (conv => whnf); (fail_if_success show False))
      | (refine And.intro ?_ ?_; (focus (first | (rw [trigR_null ha he (by omega)] <;> rfl) | (rw [hwr, exB, hg, List.map_set] <;> rfl))); (conv => whnf))
      | (rw [beq_g]; (conv => whnf))
      | fail)
  have e : i = (exV d).length := by omega
  subst e
  refine loop_rule mixed tab_ok H99 (I := Nat) (fun j => [(.slot 15, .s (sl (ints (exB (exV d) (nextN x) b (exV d).length)))), (.slot 20, iv j), (.slot 19, .s (.lf (.ptr (19, 0) 0))), (.leaf (19, 0) 0, .l (.av (.row (x.rels.map Relation.av)))), (.leaf (19, 0) 1, .l (.av (.row ((newF x d (exB (exV d) (nextN x) b (exV d).length) j).map Fact.av)))), (.slot 6, .s (.lf (.ptr (6, 0) 0))), (.leaf (6, 0) 0, .l .nil), (.leaf (6, 0) 1, .l .nil), (.slot 4, .s (.lf (.ptr (4, 0) 0))), (.leaf (4, 0) 0, .l (.av (.row (d.body.map Atom.av)))), (.leaf (4, 0) 1, .l (.av (.row (d.head.map Atom.av)))), (.leaf (4, 0) 2, .l (.av (.bool d.egd))), (.leaf (4, 0) 3, .l (.av (i64 d.left))), (.leaf (4, 0) 4, .l (.av (i64 d.right))), (.slot 8, .s (.lf (.ptr (8, 0) 0))), (.leaf (8, 0) 0, .l (.av (.row (x.rels.map Relation.av)))), (.leaf (8, 0) 1, .l (.av (.row (x.facts.map Fact.av))))]) (fun j => j ≤ d.head.length) (fun j => d.head.length - j) (by kernel_rfl) 0 (by omega) (wk_sound (ψ := []) ?_) ?_
  · conv => whnf
    repeat' (first
      | exact trivial
      | (refine ⟨rfl, ?_⟩; (conv => whnf))
      | (refine ⟨fun h => ?_, fun h => ?_⟩ <;> (try simp at h) <;> (try (exfalso; omega)) <;> (conv => whnf))
      | (intro b hb; (conv => whnf))
      | (refine And.intro ?_ ?_; (focus (rw [wrap64 (by omega) (by omega)] <;> rfl)); (conv => whnf))
      | (refine And.intro ?_ (And.intro ?_ (And.intro ?_ (And.intro ?_ ?_))); (focus (first | omega | (rw [wrap64 (by omega) (by omega)] <;> first | omega | rfl) | (simp; omega))); (focus (first | omega | (rw [wrap64 (by omega) (by omega)] <;> first | omega | rfl) | (simp; omega))); (focus (first | omega | (rw [wrap64 (by omega) (by omega)] <;> first | omega | rfl) | (simp; omega))); (focus ((repeat' (first | exact sz_nil | exact sz_map fun _ => rfl | apply sz_take | apply sz_drop | apply sz_append | apply sz_cons rfl)); done)); (conv => whnf))
      | (refine And.intro ?_ (And.intro ?_ ?_); (focus (first | omega | (rw [wrap64 (by omega) (by omega)] <;> first | omega | rfl) | (simp; omega))); (focus ((repeat' (first | exact sz_nil | exact sz_map fun _ => rfl | apply sz_take | apply sz_drop | apply sz_append | apply sz_cons rfl)); done)); (conv => whnf))
      | (refine And.intro ?_ (And.intro ?_ ?_); (focus (first | omega | (rw [wrap64 (by omega) (by omega)] <;> first | omega | rfl) | (simp; omega))); (focus (first | omega | (rw [wrap64 (by omega) (by omega)] <;> first | omega | rfl) | (simp; omega))); (conv => whnf))
      | (rw [beq_g]; (conv => whnf))
      | fail)
  intro j hj
  have hnl := newF_len x d (exB (exV d) (nextN x) b (exV d).length) j
  have hvl2 := validInst_len hvi
  conv => whnf
  refine ⟨fun hlt2 => ?_, fun hlt2 => ?_⟩ <;> (try simp at hlt2) <;> (conv => whnf)
  · have hva := List.all_eq_true.1 hh.2 _ (List.getElem_mem hlt2)
    have hil := instF_len d.head[j] (exB (exV d) (nextN x) b (exV d).length)
    have hat := validAtom_terms hva
    have hnl2 : (Inst.mk x.rels (newF x d (exB (exV d) (nextN x) b (exV d).length) j)).facts.length ≤ 1000000 := by simp only; omega
    have hsn := newF_snoc (x := x) (bb := exB (exV d) (nextN x) b (exV d).length) hlt2
    repeat' (first
      | exact trivial
      | (refine ⟨rfl, ?_⟩; (conv => whnf))
      | (refine ⟨fun h => ?_, fun h => ?_⟩ <;> (try simp at h) <;> (try (exfalso; omega)) <;> (conv => whnf))
      | (intro b hb; (conv => whnf))
      | (refine .inl ?_; (conv => whnf); first | (refine ⟨_, _, _, _, ct_sInstantiate _ _ (validAtom_small hva), ?_⟩; (conv => whnf)) | (refine ⟨_, _, _, _, ct_l5Put (Inst.mk x.rels (newF x d (exB (exV d) (nextN x) b (exV d).length) j)) (instF d.head[j] (exB (exV d) (nextN x) b (exV d).length)) hnl2 (by omega), ?_⟩; (conv => whnf)) | fail)
      | (refine And.intro ?_ ?_; (focus (rw [wrap64 (by omega) (by omega)] <;> rfl)); (conv => whnf))
      | (refine ⟨d.head[j].av, ?_, map_getI ?_ ?_, rfl, ?_⟩; (focus (first | omega | (rw [wrap64 (by omega) (by omega)] <;> first | omega | rfl) | (simp; omega))); (focus (first | rfl | omega | (rw [wrap64 (by omega) (by omega)] <;> first | omega | rfl))); (focus omega); (conv => whnf))
      | (refine ⟨d.head[j].av, map_getI ?_ ?_, ?_, ?_, ?_⟩; (focus (first | rfl | omega | (rw [wrap64 (by omega) (by omega)] <;> first | omega | rfl))); (focus omega); (focus (simp; done)); (focus (simp; done)); (conv => whnf))
      | (refine ⟨d.head[j].av, map_getI ?_ ?_, ?_⟩; (focus (first | rfl | omega | (rw [wrap64 (by omega) (by omega)] <;> first | omega | rfl))); (focus omega); (conv => whnf))
      | (refine And.intro ?_ (And.intro ?_ (And.intro ?_ (And.intro ?_ ?_))); (focus (first | omega | (rw [wrap64 (by omega) (by omega)] <;> first | omega | rfl) | (simp; omega))); (focus (first | omega | (rw [wrap64 (by omega) (by omega)] <;> first | omega | rfl) | (simp; omega))); (focus (first | omega | (rw [wrap64 (by omega) (by omega)] <;> first | omega | rfl) | (simp; omega))); (focus ((repeat' (first | exact sz_nil | exact sz_map fun _ => rfl | apply sz_take | apply sz_drop | apply sz_append | apply sz_cons rfl)); done)); (conv => whnf))
      | (refine And.intro ?_ (And.intro ?_ ?_); (focus (first | omega | (rw [wrap64 (by omega) (by omega)] <;> first | omega | rfl) | (simp; omega))); (focus ((repeat' (first | exact sz_nil | exact sz_map fun _ => rfl | apply sz_take | apply sz_drop | apply sz_append | apply sz_cons rfl)); done)); (conv => whnf))
      | (refine And.intro ?_ (And.intro ?_ ?_); (focus (first | omega | (rw [wrap64 (by omega) (by omega)] <;> first | omega | rfl) | (simp; omega))); (focus (first | omega | (rw [wrap64 (by omega) (by omega)] <;> first | omega | rfl) | (simp; omega))); (conv => whnf))
      | (refine ⟨j + 1, ?_, ?_, wk_sound (ψ := []) ?_⟩; (focus (omega)); (focus (first | omega | (rw [wrap64 (by omega) (by omega)] <;> first | omega | rfl) | (simp; omega))); (conv => whnf); (fail_if_success show False))
      | (refine And.intro ?_ ?_; (focus (first | rfl | (rw [← hsn]; done))); (conv => whnf))
      | (rw [beq_g]; (conv => whnf))
      | fail)
  have e : j = d.head.length := by omega
  subst e
  refine ⟨fun hm => ?_, fun hm => ?_⟩ <;> (try simp at hm) <;> (conv => whnf)
  · rw [trigR_many ha he (by simp only [trigB]; omega)]
    repeat' (first
      | exact trivial
      | (refine ⟨rfl, ?_⟩; (conv => whnf))
      | (refine ⟨fun h => ?_, fun h => ?_⟩ <;> (try simp at h) <;> (try (exfalso; omega)) <;> (conv => whnf))
      | (intro b hb; (conv => whnf))
      | (refine And.intro ?_ ?_; (focus (rw [wrap64 (by omega) (by omega)] <;> rfl)); (conv => whnf))
      | (refine And.intro ?_ (And.intro ?_ (And.intro ?_ (And.intro ?_ ?_))); (focus (first | omega | (rw [wrap64 (by omega) (by omega)] <;> first | omega | rfl) | (simp; omega))); (focus (first | omega | (rw [wrap64 (by omega) (by omega)] <;> first | omega | rfl) | (simp; omega))); (focus (first | omega | (rw [wrap64 (by omega) (by omega)] <;> first | omega | rfl) | (simp; omega))); (focus ((repeat' (first | exact sz_nil | exact sz_map fun _ => rfl | apply sz_take | apply sz_drop | apply sz_append | apply sz_cons rfl)); done)); (conv => whnf))
      | (refine And.intro ?_ (And.intro ?_ ?_); (focus (first | omega | (rw [wrap64 (by omega) (by omega)] <;> first | omega | rfl) | (simp; omega))); (focus ((repeat' (first | exact sz_nil | exact sz_map fun _ => rfl | apply sz_take | apply sz_drop | apply sz_append | apply sz_cons rfl)); done)); (conv => whnf))
      | (refine And.intro ?_ (And.intro ?_ ?_); (focus (first | omega | (rw [wrap64 (by omega) (by omega)] <;> first | omega | rfl) | (simp; omega))); (focus (first | omega | (rw [wrap64 (by omega) (by omega)] <;> first | omega | rfl) | (simp; omega))); (conv => whnf))
      | (rw [beq_g]; (conv => whnf))
      | fail)
  · have hm2 : ¬ 30 < (newF x d (trigB x d b) d.head.length).length := by simp only [trigB]; omega
    rw [trigR_ok ha he (by omega) hm2]
    repeat' (first
      | exact trivial
      | (refine ⟨rfl, ?_⟩; (conv => whnf))
      | (refine ⟨fun h => ?_, fun h => ?_⟩ <;> (try simp at h) <;> (try (exfalso; omega)) <;> (conv => whnf))
      | (intro b hb; (conv => whnf))
      | (refine .inl ?_; (conv => whnf); first | (refine ⟨_, _, _, _, ct_l5Copy (Inst.mk x.rels (newF x d (trigB x d b) d.head.length)) (newF_ok hvi hvd he (by omega)), ?_⟩; (conv => whnf)) | fail)
      | (refine And.intro ?_ ?_; (focus (rw [wrap64 (by omega) (by omega)] <;> rfl)); (conv => whnf))
      | (refine And.intro ?_ (And.intro ?_ (And.intro ?_ (And.intro ?_ ?_))); (focus (first | omega | (rw [wrap64 (by omega) (by omega)] <;> first | omega | rfl) | (simp; omega))); (focus (first | omega | (rw [wrap64 (by omega) (by omega)] <;> first | omega | rfl) | (simp; omega))); (focus (first | omega | (rw [wrap64 (by omega) (by omega)] <;> first | omega | rfl) | (simp; omega))); (focus ((repeat' (first | exact sz_nil | exact sz_map fun _ => rfl | apply sz_take | apply sz_drop | apply sz_append | apply sz_cons rfl)); done)); (conv => whnf))
      | (refine And.intro ?_ (And.intro ?_ ?_); (focus (first | omega | (rw [wrap64 (by omega) (by omega)] <;> first | omega | rfl) | (simp; omega))); (focus ((repeat' (first | exact sz_nil | exact sz_map fun _ => rfl | apply sz_take | apply sz_drop | apply sz_append | apply sz_cons rfl)); done)); (conv => whnf))
      | (refine And.intro ?_ (And.intro ?_ ?_); (focus (first | omega | (rw [wrap64 (by omega) (by omega)] <;> first | omega | rfl) | (simp; omega))); (focus (first | omega | (rw [wrap64 (by omega) (by omega)] <;> first | omega | rfl) | (simp; omega))); (conv => whnf))
      | (rw [beq_g]; (conv => whnf))
      | fail)
end Go.Proofs.YtccbimcikbbecaaGreat
/- Triggers applied, as the rewriting does it. -/
namespace Go.Proofs.YtccbimcikbbecaaGreat
open Go P1
theorem newF_comp {x : Inst} {d : Dep} {bb : List Int} (h : validInst x = true) : comp (sortF (x.facts ++ headF d bb d.head.length)) = newF x d bb d.head.length := comp_sortF (validInst_strict h)
theorem headF_len (d : Dep) (bb : List Int) (j : Nat) : (headF d bb j).length ≤ j := by simp [headF]; omega
theorem headF_small {x : Inst} {d : Dep} {bb : List Int} (hd : validDep x.rels d = true) (he : d.egd = false) (j : Nat) : ∀ f ∈ headF d bb j, f.vals.length ≤ 1000000 := fun f hf => by
  obtain ⟨a, ha, rfl⟩ := List.mem_map.1 hf
  have h4 := instF_len a bb
  have h5 := validAtom_terms (List.all_eq_true.1 (validDep_head hd he).2 a (List.mem_of_mem_take ha))
  omega
def H104 : List (Nat × Hint) := [(0, ⟨[], [0, 1, 7]⟩), (1, ⟨[], [4, 18]⟩), (2, ⟨[], [19, 20, 21, 22]⟩), (3, ⟨[], [3, 24, 25]⟩), (4, ⟨[], [26]⟩), (5, ⟨[(false, []), (false, [0]), (false, [0, 1]), (false, [1, 2]), (false, [3]), (false, [4]), (false, [0, 1, 2, 3, 4, 5]), (false, [0, 1, 2, 3, 4, 5, 6]), (false, [1, 2, 3, 4, 5, 6, 7]), (false, [3, 4, 5, 6, 7, 8]), (false, [4, 5, 6, 7, 8, 9]), (false, []), (false, []), (false, [0]), (false, []), (false, [])], [2, 3, 8, 28, 29, 30, 31, 32, 33, 34, 35, 36, 37, 38, 39, 40, 41]⟩), (6, ⟨[(false, []), (false, []), (false, [0, 1]), (false, []), (false, []), (false, [])], [2, 42, 43, 44, 45]⟩), (7, ⟨[], [46]⟩), (9, ⟨[], [51, 52]⟩), (10, ⟨[], [12, 53, 54, 55, 56, 57]⟩), (11, ⟨[], [58, 59]⟩), (12, ⟨[], [60]⟩), (13, ⟨[], [61, 62]⟩), (14, ⟨[], [8, 63]⟩), (16, ⟨[], [68, 69]⟩), (17, ⟨[], [15, 17, 70, 71, 72, 73, 74, 75]⟩), (18, ⟨[], [16, 76, 77, 78, 79, 80, 81]⟩), (19, ⟨[], [82]⟩), (20, ⟨[], [83, 84, 85, 86]⟩), (21, ⟨[(false, []), (false, []), (true, []), (false, []), (false, []), (false, []), (false, []), (false, [])], [10, 87, 88, 89, 90, 91, 92, 93]⟩), (22, ⟨[], [3, 95, 96]⟩), (23, ⟨[], [13, 97]⟩)]
set_option maxHeartbeats 4000000 in
set_option maxRecDepth 100000 in
theorem ct_iApplyTrigger (x : Inst) (d : Dep) (b : List Int) (ho : x.ok) : Ct Tryz.prog 104 [ag x.av, ag d.av, sl (ints b)] [] (instI (trigR x d b)) [] [] := by
  refine ct_of_vc mixed tab_ok H104 Tryz.func104 rfl (by kernel_rfl) (by kernel_rfl) (by rfl) ?_
  intro hw _
  clear hw
  conv => whnf
  refine .inl ?_
  conv => whnf
  refine ⟨_, _, _, _, ct_iIsActiveTrigger x d b, ?_⟩
  conv => whnf
  refine ⟨fun ha => ?_, fun ha => ?_⟩ <;> (try simp at ha) <;> (conv => whnf)
  · rw [trigR_no ha]
    repeat' (first
      | exact trivial
      | (refine ⟨rfl, ?_⟩; (conv => whnf))
      | (refine ⟨fun h => ?_, fun h => ?_⟩ <;> (try simp at h) <;> (try (exfalso; omega)) <;> (conv => whnf))
      | (intro b hb; (conv => whnf))
      | (refine .inl ?_; (conv => whnf); first | (refine ⟨_, _, _, _, ct_instanceCopyD x ho, ?_⟩; (conv => whnf)) | fail)
      | (refine And.intro ?_ ?_; (focus (rw [wrap64 (by omega) (by omega)] <;> rfl)); (conv => whnf))
      | (refine And.intro ?_ (And.intro ?_ (And.intro ?_ (And.intro ?_ ?_))); (focus (first | omega | (rw [wrap64 (by omega) (by omega)] <;> first | omega | rfl) | (simp; omega))); (focus (first | omega | (rw [wrap64 (by omega) (by omega)] <;> first | omega | rfl) | (simp; omega))); (focus (first | omega | (rw [wrap64 (by omega) (by omega)] <;> first | omega | rfl) | (simp; omega))); (focus ((repeat' (first | exact sz_nil | exact sz_map fun _ => rfl | apply sz_take | apply sz_drop | apply sz_append | apply sz_cons rfl)); done)); (conv => whnf))
      | (refine And.intro ?_ (And.intro ?_ ?_); (focus (first | omega | (rw [wrap64 (by omega) (by omega)] <;> first | omega | rfl) | (simp; omega))); (focus ((repeat' (first | exact sz_nil | exact sz_map fun _ => rfl | apply sz_take | apply sz_drop | apply sz_append | apply sz_cons rfl)); done)); (conv => whnf))
      | (refine And.intro ?_ (And.intro ?_ ?_); (focus (first | omega | (rw [wrap64 (by omega) (by omega)] <;> first | omega | rfl) | (simp; omega))); (focus (first | omega | (rw [wrap64 (by omega) (by omega)] <;> first | omega | rfl) | (simp; omega))); (conv => whnf))
      | (rw [beq_g]; (conv => whnf))
      | fail)
  obtain ⟨hvi, hvd, hb⟩ := isAct_spec ha
  have hN := nextN_range x
  refine ⟨fun he => ?_, fun he => ?_⟩ <;> (try simp at he) <;> (conv => whnf)
  · have hl := egd_lt hvd he
    have h1 : d.left.toNat < b.length := by omega
    have h2 : d.right.toNat < b.length := by omega
    rw [trigR_egd ha he, getD_eq h1, getD_eq h2]
    repeat' (first
      | exact trivial
      | (refine ⟨rfl, ?_⟩; (conv => whnf))
      | (refine ⟨fun h => ?_, fun h => ?_⟩ <;> (try simp at h) <;> (try (exfalso; omega)) <;> (conv => whnf))
      | (intro b hb; (conv => whnf))
      | (refine .inl ?_; (conv => whnf); first | (refine ⟨_, _, _, _, ct_equated x b[d.left.toNat] b[d.right.toNat] ho, ?_⟩; (conv => whnf)) | fail)
      | (refine And.intro ?_ ?_; (focus (rw [wrap64 (by omega) (by omega)] <;> rfl)); (conv => whnf))
      | (refine ⟨[i64 b[d.left.toNat]], ?_, map_getI ?_ ?_, rfl, ?_⟩; (focus (first | omega | (rw [wrap64 (by omega) (by omega)] <;> first | omega | rfl) | (simp; omega))); (focus (first | rfl | omega | (rw [wrap64 (by omega) (by omega)] <;> first | omega | rfl))); (focus omega); (conv => whnf))
      | (refine ⟨[i64 b[d.left.toNat]], map_getI ?_ ?_, ?_, ?_, ?_⟩; (focus (first | rfl | omega | (rw [wrap64 (by omega) (by omega)] <;> first | omega | rfl))); (focus omega); (focus (simp; done)); (focus (simp; done)); (conv => whnf))
      | (refine ⟨[i64 b[d.left.toNat]], map_getI ?_ ?_, ?_⟩; (focus (first | rfl | omega | (rw [wrap64 (by omega) (by omega)] <;> first | omega | rfl))); (focus omega); (conv => whnf))
      | (refine ⟨[i64 b[d.right.toNat]], ?_, map_getI ?_ ?_, rfl, ?_⟩; (focus (first | omega | (rw [wrap64 (by omega) (by omega)] <;> first | omega | rfl) | (simp; omega))); (focus (first | rfl | omega | (rw [wrap64 (by omega) (by omega)] <;> first | omega | rfl))); (focus omega); (conv => whnf))
      | (refine ⟨[i64 b[d.right.toNat]], map_getI ?_ ?_, ?_, ?_, ?_⟩; (focus (first | rfl | omega | (rw [wrap64 (by omega) (by omega)] <;> first | omega | rfl))); (focus omega); (focus (simp; done)); (focus (simp; done)); (conv => whnf))
      | (refine ⟨[i64 b[d.right.toNat]], map_getI ?_ ?_, ?_⟩; (focus (first | rfl | omega | (rw [wrap64 (by omega) (by omega)] <;> first | omega | rfl))); (focus omega); (conv => whnf))
      | (refine And.intro ?_ (And.intro ?_ (And.intro ?_ (And.intro ?_ ?_))); (focus (first | omega | (rw [wrap64 (by omega) (by omega)] <;> first | omega | rfl) | (simp; omega))); (focus (first | omega | (rw [wrap64 (by omega) (by omega)] <;> first | omega | rfl) | (simp; omega))); (focus (first | omega | (rw [wrap64 (by omega) (by omega)] <;> first | omega | rfl) | (simp; omega))); (focus ((repeat' (first | exact sz_nil | exact sz_map fun _ => rfl | apply sz_take | apply sz_drop | apply sz_append | apply sz_cons rfl)); done)); (conv => whnf))
      | (refine And.intro ?_ (And.intro ?_ ?_); (focus (first | omega | (rw [wrap64 (by omega) (by omega)] <;> first | omega | rfl) | (simp; omega))); (focus ((repeat' (first | exact sz_nil | exact sz_map fun _ => rfl | apply sz_take | apply sz_drop | apply sz_append | apply sz_cons rfl)); done)); (conv => whnf))
      | (refine And.intro ?_ (And.intro ?_ ?_); (focus (first | omega | (rw [wrap64 (by omega) (by omega)] <;> first | omega | rfl) | (simp; omega))); (focus (first | omega | (rw [wrap64 (by omega) (by omega)] <;> first | omega | rfl) | (simp; omega))); (conv => whnf))
      | (refine And.intro ?_ ?_; (focus (fail)); (conv => whnf))
      | (rw [beq_g]; (conv => whnf))
      | fail)
  have hh := validDep_head hvd he
  have hbt := terms_valid (validDep_body hvd).2.1
  have hht := terms_valid hh.2
  have hb2 := (validDep_body hvd).1
  have hvl := exV_len hvd he
  have hal := allVals_len hvi
  have hbn : b ≠ [] := fun e => by rw [e] at hb; simp at hb
  repeat' (first
    | exact trivial
    | (refine ⟨rfl, ?_⟩; (conv => whnf))
    | (refine ⟨fun h => ?_, fun h => ?_⟩ <;> (try simp at h) <;> (try (exfalso; omega)) <;> (conv => whnf))
    | (intro b hb; (conv => whnf))
    | (refine .inl ?_; (conv => whnf); first | (refine ⟨_, _, _, _, ct_CloneIo b (by omega) hbn, ?_⟩; (conv => whnf)) | (refine ⟨_, _, _, _, ct_iNextNull x ho (by omega), ?_⟩; (conv => whnf)) | (refine ⟨_, _, _, _, ct_iExistentialVariables d (by omega) (by omega), ?_⟩; (conv => whnf)) | fail)
    | (refine And.intro ?_ ?_; (focus (rw [wrap64 (by omega) (by omega)] <;> rfl)); (conv => whnf))
    | (refine And.intro ?_ (And.intro ?_ (And.intro ?_ (And.intro ?_ ?_))); (focus (first | omega | (rw [wrap64 (by omega) (by omega)] <;> first | omega | rfl) | (simp; omega))); (focus (first | omega | (rw [wrap64 (by omega) (by omega)] <;> first | omega | rfl) | (simp; omega))); (focus (first | omega | (rw [wrap64 (by omega) (by omega)] <;> first | omega | rfl) | (simp; omega))); (focus ((repeat' (first | exact sz_nil | exact sz_map fun _ => rfl | apply sz_take | apply sz_drop | apply sz_append | apply sz_cons rfl)); done)); (conv => whnf))
    | (refine And.intro ?_ (And.intro ?_ ?_); (focus (first | omega | (rw [wrap64 (by omega) (by omega)] <;> first | omega | rfl) | (simp; omega))); (focus ((repeat' (first | exact sz_nil | exact sz_map fun _ => rfl | apply sz_take | apply sz_drop | apply sz_append | apply sz_cons rfl)); done)); (conv => whnf))
    | (refine And.intro ?_ (And.intro ?_ ?_); (focus (first | omega | (rw [wrap64 (by omega) (by omega)] <;> first | omega | rfl) | (simp; omega))); (focus (first | omega | (rw [wrap64 (by omega) (by omega)] <;> first | omega | rfl) | (simp; omega))); (conv => whnf))
    | (rw [beq_g]; (conv => whnf))
    | fail)
  refine loop_rule mixed tab_ok H104 (I := Nat) (fun i => [(.slot 9, .s (.lf (.own (43, 0)))), (.row (43, 0), .r ⟨3, 1, true, (exB (exV d) (nextN x) b i).map ielem⟩), (.slot 10, iv (nextN x + i)), (.slot 49, iv i), (.slot 48, iv (exV d).length), (.slot 47, .s (sl (ints (exV d)))), (.slot 6, .s (.lf (.ptr (6, 0) 0))), (.leaf (6, 0) 0, .l .nil), (.leaf (6, 0) 1, .l .nil), (.slot 8, .s (.lf (.ptr (8, 0) 0))), (.leaf (8, 0) 0, .l (.av (.row (d.body.map Atom.av)))), (.leaf (8, 0) 1, .l (.av (.row (d.head.map Atom.av)))), (.leaf (8, 0) 2, .l (.av (.bool d.egd))), (.leaf (8, 0) 3, .l (.av (i64 d.left))), (.leaf (8, 0) 4, .l (.av (i64 d.right))), (.slot 3, .s (.lf (.ptr (3, 0) 0))), (.leaf (3, 0) 0, .l (.av (.row (x.rels.map Relation.av)))), (.leaf (3, 0) 1, .l (.av (.row (x.facts.map Fact.av))))]) (fun i => i ≤ (exV d).length) (fun i => (exV d).length - i) (by kernel_rfl) 0 (by omega) (wk_sound (ψ := []) ?_) ?_
  · conv => whnf
    repeat' (first
      | exact trivial
      | (refine ⟨rfl, ?_⟩; (conv => whnf))
      | (refine ⟨fun h => ?_, fun h => ?_⟩ <;> (try simp at h) <;> (try (exfalso; omega)) <;> (conv => whnf))
      | (intro b hb; (conv => whnf))
      | (refine And.intro ?_ ?_; (focus (rw [wrap64 (by omega) (by omega)] <;> rfl)); (conv => whnf))
      | (refine And.intro ?_ (And.intro ?_ (And.intro ?_ (And.intro ?_ ?_))); (focus (first | omega | (rw [wrap64 (by omega) (by omega)] <;> first | omega | rfl) | (simp; omega))); (focus (first | omega | (rw [wrap64 (by omega) (by omega)] <;> first | omega | rfl) | (simp; omega))); (focus (first | omega | (rw [wrap64 (by omega) (by omega)] <;> first | omega | rfl) | (simp; omega))); (focus ((repeat' (first | exact sz_nil | exact sz_map fun _ => rfl | apply sz_take | apply sz_drop | apply sz_append | apply sz_cons rfl)); done)); (conv => whnf))
      | (refine And.intro ?_ (And.intro ?_ ?_); (focus (first | omega | (rw [wrap64 (by omega) (by omega)] <;> first | omega | rfl) | (simp; omega))); (focus ((repeat' (first | exact sz_nil | exact sz_map fun _ => rfl | apply sz_take | apply sz_drop | apply sz_append | apply sz_cons rfl)); done)); (conv => whnf))
      | (refine And.intro ?_ (And.intro ?_ ?_); (focus (first | omega | (rw [wrap64 (by omega) (by omega)] <;> first | omega | rfl) | (simp; omega))); (focus (first | omega | (rw [wrap64 (by omega) (by omega)] <;> first | omega | rfl) | (simp; omega))); (conv => whnf))
      | (refine And.intro ?_ ?_; (focus (simp; done)); (conv => whnf))
      | (rw [beq_g]; (conv => whnf))
      | fail)
  intro i hi
  have hel := exB_len (exV d) (nextN x) b i
  conv => whnf
  refine ⟨fun hlt => ?_, fun hlt => ?_⟩ <;> (try simp at hlt) <;> (conv => whnf)
  · have hv := exV_lt hvd he (List.getElem_mem hlt)
    have hq : (exV d)[i].toNat < (exB (exV d) (nextN x) b i).length := by omega
    have hg := getD_eq hlt
    repeat' (first
      | exact trivial
      | (refine ⟨rfl, ?_⟩; (conv => whnf))
      | (refine ⟨fun h => ?_, fun h => ?_⟩ <;> (try simp at h) <;> (try (exfalso; omega)) <;> (conv => whnf))
      | (intro b hb; (conv => whnf))
      | (refine .inl ?_; (conv => whnf); first | (refine ⟨_, _, _, _, ct_iNullValue (nextN x + i) (by omega), ?_⟩; (conv => whnf)) | fail)
      | (refine And.intro ?_ ?_; (focus (rw [wrap64 (by omega) (by omega)] <;> rfl)); (conv => whnf))
      | (refine ⟨[i64 (exV d)[i]], ?_, map_getI ?_ ?_, rfl, ?_⟩; (focus (first | omega | (rw [wrap64 (by omega) (by omega)] <;> first | omega | rfl) | (simp; omega))); (focus (first | rfl | omega | (rw [wrap64 (by omega) (by omega)] <;> first | omega | rfl))); (focus omega); (conv => whnf))
      | (refine ⟨[i64 (exV d)[i]], map_getI ?_ ?_, ?_, ?_, ?_⟩; (focus (first | rfl | omega | (rw [wrap64 (by omega) (by omega)] <;> first | omega | rfl))); (focus omega); (focus (simp; done)); (focus (simp; done)); (conv => whnf))
      | (refine ⟨[i64 (exV d)[i]], map_getI ?_ ?_, ?_⟩; (focus (first | rfl | omega | (rw [wrap64 (by omega) (by omega)] <;> first | omega | rfl))); (focus omega); (conv => whnf))
      | (refine ⟨[i64 (exB (exV d) (nextN x) b i)[(exV d)[i].toNat]], ?_, map_getI ?_ ?_, rfl, ?_⟩; (focus (first | omega | (rw [wrap64 (by omega) (by omega)] <;> first | omega | rfl) | (simp; omega))); (focus (first | rfl | omega | (rw [wrap64 (by omega) (by omega)] <;> first | omega | rfl))); (focus omega); (conv => whnf))
      | (refine ⟨[i64 (exB (exV d) (nextN x) b i)[(exV d)[i].toNat]], map_getI ?_ ?_, ?_, ?_, ?_⟩; (focus (first | rfl | omega | (rw [wrap64 (by omega) (by omega)] <;> first | omega | rfl))); (focus omega); (focus (simp; done)); (focus (simp; done)); (conv => whnf))
      | (refine ⟨[i64 (exB (exV d) (nextN x) b i)[(exV d)[i].toNat]], map_getI ?_ ?_, ?_⟩; (focus (first | rfl | omega | (rw [wrap64 (by omega) (by omega)] <;> first | omega | rfl))); (focus omega); (conv => whnf))
      | (refine And.intro ?_ (And.intro ?_ (And.intro ?_ (And.intro ?_ ?_))); (focus (first | omega | (rw [wrap64 (by omega) (by omega)] <;> first | omega | rfl) | (simp; omega))); (focus (first | omega | (rw [wrap64 (by omega) (by omega)] <;> first | omega | rfl) | (simp; omega))); (focus (first | omega | (rw [wrap64 (by omega) (by omega)] <;> first | omega | rfl) | (simp; omega))); (focus ((repeat' (first | exact sz_nil | exact sz_map fun _ => rfl | apply sz_take | apply sz_drop | apply sz_append | apply sz_cons rfl)); done)); (conv => whnf))
      | (refine And.intro ?_ (And.intro ?_ ?_); (focus (first | omega | (rw [wrap64 (by omega) (by omega)] <;> first | omega | rfl) | (simp; omega))); (focus ((repeat' (first | exact sz_nil | exact sz_map fun _ => rfl | apply sz_take | apply sz_drop | apply sz_append | apply sz_cons rfl)); done)); (conv => whnf))
      | (refine And.intro ?_ (And.intro ?_ ?_); (focus (first | omega | (rw [wrap64 (by omega) (by omega)] <;> first | omega | rfl) | (simp; omega))); (focus (first | omega | (rw [wrap64 (by omega) (by omega)] <;> first | omega | rfl) | (simp; omega))); (conv => whnf))
      | (refine ⟨i + 1, ?_, ?_, wk_sound (ψ := []) ?_⟩; (focus (omega)); (focus (first | omega | (rw [wrap64 (by omega) (by omega)] <;> first | omega | rfl) | (simp; omega))); (conv => whnf); (fail_if_success show False))
      | (refine And.intro ?_ ?_; (focus (first | (rw [exB, hg, List.map_set] <;> rfl) | (rw [wrap64 (by omega) (by omega)]; refine congrArg i64 ?_; omega))); (conv => whnf))
      | (rw [beq_g]; (conv => whnf))
      | fail)
  have e : i = (exV d).length := by omega
  subst e
  repeat' (first
    | exact trivial
    | (refine ⟨rfl, ?_⟩; (conv => whnf))
    | (refine ⟨fun h => ?_, fun h => ?_⟩ <;> (try simp at h) <;> (try (exfalso; omega)) <;> (conv => whnf))
    | (intro b hb; (conv => whnf))
    | (refine .inl ?_; (conv => whnf); first | (refine ⟨_, _, _, _, ct_instanceCopy x ho, ?_⟩; (conv => whnf)) | fail)
    | (refine And.intro ?_ ?_; (focus (rw [wrap64 (by omega) (by omega)] <;> rfl)); (conv => whnf))
    | (refine And.intro ?_ (And.intro ?_ (And.intro ?_ (And.intro ?_ ?_))); (focus (first | omega | (rw [wrap64 (by omega) (by omega)] <;> first | omega | rfl) | (simp; omega))); (focus (first | omega | (rw [wrap64 (by omega) (by omega)] <;> first | omega | rfl) | (simp; omega))); (focus (first | omega | (rw [wrap64 (by omega) (by omega)] <;> first | omega | rfl) | (simp; omega))); (focus ((repeat' (first | exact sz_nil | exact sz_map fun _ => rfl | apply sz_take | apply sz_drop | apply sz_append | apply sz_cons rfl)); done)); (conv => whnf))
    | (refine And.intro ?_ (And.intro ?_ ?_); (focus (first | omega | (rw [wrap64 (by omega) (by omega)] <;> first | omega | rfl) | (simp; omega))); (focus ((repeat' (first | exact sz_nil | exact sz_map fun _ => rfl | apply sz_take | apply sz_drop | apply sz_append | apply sz_cons rfl)); done)); (conv => whnf))
    | (refine And.intro ?_ (And.intro ?_ ?_); (focus (first | omega | (rw [wrap64 (by omega) (by omega)] <;> first | omega | rfl) | (simp; omega))); (focus (first | omega | (rw [wrap64 (by omega) (by omega)] <;> first | omega | rfl) | (simp; omega))); (conv => whnf))
    | (rw [beq_g]; (conv => whnf))
    | fail)
  have hvl2 := validInst_len hvi
  refine loop_rule mixed tab_ok H104 (I := Nat) (fun j => [(.leaf (13, 0) 1, .l (.own (62, 0))), (.row (62, 0), .r ⟨136, 2, true, (x.facts ++ headF d (exB (exV d) (nextN x) b (exV d).length) j).map Fact.av⟩), (.slot 9, .s (sl (ints (exB (exV d) (nextN x) b (exV d).length)))), (.slot 10, iv (nextN x + (exV d).length)), (.slot 66, iv j), (.slot 65, iv d.head.length), (.slot 64, .s (sl (.row (d.head.map Atom.av)))), (.slot 13, .s (.lf (.ptr (13, 0) 0))), (.leaf (13, 0) 0, .l (.av (.row (x.rels.map Relation.av)))), (.slot 6, .s (.lf (.ptr (6, 0) 0))), (.leaf (6, 0) 0, .l .nil), (.leaf (6, 0) 1, .l .nil), (.slot 3, .s (.lf (.ptr (3, 0) 0))), (.leaf (3, 0) 0, .l (.av (.row (x.rels.map Relation.av)))), (.leaf (3, 0) 1, .l (.av (.row (x.facts.map Fact.av))))]) (fun j => j ≤ d.head.length) (fun j => d.head.length - j) (by kernel_rfl) 0 (by omega) (wk_sound (ψ := []) ?_) ?_
  · conv => whnf
    repeat' (first
      | exact trivial
      | (refine ⟨rfl, ?_⟩; (conv => whnf))
      | (refine ⟨fun h => ?_, fun h => ?_⟩ <;> (try simp at h) <;> (try (exfalso; omega)) <;> (conv => whnf))
      | (intro b hb; (conv => whnf))
      | (refine And.intro ?_ ?_; (focus (rw [wrap64 (by omega) (by omega)] <;> rfl)); (conv => whnf))
      | (refine And.intro ?_ (And.intro ?_ (And.intro ?_ (And.intro ?_ ?_))); (focus (first | omega | (rw [wrap64 (by omega) (by omega)] <;> first | omega | rfl) | (simp; omega))); (focus (first | omega | (rw [wrap64 (by omega) (by omega)] <;> first | omega | rfl) | (simp; omega))); (focus (first | omega | (rw [wrap64 (by omega) (by omega)] <;> first | omega | rfl) | (simp; omega))); (focus ((repeat' (first | exact sz_nil | exact sz_map fun _ => rfl | apply sz_take | apply sz_drop | apply sz_append | apply sz_cons rfl)); done)); (conv => whnf))
      | (refine And.intro ?_ (And.intro ?_ ?_); (focus (first | omega | (rw [wrap64 (by omega) (by omega)] <;> first | omega | rfl) | (simp; omega))); (focus ((repeat' (first | exact sz_nil | exact sz_map fun _ => rfl | apply sz_take | apply sz_drop | apply sz_append | apply sz_cons rfl)); done)); (conv => whnf))
      | (refine And.intro ?_ (And.intro ?_ ?_); (focus (first | omega | (rw [wrap64 (by omega) (by omega)] <;> first | omega | rfl) | (simp; omega))); (focus (first | omega | (rw [wrap64 (by omega) (by omega)] <;> first | omega | rfl) | (simp; omega))); (conv => whnf))
      | (refine And.intro ?_ ?_; (focus (simp [headF]; done)); (conv => whnf))
      | (rw [beq_g]; (conv => whnf))
      | fail)
  intro j hj
  have hnl := headF_len d (exB (exV d) (nextN x) b (exV d).length) j
  have hll : (x.facts ++ headF d (exB (exV d) (nextN x) b (exV d).length) j).length ≤ 32 := by rw [List.length_append]; omega
  conv => whnf
  refine ⟨fun hlt2 => ?_, fun hlt2 => ?_⟩ <;> (try simp at hlt2) <;> (conv => whnf)
  · have hva := List.all_eq_true.1 hh.2 _ (List.getElem_mem hlt2)
    repeat' (first
      | exact trivial
      | (refine ⟨rfl, ?_⟩; (conv => whnf))
      | (refine ⟨fun h => ?_, fun h => ?_⟩ <;> (try simp at h) <;> (try (exfalso; omega)) <;> (conv => whnf))
      | (intro b hb; (conv => whnf))
      | (refine .inl ?_; (conv => whnf); first | (refine ⟨_, _, _, _, ct_iInstantiate _ _ (validAtom_small hva), ?_⟩; (conv => whnf)) | fail)
      | (refine And.intro ?_ ?_; (focus (rw [wrap64 (by omega) (by omega)] <;> rfl)); (conv => whnf))
      | (refine ⟨d.head[j].av, ?_, map_getI ?_ ?_, rfl, ?_⟩; (focus (first | omega | (rw [wrap64 (by omega) (by omega)] <;> first | omega | rfl) | (simp; omega))); (focus (first | rfl | omega | (rw [wrap64 (by omega) (by omega)] <;> first | omega | rfl))); (focus omega); (conv => whnf))
      | (refine ⟨d.head[j].av, map_getI ?_ ?_, ?_, ?_, ?_⟩; (focus (first | rfl | omega | (rw [wrap64 (by omega) (by omega)] <;> first | omega | rfl))); (focus omega); (focus (simp; done)); (focus (simp; done)); (conv => whnf))
      | (refine ⟨d.head[j].av, map_getI ?_ ?_, ?_⟩; (focus (first | rfl | omega | (rw [wrap64 (by omega) (by omega)] <;> first | omega | rfl))); (focus omega); (conv => whnf))
      | (refine And.intro ?_ (And.intro ?_ (And.intro ?_ (And.intro ?_ ?_))); (focus (first | omega | (rw [wrap64 (by omega) (by omega)] <;> first | omega | rfl) | (simp; omega))); (focus (first | omega | (rw [wrap64 (by omega) (by omega)] <;> first | omega | rfl) | (simp; omega))); (focus (first | omega | (rw [wrap64 (by omega) (by omega)] <;> first | omega | rfl) | (simp; omega))); (focus ((repeat' (first | exact sz_nil | exact sz_map fun _ => rfl | apply sz_take | apply sz_drop | apply sz_append | apply sz_cons rfl)); done)); (conv => whnf))
      | (refine And.intro ?_ (And.intro ?_ ?_); (focus (first | omega | (rw [wrap64 (by omega) (by omega)] <;> first | omega | rfl) | (simp; omega))); (focus ((repeat' (first | exact sz_nil | exact sz_map fun _ => rfl | apply sz_take | apply sz_drop | apply sz_append | apply sz_cons rfl)); done)); (conv => whnf))
      | (refine And.intro ?_ (And.intro ?_ ?_); (focus (first | omega | (rw [wrap64 (by omega) (by omega)] <;> first | omega | rfl) | (simp; omega))); (focus (first | omega | (rw [wrap64 (by omega) (by omega)] <;> first | omega | rfl) | (simp; omega))); (conv => whnf))
      | (refine ⟨j + 1, ?_, ?_, wk_sound (ψ := [((62, 0), (80, 0))]) ?_⟩; (focus (omega)); (focus (first | omega | (rw [wrap64 (by omega) (by omega)] <;> first | omega | rfl) | (simp; omega))); (conv => whnf); (fail_if_success show False))
      | (refine And.intro ?_ ?_; (focus (first | (rw [headF_snoc hlt2, ← List.append_assoc, List.map_append (l₂ := [_])]; rfl))); (conv => whnf))
      | (rw [beq_g]; (conv => whnf))
      | fail)
  have e : j = d.head.length := by omega
  subst e
  have hfs : ∀ f ∈ x.facts ++ headF d (exB (exV d) (nextN x) b (exV d).length) d.head.length, f.vals.length ≤ 1000000 := fun f hf => by
    rcases List.mem_append.1 hf with h | h
    · have := validInst_fl hvi h; omega
    · exact headF_small hvd he _ f h
  have hcp := newF_comp (d := d) (bb := exB (exV d) (nextN x) b (exV d).length) hvi
  have hnn := newF_len x d (exB (exV d) (nextN x) b (exV d).length) d.head.length
  have hcl := congrArg List.length hcp
  repeat' (first
    | exact trivial
    | (refine ⟨rfl, ?_⟩; (conv => whnf))
    | (refine ⟨fun h => ?_, fun h => ?_⟩ <;> (try simp at h) <;> (try (exfalso; omega)) <;> (conv => whnf))
    | (intro b hb; (conv => whnf))
    | (refine .inl ?_; (conv => whnf); first | (refine ⟨_, _, _, _, ct_factsSet _ (by omega) hfs, ?_⟩; (conv => whnf)) | (refine ⟨_, _, _, _, ct_instanceCopyD x ho, ?_⟩; (conv => whnf)) | fail)
    | (refine And.intro ?_ ?_; (focus (rw [wrap64 (by omega) (by omega)] <;> rfl)); (conv => whnf))
    | (refine And.intro ?_ (And.intro ?_ (And.intro ?_ (And.intro ?_ ?_))); (focus (first | omega | (rw [wrap64 (by omega) (by omega)] <;> first | omega | rfl) | (simp; omega))); (focus (first | omega | (rw [wrap64 (by omega) (by omega)] <;> first | omega | rfl) | (simp; omega))); (focus (first | omega | (rw [wrap64 (by omega) (by omega)] <;> first | omega | rfl) | (simp; omega))); (focus ((repeat' (first | exact sz_nil | exact sz_map fun _ => rfl | apply sz_take | apply sz_drop | apply sz_append | apply sz_cons rfl)); done)); (conv => whnf))
    | (refine And.intro ?_ (And.intro ?_ ?_); (focus (first | omega | (rw [wrap64 (by omega) (by omega)] <;> first | omega | rfl) | (simp; omega))); (focus ((repeat' (first | exact sz_nil | exact sz_map fun _ => rfl | apply sz_take | apply sz_drop | apply sz_append | apply sz_cons rfl)); done)); (conv => whnf))
    | (refine And.intro ?_ (And.intro ?_ ?_); (focus (first | omega | (rw [wrap64 (by omega) (by omega)] <;> first | omega | rfl) | (simp; omega))); (focus (first | omega | (rw [wrap64 (by omega) (by omega)] <;> first | omega | rfl) | (simp; omega))); (conv => whnf))
    | (refine And.intro ?_ ?_; (focus (first | (rw [trigR_null ha he (by omega)] <;> rfl) | (rw [trigR_many ha he (by simp only [trigB]; omega)] <;> rfl) | (rw [trigR_ok ha he (by omega) (by simp only [trigB]; omega)] <;> rfl) | (rw [hcp, trigR_ok ha he (by omega) (by simp only [trigB]; omega)] <;> rfl))); (conv => whnf))
    | (rw [beq_g]; (conv => whnf))
    | fail)
end Go.Proofs.YtccbimcikbbecaaGreat
