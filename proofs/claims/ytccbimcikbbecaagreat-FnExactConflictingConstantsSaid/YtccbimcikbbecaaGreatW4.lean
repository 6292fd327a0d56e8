/- Part 4 of what the row leans on: AF, AG, AH, Tab, Data, Num, Lst, Rel. No statement of the program stands here by itself. -/
import Derived.Test.YtccbimcikbbecaaGreatW3
import Derived.Test.YtccbimcikbbecaaGreatProg
import Derived.KernelRfl
set_option linter.all false
set_option linter.unusedVariables false
set_option linter.unusedSimpArgs false
/- A state that says less, under other names. -/
namespace Go.Proofs.YtccbimcikbbecaaGreat.P1
open Go

def kmap : List (Key × Key) → Key → Key
  | [], k => k
  | p :: r, k => match kbeq p.1 k with
    | true => p.2
    | false => kmap r k

def capsEq (ψ : List (Key × Key)) : List (Key × Nat) → List (Key × Nat) → Bool
  | [], [] => true
  | p :: r, q :: s => match kbeq (kmap ψ p.1) q.1 && Nat.beq p.2 q.2 with
    | true => capsEq ψ r s
    | false => false
  | _, _ => false

def leLf (look : Loc → Option Cell) (ψ : List (Key × Key)) (r l : Lf) (k : Prop) : Prop := match r, l with
  | .av x, .av x' => x' = x ∧ k
  | .av x, .lit b => AV.bool b = x ∧ k
  | .av x, .nil => AV.row [] = x ∧ k
  | .av x, .own q => match look (.row q) with
    | some (.r ⟨_, _, hot, es⟩) => match hot with
      | false => AV.row es = x ∧ k
      | true => False
    | _ => False
  | .lit b, .lit b' => b' = b ∧ k
  | .nil, .nil => k
  | .own k', .own q => match kbeq (kmap ψ k') q with
    | true => k
    | false => False
  | .ptr b j, .ptr b' j' => match kbeq (kmap ψ b) b' && Nat.beq j j' with
    | true => k
    | false => False
  | .fptr ls, .fptr ls' => ls' = ls ∧ k
  | .optr b sz i j, .optr b' sz' i' j' => match kbeq (kmap ψ b) b' && Nat.beq sz sz' && Nat.beq j j' with
    | true => i' = i ∧ k
    | false => False
  | .fn f cs, .fn f' cs' => match Nat.beq f f' && capsEq ψ cs cs' with
    | true => k
    | false => False
  | _, _ => False
def leL (look : Loc → Option Cell) (ψ : List (Key × Key)) : List Lf → List Lf → Prop → Prop
  | [], [], k => k
  | r :: rs, l :: ls, k => leLf look ψ r l (leL look ψ rs ls k)
  | _, _, _ => False
mutual
def leSl (look : Loc → Option Cell) (ψ : List (Key × Key)) : Sl → Sl → Prop → Prop
  | .lf r, .lf l, k => leLf look ψ r l k
  | .agg rs, .agg ls, k => leL look ψ rs ls k
  | .tup rs, .tup ss, k => leSs look ψ rs ss k
  | _, _, _ => False
def leSs (look : Loc → Option Cell) (ψ : List (Key × Key)) : List Sl → List Sl → Prop → Prop
  | [], [], k => k
  | r :: rs, s :: ss, k => leSl look ψ r s (leSs look ψ rs ss k)
  | _, _, _ => False
end
def leCell (look : Loc → Option Cell) (ψ : List (Key × Key)) (c c' : Cell) (k : Prop) : Prop := match c, c' with
  | .s x, .s y => leSl look ψ x y k
  | .l x, .l y => leLf look ψ x y k
  | .r ⟨e, sz, hot, es⟩, .r ⟨e', sz', hot', es'⟩ => match Nat.beq e e' && Nat.beq sz sz' && hot == hot' with
    | true => es' = es ∧ k
    | false => False
  | _, _ => False
def leSt (look : Loc → Option Cell) (ψ : List (Key × Key)) : St → Prop
  | [] => True
  | (l, c) :: τ => match look (l.ren (kmap ψ)) with
    | some c' => leCell look ψ c c' (leSt look ψ τ)
    | none => False

def frzSt (look : Loc → Option Cell) (ψ : List (Key × Key)) : St → Dl
  | [] => []
  | (l, c) :: τ => (match c, look (l.ren (kmap ψ)) with
    | .s x, some (.s y) => frzSl look x y
    | .l x, some (.l y) => frzLf look x y
    | _, _ => []) ++ frzSt look ψ τ

def places : St → List Key
  | [] => []
  | (.slot _, _) :: r => places r
  | (.leaf b _, _) :: r => match memK b (places r) with
    | true => places r
    | false => b :: places r
  | (.row b, _) :: r => match memK b (places r) with
    | true => places r
    | false => b :: places r
def injAt (ψ : List (Key × Key)) (k : Key) : List Key → Bool
  | [] => true
  | k' :: r => match kbeq (kmap ψ k) (kmap ψ k') with
    | true => false
    | false => injAt ψ k r
def injOn (ψ : List (Key × Key)) : List Key → Bool
  | [] => true
  | k :: r => match injAt ψ k r with
    | true => injOn ψ r
    | false => false
def noPin (n : Nat) : List (Key × Key) → Bool
  | [] => true
  | p :: r => match Nat.beq p.1.1 n with
    | true => false
    | false => noPin n r

def wkW (n : Nat) (ψ : List (Key × Key)) (σ τ : St) : Prop := match noPin n ψ && injOn ψ (places τ) with
  | true => (σ.upd (frzSt σ.look ψ τ)).nf fun σ => leSt σ.look ψ τ
  | false => False

section
variable {C : Cx} {G G' : Gh} {look : Loc → Option Cell} {a : Act} {w : World} {ψ : List (Key × Key)}

def ren (G : Gh) (ψ : List (Key × Key)) : Gh := ⟨fun k => G.m (kmap ψ k), fun k => G.ρ (kmap ψ k), G.F⟩

theorem capsEq_sound : ∀ {cs cs' : List (Key × Nat)}, capsEq ψ cs cs' = true → cs' = cs.map fun p => (kmap ψ p.1, p.2)
  | [], [], _ => rfl
  | p :: r, q :: s, h => by
    simp only [capsEq] at h
    split at h
    · rename_i hb
      simp only [Bool.and_eq_true] at hb
      simp only [List.map_cons, capsEq_sound h, kbeq_iff.1 hb.1, Nat.eq_of_beq_eq_true hb.2]
    · cases h
  | [], _ :: _, h => by cases h
  | _ :: _, [], h => by cases h

theorem leLf_sound (hr : MemR G look w) {r l : Lf} {k : Prop} (h : leLf look ψ r l k) : k ∧ ∀ u, LfR G w u l → LfR (ren G ψ) w u r := by
  unfold leLf at h
  split at h
  · obtain ⟨rfl, h⟩ := h; exact ⟨h, fun u hu => hu⟩
  · obtain ⟨rfl, h⟩ := h; exact ⟨h, fun u hu => by simp only [LfR] at hu ⊢; subst hu; exact .bool⟩
  · obtain ⟨rfl, h⟩ := h; exact ⟨h, fun u hu => by simp only [LfR] at hu ⊢; subst hu; exact .emp fun _ => rfl⟩
  · split at h
    · rename_i hq
      split at h
      · obtain ⟨rfl, h⟩ := h
        refine ⟨h, fun u hu => ?_⟩
        have h2 := hr.row _ _ hq
        simp only [LfR] at hu ⊢
        rw [hu.1]
        exact row_rd h2 (fun b hb => hb) (fun g hg => h2.2.2.2.1 rfl g hg)
      · exact h.elim
    · exact h.elim
  · obtain ⟨rfl, h⟩ := h; exact ⟨h, fun u hu => hu⟩
  · exact ⟨h, fun u hu => hu⟩
  · split at h
    · rename_i hb
      have := kbeq_iff.1 hb
      subst this
      exact ⟨h, fun u hu => hu⟩
    · exact h.elim
  · split at h
    · rename_i hb
      simp only [Bool.and_eq_true] at hb
      have h1 := kbeq_iff.1 hb.1
      have h2 := Nat.eq_of_beq_eq_true hb.2
      subst h1 h2
      exact ⟨h, fun u hu => hu⟩
    · exact h.elim
  · obtain ⟨rfl, h⟩ := h; exact ⟨h, fun u hu => hu⟩
  · split at h
    · rename_i hb
      simp only [Bool.and_eq_true] at hb
      have h1 := kbeq_iff.1 hb.1.1
      have h2 := Nat.eq_of_beq_eq_true hb.1.2
      have h3 := Nat.eq_of_beq_eq_true hb.2
      obtain ⟨h4, h⟩ := h
      subst h1 h2 h3 h4
      exact ⟨h, fun u hu => hu⟩
    · exact h.elim
  · split at h
    · rename_i hb
      simp only [Bool.and_eq_true] at hb
      have h1 := Nat.eq_of_beq_eq_true hb.1
      have h2 := capsEq_sound hb.2
      subst h1 h2
      refine ⟨h, fun u hu => ?_⟩
      simp only [LfR, List.map_map] at hu ⊢
      exact hu
    · exact h.elim
  · exact h.elim

theorem leL_sound (hr : MemR G look w) : ∀ {rs ls : List Lf} {k : Prop}, leL look ψ rs ls k → k ∧ ∀ us, All2 (LfR G w) us ls → All2 (LfR (ren G ψ) w) us rs
  | [], [], k, h => ⟨h, fun us hu => by cases hu; exact .nil⟩
  | r :: rs, l :: ls, k, h => by
    simp only [leL] at h
    obtain ⟨h1, h2⟩ := leLf_sound hr h
    obtain ⟨h3, h4⟩ := leL_sound hr h1
    exact ⟨h3, fun us hu => by cases hu with | cons h5 h6 => exact .cons (h2 _ h5) (h4 _ h6)⟩
  | [], _ :: _, _, h => h.elim
  | _ :: _, [], _, h => h.elim

mutual
theorem leSl_sound (hr : MemR G look w) : ∀ {r s : Sl} {k : Prop}, leSl look ψ r s k → k ∧ ∀ u, SlR G w u s → SlR (ren G ψ) w u r
  | .lf r, .lf l, k, h => by simp only [leSl] at h; exact leLf_sound hr h
  | .agg rs, .agg ls, k, h => by
    simp only [leSl] at h
    obtain ⟨h1, h2⟩ := leL_sound hr h
    exact ⟨h1, fun u ⟨us, e, hu⟩ => ⟨us, e, h2 us hu⟩⟩
  | .tup rs, .tup ss, k, h => by
    simp only [leSl] at h
    obtain ⟨h1, h2⟩ := leSs_sound hr h
    exact ⟨h1, fun u ⟨us, e, hu⟩ => ⟨us, e, h2 us hu⟩⟩
  | .lf _, .agg _, _, h => by simp [leSl] at h
  | .lf _, .tup _, _, h => by simp [leSl] at h
  | .agg _, .lf _, _, h => by simp [leSl] at h
  | .agg _, .tup _, _, h => by simp [leSl] at h
  | .tup _, .lf _, _, h => by simp [leSl] at h
  | .tup _, .agg _, _, h => by simp [leSl] at h
theorem leSs_sound (hr : MemR G look w) : ∀ {rs ss : List Sl} {k : Prop}, leSs look ψ rs ss k → k ∧ ∀ us, SlsR G w us ss → SlsR (ren G ψ) w us rs
  | [], [], k, h => ⟨by simpa [leSs] using h, fun us hu => match us, hu with
      | [], _ => trivial
      | _ :: _, hu => hu.elim⟩
  | r :: rs, s :: ss, k, h => by
    simp only [leSs] at h
    obtain ⟨h1, h2⟩ := leSl_sound hr h
    obtain ⟨h3, h4⟩ := leSs_sound hr h1
    exact ⟨h3, fun us hu => match us, hu with
      | [], hu => hu.elim
      | _ :: _, hu => ⟨h2 _ hu.1, h4 _ hu.2⟩⟩
  | [], _ :: _, _, h => by simp [leSs] at h
  | _ :: _, [], _, h => by simp [leSs] at h
end

def CellLe (G : Gh) (w : World) (ψ : List (Key × Key)) (c c' : Cell) : Prop := match c, c' with
  | .s x, .s y => ∀ u, SlR G w u y → SlR (ren G ψ) w u x
  | .l x, .l y => ∀ u, LfR G w u y → LfR (ren G ψ) w u x
  | .r x, .r y => x = y
  | _, _ => False

theorem leCell_sound (hr : MemR G look w) {c c' : Cell} {k : Prop} (h : leCell look ψ c c' k) : k ∧ CellLe G w ψ c c' := by
  unfold leCell at h
  split at h
  · exact leSl_sound hr h
  · exact leLf_sound hr h
  · split at h
    · rename_i hb
      simp only [Bool.and_eq_true, beq_iff_eq] at hb
      have h1 := Nat.eq_of_beq_eq_true hb.1.1
      have h2 := Nat.eq_of_beq_eq_true hb.1.2
      have h3 := hb.2
      obtain ⟨h4, h⟩ := h
      subst h1 h2 h3 h4
      exact ⟨h, rfl⟩
    · exact h.elim
  · exact h.elim

theorem leSt_sound (hr : MemR G look w) : ∀ {τ : St}, leSt look ψ τ → ∀ l c, (l, c) ∈ τ → ∃ c', look (l.ren (kmap ψ)) = some c' ∧ CellLe G w ψ c c'
  | [], _, l, c, h => by cases h
  | (l0, c0) :: τ, h, l, c, hm => by
    simp only [leSt] at h
    split at h
    · rename_i c' hl
      obtain ⟨h1, h2⟩ := leCell_sound hr h
      rcases List.mem_cons.1 hm with hm | hm
      · cases hm; exact ⟨c', hl, h2⟩
      · exact leSt_sound hr h1 l c hm
    · exact h.elim

theorem frzSt_ok : ∀ {τ : St}, FrzOk look (frzSt look ψ τ)
  | [] => FrzOk.nil
  | (l, c) :: τ => by
    simp only [frzSt]
    refine FrzOk.append ?_ frzSt_ok
    split
    · exact frzSl_ok
    · exact frzLf_ok
    · exact FrzOk.nil

theorem memK_of_mem {b : Key} : ∀ {B : List Key}, b ∈ B → memK b B = true
  | [], h => by cases h
  | k :: r, h => by
    simp only [memK]
    split
    · rfl
    · rename_i hb
      rcases List.mem_cons.1 h with rfl | h
      · rw [kbeq_iff.2 rfl] at hb; cases hb
      · exact memK_of_mem h
theorem memK_mem {b : Key} : ∀ {B : List Key}, memK b B = true → b ∈ B
  | [], h => by cases h
  | k :: r, h => by
    simp only [memK] at h
    split at h
    · rename_i hb; rw [kbeq_iff.1 hb]; exact .head _
    · exact .tail _ (memK_mem h)

theorem places_mem : ∀ {τ : St} {l : Loc} {c : Cell}, (l, c) ∈ τ → ∀ k ∈ l.keys, k ∈ places τ
  | [], l, c, h => by cases h
  | (l0, c0) :: τ, l, c, h => by
    intro k hk
    rcases List.mem_cons.1 h with h | h
    · cases h
      cases l0 with
      | slot t => simp [Loc.keys] at hk
      | leaf b j =>
        simp only [Loc.keys, List.mem_singleton] at hk
        subst hk
        simp only [places]
        split
        · rename_i hm; exact memK_mem hm
        · exact .head _
      | row b =>
        simp only [Loc.keys, List.mem_singleton] at hk
        subst hk
        simp only [places]
        split
        · rename_i hm; exact memK_mem hm
        · exact .head _
    · have ih := places_mem h k hk
      cases l0 with
      | slot t => simpa [places] using ih
      | leaf b j => simp only [places]; split <;> first | exact ih | exact .tail _ ih
      | row b => simp only [places]; split <;> first | exact ih | exact .tail _ ih

theorem injAt_sound {k : Key} : ∀ {B : List Key}, injAt ψ k B = true → ∀ k' ∈ B, kmap ψ k ≠ kmap ψ k'
  | [], _, k', h => by cases h
  | x :: r, h, k', hk => by
    simp only [injAt] at h
    split at h
    · cases h
    · rename_i hb
      rcases List.mem_cons.1 hk with rfl | hk
      · intro he; rw [kbeq_iff.2 he] at hb; cases hb
      · exact injAt_sound h k' hk
theorem injOn_sound : ∀ {B : List Key}, injOn ψ B = true → ∀ k ∈ B, ∀ k' ∈ B, kmap ψ k = kmap ψ k' → k = k'
  | [], _, k, h, _, _, _ => by cases h
  | x :: r, h, k, hk, k', hk', he => by
    simp only [injOn] at h
    split at h
    · rename_i h1
      rcases List.mem_cons.1 hk with e1 | m1 <;> rcases List.mem_cons.1 hk' with e2 | m2
      · exact e1.trans e2.symm
      · subst e1; exact absurd he (injAt_sound h1 k' m2)
      · subst e2; exact absurd he.symm (injAt_sound h1 k m1)
      · exact injOn_sound h k m1 k' m2 he
    · cases h
theorem noPin_sound {n : Nat} : ∀ {ψ : List (Key × Key)}, noPin n ψ = true → ∀ i, kmap ψ (n, i) = (n, i)
  | [], _, i => rfl
  | p :: r, h, i => by
    simp only [noPin] at h
    split at h
    · cases h
    · rename_i hb
      simp only [kmap]
      split
      · rename_i hk
        have := kbeq_iff.1 hk
        rw [this] at hb
        simp only [Nat.beq_refl] at hb
        cases hb
      · exact noPin_sound h i

theorem wk_sound {n : Nat} {σ τ : St} (h : wkW n ψ σ τ) : Wk n σ τ := by
  intro C hC a w ⟨G0, hr0⟩
  unfold wkW at h
  split at h
  · rename_i hchk
    simp only [Bool.and_eq_true] at hchk
    have hfz : FrzOk σ.look (frzSt σ.look ψ τ) := frzSt_ok
    rw [St.nf_eq, upd_look hfz.dok] at h
    have hr := hr0.freeze hfz
    generalize (⟨G0.m, G0.ρ, fun b => G0.F b ∨ frzB G0 (frzSt σ.look ψ τ) b⟩ : Gh) = G at hr
    generalize app σ.look (frzSt σ.look ψ τ) = look at h hr
    have hle := leSt_sound hr.toMemR h
    have hinj := injOn_sound hchk.2
    have hτ : ∀ l c, τ.look l = some c → (l, c) ∈ τ := fun l c e => mem_of_look e
    have hblk : ∀ l c g, τ.look l = some c → (ren G ψ).blk l c = some g → ∃ c', look (l.ren (kmap ψ)) = some c' ∧ G.blk (l.ren (kmap ψ)) c' = some g := fun l c g e hb => by
      obtain ⟨c', h1, h2⟩ := hle l c (hτ l c e)
      refine ⟨c', h1, ?_⟩
      rcases Gh.blk_hot hb with ⟨b, j, x, rfl, rfl, rfl⟩ | ⟨q, r, rfl, rfl, hh, hg⟩
      · cases c' <;> simp only [CellLe] at h2
        rfl
      · cases c' <;> simp only [CellLe] at h2
        subst h2
        simp only [Loc.ren, Gh.blk, hh, if_true]
        exact hg
    exact ⟨ren G ψ, {
      leaf := fun b j l e => by
        obtain ⟨c', h1, h2⟩ := hle _ _ (hτ _ _ e)
        cases c' <;> simp only [CellLe] at h2
        obtain ⟨u, cur, T, h3, h4, h5⟩ := hr.leaf _ _ _ h1
        exact ⟨u, cur, T, h3, h4, h2 u h5⟩
      row := fun k r e => by
        obtain ⟨c', h1, h2⟩ := hle _ _ (hτ _ _ e)
        cases c' <;> simp only [CellLe] at h2
        subst h2
        exact hr.row _ _ h1
      sep := fun l l' c c' g e e' hb hb' => by
        obtain ⟨c1, h1, h2⟩ := hblk l c g e hb
        obtain ⟨c1', h1', h2'⟩ := hblk l' c' g e' hb'
        have := hr.sep _ _ _ _ g h1 h1' h2 h2'
        have hk := places_mem (hτ _ _ e)
        have hk' := places_mem (hτ _ _ e')
        cases l <;> cases l' <;> simp only [Loc.ren, Loc.same, Loc.keys, List.mem_singleton] at this hk hk' ⊢
        · exact hinj _ (hk _ rfl) _ (hk' _ rfl) this
        · exact hinj _ (hk _ rfl) _ (hk' _ rfl) this
      cold := fun l c g e hb => by
        obtain ⟨c1, h1, h2⟩ := hblk l c g e hb
        exact hr.cold _ _ g h1 h2
      Flt := hr.Flt
      slot := fun t s e => by
        obtain ⟨c', h1, h2⟩ := hle _ _ (hτ _ _ e)
        cases c' <;> simp only [CellLe] at h2
        obtain ⟨h3, h4⟩ := hr.slot t _ h1
        exact ⟨h3, h2 _ h4⟩
      mine := fun l c g e hb => by
        obtain ⟨c1, h1, h2⟩ := hblk l c g e hb
        rcases hr.mine _ _ g h1 h2 with h3 | ⟨h3, b, j, h4⟩
        · exact .inl h3
        · refine .inr ⟨h3, ?_⟩
          cases l <;> simp only [Loc.ren] at h4 <;> cases h4
          exact ⟨_, _, rfl⟩
      fr := hr.fr
      F0 := hr.F0
      Fnew := hr.Fnew
      defers := hr.defers
      size := hr.size
      pin := fun i g e => by
        subst hC
        simp only [ren]
        rw [noPin_sound hchk.1]
        exact hr.pin i g e }⟩
  · exact h.elim
end
end Go.Proofs.YtccbimcikbbecaaGreat.P1
/- The table of types as a tree. -/
namespace Go.Proofs.YtccbimcikbbecaaGreat.P1
open Go

inductive Tr (α : Type) where
  | e
  | n (l : Tr α) (k : Nat) (v : α) (r : Tr α)
def Tr.get {α : Type} : Tr α → Nat → Option α
  | .e, _ => none
  | .n l k v r, x => match Nat.beq x k with
    | true => some v
    | false => match Nat.blt x k with
      | true => l.get x
      | false => r.get x
def Tr.allT (P : Program) : Tr TD → Bool
  | .e => true
  | .n l k v r => tdOk P k v && (l.allT P && r.allT P)
theorem tok_of {P : Program} : ∀ {T : Tr TD}, T.allT P = true → TOk P T.get
  | .e, _, t, d, h => by cases h
  | .n l k v r, h, t, d, hd => by
    simp only [Tr.allT, Bool.and_eq_true] at h
    simp only [Tr.get] at hd
    split at hd
    · rename_i hb
      cases hd
      rw [Nat.eq_of_beq_eq_true hb]
      exact h.1
    · split at hd
      · exact tok_of h.2.1 t d hd
      · exact tok_of h.2.2 t d hd

/-- What each proof is given of the program. -/
structure Env (P : Program) (T : TI) : Prop where
  mixed : P.follows .mixedOrders = true
  types : TOk P T
end Go.Proofs.YtccbimcikbbecaaGreat.P1
/- A nil slice as a row of the function's own. -/
namespace Go.Proofs.YtccbimcikbbecaaGreat.P1
open Go

def notRow : Loc → Bool
  | .row _ => false
  | _ => true
def nilRow (l : Loc) (d : Nat) (e : TypeId) (sz : Nat) (σ : St) (k : St → Prop) : Prop := match σ.fresh d && (Nat.blt 0 sz && notRow l) with
  | true => match σ.look l with
    | some (.s (.lf .nil)) => σ.updK [(.at l, some (.s (.lf (.own (d, 0))))), (.at (.row (d, 0)), some (.r ⟨e, sz, true, []⟩))] k
    | some (.l .nil) => σ.updK [(.at l, some (.l (.own (d, 0)))), (.at (.row (d, 0)), some (.r ⟨e, sz, true, []⟩))] k
    | _ => False
  | false => False

section
variable {C : Cx} {G : Gh} {look : Loc → Option Cell} {a : Act} {w : World}

def reCell (look : Loc → Option Cell) (l : Loc) (c : Cell) (x : Loc) : Option Cell := match l.beq x with
  | true => some c
  | false => look x

def nilOf : Cell → Bool
  | .s (.lf .nil) => true
  | .l .nil => true
  | _ => false
def ownOf (k : Key) : Cell → Cell
  | .s _ => .s (.lf (.own k))
  | _ => .l (.own k)

theorem Rel.recell (hr : Rel C G look a w) {l : Loc} {c : Cell} {k : Key} (hl : look l = some c) (hc : nilOf c = true) (hρ : G.ρ k = .slice none 0 0) (hrow : ∀ q, l ≠ .row q) : Rel C G (reCell look l (ownOf k c)) a w := by
  have key : ∀ x c', reCell look l (ownOf k c) x = some c' → (x = l ∧ c' = ownOf k c) ∨ look x = some c' := fun x c' e => by
    unfold reCell at e
    split at e
    · rename_i hb; exact .inl ⟨(Loc.beq_iff.1 hb).symm, by cases e; rfl⟩
    · exact .inr e
  have hu : ∀ u, LfR G w u .nil → LfR G w u (.own k) := fun u h => by
    have h : u = .slice none 0 0 := h
    subst h
    exact ⟨hρ.symm, rfl⟩
  have hblk : ∀ x c' g, reCell look l (ownOf k c) x = some c' → G.blk x c' = some g → ∃ c2, look x = some c2 ∧ G.blk x c2 = some g := fun x c' g e hb => by
    rcases key x c' e with ⟨rfl, rfl⟩ | e
    · refine ⟨c, hl, ?_⟩
      cases x with
      | slot t => cases c <;> simp [ownOf, Gh.blk] at hb
      | leaf b j => cases c <;> simp [ownOf, Gh.blk, nilOf] at hb hc ⊢ <;> exact hb
      | row q => exact absurd rfl (hrow q)
    · exact ⟨c', e, hb⟩
  exact {
    leaf := fun b j l' e => by
      rcases key _ _ e with ⟨rfl, e2⟩ | e
      · cases c with
        | s x => cases e2
        | r x => simp [nilOf] at hc
        | l x =>
          cases x <;> simp [nilOf] at hc
          cases e2
          obtain ⟨u, cur, T, h1, h2, h3⟩ := hr.leaf _ _ _ hl
          exact ⟨u, cur, T, h1, h2, hu u h3⟩
      · exact hr.leaf b j l' e
    row := fun q r e => by
      rcases key _ _ e with ⟨rfl, _⟩ | e
      · exact absurd rfl (hrow q)
      · exact hr.row q r e
    sep := fun x y c1 c2 g e e' hb hb' => by
      obtain ⟨d1, f1, g1⟩ := hblk x c1 g e hb
      obtain ⟨d2, f2, g2⟩ := hblk y c2 g e' hb'
      exact hr.sep x y d1 d2 g f1 f2 g1 g2
    cold := fun x c1 g e hb => by
      obtain ⟨d1, f1, g1⟩ := hblk x c1 g e hb
      exact hr.cold x d1 g f1 g1
    Flt := hr.Flt
    slot := fun t s e => by
      rcases key _ _ e with ⟨rfl, e2⟩ | e
      · cases c with
        | l x => cases e2
        | r x => simp [nilOf] at hc
        | s x =>
          cases e2
          obtain ⟨h1, h2⟩ := hr.slot _ _ hl
          refine ⟨h1, ?_⟩
          cases x with
          | lf y => cases y <;> simp [nilOf] at hc; exact hu _ h2
          | agg => simp [nilOf] at hc
          | tup => simp [nilOf] at hc
      · exact hr.slot t s e
    mine := fun x c1 g e hb => by
      obtain ⟨d1, f1, g1⟩ := hblk x c1 g e hb
      exact hr.mine x d1 g f1 g1
    fr := hr.fr
    F0 := hr.F0
    Fnew := hr.Fnew
    defers := hr.defers
    size := hr.size
    pin := hr.pin }

theorem nilRow_rel {l : Loc} {d : Nat} {e : TypeId} {sz : Nat} {σ : St} {k : St → Prop} (hd : d ≠ C.n) (h : nilRow l d e sz σ k) (hr : RelE C σ.look a w) : ∃ σ', k σ' ∧ RelE C σ'.look a w := by
  obtain ⟨G, hr⟩ := hr
  unfold nilRow at h
  split at h
  case h_2 => exact h.elim
  rename_i hf
  simp only [Bool.and_eq_true] at hf
  have hfr := St.fresh_sound hf.1
  have hsz : 0 < sz := Nat.le_of_ble_eq_true hf.2.1
  have hnr : ∀ q, l ≠ .row q := fun q hq => by subst hq; cases hf.2.2
  let G2 := G.with d (fun _ => 0) (fun _ => .slice none 0 0) G.F
  have hr1 : Rel C G2 σ.look a w := hr.frame ⟨fun _ _ => rfl, fun _ h => h⟩ (fun _ _ _ _ _ => rfl) (Gh.with_ne hfr) hr.cold hr.Flt hr.fr (fun _ hb => .inl hb) (fun i => if_neg (Ne.symm hd))
  have hρ : G2.ρ (d, 0) = .slice none 0 0 := by simp [G2, Gh.with]
  have main : ∀ c, σ.look l = some c → nilOf c = true → RelE C (σ.upd [(.at l, some (ownOf (d, 0) c)), (.at (.row (d, 0)), some (.r ⟨e, sz, true, []⟩))]).look a w := fun c hl hc => by
    have h2 := hr1.recell hl hc hρ hnr
    have hm : MemR G2 (rwLook (d, 0) ⟨e, sz, true, []⟩) w :=
    { leaf := fun b j l e => by cases (rwLook_some e).1
      row := fun k r' e => by
        obtain ⟨e1, e2⟩ := rwLook_some e
        cases e1; cases e2
        rw [hρ]
        exact ⟨hsz, Nat.zero_le _, (fun x hx => by cases hx), (fun hh => by cases hh), [], World.ownsRow_nil w 0 _ _, .nil⟩
      sep := fun l l' c c' g e e' _ _ => by
        obtain ⟨rfl, _⟩ := rwLook_some e
        obtain ⟨rfl, _⟩ := rwLook_some e'
        rfl
      cold := fun l c g e hb _ => by
        obtain ⟨rfl, rfl⟩ := rwLook_some e
        simp [Gh.blk, hρ, Value.ownBlock] at hb
      Flt := hr1.Flt }
    have h3 := h2.add hm (fun t => rfl) (fun l l' c c' g e e' hb hb' _ => by
      obtain ⟨rfl, rfl⟩ := rwLook_some e
      simp [Gh.blk, hρ, Value.ownBlock] at hb) (fun l c g e hb => by
      obtain ⟨rfl, rfl⟩ := rwLook_some e
      simp [Gh.blk, hρ, Value.ownBlock] at hb)
    refine ⟨G2, h3.less fun x c' ee => ?_⟩
    rw [upd_look rfl] at ee
    simp only [app, Dl.look, Pat.hits] at ee
    unfold over
    cases hb : l.beq x with
    | true =>
      rw [hb] at ee
      have hx : l = x := Loc.beq_iff.1 hb
      subst hx
      have : rwLook (d, 0) ⟨e, sz, true, []⟩ l = none := by
        cases l with
        | row q => exact absurd rfl (hnr q)
        | _ => rfl
      rw [this]
      simp only [reCell, Loc.beq_self]
      exact ee
    | false =>
      rw [hb] at ee
      cases hb2 : (Loc.row (d, 0)).beq x with
      | true =>
        rw [hb2] at ee
        have := Loc.beq_iff.1 hb2
        subst this
        simp only [rwLook, kbeq_iff.2]
        simpa using ee
      | false =>
        rw [hb2] at ee
        have : rwLook (d, 0) ⟨e, sz, true, []⟩ x = none := by
          cases x with
          | row q =>
            simp only [rwLook]
            simp only [Loc.beq] at hb2
            rw [hb2]
          | _ => rfl
        rw [this]
        simp only [reCell, hb]
        exact ee
  split at h
  · rename_i hl
    rw [St.updK_eq] at h
    exact ⟨_, h, main _ hl rfl⟩
  · rename_i hl
    rw [St.updK_eq] at h
    exact ⟨_, h, main _ hl rfl⟩
  · exact h.elim

/-- Less is known, where a nil slice has first become a row. -/
theorem wk_nil {n : Nat} {σ τ : St} (l : Loc) (d : Nat) (e : TypeId) (sz : Nat) {ψ : List (Key × Key)} (hd : d ≠ n) (h : nilRow l d e sz σ fun σ' => wkW n ψ σ' τ) : Wk n σ τ := fun C hC a w hr => by
  subst hC
  obtain ⟨σ', h1, h2⟩ := nilRow_rel hd h hr
  exact wk_sound h1 C rfl a w h2
end
end Go.Proofs.YtccbimcikbbecaaGreat.P1
/- The table of the program's types. -/
namespace Go.Proofs.YtccbimcikbbecaaGreat
open Go P1
def tab : Tr TD := (.n (.n (.n (.n (.n (.n .e 2 ⟨(.int .i64), 1, 8, [.av (.int .i64 0)]⟩ .e) 3 ⟨(.int .i64), 1, 8, [.av (.int .i64 0)]⟩ (.n .e 4 ⟨.bool, 1, 1, [.lit false]⟩ .e)) 5 ⟨(.int .u8), 1, 1, [.av (.int .u8 0)]⟩ (.n (.n .e 6 ⟨(.int .u8), 1, 1, [.av (.int .u8 0)]⟩ .e) 7 ⟨(.struct [(0, 1, false), (1, 1, false), (2, 1, false), (3, 1, false)]), 4, 24, [.av (.int .i64 0), .av (.int .i64 0), .lit false, .av (.int .u8 0)]⟩ (.n .e 8 ⟨(.struct [(0, 1, false), (1, 1, false), (2, 1, false), (3, 1, false)]), 4, 24, [.av (.int .i64 0), .av (.int .i64 0), .lit false, .av (.int .u8 0)]⟩ .e))) 9 ⟨.string, 1, 16, [.av (.str [])]⟩ (.n (.n (.n .e 10 ⟨.string, 1, 16, [.av (.str [])]⟩ .e) 11 ⟨.string, 1, 16, [.av (.str [])]⟩ (.n .e 12 ⟨(.int .u64), 1, 8, [.av (.int .u64 0)]⟩ .e)) 13 ⟨(.struct [(0, 1, false), (1, 1, false)]), 2, 24, [.av (.str []), .av (.int .u64 0)]⟩ (.n (.n .e 14 ⟨(.struct [(0, 1, false), (1, 1, false)]), 2, 24, [.av (.str []), .av (.int .u64 0)]⟩ .e) 21 ⟨(.int .i32), 1, 4, [.av (.int .i32 0)]⟩ .e))) 22 ⟨(.slice 70), 1, 24, [.nil]⟩ (.n (.n (.n (.n .e 23 ⟨(.slice 110), 1, 24, [.nil]⟩ .e) 24 ⟨(.struct [(0, 1, false), (1, 1, false), (2, 1, false), (3, 1, false), (4, 1, false)]), 5, 72, [.nil, .nil, .lit false, .av (.int .i64 0), .av (.int .i64 0)]⟩ (.n .e 25 ⟨(.struct [(0, 1, false), (1, 1, false), (2, 1, false), (3, 1, false), (4, 1, false)]), 5, 72, [.nil, .nil, .lit false, .av (.int .i64 0), .av (.int .i64 0)]⟩ .e)) 26 ⟨(.slice 25), 1, 24, [.nil]⟩ (.n (.n .e 30 ⟨(.slice 37), 1, 24, [.nil]⟩ .e) 33 ⟨(.slice 82), 1, 24, [.nil]⟩ (.n .e 35 ⟨(.slice 77), 1, 24, [.nil]⟩ .e))) 36 ⟨(.struct [(0, 1, false), (1, 1, false), (2, 1, false), (3, 1, false), (4, 1, false)]), 5, 72, [.nil, .nil, .lit false, .av (.int .i64 0), .av (.int .i64 0)]⟩ (.n (.n (.n .e 37 ⟨(.struct [(0, 1, false), (1, 1, false), (2, 1, false), (3, 1, false), (4, 1, false)]), 5, 72, [.nil, .nil, .lit false, .av (.int .i64 0), .av (.int .i64 0)]⟩ .e) 47 ⟨(.slice 130), 1, 24, [.nil]⟩ (.n .e 48 ⟨(.struct [(0, 1, false), (1, 1, false)]), 2, 48, [.nil, .nil]⟩ .e)) 49 ⟨(.struct [(0, 1, false), (1, 1, false)]), 2, 48, [.nil, .nil]⟩ (.n (.n .e 50 ⟨(.slice 96), 1, 24, [.nil]⟩ .e) 54 ⟨(.slice 136), 1, 24, [.nil]⟩ .e)))) 55 ⟨(.struct [(0, 1, false), (1, 1, false)]), 2, 48, [.nil, .nil]⟩ (.n (.n (.n (.n (.n .e 56 ⟨(.struct [(0, 1, false), (1, 1, false)]), 2, 48, [.nil, .nil]⟩ .e) 58 ⟨(.slice 100), 1, 24, [.nil]⟩ (.n .e 69 ⟨(.struct [(0, 1, false), (1, 1, false), (2, 1, false)]), 3, 32, [.av (.str []), .av (.int .i64 0), .lit false]⟩ .e)) 70 ⟨(.struct [(0, 1, false), (1, 1, false), (2, 1, false)]), 3, 32, [.av (.str []), .av (.int .i64 0), .lit false]⟩ (.n (.n .e 73 ⟨(.slice 3), 1, 24, [.nil]⟩ .e) 76 ⟨(.struct [(0, 1, false), (1, 1, false)]), 2, 32, [.av (.int .i64 0), .nil]⟩ (.n .e 77 ⟨(.struct [(0, 1, false), (1, 1, false)]), 2, 32, [.av (.int .i64 0), .nil]⟩ .e))) 82 ⟨(.struct [(0, 1, false), (1, 1, false), (2, 1, false)]), 3, 32, [.av (.str []), .av (.int .i64 0), .lit false]⟩ (.n (.n (.n .e 95 ⟨(.struct [(0, 1, false), (1, 1, false)]), 2, 32, [.av (.int .i64 0), .nil]⟩ .e) 96 ⟨(.struct [(0, 1, false), (1, 1, false)]), 2, 32, [.av (.int .i64 0), .nil]⟩ (.n .e 100 ⟨(.struct [(0, 1, false), (1, 1, false)]), 2, 32, [.av (.int .i64 0), .nil]⟩ .e)) 110 ⟨(.struct [(0, 1, false), (1, 1, false)]), 2, 32, [.av (.int .i64 0), .nil]⟩ (.n (.n .e 115 ⟨(.slice 35), 1, 24, [.nil]⟩ .e) 127 ⟨(.slice 5), 1, 24, [.nil]⟩ .e))) 129 ⟨(.struct [(0, 1, false), (1, 1, false)]), 2, 32, [.av (.int .i64 0), .nil]⟩ (.n (.n (.n (.n .e 130 ⟨(.struct [(0, 1, false), (1, 1, false)]), 2, 32, [.av (.int .i64 0), .nil]⟩ .e) 136 ⟨(.struct [(0, 1, false), (1, 1, false)]), 2, 32, [.av (.int .i64 0), .nil]⟩ (.n .e 155 ⟨(.struct [(0, 1, false), (1, 1, false)]), 2, 48, [.nil, .nil]⟩ .e)) 156 ⟨(.struct [(0, 1, false), (1, 1, false)]), 2, 48, [.nil, .nil]⟩ (.n (.n .e 170 ⟨(.int .u64), 1, 8, [.av (.int .u64 0)]⟩ .e) 175 ⟨(.slice 73), 1, 24, [.nil]⟩ (.n .e 186 ⟨(.int .i64), 1, 8, [.av (.int .i64 0)]⟩ .e))) 194 ⟨(.int .u32), 1, 4, [.av (.int .u32 0)]⟩ (.n (.n (.n .e 196 ⟨(.int .u64), 1, 8, [.av (.int .u64 0)]⟩ .e) 202 ⟨(.int .u64), 1, 8, [.av (.int .u64 0)]⟩ (.n .e 229 ⟨(.int .u8), 1, 1, [.av (.int .u8 0)]⟩ .e)) 230 ⟨(.int .u8), 1, 1, [.av (.int .u8 0)]⟩ (.n (.n .e 233 ⟨(.int .i32), 1, 4, [.av (.int .i32 0)]⟩ .e) 234 ⟨(.int .i32), 1, 4, [.av (.int .i32 0)]⟩ .e)))))
theorem tab_ok : TOk Tryz.prog tab.get := tok_of (by kernel_rfl)
theorem mixed : Tryz.prog.follows .mixedOrders = true := by kernel_rfl
end Go.Proofs.YtccbimcikbbecaaGreat
/- The data of this program, as the logic's data. -/
namespace Go.Proofs.YtccbimcikbbecaaGreat
open Go P1
abbrev i64 (n : Int) : AV := .int .i64 n
def ints (l : List Int) : AV := .row (l.map fun n => [i64 n])
structure Relation where
  name : List UInt8
  arity : Int
  source : Bool
deriving DecidableEq
structure Atom where
  rel : Int
  terms : List Int
deriving DecidableEq
structure Dep where
  body : List Atom
  head : List Atom
  egd : Bool
  left : Int
  right : Int
deriving DecidableEq
structure Fact where
  rel : Int
  vals : List Int
deriving DecidableEq
structure CStep where
  dep : Int
  bind : List Int
deriving DecidableEq
structure Inst where
  rels : List Relation
  facts : List Fact
deriving DecidableEq
def Relation.av (r : Relation) : List AV := [.str r.name, i64 r.arity, .bool r.source]
def Atom.av (a : Atom) : List AV := [i64 a.rel, ints a.terms]
def Dep.av (d : Dep) : List AV := [.row (d.body.map Atom.av), .row (d.head.map Atom.av), .bool d.egd, i64 d.left, i64 d.right]
def Fact.av (a : Fact) : List AV := [i64 a.rel, ints a.vals]
def CStep.av (a : CStep) : List AV := [i64 a.dep, ints a.bind]
def Inst.av (a : Inst) : List AV := [.row (a.rels.map Relation.av), .row (a.facts.map Fact.av)]
def iv (n : Int) : Cell := .s (.lf (.av (i64 n)))
def sl (x : AV) : Sl := .lf (.av x)
def ag (l : List AV) : Sl := .agg (l.map .av)
theorem wrap64 {n : Int} (h : -9223372036854775808 ≤ n) (h' : n < 9223372036854775808) : IntKind.i64.wrap n = n := by
  simp [IntKind.wrap, IntKind.bits, IntKind.signed]
  omega
theorem map_get {α β : Type} {f : α → β} {l : List α} {i : Nat} (h : i < l.length) : (l.map f)[i]? = some (f l[i]) := by simp [h]
theorem all_bad {α : Type} {l : List α} {p : α → Bool} {i : Nat} (h : i < l.length) (hp : p (l[i]'h) = false) : l.all p = false := by
  rw [List.all_eq_false]; exact ⟨_, List.getElem_mem h, by simp [hp]⟩
theorem all_next {α : Type} {l : List α} {p : α → Bool} {i : Nat} (h : i < l.length) (ha : (l.take i).all p = true) (hp : p (l[i]'h) = true) : (l.take (i + 1)).all p = true := by
  rw [List.take_succ_eq_append_getElem h, List.all_append, ha]; simp [hp]
theorem all_end {α : Type} {l : List α} {p : α → Bool} {i : Nat} (h : l.length ≤ i) (ha : (l.take i).all p = true) : l.all p = true := by
  rwa [List.take_of_length_le h] at ha
theorem take_map_len {α β : Type} {f : α → β} {l : List α} : (l.map f).take l.length = l.map f := List.take_of_length_le (by simp)
theorem map_getI {α β : Type} {f : α → β} {l : List α} {n : Int} {j : Nat} (h : n = j) (hj : j < l.length) : (l.map f)[n.toNat]? = some (f l[j]) := by
  subst h; simp [hj]
theorem sz_nil {n : Nat} : ∀ x ∈ ([] : List (List AV)), x.length = n := fun _ h => by cases h
theorem sz_map {α : Type} {f : α → List AV} {l : List α} {n : Nat} (h : ∀ a, (f a).length = n) : ∀ x ∈ l.map f, x.length = n := fun x hx => by
  obtain ⟨a, _, rfl⟩ := List.mem_map.1 hx; exact h a
theorem sz_take {l : List (List AV)} {k n : Nat} (h : ∀ x ∈ l, x.length = n) : ∀ x ∈ l.take k, x.length = n := fun x hx => h x (List.mem_of_mem_take hx)
theorem sz_drop {l : List (List AV)} {k n : Nat} (h : ∀ x ∈ l, x.length = n) : ∀ x ∈ l.drop k, x.length = n := fun x hx => h x (List.mem_of_mem_drop hx)
theorem sz_append {l m : List (List AV)} {n : Nat} (h : ∀ x ∈ l, x.length = n) (h' : ∀ x ∈ m, x.length = n) : ∀ x ∈ l ++ m, x.length = n := fun x hx => (List.mem_append.1 hx).elim (h x) (h' x)
theorem sz_cons {e : List AV} {m : List (List AV)} {n : Nat} (h : e.length = n) (h' : ∀ x ∈ m, x.length = n) : ∀ x ∈ e :: m, x.length = n := fun x hx => by
  rcases List.mem_cons.1 hx with rfl | hx
  · exact h
  · exact h' x hx
theorem Wf.len {es : List (List AV)} (h : Wf (.row es)) : es.length ≤ 1125899906842624 := by cases h with | row h _ => exact h
theorem Wf.lenM {α : Type} {f : α → List AV} {l : List α} (h : Wf (.row (l.map f))) : l.length ≤ 1125899906842624 := by simpa using Wf.len h
theorem Wf.lenI {l : List Int} (h : Wf (ints l)) : l.length ≤ 1125899906842624 := by simpa using Wf.len h
theorem Wf.elem {es : List (List AV)} (h : Wf (.row es)) : ∀ e ∈ es, ∀ x ∈ e, Wf x := by cases h with | row _ h => exact h
end Go.Proofs.YtccbimcikbbecaaGreat
/- Ranges, values, nulls, comparisons. -/
namespace Go.Proofs.YtccbimcikbbecaaGreat
open Go P1
def inR (x low high : Int) : Bool := decide (low ≤ x) && decide (x ≤ high)
theorem inR_iff {x a b : Int} : inR x a b = true ↔ a ≤ x ∧ x ≤ b := by simp [inR]
theorem i64_wf {n : Int} (h : Wf (i64 n)) : -9223372036854775808 ≤ n ∧ n ≤ 9223372036854775807 := by
  cases h with
  | int h => simpa [Lit.wf, IntKind.min, IntKind.max, IntKind.signed, IntKind.bits] using h
def H73 : List (Nat × Hint) := [(0, ⟨[], [6]⟩), (1, ⟨[(false, []), (false, []), (false, []), (true, []), (false, []), (false, []), (false, []), (false, []), (false, [])], [0, 1, 2, 7, 8, 9, 10, 11, 12, 13, 14]⟩)]
set_option maxHeartbeats 4000000 in
set_option maxRecDepth 100000 in
theorem ct_l1In (x low high : Int) : Ct Tryz.prog 73 [sl (i64 x), sl (i64 low), sl (i64 high)] [] (sl (.bool (inR x low high))) [] [] := by
  refine ct_of_vc mixed tab_ok H73 Tryz.func73 rfl (by kernel_rfl) (by kernel_rfl) (by rfl) ?_
  intro hw _
  conv => whnf
  repeat' (first
    | exact trivial
    | (refine ⟨rfl, ?_⟩; (conv => whnf))
    | (refine ⟨fun h => ?_, fun h => ?_⟩ <;> (try simp at h) <;> (try (exfalso; omega)) <;> (conv => whnf))
    | (intro b hb; (conv => whnf))
    | (refine And.intro ?_ ?_; (focus (rw [wrap64 (by omega) (by omega)] <;> rfl)); (conv => whnf))
    | (refine And.intro ?_ (And.intro ?_ (And.intro ?_ (And.intro ?_ ?_))); (focus (first | omega | (rw [wrap64 (by omega) (by omega)] <;> first | omega | rfl) | (simp; omega))); (focus (first | omega | (rw [wrap64 (by omega) (by omega)] <;> first | omega | rfl) | (simp; omega))); (focus (first | omega | (rw [wrap64 (by omega) (by omega)] <;> first | omega | rfl) | (simp; omega))); (focus ((repeat' (first | exact sz_nil | exact sz_map fun _ => rfl | apply sz_take | apply sz_drop | apply sz_append | apply sz_cons rfl)); done)); (conv => whnf))
    | (refine And.intro ?_ (And.intro ?_ ?_); (focus (first | omega | (rw [wrap64 (by omega) (by omega)] <;> first | omega | rfl) | (simp; omega))); (focus ((repeat' (first | exact sz_nil | exact sz_map fun _ => rfl | apply sz_take | apply sz_drop | apply sz_append | apply sz_cons rfl)); done)); (conv => whnf))
    | (refine And.intro ?_ (And.intro ?_ ?_); (focus (first | omega | (rw [wrap64 (by omega) (by omega)] <;> first | omega | rfl) | (simp; omega))); (focus (first | omega | (rw [wrap64 (by omega) (by omega)] <;> first | omega | rfl) | (simp; omega))); (conv => whnf))
    | (refine And.intro ?_ ?_; (focus (first | (simp_all [inR]; done) | (simp [inR]; omega))); (conv => whnf))
    | (rw [beq_g]; (conv => whnf))
    | fail)
def H87 : List (Nat × Hint) := [(0, ⟨[], [6]⟩), (1, ⟨[(false, []), (false, []), (false, []), (true, []), (false, []), (false, []), (false, []), (false, []), (false, [])], [0, 1, 2, 7, 8, 9, 10, 11, 12, 13, 14]⟩)]
set_option maxHeartbeats 4000000 in
set_option maxRecDepth 100000 in
theorem ct_within (x low high : Int) : Ct Tryz.prog 87 [sl (i64 x), sl (i64 low), sl (i64 high)] [] (sl (.bool (inR x low high))) [] [] := by
  refine ct_of_vc mixed tab_ok H87 Tryz.func87 rfl (by kernel_rfl) (by kernel_rfl) (by rfl) ?_
  intro hw _
  conv => whnf
  repeat' (first
    | exact trivial
    | (refine ⟨rfl, ?_⟩; (conv => whnf))
    | (refine ⟨fun h => ?_, fun h => ?_⟩ <;> (try simp at h) <;> (try (exfalso; omega)) <;> (conv => whnf))
    | (intro b hb; (conv => whnf))
    | (refine And.intro ?_ ?_; (focus (rw [wrap64 (by omega) (by omega)] <;> rfl)); (conv => whnf))
    | (refine And.intro ?_ (And.intro ?_ (And.intro ?_ (And.intro ?_ ?_))); (focus (first | omega | (rw [wrap64 (by omega) (by omega)] <;> first | omega | rfl) | (simp; omega))); (focus (first | omega | (rw [wrap64 (by omega) (by omega)] <;> first | omega | rfl) | (simp; omega))); (focus (first | omega | (rw [wrap64 (by omega) (by omega)] <;> first | omega | rfl) | (simp; omega))); (focus ((repeat' (first | exact sz_nil | exact sz_map fun _ => rfl | apply sz_take | apply sz_drop | apply sz_append | apply sz_cons rfl)); done)); (conv => whnf))
    | (refine And.intro ?_ (And.intro ?_ ?_); (focus (first | omega | (rw [wrap64 (by omega) (by omega)] <;> first | omega | rfl) | (simp; omega))); (focus ((repeat' (first | exact sz_nil | exact sz_map fun _ => rfl | apply sz_take | apply sz_drop | apply sz_append | apply sz_cons rfl)); done)); (conv => whnf))
    | (refine And.intro ?_ (And.intro ?_ ?_); (focus (first | omega | (rw [wrap64 (by omega) (by omega)] <;> first | omega | rfl) | (simp; omega))); (focus (first | omega | (rw [wrap64 (by omega) (by omega)] <;> first | omega | rfl) | (simp; omega))); (conv => whnf))
    | (refine And.intro ?_ ?_; (focus (first | (simp_all [inR]; done) | (simp [inR]; omega))); (conv => whnf))
    | (rw [beq_g]; (conv => whnf))
    | fail)
def isNo (v : Int) : Bool := inR (-1 - v) 0 39
def nullNo (v : Int) : Int := if isNo v then -1 - v else 0
def noT (v : Int) : Sl := .tup [sl (i64 (nullNo v)), sl (.bool (isNo v))]
def validVal (v : Int) : Bool := inR v (-40) 9
def H127 : List (Nat × Hint) := [(0, ⟨[], [2, 3]⟩), (1, ⟨[(false, []), (false, []), (true, []), (false, []), (false, []), (false, []), (false, []), (false, [])], [4, 5, 6, 7, 8, 9, 10]⟩), (3, ⟨[], [0, 12, 13]⟩)]
set_option maxHeartbeats 4000000 in
set_option maxRecDepth 100000 in
theorem ct_sNullNumber (v : Int) : Ct Tryz.prog 127 [sl (i64 v)] [] (noT v) [] [] := by
  refine ct_of_vc mixed tab_ok H127 Tryz.func127 rfl (by kernel_rfl) (by kernel_rfl) (by rfl) ?_
  intro hw _
  have hb := i64_wf (hw _ (.head _))
  have hwr : IntKind.i64.wrap (-1 - v) = -1 - v := wrap64 (by omega) (by omega)
  conv => whnf
  repeat' (first
    | exact trivial
    | (refine ⟨rfl, ?_⟩; (conv => whnf))
    | (refine ⟨fun h => ?_, fun h => ?_⟩ <;> (try simp at h) <;> (try (exfalso; omega)) <;> (conv => whnf))
    | (intro b hb; (conv => whnf))
    | (refine .inl ?_; (conv => whnf); first | (refine ⟨_, _, _, _, ct_l1In _ _ _, ?_⟩; (conv => whnf)) | fail)
    | (refine And.intro ?_ ?_; (focus (rw [wrap64 (by omega) (by omega)] <;> rfl)); (conv => whnf))
    | (refine And.intro ?_ (And.intro ?_ (And.intro ?_ (And.intro ?_ ?_))); (focus (first | omega | (rw [wrap64 (by omega) (by omega)] <;> first | omega | rfl) | (simp; omega))); (focus (first | omega | (rw [wrap64 (by omega) (by omega)] <;> first | omega | rfl) | (simp; omega))); (focus (first | omega | (rw [wrap64 (by omega) (by omega)] <;> first | omega | rfl) | (simp; omega))); (focus ((repeat' (first | exact sz_nil | exact sz_map fun _ => rfl | apply sz_take | apply sz_drop | apply sz_append | apply sz_cons rfl)); done)); (conv => whnf))
    | (refine And.intro ?_ (And.intro ?_ ?_); (focus (first | omega | (rw [wrap64 (by omega) (by omega)] <;> first | omega | rfl) | (simp; omega))); (focus ((repeat' (first | exact sz_nil | exact sz_map fun _ => rfl | apply sz_take | apply sz_drop | apply sz_append | apply sz_cons rfl)); done)); (conv => whnf))
    | (refine And.intro ?_ (And.intro ?_ ?_); (focus (first | omega | (rw [wrap64 (by omega) (by omega)] <;> first | omega | rfl) | (simp; omega))); (focus (first | omega | (rw [wrap64 (by omega) (by omega)] <;> first | omega | rfl) | (simp; omega))); (conv => whnf))
    | (refine And.intro ?_ ?_; (focus (first | (simp [nullNo, isNo, inR]; done) | (simp [nullNo, isNo, inR] at *; omega))); (conv => whnf))
    | (rw [beq_g]; (conv => whnf))
    | fail)
def H171 : List (Nat × Hint) := [(0, ⟨[], [2, 3]⟩), (1, ⟨[], [4, 5, 6]⟩), (3, ⟨[], [0, 8, 9]⟩)]
set_option maxHeartbeats 4000000 in
set_option maxRecDepth 100000 in
theorem ct_iNullNumber (v : Int) : Ct Tryz.prog 171 [sl (i64 v)] [] (noT v) [] [] := by
  refine ct_of_vc mixed tab_ok H171 Tryz.func171 rfl (by kernel_rfl) (by kernel_rfl) (by rfl) ?_
  intro hw _
  have hb := i64_wf (hw _ (.head _))
  have hwr : IntKind.i64.wrap (-1 - v) = -1 - v := wrap64 (by omega) (by omega)
  conv => whnf
  repeat' (first
    | exact trivial
    | (refine ⟨rfl, ?_⟩; (conv => whnf))
    | (refine ⟨fun h => ?_, fun h => ?_⟩ <;> (try simp at h) <;> (try (exfalso; omega)) <;> (conv => whnf))
    | (intro b hb; (conv => whnf))
    | (refine .inl ?_; (conv => whnf); first | (refine ⟨_, _, _, _, ct_within _ _ _, ?_⟩; (conv => whnf)) | fail)
    | (refine And.intro ?_ ?_; (focus (rw [wrap64 (by omega) (by omega)] <;> rfl)); (conv => whnf))
    | (refine And.intro ?_ (And.intro ?_ (And.intro ?_ (And.intro ?_ ?_))); (focus (first | omega | (rw [wrap64 (by omega) (by omega)] <;> first | omega | rfl) | (simp; omega))); (focus (first | omega | (rw [wrap64 (by omega) (by omega)] <;> first | omega | rfl) | (simp; omega))); (focus (first | omega | (rw [wrap64 (by omega) (by omega)] <;> first | omega | rfl) | (simp; omega))); (focus ((repeat' (first | exact sz_nil | exact sz_map fun _ => rfl | apply sz_take | apply sz_drop | apply sz_append | apply sz_cons rfl)); done)); (conv => whnf))
    | (refine And.intro ?_ (And.intro ?_ ?_); (focus (first | omega | (rw [wrap64 (by omega) (by omega)] <;> first | omega | rfl) | (simp; omega))); (focus ((repeat' (first | exact sz_nil | exact sz_map fun _ => rfl | apply sz_take | apply sz_drop | apply sz_append | apply sz_cons rfl)); done)); (conv => whnf))
    | (refine And.intro ?_ (And.intro ?_ ?_); (focus (first | omega | (rw [wrap64 (by omega) (by omega)] <;> first | omega | rfl) | (simp; omega))); (focus (first | omega | (rw [wrap64 (by omega) (by omega)] <;> first | omega | rfl) | (simp; omega))); (conv => whnf))
    | (refine And.intro ?_ ?_; (focus (first | (simp [nullNo, isNo, inR]; done) | (simp [nullNo, isNo, inR] at *; omega))); (conv => whnf))
    | (rw [beq_g]; (conv => whnf))
    | fail)
def H152 : List (Nat × Hint) := [(0, ⟨[], [2]⟩), (1, ⟨[], [3, 5, 6, 7, 8, 9]⟩), (2, ⟨[(false, []), (true, []), (false, []), (false, []), (false, []), (false, [])], [0, 4, 10, 11, 12, 13, 14]⟩)]
set_option maxHeartbeats 4000000 in
set_option maxRecDepth 100000 in
theorem ct_sIsValidValue (v : Int) : Ct Tryz.prog 152 [sl (i64 v)] [] (sl (.bool (validVal v))) [] [] := by
  refine ct_of_vc mixed tab_ok H152 Tryz.func152 rfl (by kernel_rfl) (by kernel_rfl) (by rfl) ?_
  intro hw _
  conv => whnf
  repeat' (first
    | exact trivial
    | (refine ⟨rfl, ?_⟩; (conv => whnf))
    | (refine ⟨fun h => ?_, fun h => ?_⟩ <;> (try simp at h) <;> (try (exfalso; omega)) <;> (conv => whnf))
    | (intro b hb; (conv => whnf))
    | (refine .inl ?_; (conv => whnf); first | (refine ⟨_, _, _, _, ct_sNullNumber _, ?_⟩; (conv => whnf)) | (refine ⟨_, _, _, _, ct_l1In _ _ _, ?_⟩; (conv => whnf)) | fail)
    | (refine And.intro ?_ ?_; (focus (rw [wrap64 (by omega) (by omega)] <;> rfl)); (conv => whnf))
    | (refine And.intro ?_ (And.intro ?_ (And.intro ?_ (And.intro ?_ ?_))); (focus (first | omega | (rw [wrap64 (by omega) (by omega)] <;> first | omega | rfl) | (simp; omega))); (focus (first | omega | (rw [wrap64 (by omega) (by omega)] <;> first | omega | rfl) | (simp; omega))); (focus (first | omega | (rw [wrap64 (by omega) (by omega)] <;> first | omega | rfl) | (simp; omega))); (focus ((repeat' (first | exact sz_nil | exact sz_map fun _ => rfl | apply sz_take | apply sz_drop | apply sz_append | apply sz_cons rfl)); done)); (conv => whnf))
    | (refine And.intro ?_ (And.intro ?_ ?_); (focus (first | omega | (rw [wrap64 (by omega) (by omega)] <;> first | omega | rfl) | (simp; omega))); (focus ((repeat' (first | exact sz_nil | exact sz_map fun _ => rfl | apply sz_take | apply sz_drop | apply sz_append | apply sz_cons rfl)); done)); (conv => whnf))
    | (refine And.intro ?_ (And.intro ?_ ?_); (focus (first | omega | (rw [wrap64 (by omega) (by omega)] <;> first | omega | rfl) | (simp; omega))); (focus (first | omega | (rw [wrap64 (by omega) (by omega)] <;> first | omega | rfl) | (simp; omega))); (conv => whnf))
    | (refine And.intro ?_ ?_; (focus (refine congrArg AV.bool (Bool.eq_iff_iff.2 ?_); simp [validVal, isNo, inR] at h ⊢; omega)); (conv => whnf))
    | (rw [beq_g]; (conv => whnf))
    | fail)
def H162 : List (Nat × Hint) := [(0, ⟨[], [2]⟩), (1, ⟨[], [0, 3, 4]⟩)]
set_option maxHeartbeats 4000000 in
set_option maxRecDepth 100000 in
theorem ct_iIsValidValue (v : Int) : Ct Tryz.prog 162 [sl (i64 v)] [] (sl (.bool (validVal v))) [] [] := by
  refine ct_of_vc mixed tab_ok H162 Tryz.func162 rfl (by kernel_rfl) (by kernel_rfl) (by rfl) ?_
  intro hw _
  conv => whnf
  repeat' (first
    | exact trivial
    | (refine ⟨rfl, ?_⟩; (conv => whnf))
    | (refine ⟨fun h => ?_, fun h => ?_⟩ <;> (try simp at h) <;> (try (exfalso; omega)) <;> (conv => whnf))
    | (intro b hb; (conv => whnf))
    | (refine .inl ?_; (conv => whnf); first | (refine ⟨_, _, _, _, ct_within _ _ _, ?_⟩; (conv => whnf)) | fail)
    | (refine And.intro ?_ ?_; (focus (rw [wrap64 (by omega) (by omega)] <;> rfl)); (conv => whnf))
    | (refine And.intro ?_ (And.intro ?_ (And.intro ?_ (And.intro ?_ ?_))); (focus (first | omega | (rw [wrap64 (by omega) (by omega)] <;> first | omega | rfl) | (simp; omega))); (focus (first | omega | (rw [wrap64 (by omega) (by omega)] <;> first | omega | rfl) | (simp; omega))); (focus (first | omega | (rw [wrap64 (by omega) (by omega)] <;> first | omega | rfl) | (simp; omega))); (focus ((repeat' (first | exact sz_nil | exact sz_map fun _ => rfl | apply sz_take | apply sz_drop | apply sz_append | apply sz_cons rfl)); done)); (conv => whnf))
    | (refine And.intro ?_ (And.intro ?_ ?_); (focus (first | omega | (rw [wrap64 (by omega) (by omega)] <;> first | omega | rfl) | (simp; omega))); (focus ((repeat' (first | exact sz_nil | exact sz_map fun _ => rfl | apply sz_take | apply sz_drop | apply sz_append | apply sz_cons rfl)); done)); (conv => whnf))
    | (refine And.intro ?_ (And.intro ?_ ?_); (focus (first | omega | (rw [wrap64 (by omega) (by omega)] <;> first | omega | rfl) | (simp; omega))); (focus (first | omega | (rw [wrap64 (by omega) (by omega)] <;> first | omega | rfl) | (simp; omega))); (conv => whnf))
    | (rw [beq_g]; (conv => whnf))
    | fail)
def H130 : List (Nat × Hint) := [(0, ⟨[], [2]⟩), (1, ⟨[], [0, 3, 4]⟩)]
set_option maxHeartbeats 4000000 in
set_option maxRecDepth 100000 in
theorem ct_sNullValue (v : Int) (h0 : 0 ≤ v) : Ct Tryz.prog 130 [sl (i64 v)] [] (sl (i64 (-1 - v))) [] [] := by
  refine ct_of_vc mixed tab_ok H130 Tryz.func130 rfl (by kernel_rfl) (by kernel_rfl) (by rfl) ?_
  intro hw _
  have hb := i64_wf (hw _ (.head _))
  conv => whnf
  repeat' (first
    | exact trivial
    | (refine ⟨rfl, ?_⟩; (conv => whnf))
    | (refine ⟨fun h => ?_, fun h => ?_⟩ <;> (try simp at h) <;> (try (exfalso; omega)) <;> (conv => whnf))
    | (intro b hb; (conv => whnf))
    | (refine And.intro ?_ ?_; (focus (rw [wrap64 (by omega) (by omega)] <;> rfl)); (conv => whnf))
    | (refine And.intro ?_ (And.intro ?_ (And.intro ?_ (And.intro ?_ ?_))); (focus (first | omega | (rw [wrap64 (by omega) (by omega)] <;> first | omega | rfl) | (simp; omega))); (focus (first | omega | (rw [wrap64 (by omega) (by omega)] <;> first | omega | rfl) | (simp; omega))); (focus (first | omega | (rw [wrap64 (by omega) (by omega)] <;> first | omega | rfl) | (simp; omega))); (focus ((repeat' (first | exact sz_nil | exact sz_map fun _ => rfl | apply sz_take | apply sz_drop | apply sz_append | apply sz_cons rfl)); done)); (conv => whnf))
    | (refine And.intro ?_ (And.intro ?_ ?_); (focus (first | omega | (rw [wrap64 (by omega) (by omega)] <;> first | omega | rfl) | (simp; omega))); (focus ((repeat' (first | exact sz_nil | exact sz_map fun _ => rfl | apply sz_take | apply sz_drop | apply sz_append | apply sz_cons rfl)); done)); (conv => whnf))
    | (refine And.intro ?_ (And.intro ?_ ?_); (focus (first | omega | (rw [wrap64 (by omega) (by omega)] <;> first | omega | rfl) | (simp; omega))); (focus (first | omega | (rw [wrap64 (by omega) (by omega)] <;> first | omega | rfl) | (simp; omega))); (conv => whnf))
    | (rw [beq_g]; (conv => whnf))
    | fail)
def H141 : List (Nat × Hint) := [(0, ⟨[], [2]⟩), (1, ⟨[], [0, 3, 4]⟩)]
set_option maxHeartbeats 4000000 in
set_option maxRecDepth 100000 in
theorem ct_iNullValue (v : Int) (h0 : 0 ≤ v) : Ct Tryz.prog 141 [sl (i64 v)] [] (sl (i64 (-1 - v))) [] [] := by
  refine ct_of_vc mixed tab_ok H141 Tryz.func141 rfl (by kernel_rfl) (by kernel_rfl) (by rfl) ?_
  intro hw _
  have hb := i64_wf (hw _ (.head _))
  conv => whnf
  repeat' (first
    | exact trivial
    | (refine ⟨rfl, ?_⟩; (conv => whnf))
    | (refine ⟨fun h => ?_, fun h => ?_⟩ <;> (try simp at h) <;> (try (exfalso; omega)) <;> (conv => whnf))
    | (intro b hb; (conv => whnf))
    | (refine And.intro ?_ ?_; (focus (rw [wrap64 (by omega) (by omega)] <;> rfl)); (conv => whnf))
    | (refine And.intro ?_ (And.intro ?_ (And.intro ?_ (And.intro ?_ ?_))); (focus (first | omega | (rw [wrap64 (by omega) (by omega)] <;> first | omega | rfl) | (simp; omega))); (focus (first | omega | (rw [wrap64 (by omega) (by omega)] <;> first | omega | rfl) | (simp; omega))); (focus (first | omega | (rw [wrap64 (by omega) (by omega)] <;> first | omega | rfl) | (simp; omega))); (focus ((repeat' (first | exact sz_nil | exact sz_map fun _ => rfl | apply sz_take | apply sz_drop | apply sz_append | apply sz_cons rfl)); done)); (conv => whnf))
    | (refine And.intro ?_ (And.intro ?_ ?_); (focus (first | omega | (rw [wrap64 (by omega) (by omega)] <;> first | omega | rfl) | (simp; omega))); (focus ((repeat' (first | exact sz_nil | exact sz_map fun _ => rfl | apply sz_take | apply sz_drop | apply sz_append | apply sz_cons rfl)); done)); (conv => whnf))
    | (refine And.intro ?_ (And.intro ?_ ?_); (focus (first | omega | (rw [wrap64 (by omega) (by omega)] <;> first | omega | rfl) | (simp; omega))); (focus (first | omega | (rw [wrap64 (by omega) (by omega)] <;> first | omega | rfl) | (simp; omega))); (conv => whnf))
    | (rw [beq_g]; (conv => whnf))
    | fail)
def H154 : List (Nat × Hint) := [(0, ⟨[], [0]⟩)]
set_option maxHeartbeats 4000000 in
set_option maxRecDepth 100000 in
theorem ct_l11None  : Ct Tryz.prog 154 [] [] (sl (i64 10)) [] [] := by
  refine ct_of_vc mixed tab_ok H154 Tryz.func154 rfl (by kernel_rfl) (by kernel_rfl) (by rfl) ?_
  intro hw _
  conv => whnf
  repeat' (first
    | exact trivial
    | (refine ⟨rfl, ?_⟩; (conv => whnf))
    | (refine ⟨fun h => ?_, fun h => ?_⟩ <;> (try simp at h) <;> (try (exfalso; omega)) <;> (conv => whnf))
    | (intro b hb; (conv => whnf))
    | (refine And.intro ?_ ?_; (focus (rw [wrap64 (by omega) (by omega)] <;> rfl)); (conv => whnf))
    | (refine And.intro ?_ (And.intro ?_ (And.intro ?_ (And.intro ?_ ?_))); (focus (first | omega | (rw [wrap64 (by omega) (by omega)] <;> first | omega | rfl) | (simp; omega))); (focus (first | omega | (rw [wrap64 (by omega) (by omega)] <;> first | omega | rfl) | (simp; omega))); (focus (first | omega | (rw [wrap64 (by omega) (by omega)] <;> first | omega | rfl) | (simp; omega))); (focus ((repeat' (first | exact sz_nil | exact sz_map fun _ => rfl | apply sz_take | apply sz_drop | apply sz_append | apply sz_cons rfl)); done)); (conv => whnf))
    | (refine And.intro ?_ (And.intro ?_ ?_); (focus (first | omega | (rw [wrap64 (by omega) (by omega)] <;> first | omega | rfl) | (simp; omega))); (focus ((repeat' (first | exact sz_nil | exact sz_map fun _ => rfl | apply sz_take | apply sz_drop | apply sz_append | apply sz_cons rfl)); done)); (conv => whnf))
    | (refine And.intro ?_ (And.intro ?_ ?_); (focus (first | omega | (rw [wrap64 (by omega) (by omega)] <;> first | omega | rfl) | (simp; omega))); (focus (first | omega | (rw [wrap64 (by omega) (by omega)] <;> first | omega | rfl) | (simp; omega))); (conv => whnf))
    | (rw [beq_g]; (conv => whnf))
    | fail)
def H170 : List (Nat × Hint) := [(0, ⟨[], [2]⟩), (1, ⟨[], [0, 3, 4]⟩)]
set_option maxHeartbeats 4000000 in
set_option maxRecDepth 100000 in
theorem ct_iIsNull (v : Int) : Ct Tryz.prog 170 [sl (i64 v)] [] (sl (.bool (decide (v < 0)))) [] [] := by
  refine ct_of_vc mixed tab_ok H170 Tryz.func170 rfl (by kernel_rfl) (by kernel_rfl) (by rfl) ?_
  intro hw _
  conv => whnf
  repeat' (first
    | exact trivial
    | (refine ⟨rfl, ?_⟩; (conv => whnf))
    | (refine ⟨fun h => ?_, fun h => ?_⟩ <;> (try simp at h) <;> (try (exfalso; omega)) <;> (conv => whnf))
    | (intro b hb; (conv => whnf))
    | (refine And.intro ?_ ?_; (focus (rw [wrap64 (by omega) (by omega)] <;> rfl)); (conv => whnf))
    | (refine And.intro ?_ (And.intro ?_ (And.intro ?_ (And.intro ?_ ?_))); (focus (first | omega | (rw [wrap64 (by omega) (by omega)] <;> first | omega | rfl) | (simp; omega))); (focus (first | omega | (rw [wrap64 (by omega) (by omega)] <;> first | omega | rfl) | (simp; omega))); (focus (first | omega | (rw [wrap64 (by omega) (by omega)] <;> first | omega | rfl) | (simp; omega))); (focus ((repeat' (first | exact sz_nil | exact sz_map fun _ => rfl | apply sz_take | apply sz_drop | apply sz_append | apply sz_cons rfl)); done)); (conv => whnf))
    | (refine And.intro ?_ (And.intro ?_ ?_); (focus (first | omega | (rw [wrap64 (by omega) (by omega)] <;> first | omega | rfl) | (simp; omega))); (focus ((repeat' (first | exact sz_nil | exact sz_map fun _ => rfl | apply sz_take | apply sz_drop | apply sz_append | apply sz_cons rfl)); done)); (conv => whnf))
    | (refine And.intro ?_ (And.intro ?_ ?_); (focus (first | omega | (rw [wrap64 (by omega) (by omega)] <;> first | omega | rfl) | (simp; omega))); (focus (first | omega | (rw [wrap64 (by omega) (by omega)] <;> first | omega | rfl) | (simp; omega))); (conv => whnf))
    | (rw [beq_g]; (conv => whnf))
    | fail)
def H191 : List (Nat × Hint) := [(0, ⟨[], [2]⟩), (1, ⟨[], [0, 3, 4, 5]⟩)]
set_option maxHeartbeats 4000000 in
set_option maxRecDepth 100000 in
theorem ct_isNaN (v : Int) : Ct Tryz.prog 191 [sl (i64 v)] [] (sl (.bool false)) [] [] := by
  refine ct_of_vc mixed tab_ok H191 Tryz.func191 rfl (by kernel_rfl) (by kernel_rfl) (by rfl) ?_
  intro hw _
  conv => whnf
  repeat' (first
    | exact trivial
    | (refine ⟨rfl, ?_⟩; (conv => whnf))
    | (refine ⟨fun h => ?_, fun h => ?_⟩ <;> (try simp at h) <;> (try (exfalso; omega)) <;> (conv => whnf))
    | (intro b hb; (conv => whnf))
    | (refine And.intro ?_ ?_; (focus (rw [wrap64 (by omega) (by omega)] <;> rfl)); (conv => whnf))
    | (refine And.intro ?_ (And.intro ?_ (And.intro ?_ (And.intro ?_ ?_))); (focus (first | omega | (rw [wrap64 (by omega) (by omega)] <;> first | omega | rfl) | (simp; omega))); (focus (first | omega | (rw [wrap64 (by omega) (by omega)] <;> first | omega | rfl) | (simp; omega))); (focus (first | omega | (rw [wrap64 (by omega) (by omega)] <;> first | omega | rfl) | (simp; omega))); (focus ((repeat' (first | exact sz_nil | exact sz_map fun _ => rfl | apply sz_take | apply sz_drop | apply sz_append | apply sz_cons rfl)); done)); (conv => whnf))
    | (refine And.intro ?_ (And.intro ?_ ?_); (focus (first | omega | (rw [wrap64 (by omega) (by omega)] <;> first | omega | rfl) | (simp; omega))); (focus ((repeat' (first | exact sz_nil | exact sz_map fun _ => rfl | apply sz_take | apply sz_drop | apply sz_append | apply sz_cons rfl)); done)); (conv => whnf))
    | (refine And.intro ?_ (And.intro ?_ ?_); (focus (first | omega | (rw [wrap64 (by omega) (by omega)] <;> first | omega | rfl) | (simp; omega))); (focus (first | omega | (rw [wrap64 (by omega) (by omega)] <;> first | omega | rfl) | (simp; omega))); (conv => whnf))
    | (refine And.intro ?_ ?_; (focus (simp)); (conv => whnf))
    | (rw [beq_g]; (conv => whnf))
    | fail)
def cmpI (a b : Int) : Int := if a < b then -1 else if b < a then 1 else 0
def H164 : List (Nat × Hint) := [(0, ⟨[], [4]⟩), (1, ⟨[], [7, 8]⟩), (2, ⟨[], [9, 10]⟩), (3, ⟨[], [5]⟩), (4, ⟨[], [6]⟩), (7, ⟨[], [6]⟩), (9, ⟨[], [14, 15]⟩), (11, ⟨[], [0, 1, 17, 18]⟩)]
set_option maxHeartbeats 4000000 in
set_option maxRecDepth 100000 in
theorem ct_Compare (a b : Int) : Ct Tryz.prog 164 [sl (i64 a), sl (i64 b)] [] (sl (i64 (cmpI a b))) [] [] := by
  refine ct_of_vc mixed tab_ok H164 Tryz.func164 rfl (by kernel_rfl) (by kernel_rfl) (by rfl) ?_
  intro hw _
  conv => whnf
  repeat' (first
    | exact trivial
    | (refine ⟨rfl, ?_⟩; (conv => whnf))
    | (refine ⟨fun h => ?_, fun h => ?_⟩ <;> (try simp at h) <;> (try (exfalso; omega)) <;> (conv => whnf))
    | (intro b hb; (conv => whnf))
    | (refine .inl ?_; (conv => whnf); first | (refine ⟨_, _, _, _, ct_isNaN _, ?_⟩; (conv => whnf)) | fail)
    | (refine And.intro ?_ ?_; (focus (rw [wrap64 (by omega) (by omega)] <;> rfl)); (conv => whnf))
    | (refine And.intro ?_ (And.intro ?_ (And.intro ?_ (And.intro ?_ ?_))); (focus (first | omega | (rw [wrap64 (by omega) (by omega)] <;> first | omega | rfl) | (simp; omega))); (focus (first | omega | (rw [wrap64 (by omega) (by omega)] <;> first | omega | rfl) | (simp; omega))); (focus (first | omega | (rw [wrap64 (by omega) (by omega)] <;> first | omega | rfl) | (simp; omega))); (focus ((repeat' (first | exact sz_nil | exact sz_map fun _ => rfl | apply sz_take | apply sz_drop | apply sz_append | apply sz_cons rfl)); done)); (conv => whnf))
    | (refine And.intro ?_ (And.intro ?_ ?_); (focus (first | omega | (rw [wrap64 (by omega) (by omega)] <;> first | omega | rfl) | (simp; omega))); (focus ((repeat' (first | exact sz_nil | exact sz_map fun _ => rfl | apply sz_take | apply sz_drop | apply sz_append | apply sz_cons rfl)); done)); (conv => whnf))
    | (refine And.intro ?_ (And.intro ?_ ?_); (focus (first | omega | (rw [wrap64 (by omega) (by omega)] <;> first | omega | rfl) | (simp; omega))); (focus (first | omega | (rw [wrap64 (by omega) (by omega)] <;> first | omega | rfl) | (simp; omega))); (conv => whnf))
    | (refine And.intro ?_ ?_; (focus ((simp [cmpI]; omega))); (conv => whnf))
    | (rw [beq_g]; (conv => whnf))
    | fail)
def cmpInts : List Int → List Int → Int
  | [], [] => 0
  | [], _ :: _ => -1
  | _ :: _, [] => 1
  | a :: l, b :: m => if a < b then -1 else if b < a then 1 else cmpInts l m
theorem cmpInts_step {a b : List Int} {i : Nat} (h : i < a.length) (h' : i < b.length) : cmpInts (a.drop i) (b.drop i) = if a[i] < b[i] then -1 else if b[i] < a[i] then 1 else cmpInts (a.drop (i + 1)) (b.drop (i + 1)) := by
  rw [List.drop_eq_getElem_cons h, List.drop_eq_getElem_cons h']; rfl
theorem cmpInts_end {a b : List Int} {i : Nat} (h : i = a.length ∨ i = b.length) (ha : i ≤ a.length) (hb : i ≤ b.length) : cmpInts (a.drop i) (b.drop i) = if a.length < b.length then -1 else if b.length < a.length then 1 else 0 := by
  rcases Nat.lt_or_ge i a.length with h1 | h1
  · have : i = b.length := by omega
    subst this
    rw [List.drop_eq_getElem_cons h1, List.drop_length]
    simp only [cmpInts]
    rw [if_neg (by omega), if_pos h1]
  · have : i = a.length := by omega
    subst this
    rw [List.drop_length]
    rcases Nat.lt_or_ge a.length b.length with h2 | h2
    · rw [List.drop_eq_getElem_cons h2, if_pos h2]; rfl
    · have : a.length = b.length := by omega
      rw [this, List.drop_length]
      simp [cmpInts]
def H153 : List (Nat × Hint) := [(0, ⟨[], [4]⟩), (2, ⟨[(false, []), (false, []), (false, []), (false, []), (true, []), (false, []), (false, []), (false, []), (false, []), (false, [])], [6, 7, 8, 9, 10, 11, 12, 13, 14]⟩), (3, ⟨[], [16, 17]⟩), (4, ⟨[(false, []), (false, [0]), (false, []), (false, []), (false, [0, 1, 2, 3]), (false, [0, 1, 2, 3, 4]), (false, [2, 3, 4, 5]), (false, [3, 4, 5, 6]), (false, [])], [18, 19, 20, 21, 22, 23, 24, 25]⟩), (6, ⟨[(false, []), (false, [0]), (false, []), (false, []), (false, [0, 1, 2, 3]), (false, [0, 1, 2, 3, 4]), (false, [2, 3, 4, 5]), (false, [3, 4, 5, 6]), (false, [])], [27, 28, 29, 30, 31, 32, 33, 34]⟩), (8, ⟨[], [36, 37, 38, 39]⟩), (10, ⟨[], [0, 1, 41, 42, 43, 44]⟩)]
set_option maxHeartbeats 4000000 in
set_option maxRecDepth 100000 in
theorem ct_l4Ints (a b : List Int) : Ct Tryz.prog 153 [sl (ints a), sl (ints b)] [] (sl (i64 (cmpInts a b))) [] [] := by
  refine ct_of_vc mixed tab_ok H153 Tryz.func153 rfl (by kernel_rfl) (by kernel_rfl) (by rfl) ?_
  intro hw _
  have hla : a.length ≤ 1125899906842624 := Wf.lenI (hw _ (.head _))
  have hlb : b.length ≤ 1125899906842624 := Wf.lenI (hw _ (.tail _ (.head _)))
  conv => whnf
  refine loop_rule mixed tab_ok H153 (I := Nat) (fun i => [(.slot 5, iv i), (.slot 0, .s (sl (ints a))), (.slot 1, .s (sl (ints b)))]) (fun i => i ≤ a.length ∧ i ≤ b.length ∧ cmpInts (a.drop i) (b.drop i) = cmpInts a b) (fun i => a.length - i) (by kernel_rfl) 0 (by simp) (wk_sound (ψ := []) ?_) ?_
  · conv => whnf
    repeat' (first
      | exact trivial
      | (refine ⟨rfl, ?_⟩; (conv => whnf))
      | (refine ⟨fun h => ?_, fun h => ?_⟩ <;> (try simp at h) <;> (try (exfalso; omega)) <;> (conv => whnf))
      | (intro b hb; (conv => whnf))
      | (refine And.intro ?_ ?_; (focus (rw [wrap64 (by omega) (by omega)] <;> rfl)); (conv => whnf))
      | (refine And.intro ?_ (And.intro ?_ (And.intro ?_ (And.intro ?_ ?_))); (focus (first | omega | (rw [wrap64 (by omega) (by omega)] <;> first | omega | rfl) | (simp; omega))); (focus (first | omega | (rw [wrap64 (by omega) (by omega)] <;> first | omega | rfl) | (simp; omega))); (focus (first | omega | (rw [wrap64 (by omega) (by omega)] <;> first | omega | rfl) | (simp; omega))); (focus ((repeat' (first | exact sz_nil | exact sz_map fun _ => rfl | apply sz_take | apply sz_drop | apply sz_append | apply sz_cons rfl)); done)); (conv => whnf))
      | (refine And.intro ?_ (And.intro ?_ ?_); (focus (first | omega | (rw [wrap64 (by omega) (by omega)] <;> first | omega | rfl) | (simp; omega))); (focus ((repeat' (first | exact sz_nil | exact sz_map fun _ => rfl | apply sz_take | apply sz_drop | apply sz_append | apply sz_cons rfl)); done)); (conv => whnf))
      | (refine And.intro ?_ (And.intro ?_ ?_); (focus (first | omega | (rw [wrap64 (by omega) (by omega)] <;> first | omega | rfl) | (simp; omega))); (focus (first | omega | (rw [wrap64 (by omega) (by omega)] <;> first | omega | rfl) | (simp; omega))); (conv => whnf))
      | (rw [beq_g]; (conv => whnf))
      | fail)
  · rintro i ⟨h1, h2, h3⟩
    conv => whnf
    repeat' (first
      | exact trivial
      | (refine ⟨rfl, ?_⟩; (conv => whnf))
      | (refine ⟨fun h => ?_, fun h => ?_⟩ <;> (try simp at h) <;> (try (exfalso; omega)) <;> (conv => whnf))
      | (intro b hb; (conv => whnf))
      | (refine And.intro ?_ ?_; (focus (rw [wrap64 (by omega) (by omega)] <;> rfl)); (conv => whnf))
      | (refine ⟨[i64 a[i]], ?_, map_getI ?_ ?_, rfl, ?_⟩; (focus (first | omega | (rw [wrap64 (by omega) (by omega)] <;> first | omega | rfl) | (simp; omega))); (focus (first | rfl | omega | (rw [wrap64 (by omega) (by omega)] <;> first | omega | rfl))); (focus omega); (conv => whnf))
      | (refine ⟨[i64 a[i]], map_getI ?_ ?_, ?_, ?_, ?_⟩; (focus (first | rfl | omega | (rw [wrap64 (by omega) (by omega)] <;> first | omega | rfl))); (focus omega); (focus (simp; done)); (focus (simp; done)); (conv => whnf))
      | (refine ⟨[i64 a[i]], map_getI ?_ ?_, ?_⟩; (focus (first | rfl | omega | (rw [wrap64 (by omega) (by omega)] <;> first | omega | rfl))); (focus omega); (conv => whnf))
      | (refine ⟨[i64 b[i]], ?_, map_getI ?_ ?_, rfl, ?_⟩; (focus (first | omega | (rw [wrap64 (by omega) (by omega)] <;> first | omega | rfl) | (simp; omega))); (focus (first | rfl | omega | (rw [wrap64 (by omega) (by omega)] <;> first | omega | rfl))); (focus omega); (conv => whnf))
      | (refine ⟨[i64 b[i]], map_getI ?_ ?_, ?_, ?_, ?_⟩; (focus (first | rfl | omega | (rw [wrap64 (by omega) (by omega)] <;> first | omega | rfl))); (focus omega); (focus (simp; done)); (focus (simp; done)); (conv => whnf))
      | (refine ⟨[i64 b[i]], map_getI ?_ ?_, ?_⟩; (focus (first | rfl | omega | (rw [wrap64 (by omega) (by omega)] <;> first | omega | rfl))); (focus omega); (conv => whnf))
      | (refine And.intro ?_ (And.intro ?_ (And.intro ?_ (And.intro ?_ ?_))); (focus (first | omega | (rw [wrap64 (by omega) (by omega)] <;> first | omega | rfl) | (simp; omega))); (focus (first | omega | (rw [wrap64 (by omega) (by omega)] <;> first | omega | rfl) | (simp; omega))); (focus (first | omega | (rw [wrap64 (by omega) (by omega)] <;> first | omega | rfl) | (simp; omega))); (focus ((repeat' (first | exact sz_nil | exact sz_map fun _ => rfl | apply sz_take | apply sz_drop | apply sz_append | apply sz_cons rfl)); done)); (conv => whnf))
      | (refine And.intro ?_ (And.intro ?_ ?_); (focus (first | omega | (rw [wrap64 (by omega) (by omega)] <;> first | omega | rfl) | (simp; omega))); (focus ((repeat' (first | exact sz_nil | exact sz_map fun _ => rfl | apply sz_take | apply sz_drop | apply sz_append | apply sz_cons rfl)); done)); (conv => whnf))
      | (refine And.intro ?_ (And.intro ?_ ?_); (focus (first | omega | (rw [wrap64 (by omega) (by omega)] <;> first | omega | rfl) | (simp; omega))); (focus (first | omega | (rw [wrap64 (by omega) (by omega)] <;> first | omega | rfl) | (simp; omega))); (conv => whnf))
      | (refine ⟨i + 1, ?_, ?_, wk_sound (ψ := []) ?_⟩; (focus (exact ⟨by omega, by omega, by have e := cmpInts_step (a := a) (b := b) (i := i) (by omega) (by omega); rw [if_neg (by omega), if_neg (by omega), h3] at e; exact e.symm⟩)); (focus (first | omega | (rw [wrap64 (by omega) (by omega)] <;> first | omega | rfl) | (simp; omega))); (conv => whnf); (fail_if_success show False))
      | (refine And.intro ?_ ?_; (focus (refine congrArg i64 ?_; rw [← h3]; first | (rw [cmpInts_step (by omega) (by omega)]; (repeat' split) <;> omega) | (rw [cmpInts_end (by omega) (by omega) (by omega)]; (repeat' split) <;> omega))); (conv => whnf))
      | (rw [beq_g]; (conv => whnf))
      | fail)
def H165 : List (Nat × Hint) := [(0, ⟨[], [4]⟩), (3, ⟨[], [13, 14, 15]⟩), (4, ⟨[], [16, 17, 18]⟩), (6, ⟨[], [5, 20, 21, 22, 23]⟩), (7, ⟨[], [6, 7, 24, 25, 26]⟩), (8, ⟨[], [27]⟩), (9, ⟨[], [8, 29]⟩), (10, ⟨[], [30]⟩), (11, ⟨[], [0, 1, 31, 32, 33, 34]⟩)]
set_option maxHeartbeats 4000000 in
set_option maxRecDepth 100000 in
theorem ct_slicesCompare (a b : List Int) : Ct Tryz.prog 165 [sl (ints a), sl (ints b)] [] (sl (i64 (cmpInts a b))) [] [] := by
  refine ct_of_vc mixed tab_ok H165 Tryz.func165 rfl (by kernel_rfl) (by kernel_rfl) (by rfl) ?_
  intro hw _
  have hla : a.length ≤ 1125899906842624 := Wf.lenI (hw _ (.head _))
  have hlb : b.length ≤ 1125899906842624 := Wf.lenI (hw _ (.tail _ (.head _)))
  conv => whnf
  refine loop_rule mixed tab_ok H165 (I := Nat) (fun i => [(.slot 11, iv i), (.slot 9, .s (sl (ints a))), (.slot 10, iv a.length), (.slot 0, .s (sl (ints a))), (.slot 1, .s (sl (ints b)))]) (fun i => i ≤ a.length ∧ i ≤ b.length ∧ cmpInts (a.drop i) (b.drop i) = cmpInts a b) (fun i => a.length - i) (by kernel_rfl) 0 (by simp) (wk_sound (ψ := []) ?_) ?_
  · conv => whnf
    repeat' (first
      | exact trivial
      | (refine ⟨rfl, ?_⟩; (conv => whnf))
      | (refine ⟨fun h => ?_, fun h => ?_⟩ <;> (try simp at h) <;> (try (exfalso; omega)) <;> (conv => whnf))
      | (intro b hb; (conv => whnf))
      | (refine And.intro ?_ ?_; (focus (rw [wrap64 (by omega) (by omega)] <;> rfl)); (conv => whnf))
      | (refine And.intro ?_ (And.intro ?_ (And.intro ?_ (And.intro ?_ ?_))); (focus (first | omega | (rw [wrap64 (by omega) (by omega)] <;> first | omega | rfl) | (simp; omega))); (focus (first | omega | (rw [wrap64 (by omega) (by omega)] <;> first | omega | rfl) | (simp; omega))); (focus (first | omega | (rw [wrap64 (by omega) (by omega)] <;> first | omega | rfl) | (simp; omega))); (focus ((repeat' (first | exact sz_nil | exact sz_map fun _ => rfl | apply sz_take | apply sz_drop | apply sz_append | apply sz_cons rfl)); done)); (conv => whnf))
      | (refine And.intro ?_ (And.intro ?_ ?_); (focus (first | omega | (rw [wrap64 (by omega) (by omega)] <;> first | omega | rfl) | (simp; omega))); (focus ((repeat' (first | exact sz_nil | exact sz_map fun _ => rfl | apply sz_take | apply sz_drop | apply sz_append | apply sz_cons rfl)); done)); (conv => whnf))
      | (refine And.intro ?_ (And.intro ?_ ?_); (focus (first | omega | (rw [wrap64 (by omega) (by omega)] <;> first | omega | rfl) | (simp; omega))); (focus (first | omega | (rw [wrap64 (by omega) (by omega)] <;> first | omega | rfl) | (simp; omega))); (conv => whnf))
      | (refine And.intro ?_ ?_; (focus (simp [iv, ints])); (conv => whnf))
      | (rw [beq_g]; (conv => whnf))
      | fail)
  · rintro i ⟨h1, h2, h3⟩
    conv => whnf
    repeat' (first
      | exact trivial
      | (refine ⟨rfl, ?_⟩; (conv => whnf))
      | (refine ⟨fun h => ?_, fun h => ?_⟩ <;> (try simp at h) <;> (try (exfalso; omega)) <;> (conv => whnf))
      | (intro b hb; (conv => whnf))
      | (refine .inl ?_; (conv => whnf); first | (refine ⟨_, _, _, _, ct_Compare _ _, ?_⟩; (conv => whnf)) | fail)
      | (refine And.intro ?_ ?_; (focus (rw [wrap64 (by omega) (by omega)] <;> rfl)); (conv => whnf))
      | (refine ⟨[i64 a[i]], ?_, map_getI ?_ ?_, rfl, ?_⟩; (focus (first | omega | (rw [wrap64 (by omega) (by omega)] <;> first | omega | rfl) | (simp; omega))); (focus (first | rfl | omega | (rw [wrap64 (by omega) (by omega)] <;> first | omega | rfl))); (focus omega); (conv => whnf))
      | (refine ⟨[i64 a[i]], map_getI ?_ ?_, ?_, ?_, ?_⟩; (focus (first | rfl | omega | (rw [wrap64 (by omega) (by omega)] <;> first | omega | rfl))); (focus omega); (focus (simp; done)); (focus (simp; done)); (conv => whnf))
      | (refine ⟨[i64 a[i]], map_getI ?_ ?_, ?_⟩; (focus (first | rfl | omega | (rw [wrap64 (by omega) (by omega)] <;> first | omega | rfl))); (focus omega); (conv => whnf))
      | (refine ⟨[i64 b[i]], ?_, map_getI ?_ ?_, rfl, ?_⟩; (focus (first | omega | (rw [wrap64 (by omega) (by omega)] <;> first | omega | rfl) | (simp; omega))); (focus (first | rfl | omega | (rw [wrap64 (by omega) (by omega)] <;> first | omega | rfl))); (focus omega); (conv => whnf))
      | (refine ⟨[i64 b[i]], map_getI ?_ ?_, ?_, ?_, ?_⟩; (focus (first | rfl | omega | (rw [wrap64 (by omega) (by omega)] <;> first | omega | rfl))); (focus omega); (focus (simp; done)); (focus (simp; done)); (conv => whnf))
      | (refine ⟨[i64 b[i]], map_getI ?_ ?_, ?_⟩; (focus (first | rfl | omega | (rw [wrap64 (by omega) (by omega)] <;> first | omega | rfl))); (focus omega); (conv => whnf))
      | (refine And.intro ?_ (And.intro ?_ (And.intro ?_ (And.intro ?_ ?_))); (focus (first | omega | (rw [wrap64 (by omega) (by omega)] <;> first | omega | rfl) | (simp; omega))); (focus (first | omega | (rw [wrap64 (by omega) (by omega)] <;> first | omega | rfl) | (simp; omega))); (focus (first | omega | (rw [wrap64 (by omega) (by omega)] <;> first | omega | rfl) | (simp; omega))); (focus ((repeat' (first | exact sz_nil | exact sz_map fun _ => rfl | apply sz_take | apply sz_drop | apply sz_append | apply sz_cons rfl)); done)); (conv => whnf))
      | (refine And.intro ?_ (And.intro ?_ ?_); (focus (first | omega | (rw [wrap64 (by omega) (by omega)] <;> first | omega | rfl) | (simp; omega))); (focus ((repeat' (first | exact sz_nil | exact sz_map fun _ => rfl | apply sz_take | apply sz_drop | apply sz_append | apply sz_cons rfl)); done)); (conv => whnf))
      | (refine And.intro ?_ (And.intro ?_ ?_); (focus (first | omega | (rw [wrap64 (by omega) (by omega)] <;> first | omega | rfl) | (simp; omega))); (focus (first | omega | (rw [wrap64 (by omega) (by omega)] <;> first | omega | rfl) | (simp; omega))); (conv => whnf))
      | (refine ⟨i + 1, ?_, ?_, wk_sound (ψ := []) ?_⟩; (focus (exact ⟨by omega, by omega, by have e := cmpInts_step (a := a) (b := b) (i := i) (by omega) (by omega); rw [h3] at e; simp only [cmpI] at *; (repeat' split at *) <;> first | omega | exact e.symm⟩)); (focus (first | omega | (rw [wrap64 (by omega) (by omega)] <;> first | omega | rfl) | (simp; omega))); (conv => whnf); (fail_if_success show False))
      | (refine And.intro ?_ ?_; (focus (refine congrArg i64 ?_; rw [← h3]; first | (rw [cmpInts_step (by omega) (by omega)]; simp only [cmpI] at *; (repeat' split at *) <;> omega) | (rw [cmpInts_end (by omega) (by omega) (by omega)]; (repeat' split) <;> omega))); (conv => whnf))
      | (rw [beq_g]; (conv => whnf))
      | fail)
/-! ### Facts -/
def firstNZ : List Int → Int
  | [] => 0
  | a :: l => if a = 0 then firstNZ l else a
theorem firstNZ_step {l : List Int} {i : Nat} (h : i < l.length) : firstNZ (l.drop i) = if l[i] = 0 then firstNZ (l.drop (i + 1)) else l[i] := by
  rw [List.drop_eq_getElem_cons h]; rfl
def H163 : List (Nat × Hint) := [(0, ⟨[], [2]⟩), (2, ⟨[], [0]⟩), (4, ⟨[], [10, 11]⟩), (5, ⟨[], [12, 13]⟩), (6, ⟨[], [5, 15]⟩), (7, ⟨[], [16]⟩), (8, ⟨[], [3, 17]⟩)]
set_option maxHeartbeats 4000000 in
set_option maxRecDepth 100000 in
theorem ct_Or (l : List Int) : Ct Tryz.prog 163 [sl (ints l)] [] (sl (i64 (firstNZ l))) [] [] := by
  refine ct_of_vc mixed tab_ok H163 Tryz.func163 rfl (by kernel_rfl) (by kernel_rfl) (by rfl) ?_
  intro hw _
  have hl : l.length ≤ 1125899906842624 := Wf.lenI (hw _ (.head _))
  conv => whnf
  refine loop_rule mixed tab_ok H163 (I := Nat) (fun i => [(.slot 8, iv i), (.slot 6, .s (sl (ints l))), (.slot 7, iv l.length), (.slot 3, iv 0)]) (fun i => i ≤ l.length ∧ firstNZ (l.drop i) = firstNZ l) (fun i => l.length - i) (by kernel_rfl) 0 (by simp) (wk_sound (ψ := []) ?_) ?_
  · conv => whnf
    repeat' (first
      | exact trivial
      | (refine ⟨rfl, ?_⟩; (conv => whnf))
      | (refine ⟨fun h => ?_, fun h => ?_⟩ <;> (try simp at h) <;> (try (exfalso; omega)) <;> (conv => whnf))
      | (intro b hb; (conv => whnf))
      | (refine And.intro ?_ ?_; (focus (rw [wrap64 (by omega) (by omega)] <;> rfl)); (conv => whnf))
      | (refine And.intro ?_ (And.intro ?_ (And.intro ?_ (And.intro ?_ ?_))); (focus (first | omega | (rw [wrap64 (by omega) (by omega)] <;> first | omega | rfl) | (simp; omega))); (focus (first | omega | (rw [wrap64 (by omega) (by omega)] <;> first | omega | rfl) | (simp; omega))); (focus (first | omega | (rw [wrap64 (by omega) (by omega)] <;> first | omega | rfl) | (simp; omega))); (focus ((repeat' (first | exact sz_nil | exact sz_map fun _ => rfl | apply sz_take | apply sz_drop | apply sz_append | apply sz_cons rfl)); done)); (conv => whnf))
      | (refine And.intro ?_ (And.intro ?_ ?_); (focus (first | omega | (rw [wrap64 (by omega) (by omega)] <;> first | omega | rfl) | (simp; omega))); (focus ((repeat' (first | exact sz_nil | exact sz_map fun _ => rfl | apply sz_take | apply sz_drop | apply sz_append | apply sz_cons rfl)); done)); (conv => whnf))
      | (refine And.intro ?_ (And.intro ?_ ?_); (focus (first | omega | (rw [wrap64 (by omega) (by omega)] <;> first | omega | rfl) | (simp; omega))); (focus (first | omega | (rw [wrap64 (by omega) (by omega)] <;> first | omega | rfl) | (simp; omega))); (conv => whnf))
      | (refine And.intro ?_ ?_; (focus (simp [iv, ints])); (conv => whnf))
      | (rw [beq_g]; (conv => whnf))
      | fail)
  · rintro i ⟨h1, h2⟩
    conv => whnf
    repeat' (first
      | exact trivial
      | (refine ⟨rfl, ?_⟩; (conv => whnf))
      | (refine ⟨fun h => ?_, fun h => ?_⟩ <;> (try simp at h) <;> (try (exfalso; omega)) <;> (conv => whnf))
      | (intro b hb; (conv => whnf))
      | (refine And.intro ?_ ?_; (focus (rw [wrap64 (by omega) (by omega)] <;> rfl)); (conv => whnf))
      | (refine ⟨[i64 l[i]], ?_, map_getI ?_ ?_, rfl, ?_⟩; (focus (first | omega | (rw [wrap64 (by omega) (by omega)] <;> first | omega | rfl) | (simp; omega))); (focus (first | rfl | omega | (rw [wrap64 (by omega) (by omega)] <;> first | omega | rfl))); (focus omega); (conv => whnf))
      | (refine ⟨[i64 l[i]], map_getI ?_ ?_, ?_, ?_, ?_⟩; (focus (first | rfl | omega | (rw [wrap64 (by omega) (by omega)] <;> first | omega | rfl))); (focus omega); (focus (simp; done)); (focus (simp; done)); (conv => whnf))
      | (refine ⟨[i64 l[i]], map_getI ?_ ?_, ?_⟩; (focus (first | rfl | omega | (rw [wrap64 (by omega) (by omega)] <;> first | omega | rfl))); (focus omega); (conv => whnf))
      | (refine And.intro ?_ (And.intro ?_ (And.intro ?_ (And.intro ?_ ?_))); (focus (first | omega | (rw [wrap64 (by omega) (by omega)] <;> first | omega | rfl) | (simp; omega))); (focus (first | omega | (rw [wrap64 (by omega) (by omega)] <;> first | omega | rfl) | (simp; omega))); (focus (first | omega | (rw [wrap64 (by omega) (by omega)] <;> first | omega | rfl) | (simp; omega))); (focus ((repeat' (first | exact sz_nil | exact sz_map fun _ => rfl | apply sz_take | apply sz_drop | apply sz_append | apply sz_cons rfl)); done)); (conv => whnf))
      | (refine And.intro ?_ (And.intro ?_ ?_); (focus (first | omega | (rw [wrap64 (by omega) (by omega)] <;> first | omega | rfl) | (simp; omega))); (focus ((repeat' (first | exact sz_nil | exact sz_map fun _ => rfl | apply sz_take | apply sz_drop | apply sz_append | apply sz_cons rfl)); done)); (conv => whnf))
      | (refine And.intro ?_ (And.intro ?_ ?_); (focus (first | omega | (rw [wrap64 (by omega) (by omega)] <;> first | omega | rfl) | (simp; omega))); (focus (first | omega | (rw [wrap64 (by omega) (by omega)] <;> first | omega | rfl) | (simp; omega))); (conv => whnf))
      | (refine ⟨i + 1, ?_, ?_, wk_sound (ψ := []) ?_⟩; (focus (exact ⟨by omega, by have e := firstNZ_step (l := l) (i := i) (by omega); rw [if_pos (by assumption), h2] at e; exact e.symm⟩)); (focus (first | omega | (rw [wrap64 (by omega) (by omega)] <;> first | omega | rfl) | (simp; omega))); (conv => whnf); (fail_if_success show False))
      | (refine And.intro ?_ ?_; (focus (refine congrArg i64 ?_; rw [← h2]; first | (rw [firstNZ_step (by omega), if_neg (by assumption)]; done) | (rw [List.drop_of_length_le (by omega)]; rfl))); (conv => whnf))
      | (rw [beq_g]; (conv => whnf))
      | fail)
def cmpFacts (f g : Fact) : Int := if f.rel < g.rel then -1 else if g.rel < f.rel then 1 else cmpInts f.vals g.vals
def H122 : List (Nat × Hint) := [(0, ⟨[], [0, 1, 4]⟩), (1, ⟨[], [5, 6, 7, 8]⟩), (3, ⟨[], [10, 11, 12, 13]⟩), (5, ⟨[], [2, 3, 15, 16, 17, 18, 19]⟩)]
set_option maxHeartbeats 4000000 in
set_option maxRecDepth 100000 in
theorem ct_sCompareFacts (f g : Fact) : Ct Tryz.prog 122 [ag f.av, ag g.av] [] (sl (i64 (cmpFacts f g))) [] [] := by
  refine ct_of_vc mixed tab_ok H122 Tryz.func122 rfl (by kernel_rfl) (by kernel_rfl) (by rfl) ?_
  intro hw _
  conv => whnf
  repeat' (first
    | exact trivial
    | (refine ⟨rfl, ?_⟩; (conv => whnf))
    | (refine ⟨fun h => ?_, fun h => ?_⟩ <;> (try simp at h) <;> (try (exfalso; omega)) <;> (conv => whnf))
    | (intro b hb; (conv => whnf))
    | (refine .inl ?_; (conv => whnf); first | (refine ⟨_, _, _, _, ct_l4Ints _ _, ?_⟩; (conv => whnf)) | fail)
    | (refine And.intro ?_ ?_; (focus (rw [wrap64 (by omega) (by omega)] <;> rfl)); (conv => whnf))
    | (refine And.intro ?_ (And.intro ?_ (And.intro ?_ (And.intro ?_ ?_))); (focus (first | omega | (rw [wrap64 (by omega) (by omega)] <;> first | omega | rfl) | (simp; omega))); (focus (first | omega | (rw [wrap64 (by omega) (by omega)] <;> first | omega | rfl) | (simp; omega))); (focus (first | omega | (rw [wrap64 (by omega) (by omega)] <;> first | omega | rfl) | (simp; omega))); (focus ((repeat' (first | exact sz_nil | exact sz_map fun _ => rfl | apply sz_take | apply sz_drop | apply sz_append | apply sz_cons rfl)); done)); (conv => whnf))
    | (refine And.intro ?_ (And.intro ?_ ?_); (focus (first | omega | (rw [wrap64 (by omega) (by omega)] <;> first | omega | rfl) | (simp; omega))); (focus ((repeat' (first | exact sz_nil | exact sz_map fun _ => rfl | apply sz_take | apply sz_drop | apply sz_append | apply sz_cons rfl)); done)); (conv => whnf))
    | (refine And.intro ?_ (And.intro ?_ ?_); (focus (first | omega | (rw [wrap64 (by omega) (by omega)] <;> first | omega | rfl) | (simp; omega))); (focus (first | omega | (rw [wrap64 (by omega) (by omega)] <;> first | omega | rfl) | (simp; omega))); (conv => whnf))
    | (refine And.intro ?_ ?_; (focus (simp only [cmpFacts]; congr 1; (repeat' split) <;> omega)); (conv => whnf))
    | (rw [beq_g]; (conv => whnf))
    | fail)
def H134 : List (Nat × Hint) := [(0, ⟨[], [0, 1, 4]⟩), (1, ⟨[(false, []), (false, []), (false, [0, 1]), (false, [1, 2]), (false, []), (false, [0, 1, 2, 3, 4]), (false, [1, 2, 3, 4, 5]), (false, [0, 1, 2, 3, 4, 5, 6]), (false, [1, 2, 3, 4, 5, 6, 7]), (false, []), (false, []), (false, []), (false, [])], [2, 3, 5, 6, 7, 8, 9, 10, 11, 12, 13, 14, 15, 16]⟩)]
set_option maxHeartbeats 4000000 in
set_option maxRecDepth 100000 in
theorem ct_iCompareFacts (f g : Fact) : Ct Tryz.prog 134 [ag f.av, ag g.av] [] (sl (i64 (cmpFacts f g))) [] [] := by
  refine ct_of_vc mixed tab_ok H134 Tryz.func134 rfl (by kernel_rfl) (by kernel_rfl) (by rfl) ?_
  intro hw _
  conv => whnf
  repeat' (first
    | exact trivial
    | (refine ⟨rfl, ?_⟩; (conv => whnf))
    | (refine ⟨fun h => ?_, fun h => ?_⟩ <;> (try simp at h) <;> (try (exfalso; omega)) <;> (conv => whnf))
    | (intro b hb; (conv => whnf))
    | (refine .inl ?_; (conv => whnf); first | (refine ⟨_, _, _, _, ct_Compare _ _, ?_⟩; (conv => whnf)) | (refine ⟨_, _, _, _, ct_slicesCompare f.vals g.vals, ?_⟩; (conv => whnf)) | (refine ⟨_, _, _, _, ct_Or [cmpI f.rel g.rel, cmpInts f.vals g.vals], ?_⟩; (conv => whnf)) | fail)
    | (refine And.intro ?_ ?_; (focus (rw [wrap64 (by omega) (by omega)] <;> rfl)); (conv => whnf))
    | (refine And.intro ?_ (And.intro ?_ (And.intro ?_ (And.intro ?_ ?_))); (focus (first | omega | (rw [wrap64 (by omega) (by omega)] <;> first | omega | rfl) | (simp; omega))); (focus (first | omega | (rw [wrap64 (by omega) (by omega)] <;> first | omega | rfl) | (simp; omega))); (focus (first | omega | (rw [wrap64 (by omega) (by omega)] <;> first | omega | rfl) | (simp; omega))); (focus ((repeat' (first | exact sz_nil | exact sz_map fun _ => rfl | apply sz_take | apply sz_drop | apply sz_append | apply sz_cons rfl)); done)); (conv => whnf))
    | (refine And.intro ?_ (And.intro ?_ ?_); (focus (first | omega | (rw [wrap64 (by omega) (by omega)] <;> first | omega | rfl) | (simp; omega))); (focus ((repeat' (first | exact sz_nil | exact sz_map fun _ => rfl | apply sz_take | apply sz_drop | apply sz_append | apply sz_cons rfl)); done)); (conv => whnf))
    | (refine And.intro ?_ (And.intro ?_ ?_); (focus (first | omega | (rw [wrap64 (by omega) (by omega)] <;> first | omega | rfl) | (simp; omega))); (focus (first | omega | (rw [wrap64 (by omega) (by omega)] <;> first | omega | rfl) | (simp; omega))); (conv => whnf))
    | (refine And.intro ?_ ?_; (focus (refine congrArg i64 ?_; simp only [cmpFacts, firstNZ, cmpI]; (repeat' split) <;> omega)); (conv => whnf))
    | (rw [beq_g]; (conv => whnf))
    | fail)
end Go.Proofs.YtccbimcikbbecaaGreat
/- Lists of numbers: sorted insertion, membership, variables. -/
namespace Go.Proofs.YtccbimcikbbecaaGreat
open Go P1
def put : List Int → Int → List Int
  | [], x => [x]
  | y :: l, x => if y < x then y :: put l x else if y = x then y :: l else x :: y :: l
theorem put_here : ∀ {l : List Int} {x : Int} {i : Nat} (hi : i < l.length), (∀ j (h : j < l.length), j < i → l[j] < x) → l[i] = x → put l x = l
  | [], x, i, hi, _, _ => by simp at hi
  | y :: l, x, 0, _, _, h => by simp at h; simp [put, h]
  | y :: l, x, i + 1, hi, hb, h => by
    have h0 := hb 0 (by simp) (by omega)
    simp at h0
    simp only [put, if_pos h0]
    rw [put_here (l := l) (i := i) (by simpa using hi) (fun j hj hji => by have := hb (j + 1) (by simpa using hj) (by omega); simpa using this) (by simpa using h)]
theorem put_new : ∀ {l : List Int} {x : Int} {i : Nat}, i ≤ l.length → (∀ j (h : j < l.length), j < i → l[j] < x) → (∀ h : i < l.length, x < l[i]) → put l x = l.take i ++ x :: l.drop i
  | [], x, i, hi, _, _ => by simp at hi; subst hi; rfl
  | y :: l, x, 0, _, _, h => by
    have := h (by simp)
    simp at this
    simp only [put]
    rw [if_neg (by omega), if_neg (by omega)]; rfl
  | y :: l, x, i + 1, hi, hb, h => by
    have h0 := hb 0 (by simp) (by omega)
    simp at h0
    simp only [put, if_pos h0]
    rw [put_new (l := l) (i := i) (by simpa using hi) (fun j hj hji => by have := hb (j + 1) (by simpa using hj) (by omega); simpa using this) (fun hh => by have := h (by simpa using hh); simpa using this)]
    rfl
theorem put_length : ∀ (l : List Int) (x : Int), (put l x).length ≤ l.length + 1
  | [], x => by simp [put]
  | y :: l, x => by
    have := put_length l x
    simp only [put]
    split
    · simp; omega
    · split <;> simp
def H110 : List (Nat × Hint) := [(0, ⟨[], [4]⟩), (2, ⟨[(false, []), (false, []), (false, []), (false, []), (true, []), (false, []), (false, []), (false, []), (false, []), (false, []), (false, []), (false, [])], [7, 8, 9, 10, 11, 12, 13, 14, 15, 16, 17]⟩), (3, ⟨[], [19, 20]⟩), (4, ⟨[(false, []), (false, []), (false, []), (false, []), (true, []), (false, []), (false, []), (false, []), (false, []), (false, []), (false, []), (false, [])], [21, 22, 23, 24, 25, 26, 27, 28, 29, 30, 31]⟩), (5, ⟨[], [0, 33]⟩), (6, ⟨[], [1, 34, 35, 36, 37, 38, 39]⟩), (7, ⟨[], [0, 5, 6, 40, 41, 42, 43, 44, 45, 46]⟩)]
set_option maxHeartbeats 4000000 in
set_option maxRecDepth 100000 in
theorem ct_l4Put (l : List Int) (x : Int) (hn : l.length ≤ 1000000) : Ct Tryz.prog 110 [sl (ints l), sl (i64 x)] [] (sl (ints (put l x))) [] [] := by
  refine ct_of_vc mixed tab_ok H110 Tryz.func110 rfl (by kernel_rfl) (by kernel_rfl) (by rfl) ?_
  intro hw _
  clear hw
  conv => whnf
  refine loop_rule mixed tab_ok H110 (I := Nat) (fun i => [(.slot 5, iv i), (.slot 0, .s (sl (ints l))), (.slot 1, iv x)]) (fun i => i ≤ l.length ∧ ∀ j (h : j < l.length), j < i → l[j] < x) (fun i => l.length - i) (by kernel_rfl) 0 ⟨by omega, fun j _ hj => by omega⟩ (wk_sound (ψ := []) ?_) ?_
  · conv => whnf
    repeat' (first
      | exact trivial
      | (refine ⟨rfl, ?_⟩; (conv => whnf))
      | (refine ⟨fun h => ?_, fun h => ?_⟩ <;> (try simp at h) <;> (try (exfalso; omega)) <;> (conv => whnf))
      | (intro b hb; (conv => whnf))
      | (refine And.intro ?_ ?_; (focus (rw [wrap64 (by omega) (by omega)] <;> rfl)); (conv => whnf))
      | (refine And.intro ?_ (And.intro ?_ (And.intro ?_ (And.intro ?_ ?_))); (focus (first | omega | (rw [wrap64 (by omega) (by omega)] <;> first | omega | rfl) | (simp; omega))); (focus (first | omega | (rw [wrap64 (by omega) (by omega)] <;> first | omega | rfl) | (simp; omega))); (focus (first | omega | (rw [wrap64 (by omega) (by omega)] <;> first | omega | rfl) | (simp; omega))); (focus ((repeat' (first | exact sz_nil | exact sz_map fun _ => rfl | apply sz_take | apply sz_drop | apply sz_append | apply sz_cons rfl)); done)); (conv => whnf))
      | (refine And.intro ?_ (And.intro ?_ ?_); (focus (first | omega | (rw [wrap64 (by omega) (by omega)] <;> first | omega | rfl) | (simp; omega))); (focus ((repeat' (first | exact sz_nil | exact sz_map fun _ => rfl | apply sz_take | apply sz_drop | apply sz_append | apply sz_cons rfl)); done)); (conv => whnf))
      | (refine And.intro ?_ (And.intro ?_ ?_); (focus (first | omega | (rw [wrap64 (by omega) (by omega)] <;> first | omega | rfl) | (simp; omega))); (focus (first | omega | (rw [wrap64 (by omega) (by omega)] <;> first | omega | rfl) | (simp; omega))); (conv => whnf))
      | (rw [beq_g]; (conv => whnf))
      | fail)
  · rintro i ⟨hi, hb⟩
    conv => whnf
    repeat' (first
      | exact trivial
      | (refine ⟨rfl, ?_⟩; (conv => whnf))
      | (refine ⟨fun h => ?_, fun h => ?_⟩ <;> (try simp at h) <;> (try (exfalso; omega)) <;> (conv => whnf))
      | (intro b hb; (conv => whnf))
      | (refine And.intro ?_ ?_; (focus (rw [wrap64 (by omega) (by omega)] <;> rfl)); (conv => whnf))
      | (refine ⟨[i64 l[i]], ?_, map_getI ?_ ?_, rfl, ?_⟩; (focus (first | omega | (rw [wrap64 (by omega) (by omega)] <;> first | omega | rfl) | (simp; omega))); (focus (first | rfl | omega | (rw [wrap64 (by omega) (by omega)] <;> first | omega | rfl))); (focus omega); (conv => whnf))
      | (refine ⟨[i64 l[i]], map_getI ?_ ?_, ?_, ?_, ?_⟩; (focus (first | rfl | omega | (rw [wrap64 (by omega) (by omega)] <;> first | omega | rfl))); (focus omega); (focus (simp; done)); (focus (simp; done)); (conv => whnf))
      | (refine ⟨[i64 l[i]], map_getI ?_ ?_, ?_⟩; (focus (first | rfl | omega | (rw [wrap64 (by omega) (by omega)] <;> first | omega | rfl))); (focus omega); (conv => whnf))
      | (refine And.intro ?_ (And.intro ?_ (And.intro ?_ (And.intro ?_ ?_))); (focus (first | omega | (rw [wrap64 (by omega) (by omega)] <;> first | omega | rfl) | (simp; omega))); (focus (first | omega | (rw [wrap64 (by omega) (by omega)] <;> first | omega | rfl) | (simp; omega))); (focus (first | omega | (rw [wrap64 (by omega) (by omega)] <;> first | omega | rfl) | (simp; omega))); (focus ((repeat' (first | exact sz_nil | exact sz_map fun _ => rfl | apply sz_take | apply sz_drop | apply sz_append | apply sz_cons rfl)); done)); (conv => whnf))
      | (refine And.intro ?_ (And.intro ?_ ?_); (focus (first | omega | (rw [wrap64 (by omega) (by omega)] <;> first | omega | rfl) | (simp; omega))); (focus ((repeat' (first | exact sz_nil | exact sz_map fun _ => rfl | apply sz_take | apply sz_drop | apply sz_append | apply sz_cons rfl)); done)); (conv => whnf))
      | (refine And.intro ?_ (And.intro ?_ ?_); (focus (first | omega | (rw [wrap64 (by omega) (by omega)] <;> first | omega | rfl) | (simp; omega))); (focus (first | omega | (rw [wrap64 (by omega) (by omega)] <;> first | omega | rfl) | (simp; omega))); (conv => whnf))
      | (refine ⟨i + 1, ?_, ?_, wk_sound (ψ := []) ?_⟩; (focus (refine ⟨by omega, fun j hj hji => ?_⟩; rcases Nat.lt_or_ge j i with h | h; exact hb j hj h; obtain rfl : j = i := (by omega); assumption)); (focus (first | omega | (rw [wrap64 (by omega) (by omega)] <;> first | omega | rfl) | (simp; omega))); (conv => whnf); (fail_if_success show False))
      | (refine And.intro ?_ ?_; (focus (first | (rw [put_here (by assumption) hb (by assumption)]; done) | (rw [put_new (i := i) (by omega) hb (by intro _; omega)]; refine congrArg AV.row ?_; simp [List.map_take, List.map_drop, take_map_len]; done))); (conv => whnf))
      | (rw [beq_g]; (conv => whnf))
      | fail)
def H78 : List (Nat × Hint) := [(0, ⟨[], [4]⟩), (2, ⟨[], [6, 7, 8]⟩), (3, ⟨[], [10, 11]⟩), (4, ⟨[], [12, 13, 14, 15, 16]⟩)]
set_option maxHeartbeats 4000000 in
set_option maxRecDepth 100000 in
theorem ct_l4Has (l : List Int) (x : Int) : Ct Tryz.prog 78 [sl (ints l), sl (i64 x)] [] (sl (.bool (decide (x ∈ l)))) [] [] := by
  refine ct_of_vc mixed tab_ok H78 Tryz.func78 rfl (by kernel_rfl) (by kernel_rfl) (by rfl) ?_
  intro hw _
  have hl : l.length ≤ 1125899906842624 := Wf.lenI (hw _ (.head _))
  clear hw
  conv => whnf
  refine loop_rule mixed tab_ok H78 (I := Nat) (fun i => [(.slot 5, iv i), (.slot 0, .s (sl (ints l))), (.slot 1, iv x)]) (fun i => i ≤ l.length ∧ x ∉ l.take i) (fun i => l.length - i) (by kernel_rfl) 0 (by simp) (wk_sound (ψ := []) ?_) ?_
  · conv => whnf
    repeat' (first
      | exact trivial
      | (refine ⟨rfl, ?_⟩; (conv => whnf))
      | (refine ⟨fun h => ?_, fun h => ?_⟩ <;> (try simp at h) <;> (try (exfalso; omega)) <;> (conv => whnf))
      | (intro b hb; (conv => whnf))
      | (refine And.intro ?_ ?_; (focus (rw [wrap64 (by omega) (by omega)] <;> rfl)); (conv => whnf))
      | (refine And.intro ?_ (And.intro ?_ (And.intro ?_ (And.intro ?_ ?_))); (focus (first | omega | (rw [wrap64 (by omega) (by omega)] <;> first | omega | rfl) | (simp; omega))); (focus (first | omega | (rw [wrap64 (by omega) (by omega)] <;> first | omega | rfl) | (simp; omega))); (focus (first | omega | (rw [wrap64 (by omega) (by omega)] <;> first | omega | rfl) | (simp; omega))); (focus ((repeat' (first | exact sz_nil | exact sz_map fun _ => rfl | apply sz_take | apply sz_drop | apply sz_append | apply sz_cons rfl)); done)); (conv => whnf))
      | (refine And.intro ?_ (And.intro ?_ ?_); (focus (first | omega | (rw [wrap64 (by omega) (by omega)] <;> first | omega | rfl) | (simp; omega))); (focus ((repeat' (first | exact sz_nil | exact sz_map fun _ => rfl | apply sz_take | apply sz_drop | apply sz_append | apply sz_cons rfl)); done)); (conv => whnf))
      | (refine And.intro ?_ (And.intro ?_ ?_); (focus (first | omega | (rw [wrap64 (by omega) (by omega)] <;> first | omega | rfl) | (simp; omega))); (focus (first | omega | (rw [wrap64 (by omega) (by omega)] <;> first | omega | rfl) | (simp; omega))); (conv => whnf))
      | (rw [beq_g]; (conv => whnf))
      | fail)
  · rintro i ⟨hi, hb⟩
    conv => whnf
    repeat' (first
      | exact trivial
      | (refine ⟨rfl, ?_⟩; (conv => whnf))
      | (refine ⟨fun h => ?_, fun h => ?_⟩ <;> (try simp at h) <;> (try (exfalso; omega)) <;> (conv => whnf))
      | (intro b hb; (conv => whnf))
      | (refine And.intro ?_ ?_; (focus (rw [wrap64 (by omega) (by omega)] <;> rfl)); (conv => whnf))
      | (refine ⟨[i64 l[i]], ?_, map_getI ?_ ?_, rfl, ?_⟩; (focus (first | omega | (rw [wrap64 (by omega) (by omega)] <;> first | omega | rfl) | (simp; omega))); (focus (first | rfl | omega | (rw [wrap64 (by omega) (by omega)] <;> first | omega | rfl))); (focus omega); (conv => whnf))
      | (refine ⟨[i64 l[i]], map_getI ?_ ?_, ?_, ?_, ?_⟩; (focus (first | rfl | omega | (rw [wrap64 (by omega) (by omega)] <;> first | omega | rfl))); (focus omega); (focus (simp; done)); (focus (simp; done)); (conv => whnf))
      | (refine ⟨[i64 l[i]], map_getI ?_ ?_, ?_⟩; (focus (first | rfl | omega | (rw [wrap64 (by omega) (by omega)] <;> first | omega | rfl))); (focus omega); (conv => whnf))
      | (refine And.intro ?_ (And.intro ?_ (And.intro ?_ (And.intro ?_ ?_))); (focus (first | omega | (rw [wrap64 (by omega) (by omega)] <;> first | omega | rfl) | (simp; omega))); (focus (first | omega | (rw [wrap64 (by omega) (by omega)] <;> first | omega | rfl) | (simp; omega))); (focus (first | omega | (rw [wrap64 (by omega) (by omega)] <;> first | omega | rfl) | (simp; omega))); (focus ((repeat' (first | exact sz_nil | exact sz_map fun _ => rfl | apply sz_take | apply sz_drop | apply sz_append | apply sz_cons rfl)); done)); (conv => whnf))
      | (refine And.intro ?_ (And.intro ?_ ?_); (focus (first | omega | (rw [wrap64 (by omega) (by omega)] <;> first | omega | rfl) | (simp; omega))); (focus ((repeat' (first | exact sz_nil | exact sz_map fun _ => rfl | apply sz_take | apply sz_drop | apply sz_append | apply sz_cons rfl)); done)); (conv => whnf))
      | (refine And.intro ?_ (And.intro ?_ ?_); (focus (first | omega | (rw [wrap64 (by omega) (by omega)] <;> first | omega | rfl) | (simp; omega))); (focus (first | omega | (rw [wrap64 (by omega) (by omega)] <;> first | omega | rfl) | (simp; omega))); (conv => whnf))
      | (refine ⟨i + 1, ?_, ?_, wk_sound (ψ := []) ?_⟩; (focus (refine ⟨by omega, ?_⟩; rw [List.take_succ_eq_append_getElem (by assumption)]; intro hm; rcases List.mem_append.1 hm with hm | hm; exact hb hm; simp at hm; exact absurd hm.symm (by assumption))); (focus (first | omega | (rw [wrap64 (by omega) (by omega)] <;> first | omega | rfl) | (simp; omega))); (conv => whnf); (fail_if_success show False))
      | (refine And.intro ?_ ?_; (focus (first | (have e : i = l.length := (by omega); subst e; rw [List.take_length] at hb; simp [hb]; done) | (refine congrArg AV.bool ?_; have hm := List.getElem_mem (l := l) (n := i) (by assumption); simp_all; done))); (conv => whnf))
      | (rw [beq_g]; (conv => whnf))
      | fail)
def terms (l : List Atom) : List Int := l.flatMap (·.terms)
def putAll (l : List Int) : List Int := l.foldl put []
def pos (l : List Int) : List Int := l.filter fun t => decide (0 ≤ t)
def vars (l : List Atom) : List Int := putAll (pos (terms l))
theorem putAll_snoc (l : List Int) (x : Int) : putAll (l ++ [x]) = put (putAll l) x := by simp [putAll]
theorem foldPut_length : ∀ (l acc : List Int), (l.foldl put acc).length ≤ acc.length + l.length
  | [], acc => by simp
  | x :: l, acc => by
    have h1 := foldPut_length l (put acc x)
    have h2 := put_length acc x
    simp only [List.foldl_cons, List.length_cons]
    omega
theorem putAll_length (l : List Int) : (putAll l).length ≤ l.length := by simpa [putAll] using foldPut_length l []
theorem pos_snoc (l : List Int) (x : Int) : pos (l ++ [x]) = if 0 ≤ x then pos l ++ [x] else pos l := by
  simp only [pos, List.filter_append, List.filter_cons, List.filter_nil]
  by_cases h : 0 ≤ x <;> simp [h]
theorem pos_length (l : List Int) : (pos l).length ≤ l.length := List.length_filter_le _ _
theorem take_snoc {α : Type} {l : List α} {i : Nat} (h : i < l.length) : l.take (i + 1) = l.take i ++ [l[i]] := List.take_succ_eq_append_getElem h
theorem terms_snoc {l : List Atom} {i : Nat} (h : i < l.length) : terms (l.take (i + 1)) = terms (l.take i) ++ l[i].terms := by
  rw [take_snoc h]; simp only [terms, List.flatMap_append, List.flatMap_cons, List.flatMap_nil, List.append_nil]
theorem terms_le {l : List Atom} {i k : Nat} (h : i < l.length) : (terms (l.take i) ++ l[i].terms.take k).length ≤ (terms l).length := by
  have h1 : terms l = terms (l.take (i + 1)) ++ terms (l.drop (i + 1)) := by
    simp only [terms, ← List.flatMap_append, List.take_append_drop]
  rw [h1, terms_snoc h]
  simp
  omega
def H77 : List (Nat × Hint) := [(0, ⟨[], [2]⟩), (1, ⟨[], [6]⟩), (3, ⟨[], [7, 8, 9]⟩), (4, ⟨[], [11, 12]⟩), (6, ⟨[], [13, 14, 15, 16, 17, 18, 19]⟩), (7, ⟨[], [21, 22]⟩), (8, ⟨[], [23, 24, 25, 26, 27, 28, 29, 30]⟩), (9, ⟨[], [32, 33, 34, 35, 36, 37, 38, 39, 40, 41]⟩), (10, ⟨[], [3, 42]⟩)]
set_option maxHeartbeats 4000000 in
set_option maxRecDepth 100000 in
theorem ct_sVariables (l : List Atom) (hn : (terms l).length ≤ 1000000) : Ct Tryz.prog 77 [sl (.row (l.map Atom.av))] [] (sl (ints (vars l))) [] [] := by
  refine ct_of_vc mixed tab_ok H77 Tryz.func77 rfl (by kernel_rfl) (by kernel_rfl) (by rfl) ?_
  intro hw _
  have hl : l.length ≤ 1125899906842624 := Wf.lenM (hw _ (.head _))
  have hle : ∀ a ∈ l, a.terms.length ≤ 1125899906842624 := fun a ha => Wf.lenI (Wf.elem (hw _ (.head _)) a.av (List.mem_map_of_mem ha) (ints a.terms) (by simp [Atom.av]))
  clear hw
  conv => whnf
  refine loop_rule mixed tab_ok H77 (I := Nat) (fun i => [(.slot 4, iv i), (.slot 0, .s (sl (.row (l.map Atom.av)))), (.slot 3, .s (sl (ints (putAll (pos (terms (l.take i)))))))]) (fun i => i ≤ l.length) (fun i => l.length - i) (by kernel_rfl) 0 (by omega) (wk_sound (ψ := []) ?_) ?_
  · conv => whnf
    repeat' (first
      | exact trivial
      | (refine ⟨rfl, ?_⟩; (conv => whnf))
      | (refine ⟨fun h => ?_, fun h => ?_⟩ <;> (try simp at h) <;> (try (exfalso; omega)) <;> (conv => whnf))
      | (intro b hb; (conv => whnf))
      | (refine And.intro ?_ ?_; (focus (rw [wrap64 (by omega) (by omega)] <;> rfl)); (conv => whnf))
      | (refine And.intro ?_ (And.intro ?_ (And.intro ?_ (And.intro ?_ ?_))); (focus (first | omega | (rw [wrap64 (by omega) (by omega)] <;> first | omega | rfl) | (simp; omega))); (focus (first | omega | (rw [wrap64 (by omega) (by omega)] <;> first | omega | rfl) | (simp; omega))); (focus (first | omega | (rw [wrap64 (by omega) (by omega)] <;> first | omega | rfl) | (simp; omega))); (focus ((repeat' (first | exact sz_nil | exact sz_map fun _ => rfl | apply sz_take | apply sz_drop | apply sz_append | apply sz_cons rfl)); done)); (conv => whnf))
      | (refine And.intro ?_ (And.intro ?_ ?_); (focus (first | omega | (rw [wrap64 (by omega) (by omega)] <;> first | omega | rfl) | (simp; omega))); (focus ((repeat' (first | exact sz_nil | exact sz_map fun _ => rfl | apply sz_take | apply sz_drop | apply sz_append | apply sz_cons rfl)); done)); (conv => whnf))
      | (refine And.intro ?_ (And.intro ?_ ?_); (focus (first | omega | (rw [wrap64 (by omega) (by omega)] <;> first | omega | rfl) | (simp; omega))); (focus (first | omega | (rw [wrap64 (by omega) (by omega)] <;> first | omega | rfl) | (simp; omega))); (conv => whnf))
      | (rw [beq_g]; (conv => whnf))
      | fail)
  · intro i hi
    conv => whnf
    repeat' (first
      | exact trivial
      | (refine ⟨rfl, ?_⟩; (conv => whnf))
      | (refine ⟨fun h => ?_, fun h => ?_⟩ <;> (try simp at h) <;> (try (exfalso; omega)) <;> (conv => whnf))
      | (intro b hb; (conv => whnf))
      | (refine And.intro ?_ ?_; (focus (rw [wrap64 (by omega) (by omega)] <;> rfl)); (conv => whnf))
      | (refine And.intro ?_ (And.intro ?_ (And.intro ?_ (And.intro ?_ ?_))); (focus (first | omega | (rw [wrap64 (by omega) (by omega)] <;> first | omega | rfl) | (simp; omega))); (focus (first | omega | (rw [wrap64 (by omega) (by omega)] <;> first | omega | rfl) | (simp; omega))); (focus (first | omega | (rw [wrap64 (by omega) (by omega)] <;> first | omega | rfl) | (simp; omega))); (focus ((repeat' (first | exact sz_nil | exact sz_map fun _ => rfl | apply sz_take | apply sz_drop | apply sz_append | apply sz_cons rfl)); done)); (conv => whnf))
      | (refine And.intro ?_ (And.intro ?_ ?_); (focus (first | omega | (rw [wrap64 (by omega) (by omega)] <;> first | omega | rfl) | (simp; omega))); (focus ((repeat' (first | exact sz_nil | exact sz_map fun _ => rfl | apply sz_take | apply sz_drop | apply sz_append | apply sz_cons rfl)); done)); (conv => whnf))
      | (refine And.intro ?_ (And.intro ?_ ?_); (focus (first | omega | (rw [wrap64 (by omega) (by omega)] <;> first | omega | rfl) | (simp; omega))); (focus (first | omega | (rw [wrap64 (by omega) (by omega)] <;> first | omega | rfl) | (simp; omega))); (conv => whnf))
      | (refine And.intro ?_ ?_; (focus ((have e : i = l.length := (by omega); subst e; rw [List.take_length]; rfl))); (conv => whnf))
      | (rw [beq_g]; (conv => whnf))
      | fail)
    have hlt := h
    clear h
    have hb := hle l[i] (List.getElem_mem hlt)
    refine loop_rule mixed tab_ok H77 (I := Nat) (fun k => [(.slot 5, iv k), (.slot 4, iv i), (.slot 0, .s (sl (.row (l.map Atom.av)))), (.slot 3, .s (sl (ints (putAll (pos (terms (l.take i) ++ l[i].terms.take k))))))]) (fun k => k ≤ l[i].terms.length) (fun k => l[i].terms.length - k) (by kernel_rfl) 0 (by omega) (wk_sound (ψ := []) ?_) ?_
    · conv => whnf
      repeat' (first
        | exact trivial
        | (refine ⟨rfl, ?_⟩; (conv => whnf))
        | (refine ⟨fun h => ?_, fun h => ?_⟩ <;> (try simp at h) <;> (try (exfalso; omega)) <;> (conv => whnf))
        | (intro b hb; (conv => whnf))
        | (refine And.intro ?_ ?_; (focus (rw [wrap64 (by omega) (by omega)] <;> rfl)); (conv => whnf))
        | (refine And.intro ?_ (And.intro ?_ (And.intro ?_ (And.intro ?_ ?_))); (focus (first | omega | (rw [wrap64 (by omega) (by omega)] <;> first | omega | rfl) | (simp; omega))); (focus (first | omega | (rw [wrap64 (by omega) (by omega)] <;> first | omega | rfl) | (simp; omega))); (focus (first | omega | (rw [wrap64 (by omega) (by omega)] <;> first | omega | rfl) | (simp; omega))); (focus ((repeat' (first | exact sz_nil | exact sz_map fun _ => rfl | apply sz_take | apply sz_drop | apply sz_append | apply sz_cons rfl)); done)); (conv => whnf))
        | (refine And.intro ?_ (And.intro ?_ ?_); (focus (first | omega | (rw [wrap64 (by omega) (by omega)] <;> first | omega | rfl) | (simp; omega))); (focus ((repeat' (first | exact sz_nil | exact sz_map fun _ => rfl | apply sz_take | apply sz_drop | apply sz_append | apply sz_cons rfl)); done)); (conv => whnf))
        | (refine And.intro ?_ (And.intro ?_ ?_); (focus (first | omega | (rw [wrap64 (by omega) (by omega)] <;> first | omega | rfl) | (simp; omega))); (focus (first | omega | (rw [wrap64 (by omega) (by omega)] <;> first | omega | rfl) | (simp; omega))); (conv => whnf))
        | (refine And.intro ?_ ?_; (focus (simp)); (conv => whnf))
        | (rw [beq_g]; (conv => whnf))
        | fail)
    · intro k hk
      have h1 := putAll_length (pos (terms (l.take i) ++ l[i].terms.take k))
      have h2 := pos_length (terms (l.take i) ++ l[i].terms.take k)
      have h3 := terms_le (k := k) hlt
      conv => whnf
      repeat' (first
        | exact trivial
        | (refine ⟨rfl, ?_⟩; (conv => whnf))
        | (refine ⟨fun h => ?_, fun h => ?_⟩ <;> (try simp at h) <;> (try (exfalso; omega)) <;> (conv => whnf))
        | (intro b hb; (conv => whnf))
        | (refine .inl ?_; (conv => whnf); first | (refine ⟨_, _, _, _, ct_l4Put _ _ (by omega), ?_⟩; (conv => whnf)) | fail)
        | (refine And.intro ?_ ?_; (focus (rw [wrap64 (by omega) (by omega)] <;> rfl)); (conv => whnf))
        | (refine ⟨l[i].av, ?_, map_getI ?_ ?_, rfl, ?_⟩; (focus (first | omega | (rw [wrap64 (by omega) (by omega)] <;> first | omega | rfl) | (simp; omega))); (focus (first | rfl | omega | (rw [wrap64 (by omega) (by omega)] <;> first | omega | rfl))); (focus omega); (conv => whnf))
        | (refine ⟨l[i].av, map_getI ?_ ?_, ?_, ?_, ?_⟩; (focus (first | rfl | omega | (rw [wrap64 (by omega) (by omega)] <;> first | omega | rfl))); (focus omega); (focus (simp; done)); (focus (simp; done)); (conv => whnf))
        | (refine ⟨l[i].av, map_getI ?_ ?_, ?_⟩; (focus (first | rfl | omega | (rw [wrap64 (by omega) (by omega)] <;> first | omega | rfl))); (focus omega); (conv => whnf))
        | (refine ⟨[i64 l[i].terms[k]], ?_, map_getI ?_ ?_, rfl, ?_⟩; (focus (first | omega | (rw [wrap64 (by omega) (by omega)] <;> first | omega | rfl) | (simp; omega))); (focus (first | rfl | omega | (rw [wrap64 (by omega) (by omega)] <;> first | omega | rfl))); (focus omega); (conv => whnf))
        | (refine ⟨[i64 l[i].terms[k]], map_getI ?_ ?_, ?_, ?_, ?_⟩; (focus (first | rfl | omega | (rw [wrap64 (by omega) (by omega)] <;> first | omega | rfl))); (focus omega); (focus (simp; done)); (focus (simp; done)); (conv => whnf))
        | (refine ⟨[i64 l[i].terms[k]], map_getI ?_ ?_, ?_⟩; (focus (first | rfl | omega | (rw [wrap64 (by omega) (by omega)] <;> first | omega | rfl))); (focus omega); (conv => whnf))
        | (refine And.intro ?_ (And.intro ?_ (And.intro ?_ (And.intro ?_ ?_))); (focus (first | omega | (rw [wrap64 (by omega) (by omega)] <;> first | omega | rfl) | (simp; omega))); (focus (first | omega | (rw [wrap64 (by omega) (by omega)] <;> first | omega | rfl) | (simp; omega))); (focus (first | omega | (rw [wrap64 (by omega) (by omega)] <;> first | omega | rfl) | (simp; omega))); (focus ((repeat' (first | exact sz_nil | exact sz_map fun _ => rfl | apply sz_take | apply sz_drop | apply sz_append | apply sz_cons rfl)); done)); (conv => whnf))
        | (refine And.intro ?_ (And.intro ?_ ?_); (focus (first | omega | (rw [wrap64 (by omega) (by omega)] <;> first | omega | rfl) | (simp; omega))); (focus ((repeat' (first | exact sz_nil | exact sz_map fun _ => rfl | apply sz_take | apply sz_drop | apply sz_append | apply sz_cons rfl)); done)); (conv => whnf))
        | (refine And.intro ?_ (And.intro ?_ ?_); (focus (first | omega | (rw [wrap64 (by omega) (by omega)] <;> first | omega | rfl) | (simp; omega))); (focus (first | omega | (rw [wrap64 (by omega) (by omega)] <;> first | omega | rfl) | (simp; omega))); (conv => whnf))
        | (refine ⟨k + 1, ?_, ?_, wk_sound (ψ := []) ?_⟩; (focus (omega)); (focus (first | omega | (rw [wrap64 (by omega) (by omega)] <;> first | omega | rfl) | (simp; omega))); (conv => whnf); (fail_if_success show False))
        | (refine ⟨i + 1, ?_, ?_, wk_sound (ψ := []) ?_⟩; (focus (omega)); (focus (first | omega | (rw [wrap64 (by omega) (by omega)] <;> first | omega | rfl) | (simp; omega))); (conv => whnf); (fail_if_success show False))
        | (refine And.intro ?_ ?_; (focus (refine congrArg ints ?_; first | (rw [take_snoc (by assumption), ← List.append_assoc, pos_snoc, if_pos (by assumption), putAll_snoc]; done) | (rw [take_snoc (by assumption), ← List.append_assoc, pos_snoc, if_neg (by omega)]; done) | (have e := List.take_of_length_le (l := l[i].terms) (i := k) (by omega); rw [terms_snoc hlt, e]; done))); (conv => whnf))
        | (rw [beq_g]; (conv => whnf))
        | fail)
end Go.Proofs.YtccbimcikbbecaaGreat
/- Relations that are valid. -/
namespace Go.Proofs.YtccbimcikbbecaaGreat
open Go P1
def validRel (r : Relation) : Bool := match r.name with
  | [c] => decide (97 ≤ c.toNat) && decide (c.toNat ≤ 122) && inR r.arity 1 3
  | _ => false
theorem validRel_one {r : Relation} {c : UInt8} (h : r.name = [c]) : validRel r = (decide (97 ≤ c.toNat) && decide (c.toNat ≤ 122) && inR r.arity 1 3) := by simp [validRel, h]
theorem validRel_not {r : Relation} (h : ¬ r.name.length = 1) : validRel r = false := by
  unfold validRel
  split
  · rename_i hh; rw [hh] at h; simp at h
  · rfl
def H144 : List (Nat × Hint) := [(0, ⟨[], [0, 2]⟩), (1, ⟨[(false, []), (false, []), (false, []), (false, []), (true, []), (false, []), (false, []), (false, []), (false, []), (false, []), (true, []), (false, []), (false, []), (false, []), (false, []), (false, []), (true, []), (false, []), (false, []), (false, []), (false, []), (false, [])], [1, 3, 4, 5, 6, 7, 8, 9, 10, 11, 12, 13, 14, 15, 16, 17, 18, 19, 20, 21, 22, 23]⟩)]
set_option maxHeartbeats 4000000 in
set_option maxRecDepth 100000 in
theorem ct_sIsValidRelation (r : Relation) : Ct Tryz.prog 144 [ag r.av] [] (sl (.bool (validRel r))) [] [] := by
  refine ct_of_vc mixed tab_ok H144 Tryz.func144 rfl (by kernel_rfl) (by kernel_rfl) (by rfl) ?_
  intro hw _
  conv => whnf
  refine ⟨fun h => ?_, fun h => ?_⟩
  · obtain ⟨c, hc⟩ := List.length_eq_one_iff.1 (show r.name.length = 1 by simp at h; omega)
    rw [validRel_one hc]
    conv => whnf
    refine ⟨c, by omega, by rw [hc]; rfl, ?_⟩
    conv => whnf
    refine ⟨fun h1 => ?_, fun h1 => ?_⟩
    · conv => whnf
      refine ⟨c, by omega, by rw [hc]; rfl, ?_⟩
      conv => whnf
      repeat' (first
        | exact trivial
        | (refine ⟨rfl, ?_⟩; (conv => whnf))
        | (refine ⟨fun h => ?_, fun h => ?_⟩ <;> (try simp at h) <;> (try (exfalso; omega)) <;> (conv => whnf))
        | (intro b hb; (conv => whnf))
        | (refine .inl ?_; (conv => whnf); first | (refine ⟨_, _, _, _, ct_l1In r.arity 1 3, ?_⟩; (conv => whnf)) | fail)
        | (refine And.intro ?_ ?_; (focus (rw [wrap64 (by omega) (by omega)] <;> rfl)); (conv => whnf))
        | (refine And.intro ?_ (And.intro ?_ (And.intro ?_ (And.intro ?_ ?_))); (focus (first | omega | (rw [wrap64 (by omega) (by omega)] <;> first | omega | rfl) | (simp; omega))); (focus (first | omega | (rw [wrap64 (by omega) (by omega)] <;> first | omega | rfl) | (simp; omega))); (focus (first | omega | (rw [wrap64 (by omega) (by omega)] <;> first | omega | rfl) | (simp; omega))); (focus ((repeat' (first | exact sz_nil | exact sz_map fun _ => rfl | apply sz_take | apply sz_drop | apply sz_append | apply sz_cons rfl)); done)); (conv => whnf))
        | (refine And.intro ?_ (And.intro ?_ ?_); (focus (first | omega | (rw [wrap64 (by omega) (by omega)] <;> first | omega | rfl) | (simp; omega))); (focus ((repeat' (first | exact sz_nil | exact sz_map fun _ => rfl | apply sz_take | apply sz_drop | apply sz_append | apply sz_cons rfl)); done)); (conv => whnf))
        | (refine And.intro ?_ (And.intro ?_ ?_); (focus (first | omega | (rw [wrap64 (by omega) (by omega)] <;> first | omega | rfl) | (simp; omega))); (focus (first | omega | (rw [wrap64 (by omega) (by omega)] <;> first | omega | rfl) | (simp; omega))); (conv => whnf))
        | (refine And.intro ?_ ?_; (focus (clear hw; simp at h1 ⊢; first | omega | (intro _; omega))); (conv => whnf))
        | (rw [beq_g]; (conv => whnf))
        | fail)
    · conv => whnf
      repeat' (first
        | exact trivial
        | (refine ⟨rfl, ?_⟩; (conv => whnf))
        | (refine ⟨fun h => ?_, fun h => ?_⟩ <;> (try simp at h) <;> (try (exfalso; omega)) <;> (conv => whnf))
        | (intro b hb; (conv => whnf))
        | (refine And.intro ?_ ?_; (focus (rw [wrap64 (by omega) (by omega)] <;> rfl)); (conv => whnf))
        | (refine And.intro ?_ (And.intro ?_ (And.intro ?_ (And.intro ?_ ?_))); (focus (first | omega | (rw [wrap64 (by omega) (by omega)] <;> first | omega | rfl) | (simp; omega))); (focus (first | omega | (rw [wrap64 (by omega) (by omega)] <;> first | omega | rfl) | (simp; omega))); (focus (first | omega | (rw [wrap64 (by omega) (by omega)] <;> first | omega | rfl) | (simp; omega))); (focus ((repeat' (first | exact sz_nil | exact sz_map fun _ => rfl | apply sz_take | apply sz_drop | apply sz_append | apply sz_cons rfl)); done)); (conv => whnf))
        | (refine And.intro ?_ (And.intro ?_ ?_); (focus (first | omega | (rw [wrap64 (by omega) (by omega)] <;> first | omega | rfl) | (simp; omega))); (focus ((repeat' (first | exact sz_nil | exact sz_map fun _ => rfl | apply sz_take | apply sz_drop | apply sz_append | apply sz_cons rfl)); done)); (conv => whnf))
        | (refine And.intro ?_ (And.intro ?_ ?_); (focus (first | omega | (rw [wrap64 (by omega) (by omega)] <;> first | omega | rfl) | (simp; omega))); (focus (first | omega | (rw [wrap64 (by omega) (by omega)] <;> first | omega | rfl) | (simp; omega))); (conv => whnf))
        | (refine And.intro ?_ ?_; (focus (clear hw; simp at h1 ⊢; omega)); (conv => whnf))
        | (rw [beq_g]; (conv => whnf))
        | fail)
  · rw [validRel_not (by simp at h; omega)]
    conv => whnf
    refine ⟨rfl, ?_⟩
    conv => whnf
    trivial
theorem less_one (a b : UInt8) : Op.bytesLess [a] [b] = decide (a.toNat < b.toNat) := by
  simp [Op.bytesLess, UInt8.lt_iff_toNat_lt]
theorem beq_one (a b : UInt8) : (([a] : List UInt8) == [b]) = decide (a.toNat = b.toNat) := by
  rw [Bool.eq_iff_iff]; simp [UInt8.toNat_inj]
def H145 : List (Nat × Hint) := [(0, ⟨[], [0, 2]⟩), (1, ⟨[(false, []), (false, []), (false, []), (false, []), (true, []), (false, []), (false, []), (false, []), (false, []), (true, []), (false, []), (false, []), (false, []), (false, []), (true, []), (false, []), (false, []), (false, []), (false, []), (false, [])], [1, 3, 4, 5, 6, 7, 8, 9, 10, 11, 12, 13, 14, 15, 16, 17, 18, 19, 20, 21]⟩)]
set_option maxHeartbeats 4000000 in
set_option maxRecDepth 100000 in
theorem ct_iIsValidRelation (r : Relation) : Ct Tryz.prog 145 [ag r.av] [] (sl (.bool (validRel r))) [] [] := by
  refine ct_of_vc mixed tab_ok H145 Tryz.func145 rfl (by kernel_rfl) (by kernel_rfl) (by rfl) ?_
  intro hw _
  conv => whnf
  refine ⟨fun h => ?_, fun h => ?_⟩
  · obtain ⟨c, hc⟩ := List.length_eq_one_iff.1 (show r.name.length = 1 by simp at h; omega)
    rw [validRel_one hc]
    clear hw
    conv => whnf
    repeat' (first
      | exact trivial
      | (refine ⟨rfl, ?_⟩; (conv => whnf))
      | (refine ⟨fun h => ?_, fun h => ?_⟩ <;> (try simp at h) <;> (try (exfalso; omega)) <;> (conv => whnf))
      | (intro b hb; (conv => whnf))
      | (refine .inl ?_; (conv => whnf); first | (refine ⟨_, _, _, _, ct_within r.arity 1 3, ?_⟩; (conv => whnf)) | fail)
      | (refine And.intro ?_ ?_; (focus (rw [wrap64 (by omega) (by omega)] <;> rfl)); (conv => whnf))
      | (refine And.intro ?_ (And.intro ?_ (And.intro ?_ (And.intro ?_ ?_))); (focus (first | omega | (rw [wrap64 (by omega) (by omega)] <;> first | omega | rfl) | (simp; omega))); (focus (first | omega | (rw [wrap64 (by omega) (by omega)] <;> first | omega | rfl) | (simp; omega))); (focus (first | omega | (rw [wrap64 (by omega) (by omega)] <;> first | omega | rfl) | (simp; omega))); (focus ((repeat' (first | exact sz_nil | exact sz_map fun _ => rfl | apply sz_take | apply sz_drop | apply sz_append | apply sz_cons rfl)); done)); (conv => whnf))
      | (refine And.intro ?_ (And.intro ?_ ?_); (focus (first | omega | (rw [wrap64 (by omega) (by omega)] <;> first | omega | rfl) | (simp; omega))); (focus ((repeat' (first | exact sz_nil | exact sz_map fun _ => rfl | apply sz_take | apply sz_drop | apply sz_append | apply sz_cons rfl)); done)); (conv => whnf))
      | (refine And.intro ?_ (And.intro ?_ ?_); (focus (first | omega | (rw [wrap64 (by omega) (by omega)] <;> first | omega | rfl) | (simp; omega))); (focus (first | omega | (rw [wrap64 (by omega) (by omega)] <;> first | omega | rfl) | (simp; omega))); (conv => whnf))
      | (refine And.intro ?_ ?_; (focus (refine congrArg AV.bool ?_; generalize inR r.arity 1 3 = z; cases z <;> simp [hc, less_one, ← UInt8.toNat_inj] at * <;> omega)); (conv => whnf))
      | (rw [beq_g]; (conv => whnf))
      | fail)
  · rw [validRel_not (by simp at h; omega)]
    conv => whnf
    refine ⟨rfl, ?_⟩
    conv => whnf
    trivial
theorem less_not : ∀ (a b : List UInt8), (Op.bytesLess a b || a == b) = !Op.bytesLess b a
  | [], [] => by simp [Op.bytesLess]
  | [], _ :: _ => by simp [Op.bytesLess]
  | _ :: _, [] => by simp [Op.bytesLess]
  | x :: a, y :: b => by
    have ih := less_not a b
    simp only [Op.bytesLess]
    by_cases h : x = y
    · subst h
      have h1 : ¬ x < x := UInt8.lt_irrefl x
      simp only [h1, decide_false, Bool.false_or, beq_self_eq_true, Bool.true_and]
      rw [← ih]
      simp
    · have h2 : (x == y) = false := by simpa using h
      have h3 : (y == x) = false := by simpa using fun e => h e.symm
      have h4 : ((x :: a) == (y :: b)) = false := by simp [h]
      simp only [h2, h3, h4, Bool.false_and, Bool.or_false]
      by_cases h5 : x < y
      · simp [h5, UInt8.lt_asymm h5]
      · have : y < x := by
          rw [UInt8.lt_iff_toNat_lt] at h5 ⊢
          have : x.toNat ≠ y.toNat := fun e => h (UInt8.toNat_inj.1 e)
          omega
        simp [h5, this]
theorem less_of_or {a b : List UInt8} (h : Op.bytesLess a b = true ∨ a = b) : Op.bytesLess b a = false := by
  have := less_not a b
  have h1 : (Op.bytesLess a b || a == b) = true := by rcases h with h | h <;> simp [h]
  rw [h1] at this
  simpa using this.symm
theorem less_of_not {a b : List UInt8} (h : Op.bytesLess a b = false ∧ ¬ a = b) : Op.bytesLess b a = true := by
  have := less_not a b
  have h1 : (Op.bytesLess a b || a == b) = false := by simp [h.1, h.2]
  rw [h1] at this
  simpa using this.symm
def okAt (l : List Relation) (j : Nat) : Bool := match l[j]? with
  | some r => validRel r && match j with
    | 0 => true
    | k + 1 => match l[k]? with
      | some p => Op.bytesLess p.name r.name
      | none => false
  | none => false
def validRels (l : List Relation) : Bool := (List.range l.length).all (okAt l) && decide (l.length ≤ 6)
theorem validRels_not {l : List Relation} {i : Nat} (hi : i < l.length) (h : okAt l i = false) : validRels l = false := by
  simp only [validRels, Bool.and_eq_false_iff]
  refine .inl ?_
  rw [List.all_eq_false]
  exact ⟨i, by simpa using hi, by simp [h]⟩
theorem validRels_end {l : List Relation} (h : ∀ j, j < l.length → okAt l j = true) : validRels l = decide (l.length ≤ 6) := by
  have : (List.range l.length).all (okAt l) = true := by
    rw [List.all_eq_true]; intro j hj; exact h j (by simpa using hj)
  simp [validRels, this]
theorem okAt_bad {l : List Relation} {i : Nat} (h : i < l.length) (hv : validRel (l[i]'h) = false) : okAt l i = false := by
  simp only [okAt, List.getElem?_eq_getElem h, hv, Bool.false_and]
theorem okAt_zero {l : List Relation} {i : Nat} (h : i < l.length) (h0 : i = 0) (hv : validRel (l[i]'h) = true) : okAt l i = true := by
  subst h0
  simp only [okAt, List.getElem?_eq_getElem h, hv, Bool.true_and]
theorem okAt_pos {l : List Relation} {i : Nat} (h : i < l.length) (h0 : 0 < i) (hv : validRel (l[i]'h) = true) : okAt l i = Op.bytesLess (l[i - 1]'(by omega)).name (l[i]'h).name := by
  obtain ⟨k, rfl⟩ : ∃ k, i = k + 1 := ⟨i - 1, by omega⟩
  have hk : k < l.length := by omega
  simp only [okAt, List.getElem?_eq_getElem h, List.getElem?_eq_getElem hk, hv, Bool.true_and]
  rfl
theorem okAt_next {l : List Relation} {i : Nat} (h : i < l.length) (hv : validRel (l[i]'h) = true) (hb : i = 0 ∨ (0 < i ∧ Op.bytesLess (l[i - 1]'(by omega)).name (l[i]'h).name = true)) (hok : ∀ j, j < i → okAt l j = true) : i + 1 ≤ l.length ∧ ∀ j, j < i + 1 → okAt l j = true := by
  refine ⟨h, fun j hj => ?_⟩
  rcases Nat.lt_or_ge j i with hj' | hj'
  · exact hok j hj'
  · obtain rfl : j = i := by omega
    rcases hb with hb | ⟨hb, hc⟩
    · exact okAt_zero h hb hv
    · rw [okAt_pos h hb hv]; exact hc
def H108 : List (Nat × Hint) := [(0, ⟨[], [2]⟩), (2, ⟨[], [4, 5, 6]⟩), (3, ⟨[], [8, 9]⟩), (4, ⟨[(false, []), (false, [0]), (false, []), (false, []), (false, []), (false, []), (true, []), (false, []), (false, []), (true, []), (false, []), (false, [0]), (false, [1]), (false, []), (false, []), (false, []), (false, [0, 1, 2, 3, 4, 5]), (false, [0, 1, 2, 3, 4, 5, 6]), (false, [2, 3, 4, 5, 6, 7]), (false, [3, 4, 5, 6, 7, 8]), (false, [4, 5, 6, 7, 8, 9]), (false, []), (false, []), (false, [])], [10, 11, 12, 13, 14, 15, 16, 17, 18, 19, 20, 21, 22, 23, 24, 25, 26, 27, 28, 29, 30, 31, 32]⟩), (6, ⟨[], [0, 34, 35, 36]⟩)]
set_option maxHeartbeats 4000000 in
set_option maxRecDepth 100000 in
theorem ct_sAreValidRelations (l : List Relation) : Ct Tryz.prog 108 [sl (.row (l.map Relation.av))] [] (sl (.bool (validRels l))) [] [] := by
  refine ct_of_vc mixed tab_ok H108 Tryz.func108 rfl (by kernel_rfl) (by kernel_rfl) (by rfl) ?_
  intro hw _
  have hl : l.length ≤ 1125899906842624 := Wf.lenM (hw _ (.head _))
  clear hw
  conv => whnf
  refine loop_rule mixed tab_ok H108 (I := Nat) (fun i => [(.slot 3, iv i), (.slot 0, .s (sl (.row (l.map Relation.av))))]) (fun i => i ≤ l.length ∧ ∀ j, j < i → okAt l j = true) (fun i => l.length - i) (by kernel_rfl) 0 ⟨by omega, fun j hj => by omega⟩ (wk_sound (ψ := []) ?_) ?_
  · conv => whnf
    repeat' (first
      | exact trivial
      | (refine ⟨rfl, ?_⟩; (conv => whnf))
      | (refine ⟨fun h => ?_, fun h => ?_⟩ <;> (try simp at h) <;> (try (exfalso; omega)) <;> (conv => whnf))
      | (intro b hb; (conv => whnf))
      | (refine And.intro ?_ ?_; (focus (rw [wrap64 (by omega) (by omega)] <;> rfl)); (conv => whnf))
      | (refine And.intro ?_ (And.intro ?_ (And.intro ?_ (And.intro ?_ ?_))); (focus (first | omega | (rw [wrap64 (by omega) (by omega)] <;> first | omega | rfl) | (simp; omega))); (focus (first | omega | (rw [wrap64 (by omega) (by omega)] <;> first | omega | rfl) | (simp; omega))); (focus (first | omega | (rw [wrap64 (by omega) (by omega)] <;> first | omega | rfl) | (simp; omega))); (focus ((repeat' (first | exact sz_nil | exact sz_map fun _ => rfl | apply sz_take | apply sz_drop | apply sz_append | apply sz_cons rfl)); done)); (conv => whnf))
      | (refine And.intro ?_ (And.intro ?_ ?_); (focus (first | omega | (rw [wrap64 (by omega) (by omega)] <;> first | omega | rfl) | (simp; omega))); (focus ((repeat' (first | exact sz_nil | exact sz_map fun _ => rfl | apply sz_take | apply sz_drop | apply sz_append | apply sz_cons rfl)); done)); (conv => whnf))
      | (refine And.intro ?_ (And.intro ?_ ?_); (focus (first | omega | (rw [wrap64 (by omega) (by omega)] <;> first | omega | rfl) | (simp; omega))); (focus (first | omega | (rw [wrap64 (by omega) (by omega)] <;> first | omega | rfl) | (simp; omega))); (conv => whnf))
      | (rw [beq_g]; (conv => whnf))
      | fail)
  · rintro i ⟨hi, hok⟩
    conv => whnf
    repeat' (first
      | exact trivial
      | (refine ⟨rfl, ?_⟩; (conv => whnf))
      | (refine ⟨fun h => ?_, fun h => ?_⟩ <;> (try simp at h) <;> (try (exfalso; omega)) <;> (conv => whnf))
      | (intro b hb; (conv => whnf))
      | (refine .inl ?_; (conv => whnf); first | (refine ⟨_, _, _, _, ct_sIsValidRelation _, ?_⟩; (conv => whnf)) | fail)
      | (refine And.intro ?_ ?_; (focus (rw [wrap64 (by omega) (by omega)] <;> rfl)); (conv => whnf))
      | (refine ⟨l[i].av, ?_, map_getI ?_ ?_, rfl, ?_⟩; (focus (first | omega | (rw [wrap64 (by omega) (by omega)] <;> first | omega | rfl) | (simp; omega))); (focus (first | rfl | omega | (rw [wrap64 (by omega) (by omega)] <;> first | omega | rfl))); (focus omega); (conv => whnf))
      | (refine ⟨l[i].av, map_getI ?_ ?_, ?_, ?_, ?_⟩; (focus (first | rfl | omega | (rw [wrap64 (by omega) (by omega)] <;> first | omega | rfl))); (focus omega); (focus (simp; done)); (focus (simp; done)); (conv => whnf))
      | (refine ⟨l[i].av, map_getI ?_ ?_, ?_⟩; (focus (first | rfl | omega | (rw [wrap64 (by omega) (by omega)] <;> first | omega | rfl))); (focus omega); (conv => whnf))
      | (refine ⟨l[i - 1].av, ?_, map_getI ?_ ?_, rfl, ?_⟩; (focus (first | omega | (rw [wrap64 (by omega) (by omega)] <;> first | omega | rfl) | (simp; omega))); (focus (first | rfl | omega | (rw [wrap64 (by omega) (by omega)] <;> first | omega | rfl))); (focus omega); (conv => whnf))
      | (refine ⟨l[i - 1].av, map_getI ?_ ?_, ?_, ?_, ?_⟩; (focus (first | rfl | omega | (rw [wrap64 (by omega) (by omega)] <;> first | omega | rfl))); (focus omega); (focus (simp; done)); (focus (simp; done)); (conv => whnf))
      | (refine ⟨l[i - 1].av, map_getI ?_ ?_, ?_⟩; (focus (first | rfl | omega | (rw [wrap64 (by omega) (by omega)] <;> first | omega | rfl))); (focus omega); (conv => whnf))
      | (refine And.intro ?_ (And.intro ?_ (And.intro ?_ (And.intro ?_ ?_))); (focus (first | omega | (rw [wrap64 (by omega) (by omega)] <;> first | omega | rfl) | (simp; omega))); (focus (first | omega | (rw [wrap64 (by omega) (by omega)] <;> first | omega | rfl) | (simp; omega))); (focus (first | omega | (rw [wrap64 (by omega) (by omega)] <;> first | omega | rfl) | (simp; omega))); (focus ((repeat' (first | exact sz_nil | exact sz_map fun _ => rfl | apply sz_take | apply sz_drop | apply sz_append | apply sz_cons rfl)); done)); (conv => whnf))
      | (refine And.intro ?_ (And.intro ?_ ?_); (focus (first | omega | (rw [wrap64 (by omega) (by omega)] <;> first | omega | rfl) | (simp; omega))); (focus ((repeat' (first | exact sz_nil | exact sz_map fun _ => rfl | apply sz_take | apply sz_drop | apply sz_append | apply sz_cons rfl)); done)); (conv => whnf))
      | (refine And.intro ?_ (And.intro ?_ ?_); (focus (first | omega | (rw [wrap64 (by omega) (by omega)] <;> first | omega | rfl) | (simp; omega))); (focus (first | omega | (rw [wrap64 (by omega) (by omega)] <;> first | omega | rfl) | (simp; omega))); (conv => whnf))
      | (refine ⟨i + 1, ?_, ?_, wk_sound (ψ := []) ?_⟩; (focus (exact okAt_next (by assumption) (by assumption) (by first | exact .inl (by assumption) | exact .inr ⟨by assumption, by simp_all⟩) hok)); (focus (first | omega | (rw [wrap64 (by omega) (by omega)] <;> first | omega | rfl) | (simp; omega))); (conv => whnf); (fail_if_success show False))
      | (refine And.intro ?_ ?_; (focus (first | (have e : i = l.length := (by omega); subst e; rw [validRels_end hok]; refine congrArg AV.bool (decide_eq_decide.2 ?_); simp; omega) | (rw [validRels_not (by assumption) (okAt_bad (by assumption) (by assumption))]; done) | (rw [validRels_not (i := i) (by assumption) (by rw [okAt_pos (by assumption) (by assumption) (by assumption)]; simp_all)]; done))); (conv => whnf))
      | (rw [beq_g]; (conv => whnf))
      | fail)
def H111 : List (Nat × Hint) := [(0, ⟨[], [2]⟩), (3, ⟨[], [9, 10, 11]⟩), (4, ⟨[(false, []), (false, []), (false, []), (true, []), (false, []), (false, []), (true, []), (false, []), (false, []), (false, [0, 1]), (false, [0, 1, 2]), (false, [1, 2, 3]), (false, [3, 4]), (false, [4, 5]), (false, [5, 6]), (false, []), (false, []), (false, [])], [3, 4, 12, 13, 14, 15, 16, 17, 18, 19, 20, 21, 22, 23, 24, 25, 26, 27, 28]⟩), (6, ⟨[], [30]⟩), (7, ⟨[], [0, 31, 32, 33]⟩)]
set_option maxHeartbeats 4000000 in
set_option maxRecDepth 100000 in
theorem ct_iAreValidRelations (l : List Relation) : Ct Tryz.prog 111 [sl (.row (l.map Relation.av))] [] (sl (.bool (validRels l))) [] [] := by
  refine ct_of_vc mixed tab_ok H111 Tryz.func111 rfl (by kernel_rfl) (by kernel_rfl) (by rfl) ?_
  intro hw _
  have hl : l.length ≤ 1125899906842624 := Wf.lenM (hw _ (.head _))
  clear hw
  conv => whnf
  refine loop_rule mixed tab_ok H111 (I := Nat) (fun i => [(.slot 7, iv i), (.slot 6, iv l.length), (.slot 5, .s (sl (.row (l.map Relation.av)))), (.slot 0, .s (sl (.row (l.map Relation.av))))]) (fun i => i ≤ l.length ∧ ∀ j, j < i → okAt l j = true) (fun i => l.length - i) (by kernel_rfl) 0 ⟨by omega, fun j hj => by omega⟩ (wk_sound (ψ := []) ?_) ?_
  · conv => whnf
    repeat' (first
      | exact trivial
      | (refine ⟨rfl, ?_⟩; (conv => whnf))
      | (refine ⟨fun h => ?_, fun h => ?_⟩ <;> (try simp at h) <;> (try (exfalso; omega)) <;> (conv => whnf))
      | (intro b hb; (conv => whnf))
      | (refine And.intro ?_ ?_; (focus (rw [wrap64 (by omega) (by omega)] <;> rfl)); (conv => whnf))
      | (refine And.intro ?_ (And.intro ?_ (And.intro ?_ (And.intro ?_ ?_))); (focus (first | omega | (rw [wrap64 (by omega) (by omega)] <;> first | omega | rfl) | (simp; omega))); (focus (first | omega | (rw [wrap64 (by omega) (by omega)] <;> first | omega | rfl) | (simp; omega))); (focus (first | omega | (rw [wrap64 (by omega) (by omega)] <;> first | omega | rfl) | (simp; omega))); (focus ((repeat' (first | exact sz_nil | exact sz_map fun _ => rfl | apply sz_take | apply sz_drop | apply sz_append | apply sz_cons rfl)); done)); (conv => whnf))
      | (refine And.intro ?_ (And.intro ?_ ?_); (focus (first | omega | (rw [wrap64 (by omega) (by omega)] <;> first | omega | rfl) | (simp; omega))); (focus ((repeat' (first | exact sz_nil | exact sz_map fun _ => rfl | apply sz_take | apply sz_drop | apply sz_append | apply sz_cons rfl)); done)); (conv => whnf))
      | (refine And.intro ?_ (And.intro ?_ ?_); (focus (first | omega | (rw [wrap64 (by omega) (by omega)] <;> first | omega | rfl) | (simp; omega))); (focus (first | omega | (rw [wrap64 (by omega) (by omega)] <;> first | omega | rfl) | (simp; omega))); (conv => whnf))
      | (refine And.intro ?_ ?_; (focus (simp)); (conv => whnf))
      | (rw [beq_g]; (conv => whnf))
      | fail)
  · rintro i ⟨hi, hok⟩
    conv => whnf
    repeat' (first
      | exact trivial
      | (refine ⟨rfl, ?_⟩; (conv => whnf))
      | (refine ⟨fun h => ?_, fun h => ?_⟩ <;> (try simp at h) <;> (try (exfalso; omega)) <;> (conv => whnf))
      | (intro b hb; (conv => whnf))
      | (refine .inl ?_; (conv => whnf); first | (refine ⟨_, _, _, _, ct_iIsValidRelation _, ?_⟩; (conv => whnf)) | fail)
      | (refine And.intro ?_ ?_; (focus (rw [wrap64 (by omega) (by omega)] <;> rfl)); (conv => whnf))
      | (refine ⟨l[i].av, ?_, map_getI ?_ ?_, rfl, ?_⟩; (focus (first | omega | (rw [wrap64 (by omega) (by omega)] <;> first | omega | rfl) | (simp; omega))); (focus (first | rfl | omega | (rw [wrap64 (by omega) (by omega)] <;> first | omega | rfl))); (focus omega); (conv => whnf))
      | (refine ⟨l[i].av, map_getI ?_ ?_, ?_, ?_, ?_⟩; (focus (first | rfl | omega | (rw [wrap64 (by omega) (by omega)] <;> first | omega | rfl))); (focus omega); (focus (simp; done)); (focus (simp; done)); (conv => whnf))
      | (refine ⟨l[i].av, map_getI ?_ ?_, ?_⟩; (focus (first | rfl | omega | (rw [wrap64 (by omega) (by omega)] <;> first | omega | rfl))); (focus omega); (conv => whnf))
      | (refine ⟨l[i - 1].av, ?_, map_getI ?_ ?_, rfl, ?_⟩; (focus (first | omega | (rw [wrap64 (by omega) (by omega)] <;> first | omega | rfl) | (simp; omega))); (focus (first | rfl | omega | (rw [wrap64 (by omega) (by omega)] <;> first | omega | rfl))); (focus omega); (conv => whnf))
      | (refine ⟨l[i - 1].av, map_getI ?_ ?_, ?_, ?_, ?_⟩; (focus (first | rfl | omega | (rw [wrap64 (by omega) (by omega)] <;> first | omega | rfl))); (focus omega); (focus (simp; done)); (focus (simp; done)); (conv => whnf))
      | (refine ⟨l[i - 1].av, map_getI ?_ ?_, ?_⟩; (focus (first | rfl | omega | (rw [wrap64 (by omega) (by omega)] <;> first | omega | rfl))); (focus omega); (conv => whnf))
      | (refine And.intro ?_ (And.intro ?_ (And.intro ?_ (And.intro ?_ ?_))); (focus (first | omega | (rw [wrap64 (by omega) (by omega)] <;> first | omega | rfl) | (simp; omega))); (focus (first | omega | (rw [wrap64 (by omega) (by omega)] <;> first | omega | rfl) | (simp; omega))); (focus (first | omega | (rw [wrap64 (by omega) (by omega)] <;> first | omega | rfl) | (simp; omega))); (focus ((repeat' (first | exact sz_nil | exact sz_map fun _ => rfl | apply sz_take | apply sz_drop | apply sz_append | apply sz_cons rfl)); done)); (conv => whnf))
      | (refine And.intro ?_ (And.intro ?_ ?_); (focus (first | omega | (rw [wrap64 (by omega) (by omega)] <;> first | omega | rfl) | (simp; omega))); (focus ((repeat' (first | exact sz_nil | exact sz_map fun _ => rfl | apply sz_take | apply sz_drop | apply sz_append | apply sz_cons rfl)); done)); (conv => whnf))
      | (refine And.intro ?_ (And.intro ?_ ?_); (focus (first | omega | (rw [wrap64 (by omega) (by omega)] <;> first | omega | rfl) | (simp; omega))); (focus (first | omega | (rw [wrap64 (by omega) (by omega)] <;> first | omega | rfl) | (simp; omega))); (conv => whnf))
      | (refine ⟨i + 1, ?_, ?_, wk_sound (ψ := []) ?_⟩; (focus (exact okAt_next (by assumption) (by assumption) (by first | exact .inl (by assumption) | exact .inr ⟨by assumption, less_of_not (by assumption)⟩) hok)); (focus (first | omega | (rw [wrap64 (by omega) (by omega)] <;> first | omega | rfl) | (simp; omega))); (conv => whnf); (fail_if_success show False))
      | (refine And.intro ?_ ?_; (focus (first | (have e : i = l.length := (by omega); subst e; rw [validRels_end hok]; refine congrArg AV.bool (decide_eq_decide.2 ?_); simp; omega) | (rw [validRels_not (by assumption) (okAt_bad (by assumption) (by assumption))]; done) | (rw [validRels_not (i := i) (by assumption) (by rw [okAt_pos (by assumption) (by assumption) (by assumption)]; exact less_of_or (by assumption))]; done))); (conv => whnf))
      | (rw [beq_g]; (conv => whnf))
      | fail)
end Go.Proofs.YtccbimcikbbecaaGreat
