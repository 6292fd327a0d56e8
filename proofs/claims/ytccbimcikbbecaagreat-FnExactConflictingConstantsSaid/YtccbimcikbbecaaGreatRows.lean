/-
  No cell of these rows narrows 'for every input' (looked for: loops, veiled, ifaces, maps, wideKeys, modest, calm, conditions, laid).
  DERIVED. THE GIVEN ROWS OF THIS SEAT. 4 by the template 'for every input the law returns true; each argument reads behind the call as it read before'; 0 by the template 'total and deterministic' (their statements: YtccbimcikbbecaaGreatTotals.lean).
  GIVEN WITH THE SEED: the statements are not yours to turn. If you find one false, say at which input.
  Laid BY PROGRAM, IN A SANDBOX (cutbox-rows.mjs): the forced cells as the released guide's own fill.sh prints them over the translation b5df344f66a0ede6… (all of the seat's roots in one cut). By AI agents, Wed Nov 11 2026. No macro, syntax, notation, axiom, sorry.
-/
import Derived.Test.YtccbimcikbbecaaGreatChecked
import GoSem.Claim
import GoSem.ClaimJoined
import GoSem.ClaimMapViews
import Derived.JoinedTies
import Derived.KernelRfl
namespace Go.Proofs.YtccbimcikbbecaaGreat
/- THE CELL 'sum', in the pinned program and in every row, IS THE sha256 OF THE DUMP (.gsa) THAT YtccbimcikbbecaaGreatProg.lean LOADS. Nothing in Lean hashes anything: it is a label: what it is worth is what the hold of that sum in a sandbox is worth. -/
noncomputable def Tryz.pinned : Pinned := { name := "ytccbimcikbbecaagreat", sum := "b5df344f66a0ede66cf086c206fb809ab4c82bb715334a2ba0b0f2729cfe7741", checked := Tryz.checked }
namespace Rows
def none {H : Type} : Left H := { results := [], args := [] }

/-- 'laws.FnExactUnfold': WHATEVER THE INPUT: true; the input reads as it did. -/
def fnExactUnfoldSpec : ChangeSpec := { name := "fnExactUnfold", fn := fun _ => fun
  | [d1, d2, d3] => { results := [.lit (.bool true)], args := [d1, d2, d3] }
  | _ => none }
def fnExactUnfoldRow : OpenClaim := { program := "ytccbimcikbbecaagreat", sum := "b5df344f66a0ede66cf086c206fb809ab4c82bb715334a2ba0b0f2729cfe7741", func := "loop.example/g01919/laws.FnExactUnfold", spec := "fnExactUnfold", unfollowed := true, recurses := true, apart := false }
def FnExactUnfoldSaid : Prop := fnExactUnfoldRow.holds Tryz.pinned (OpenSpec.ofChange fnExactUnfoldSpec)

/-- ITS FALSE NEIGHBOUR: 'it returns false'. Refute it at one input. -/
def fnExactUnfoldWrong : ChangeSpec := { name := "fnExactUnfold", fn := fun _ => fun
  | [d1, d2, d3] => { results := [.lit (.bool false)], args := [d1, d2, d3] }
  | _ => none }
def FnExactUnfoldWrongFalsely : Prop := fnExactUnfoldRow.holds Tryz.pinned (OpenSpec.ofChange fnExactUnfoldWrong)

/-- 'laws.FnExactIsFailureProof': WHATEVER THE INPUT: true; the input reads as it did. -/
def fnExactIsFailureProofSpec : ChangeSpec := { name := "fnExactIsFailureProof", fn := fun _ => fun
  | [d1, d2, d3] => { results := [.lit (.bool true)], args := [d1, d2, d3] }
  | _ => none }
def fnExactIsFailureProofRow : OpenClaim := { program := "ytccbimcikbbecaagreat", sum := "b5df344f66a0ede66cf086c206fb809ab4c82bb715334a2ba0b0f2729cfe7741", func := "loop.example/g01919/laws.FnExactIsFailureProof", spec := "fnExactIsFailureProof", unfollowed := true, recurses := true, apart := false }
def FnExactIsFailureProofSaid : Prop := fnExactIsFailureProofRow.holds Tryz.pinned (OpenSpec.ofChange fnExactIsFailureProofSpec)

/-- ITS FALSE NEIGHBOUR: 'it returns false'. Refute it at one input. -/
def fnExactIsFailureProofWrong : ChangeSpec := { name := "fnExactIsFailureProof", fn := fun _ => fun
  | [d1, d2, d3] => { results := [.lit (.bool false)], args := [d1, d2, d3] }
  | _ => none }
def FnExactIsFailureProofWrongFalsely : Prop := fnExactIsFailureProofRow.holds Tryz.pinned (OpenSpec.ofChange fnExactIsFailureProofWrong)

/-- 'laws.FnExactConflictingConstants': WHATEVER THE INPUT: true; the input reads as it did. -/
def fnExactConflictingConstantsSpec : ChangeSpec := { name := "fnExactConflictingConstants", fn := fun _ => fun
  | [d1, d2, d3] => { results := [.lit (.bool true)], args := [d1, d2, d3] }
  | _ => none }
def fnExactConflictingConstantsRow : OpenClaim := { program := "ytccbimcikbbecaagreat", sum := "b5df344f66a0ede66cf086c206fb809ab4c82bb715334a2ba0b0f2729cfe7741", func := "loop.example/g01919/laws.FnExactConflictingConstants", spec := "fnExactConflictingConstants", unfollowed := true, recurses := true, apart := false }
def FnExactConflictingConstantsSaid : Prop := fnExactConflictingConstantsRow.holds Tryz.pinned (OpenSpec.ofChange fnExactConflictingConstantsSpec)

/-- ITS FALSE NEIGHBOUR: 'it returns false'. Refute it at one input. -/
def fnExactConflictingConstantsWrong : ChangeSpec := { name := "fnExactConflictingConstants", fn := fun _ => fun
  | [d1, d2, d3] => { results := [.lit (.bool false)], args := [d1, d2, d3] }
  | _ => none }
def FnExactConflictingConstantsWrongFalsely : Prop := fnExactConflictingConstantsRow.holds Tryz.pinned (OpenSpec.ofChange fnExactConflictingConstantsWrong)

/-- 'laws.FnExactShortenFailureProof': WHATEVER THE INPUT: true; the input reads as it did. -/
def fnExactShortenFailureProofSpec : ChangeSpec := { name := "fnExactShortenFailureProof", fn := fun _ => fun
  | [d1, d2, d3] => { results := [.lit (.bool true)], args := [d1, d2, d3] }
  | _ => none }
def fnExactShortenFailureProofRow : OpenClaim := { program := "ytccbimcikbbecaagreat", sum := "b5df344f66a0ede66cf086c206fb809ab4c82bb715334a2ba0b0f2729cfe7741", func := "loop.example/g01919/laws.FnExactShortenFailureProof", spec := "fnExactShortenFailureProof", unfollowed := true, recurses := true, apart := false }
def FnExactShortenFailureProofSaid : Prop := fnExactShortenFailureProofRow.holds Tryz.pinned (OpenSpec.ofChange fnExactShortenFailureProofSpec)

/-- ITS FALSE NEIGHBOUR: 'it returns false'. Refute it at one input. -/
def fnExactShortenFailureProofWrong : ChangeSpec := { name := "fnExactShortenFailureProof", fn := fun _ => fun
  | [d1, d2, d3] => { results := [.lit (.bool false)], args := [d1, d2, d3] }
  | _ => none }
def FnExactShortenFailureProofWrongFalsely : Prop := fnExactShortenFailureProofRow.holds Tryz.pinned (OpenSpec.ofChange fnExactShortenFailureProofWrong)

/- THE SECOND FORM. 'bulk': how many values and letters a reading holds, each counted each time it is reached (what is shared counts as often as it is met; a slice's spare places count too). A statement '..UptoSaid' is the law's where the arguments, and the package variables that the reading takes, are together of bulk at most 1048576: NARROWER than '..Said'. Prove '..Said' where nothing that the law and all that it calls make is longer than what came in: it says more and counts as full. Else prove '..UptoSaid'. A law counts once. -/
mutual
def uptoBulk {H : Type} : DataW H → Nat
  | .lit (.string bytes) => bytes.length + 1
  | .lit _ => 1
  | .nil => 1
  | .ptr d => uptoBulk d + 1
  | .slice elems spare => uptoBulkAll elems + uptoBulkAll spare + 1
  | .agg parts => uptoBulkAll parts + 1
  | .iface _ d => uptoBulk d + 1
  | .map entries => uptoBulkEntries entries + 1
  | .held _ => 1
def uptoBulkAll {H : Type} : List (DataW H) → Nat
  | [] => 0
  | d :: r => uptoBulk d + uptoBulkAll r
def uptoBulkEntries {H : Type} : List (Lit × DataW H) → Nat
  | [] => 0
  | x :: r => uptoBulkEntry x + uptoBulkEntries r
def uptoBulkEntry {H : Type} : Lit × DataW H → Nat
  | (.string bytes, d) => bytes.length + uptoBulk d + 1
  | (_, d) => uptoBulk d + 1
 end
def uptoSmall : (H : Type) → List (DataW H) → Bool := fun _ ds => decide (uptoBulkAll ds ≤ 1048576)
def OpenSpec.upto (s : _root_.Go.ChangeSpec) : _root_.Go.OpenSpec := { _root_.Go.OpenSpec.ofChange s with cond := some uptoSmall }

/-- 'laws.FnExactUnfold', WHERE WHAT IT READS IS OF BULK AT MOST 1048576: true; the input reads as it did. -/
def fnExactUnfoldUptoRow : OpenClaim := { program := "ytccbimcikbbecaagreat", sum := "b5df344f66a0ede66cf086c206fb809ab4c82bb715334a2ba0b0f2729cfe7741", func := "loop.example/g01919/laws.FnExactUnfold", spec := "fnExactUnfold", unfollowed := true, recurses := true, apart := false, narrowed := true }
def FnExactUnfoldUptoSaid : Prop := fnExactUnfoldUptoRow.holds Tryz.pinned (OpenSpec.upto fnExactUnfoldSpec)

/-- 'laws.FnExactIsFailureProof', WHERE WHAT IT READS IS OF BULK AT MOST 1048576: true; the input reads as it did. -/
def fnExactIsFailureProofUptoRow : OpenClaim := { program := "ytccbimcikbbecaagreat", sum := "b5df344f66a0ede66cf086c206fb809ab4c82bb715334a2ba0b0f2729cfe7741", func := "loop.example/g01919/laws.FnExactIsFailureProof", spec := "fnExactIsFailureProof", unfollowed := true, recurses := true, apart := false, narrowed := true }
def FnExactIsFailureProofUptoSaid : Prop := fnExactIsFailureProofUptoRow.holds Tryz.pinned (OpenSpec.upto fnExactIsFailureProofSpec)

/-- 'laws.FnExactConflictingConstants', WHERE WHAT IT READS IS OF BULK AT MOST 1048576: true; the input reads as it did. -/
def fnExactConflictingConstantsUptoRow : OpenClaim := { program := "ytccbimcikbbecaagreat", sum := "b5df344f66a0ede66cf086c206fb809ab4c82bb715334a2ba0b0f2729cfe7741", func := "loop.example/g01919/laws.FnExactConflictingConstants", spec := "fnExactConflictingConstants", unfollowed := true, recurses := true, apart := false, narrowed := true }
def FnExactConflictingConstantsUptoSaid : Prop := fnExactConflictingConstantsUptoRow.holds Tryz.pinned (OpenSpec.upto fnExactConflictingConstantsSpec)

/-- 'laws.FnExactShortenFailureProof', WHERE WHAT IT READS IS OF BULK AT MOST 1048576: true; the input reads as it did. -/
def fnExactShortenFailureProofUptoRow : OpenClaim := { program := "ytccbimcikbbecaagreat", sum := "b5df344f66a0ede66cf086c206fb809ab4c82bb715334a2ba0b0f2729cfe7741", func := "loop.example/g01919/laws.FnExactShortenFailureProof", spec := "fnExactShortenFailureProof", unfollowed := true, recurses := true, apart := false, narrowed := true }
def FnExactShortenFailureProofUptoSaid : Prop := fnExactShortenFailureProofUptoRow.holds Tryz.pinned (OpenSpec.upto fnExactShortenFailureProofSpec)

end Rows
end Go.Proofs.YtccbimcikbbecaaGreat
