/-
  No cell of these rows narrows 'for every input' (looked for: loops, veiled, ifaces, maps, wideKeys, modest, calm, conditions, laid).
  DERIVED. THE GIVEN ROWS OF THIS SEAT. 6 by the template 'for every input the law returns true; each argument reads behind the call as it read before'; 0 by the template 'total and deterministic' (their statements: YtacfjmjcgolhfaaTotals.lean).
  GIVEN WITH THE SEED: the statements are not yours to turn. If you find one false, say at which input.
  Laid BY PROGRAM, IN A SANDBOX (cutbox-rows.mjs): the forced cells as the released guide's own fill.sh prints them over the translation 7958836b02ddfc78… (all of the seat's roots in one cut). By AI agents, Wed Nov 11 2026. No macro, syntax, notation, axiom, sorry.
-/
import Derived.Test.YtacfjmjcgolhfaaChecked
import GoSem.Claim
import GoSem.ClaimJoined
import GoSem.ClaimMapViews
import Derived.JoinedTies
import Derived.KernelRfl
namespace Go.Proofs.Ytacfjmjcgolhfaa
/- THE CELL 'sum', in the pinned program and in every row, IS THE sha256 OF THE DUMP (.gsa) THAT YtacfjmjcgolhfaaProg.lean LOADS. Nothing in Lean hashes anything: it is a label: what it is worth is what the hold of that sum in a sandbox is worth. -/
noncomputable def Try.pinned : Pinned := { name := "ytacfjmjcgolhfaa", sum := "7958836b02ddfc7873c712f9723a2bf5faf9362e148f4ad9b79ddd2b4c062d7b", checked := Try.checked }
namespace Rows
def none {H : Type} : Left H := { results := [], args := [] }

/-- 'pawllaw12.SparePuts': WHATEVER THE INPUT: true; the input reads as it did. -/
def sparePutsSpec : ChangeSpec := { name := "sparePuts", fn := fun _ => fun
  | [d1, d2, d3] => { results := [.lit (.bool true)], args := [d1, d2, d3] }
  | _ => none }
def sparePutsRow : OpenClaim := { program := "ytacfjmjcgolhfaa", sum := "7958836b02ddfc7873c712f9723a2bf5faf9362e148f4ad9b79ddd2b4c062d7b", func := "pawl/pawllaw12.SparePuts", spec := "sparePuts", plainKeys := false, apart := false }
def SparePutsSaid : Prop := sparePutsRow.holds Try.pinned (OpenSpec.ofChange sparePutsSpec)

/-- ITS FALSE NEIGHBOUR: 'it returns false'. Refute it at one input. -/
def sparePutsWrong : ChangeSpec := { name := "sparePuts", fn := fun _ => fun
  | [d1, d2, d3] => { results := [.lit (.bool false)], args := [d1, d2, d3] }
  | _ => none }
def SparePutsWrongFalsely : Prop := sparePutsRow.holds Try.pinned (OpenSpec.ofChange sparePutsWrong)

/-- 'pawllaw12.SpareFroms': WHATEVER THE INPUT: true; the input reads as it did. -/
def spareFromsSpec : ChangeSpec := { name := "spareFroms", fn := fun _ => fun
  | [d1, d2] => { results := [.lit (.bool true)], args := [d1, d2] }
  | _ => none }
def spareFromsRow : OpenClaim := { program := "ytacfjmjcgolhfaa", sum := "7958836b02ddfc7873c712f9723a2bf5faf9362e148f4ad9b79ddd2b4c062d7b", func := "pawl/pawllaw12.SpareFroms", spec := "spareFroms", plainKeys := false, apart := false }
def SpareFromsSaid : Prop := spareFromsRow.holds Try.pinned (OpenSpec.ofChange spareFromsSpec)

/-- ITS FALSE NEIGHBOUR: 'it returns false'. Refute it at one input. -/
def spareFromsWrong : ChangeSpec := { name := "spareFroms", fn := fun _ => fun
  | [d1, d2] => { results := [.lit (.bool false)], args := [d1, d2] }
  | _ => none }
def SpareFromsWrongFalsely : Prop := spareFromsRow.holds Try.pinned (OpenSpec.ofChange spareFromsWrong)

/-- 'pawllaw12.SpareTaken': WHATEVER THE INPUT: true; the input reads as it did. -/
def spareTakenSpec : ChangeSpec := { name := "spareTaken", fn := fun _ => fun
  | [d1, d2, d3, d4] => { results := [.lit (.bool true)], args := [d1, d2, d3, d4] }
  | _ => none }
def spareTakenRow : OpenClaim := { program := "ytacfjmjcgolhfaa", sum := "7958836b02ddfc7873c712f9723a2bf5faf9362e148f4ad9b79ddd2b4c062d7b", func := "pawl/pawllaw12.SpareTaken", spec := "spareTaken", unfollowed := true, recurses := true, plainKeys := false, apart := false }
def SpareTakenSaid : Prop := spareTakenRow.holds Try.pinned (OpenSpec.ofChange spareTakenSpec)

/-- ITS FALSE NEIGHBOUR: 'it returns false'. Refute it at one input. -/
def spareTakenWrong : ChangeSpec := { name := "spareTaken", fn := fun _ => fun
  | [d1, d2, d3, d4] => { results := [.lit (.bool false)], args := [d1, d2, d3, d4] }
  | _ => none }
def SpareTakenWrongFalsely : Prop := spareTakenRow.holds Try.pinned (OpenSpec.ofChange spareTakenWrong)

/-- 'pawllaw12.SpareBound': WHATEVER THE INPUT: true; the input reads as it did. -/
def spareBoundSpec : ChangeSpec := { name := "spareBound", fn := fun _ => fun
  | [d1, d2] => { results := [.lit (.bool true)], args := [d1, d2] }
  | _ => none }
def spareBoundRow : OpenClaim := { program := "ytacfjmjcgolhfaa", sum := "7958836b02ddfc7873c712f9723a2bf5faf9362e148f4ad9b79ddd2b4c062d7b", func := "pawl/pawllaw12.SpareBound", spec := "spareBound", unfollowed := true, recurses := true, plainKeys := false, apart := false }
def SpareBoundSaid : Prop := spareBoundRow.holds Try.pinned (OpenSpec.ofChange spareBoundSpec)

/-- ITS FALSE NEIGHBOUR: 'it returns false'. Refute it at one input. -/
def spareBoundWrong : ChangeSpec := { name := "spareBound", fn := fun _ => fun
  | [d1, d2] => { results := [.lit (.bool false)], args := [d1, d2] }
  | _ => none }
def SpareBoundWrongFalsely : Prop := spareBoundRow.holds Try.pinned (OpenSpec.ofChange spareBoundWrong)

/-- 'pawllaw12.SpareAgain': WHATEVER THE INPUT: true; the input reads as it did. -/
def spareAgainSpec : ChangeSpec := { name := "spareAgain", fn := fun _ => fun
  | [d1, d2, d3] => { results := [.lit (.bool true)], args := [d1, d2, d3] }
  | _ => none }
def spareAgainRow : OpenClaim := { program := "ytacfjmjcgolhfaa", sum := "7958836b02ddfc7873c712f9723a2bf5faf9362e148f4ad9b79ddd2b4c062d7b", func := "pawl/pawllaw12.SpareAgain", spec := "spareAgain", inPlace := ["maps.clone"], unfollowed := true, recurses := true, plainKeys := false, apart := false }
def SpareAgainSaid : Prop := spareAgainRow.holds Try.pinned (OpenSpec.ofChange spareAgainSpec)

/-- ITS FALSE NEIGHBOUR: 'it returns false'. Refute it at one input. -/
def spareAgainWrong : ChangeSpec := { name := "spareAgain", fn := fun _ => fun
  | [d1, d2, d3] => { results := [.lit (.bool false)], args := [d1, d2, d3] }
  | _ => none }
def SpareAgainWrongFalsely : Prop := spareAgainRow.holds Try.pinned (OpenSpec.ofChange spareAgainWrong)

/-- 'pawllaw12.SpareExact': WHATEVER THE INPUT: true; the input reads as it did. -/
def spareExactSpec : ChangeSpec := { name := "spareExact", fn := fun _ => fun
  | [d1, d2] => { results := [.lit (.bool true)], args := [d1, d2] }
  | _ => none }
def spareExactRow : OpenClaim := { program := "ytacfjmjcgolhfaa", sum := "7958836b02ddfc7873c712f9723a2bf5faf9362e148f4ad9b79ddd2b4c062d7b", func := "pawl/pawllaw12.SpareExact", spec := "spareExact", inPlace := ["maps.clone"], unfollowed := true, recurses := true, plainKeys := false, apart := false }
def SpareExactSaid : Prop := spareExactRow.holds Try.pinned (OpenSpec.ofChange spareExactSpec)

/-- ITS FALSE NEIGHBOUR: 'it returns false'. Refute it at one input. -/
def spareExactWrong : ChangeSpec := { name := "spareExact", fn := fun _ => fun
  | [d1, d2] => { results := [.lit (.bool false)], args := [d1, d2] }
  | _ => none }
def SpareExactWrongFalsely : Prop := spareExactRow.holds Try.pinned (OpenSpec.ofChange spareExactWrong)

/- THE SECOND FORM. 'bulk': how many values and letters a reading holds, each counted each time it is reached (what is shared counts as often as it is met; a slice's spare places count too). A statement '..UptoSaid' is the law's where the arguments, and the package variables that the reading takes, are together of bulk at most 1048576: NARROWER than '..Said'. Prove '..Said' where nothing that the law and all that it calls make is longer than what came in: it says more and counts as full. Else prove '..UptoSaid'. A law counts once. -/
mutual
def uptoBulk {H : Type} : DataW H → Nat
  | .lit (.string bytes) => bytes.length + 1
  | .lit _ => 1
  | .nil => 1
  | .ptr d => uptoBulk d + 1
  | .slice elems spare => uptoBulkAll elems + uptoBulkAll spare + 1
  | .agg parts => uptoBulkAll parts + 1
  | .iface _ d => uptoBulk d + 1
  | .map entries => uptoBulkEntries entries + 1
  | .held _ => 1
def uptoBulkAll {H : Type} : List (DataW H) → Nat
  | [] => 0
  | d :: r => uptoBulk d + uptoBulkAll r
def uptoBulkEntries {H : Type} : List (Lit × DataW H) → Nat
  | [] => 0
  | x :: r => uptoBulkEntry x + uptoBulkEntries r
def uptoBulkEntry {H : Type} : Lit × DataW H → Nat
  | (.string bytes, d) => bytes.length + uptoBulk d + 1
  | (_, d) => uptoBulk d + 1
 end
def uptoSmall : (H : Type) → List (DataW H) → Bool := fun _ ds => decide (uptoBulkAll ds ≤ 1048576)
def OpenSpec.upto (s : _root_.Go.ChangeSpec) : _root_.Go.OpenSpec := { _root_.Go.OpenSpec.ofChange s with cond := some uptoSmall }

/-- 'pawllaw12.SparePuts', WHERE WHAT IT READS IS OF BULK AT MOST 1048576: true; the input reads as it did. -/
def sparePutsUptoRow : OpenClaim := { program := "ytacfjmjcgolhfaa", sum := "7958836b02ddfc7873c712f9723a2bf5faf9362e148f4ad9b79ddd2b4c062d7b", func := "pawl/pawllaw12.SparePuts", spec := "sparePuts", plainKeys := false, apart := false, narrowed := true }
def SparePutsUptoSaid : Prop := sparePutsUptoRow.holds Try.pinned (OpenSpec.upto sparePutsSpec)

/-- 'pawllaw12.SpareFroms', WHERE WHAT IT READS IS OF BULK AT MOST 1048576: true; the input reads as it did. -/
def spareFromsUptoRow : OpenClaim := { program := "ytacfjmjcgolhfaa", sum := "7958836b02ddfc7873c712f9723a2bf5faf9362e148f4ad9b79ddd2b4c062d7b", func := "pawl/pawllaw12.SpareFroms", spec := "spareFroms", plainKeys := false, apart := false, narrowed := true }
def SpareFromsUptoSaid : Prop := spareFromsUptoRow.holds Try.pinned (OpenSpec.upto spareFromsSpec)

/-- 'pawllaw12.SpareTaken', WHERE WHAT IT READS IS OF BULK AT MOST 1048576: true; the input reads as it did. -/
def spareTakenUptoRow : OpenClaim := { program := "ytacfjmjcgolhfaa", sum := "7958836b02ddfc7873c712f9723a2bf5faf9362e148f4ad9b79ddd2b4c062d7b", func := "pawl/pawllaw12.SpareTaken", spec := "spareTaken", unfollowed := true, recurses := true, plainKeys := false, apart := false, narrowed := true }
def SpareTakenUptoSaid : Prop := spareTakenUptoRow.holds Try.pinned (OpenSpec.upto spareTakenSpec)

/-- 'pawllaw12.SpareBound', WHERE WHAT IT READS IS OF BULK AT MOST 1048576: true; the input reads as it did. -/
def spareBoundUptoRow : OpenClaim := { program := "ytacfjmjcgolhfaa", sum := "7958836b02ddfc7873c712f9723a2bf5faf9362e148f4ad9b79ddd2b4c062d7b", func := "pawl/pawllaw12.SpareBound", spec := "spareBound", unfollowed := true, recurses := true, plainKeys := false, apart := false, narrowed := true }
def SpareBoundUptoSaid : Prop := spareBoundUptoRow.holds Try.pinned (OpenSpec.upto spareBoundSpec)

/-- 'pawllaw12.SpareAgain', WHERE WHAT IT READS IS OF BULK AT MOST 1048576: true; the input reads as it did. -/
def spareAgainUptoRow : OpenClaim := { program := "ytacfjmjcgolhfaa", sum := "7958836b02ddfc7873c712f9723a2bf5faf9362e148f4ad9b79ddd2b4c062d7b", func := "pawl/pawllaw12.SpareAgain", spec := "spareAgain", inPlace := ["maps.clone"], unfollowed := true, recurses := true, plainKeys := false, apart := false, narrowed := true }
def SpareAgainUptoSaid : Prop := spareAgainUptoRow.holds Try.pinned (OpenSpec.upto spareAgainSpec)

/-- 'pawllaw12.SpareExact', WHERE WHAT IT READS IS OF BULK AT MOST 1048576: true; the input reads as it did. -/
def spareExactUptoRow : OpenClaim := { program := "ytacfjmjcgolhfaa", sum := "7958836b02ddfc7873c712f9723a2bf5faf9362e148f4ad9b79ddd2b4c062d7b", func := "pawl/pawllaw12.SpareExact", spec := "spareExact", inPlace := ["maps.clone"], unfollowed := true, recurses := true, plainKeys := false, apart := false, narrowed := true }
def SpareExactUptoSaid : Prop := spareExactUptoRow.holds Try.pinned (OpenSpec.upto spareExactSpec)

end Rows
end Go.Proofs.Ytacfjmjcgolhfaa
