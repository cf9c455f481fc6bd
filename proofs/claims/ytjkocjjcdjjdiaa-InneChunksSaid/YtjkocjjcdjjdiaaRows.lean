/-
  No cell of these rows narrows 'for every input' (looked for: loops, veiled, ifaces, maps, wideKeys, modest, calm, conditions, laid).
  DERIVED. THE GIVEN ROWS OF THIS SEAT. 6 by the template 'for every input the law returns true; each argument reads behind the call as it read before'; 0 by the template 'total and deterministic' (their statements: YtjkocjjcdjjdiaaTotals.lean).
  GIVEN WITH THE SEED: the statements are not yours to turn. If you find one false, say at which input.
  Laid BY PROGRAM, IN A SANDBOX (cutbox-rows.mjs): the forced cells as the released guide's own fill.sh prints them over the translation e1b8453226dc029b… (all of the seat's roots in one cut). By AI agents, Wed Nov 11 2026. No macro, syntax, notation, axiom, sorry.
-/
import Derived.Test.YtjkocjjcdjjdiaaChecked
import GoSem.Claim
import GoSem.ClaimJoined
import GoSem.ClaimMapViews
import Derived.JoinedTies
import Derived.KernelRfl
namespace Go.Proofs.Ytjkocjjcdjjdiaa
/- THE CELL 'sum', in the pinned program and in every row, IS THE sha256 OF THE DUMP (.gsa) THAT YtjkocjjcdjjdiaaProg.lean LOADS. Nothing in Lean hashes anything: it is a label: what it is worth is what the hold of that sum in a sandbox is worth. -/
noncomputable def Try.pinned : Pinned := { name := "ytjkocjjcdjjdiaa", sum := "e1b8453226dc029bf33fae96dbe4baa0fd42cf3f03369fa106b0d72fcb64ee57", checked := Try.checked }
namespace Rows
def none {H : Type} : Left H := { results := [], args := [] }

/-- 'dumbwaiterlaw22.InneWays': WHATEVER THE INPUT: true; the input reads as it did. -/
def inneWaysSpec : ChangeSpec := { name := "inneWays", fn := fun _ => fun
  | [d1, d2, d3] => { results := [.lit (.bool true)], args := [d1, d2, d3] }
  | _ => none }
def inneWaysRow : OpenClaim := { program := "ytjkocjjcdjjdiaa", sum := "e1b8453226dc029bf33fae96dbe4baa0fd42cf3f03369fa106b0d72fcb64ee57", func := "dumbwaiter/dumbwaiterlaw22.InneWays", spec := "inneWays", inPlace := ["internal/bytealg.Compare", "slices.overlaps[[]byte]", "slices.overlaps[int]", "math.Float64frombits", "math.Float64bits"], unfollowed := true, recurses := true, apart := false }
def InneWaysSaid : Prop := inneWaysRow.holds Try.pinned (OpenSpec.ofChange inneWaysSpec)

/-- ITS FALSE NEIGHBOUR: 'it returns false'. Refute it at one input. -/
def inneWaysWrong : ChangeSpec := { name := "inneWays", fn := fun _ => fun
  | [d1, d2, d3] => { results := [.lit (.bool false)], args := [d1, d2, d3] }
  | _ => none }
def InneWaysWrongFalsely : Prop := inneWaysRow.holds Try.pinned (OpenSpec.ofChange inneWaysWrong)

/-- 'dumbwaiterlaw22.InneGrows': WHATEVER THE INPUT: true; the input reads as it did. -/
def inneGrowsSpec : ChangeSpec := { name := "inneGrows", fn := fun _ => fun
  | [d1, d2, d3] => { results := [.lit (.bool true)], args := [d1, d2, d3] }
  | _ => none }
def inneGrowsRow : OpenClaim := { program := "ytjkocjjcdjjdiaa", sum := "e1b8453226dc029bf33fae96dbe4baa0fd42cf3f03369fa106b0d72fcb64ee57", func := "dumbwaiter/dumbwaiterlaw22.InneGrows", spec := "inneGrows", inPlace := ["math.Float64frombits", "math.Float64bits", "internal/bytealg.Compare", "slices.overlaps[[]byte]", "slices.overlaps[int]"], unfollowed := true, recurses := true, apart := false }
def InneGrowsSaid : Prop := inneGrowsRow.holds Try.pinned (OpenSpec.ofChange inneGrowsSpec)

/-- ITS FALSE NEIGHBOUR: 'it returns false'. Refute it at one input. -/
def inneGrowsWrong : ChangeSpec := { name := "inneGrows", fn := fun _ => fun
  | [d1, d2, d3] => { results := [.lit (.bool false)], args := [d1, d2, d3] }
  | _ => none }
def InneGrowsWrongFalsely : Prop := inneGrowsRow.holds Try.pinned (OpenSpec.ofChange inneGrowsWrong)

/-- 'dumbwaiterlaw22.InneChunks': WHATEVER THE INPUT: true; the input reads as it did. -/
def inneChunksSpec : ChangeSpec := { name := "inneChunks", fn := fun _ => fun
  | [d1, d2, d3] => { results := [.lit (.bool true)], args := [d1, d2, d3] }
  | _ => none }
def inneChunksRow : OpenClaim := { program := "ytjkocjjcdjjdiaa", sum := "e1b8453226dc029bf33fae96dbe4baa0fd42cf3f03369fa106b0d72fcb64ee57", func := "dumbwaiter/dumbwaiterlaw22.InneChunks", spec := "inneChunks", inPlace := ["math.Float64frombits", "math.Float64bits", "internal/bytealg.Compare", "slices.overlaps[[]byte]", "slices.overlaps[int]"], unfollowed := true, recurses := true, apart := false }
def InneChunksSaid : Prop := inneChunksRow.holds Try.pinned (OpenSpec.ofChange inneChunksSpec)

/-- ITS FALSE NEIGHBOUR: 'it returns false'. Refute it at one input. -/
def inneChunksWrong : ChangeSpec := { name := "inneChunks", fn := fun _ => fun
  | [d1, d2, d3] => { results := [.lit (.bool false)], args := [d1, d2, d3] }
  | _ => none }
def InneChunksWrongFalsely : Prop := inneChunksRow.holds Try.pinned (OpenSpec.ofChange inneChunksWrong)

/-- 'dumbwaiterlaw22.InneTells': WHATEVER THE INPUT: true; the input reads as it did. -/
def inneTellsSpec : ChangeSpec := { name := "inneTells", fn := fun _ => fun
  | [d1, d2, d3, d4, d5] => { results := [.lit (.bool true)], args := [d1, d2, d3, d4, d5] }
  | _ => none }
def inneTellsRow : OpenClaim := { program := "ytjkocjjcdjjdiaa", sum := "e1b8453226dc029bf33fae96dbe4baa0fd42cf3f03369fa106b0d72fcb64ee57", func := "dumbwaiter/dumbwaiterlaw22.InneTells", spec := "inneTells", inPlace := ["internal/bytealg.Compare", "slices.overlaps[[]byte]", "slices.overlaps[int]", "math.Float64frombits", "math.Float64bits"], unfollowed := true, recurses := true, apart := false }
def InneTellsSaid : Prop := inneTellsRow.holds Try.pinned (OpenSpec.ofChange inneTellsSpec)

/-- ITS FALSE NEIGHBOUR: 'it returns false'. Refute it at one input. -/
def inneTellsWrong : ChangeSpec := { name := "inneTells", fn := fun _ => fun
  | [d1, d2, d3, d4, d5] => { results := [.lit (.bool false)], args := [d1, d2, d3, d4, d5] }
  | _ => none }
def InneTellsWrongFalsely : Prop := inneTellsRow.holds Try.pinned (OpenSpec.ofChange inneTellsWrong)

/-- 'dumbwaiterlaw22.InneParts': WHATEVER THE INPUT: true; the input reads as it did. -/
def innePartsSpec : ChangeSpec := { name := "inneParts", fn := fun _ => fun
  | [d1, d2] => { results := [.lit (.bool true)], args := [d1, d2] }
  | _ => none }
def innePartsRow : OpenClaim := { program := "ytjkocjjcdjjdiaa", sum := "e1b8453226dc029bf33fae96dbe4baa0fd42cf3f03369fa106b0d72fcb64ee57", func := "dumbwaiter/dumbwaiterlaw22.InneParts", spec := "inneParts", inPlace := ["math.Float64frombits", "math.Float64bits", "internal/bytealg.Compare", "slices.overlaps[[]byte]", "slices.overlaps[int]"], unfollowed := true, recurses := true, apart := false }
def InnePartsSaid : Prop := innePartsRow.holds Try.pinned (OpenSpec.ofChange innePartsSpec)

/-- ITS FALSE NEIGHBOUR: 'it returns false'. Refute it at one input. -/
def innePartsWrong : ChangeSpec := { name := "inneParts", fn := fun _ => fun
  | [d1, d2] => { results := [.lit (.bool false)], args := [d1, d2] }
  | _ => none }
def InnePartsWrongFalsely : Prop := innePartsRow.holds Try.pinned (OpenSpec.ofChange innePartsWrong)

/-- 'dumbwaiterlaw22.InneBuilds': WHATEVER THE INPUT: true; the input reads as it did. -/
def inneBuildsSpec : ChangeSpec := { name := "inneBuilds", fn := fun _ => fun
  | [d1, d2] => { results := [.lit (.bool true)], args := [d1, d2] }
  | _ => none }
def inneBuildsRow : OpenClaim := { program := "ytjkocjjcdjjdiaa", sum := "e1b8453226dc029bf33fae96dbe4baa0fd42cf3f03369fa106b0d72fcb64ee57", func := "dumbwaiter/dumbwaiterlaw22.InneBuilds", spec := "inneBuilds", inPlace := ["internal/bytealg.Compare", "slices.overlaps[[]byte]", "slices.overlaps[int]"], unfollowed := true, recurses := true, apart := false }
def InneBuildsSaid : Prop := inneBuildsRow.holds Try.pinned (OpenSpec.ofChange inneBuildsSpec)

/-- ITS FALSE NEIGHBOUR: 'it returns false'. Refute it at one input. -/
def inneBuildsWrong : ChangeSpec := { name := "inneBuilds", fn := fun _ => fun
  | [d1, d2] => { results := [.lit (.bool false)], args := [d1, d2] }
  | _ => none }
def InneBuildsWrongFalsely : Prop := inneBuildsRow.holds Try.pinned (OpenSpec.ofChange inneBuildsWrong)

/- THE SECOND FORM. 'bulk': how many values and letters a reading holds, each counted each time it is reached (what is shared counts as often as it is met; a slice's spare places count too). A statement '..UptoSaid' is the law's where the arguments, and the package variables that the reading takes, are together of bulk at most 1048576: NARROWER than '..Said'. Prove '..Said' where nothing that the law and all that it calls make is longer than what came in: it says more and counts as full. Else prove '..UptoSaid'. A law counts once. -/
mutual
def uptoBulk {H : Type} : DataW H → Nat
  | .lit (.string bytes) => bytes.length + 1
  | .lit _ => 1
  | .nil => 1
  | .ptr d => uptoBulk d + 1
  | .slice elems spare => uptoBulkAll elems + uptoBulkAll spare + 1
  | .agg parts => uptoBulkAll parts + 1
  | .iface _ d => uptoBulk d + 1
  | .map entries => uptoBulkEntries entries + 1
  | .held _ => 1
def uptoBulkAll {H : Type} : List (DataW H) → Nat
  | [] => 0
  | d :: r => uptoBulk d + uptoBulkAll r
def uptoBulkEntries {H : Type} : List (Lit × DataW H) → Nat
  | [] => 0
  | x :: r => uptoBulkEntry x + uptoBulkEntries r
def uptoBulkEntry {H : Type} : Lit × DataW H → Nat
  | (.string bytes, d) => bytes.length + uptoBulk d + 1
  | (_, d) => uptoBulk d + 1
 end
def uptoSmall : (H : Type) → List (DataW H) → Bool := fun _ ds => decide (uptoBulkAll ds ≤ 1048576)
def OpenSpec.upto (s : _root_.Go.ChangeSpec) : _root_.Go.OpenSpec := { _root_.Go.OpenSpec.ofChange s with cond := some uptoSmall }

/-- 'dumbwaiterlaw22.InneWays', WHERE WHAT IT READS IS OF BULK AT MOST 1048576: true; the input reads as it did. -/
def inneWaysUptoRow : OpenClaim := { program := "ytjkocjjcdjjdiaa", sum := "e1b8453226dc029bf33fae96dbe4baa0fd42cf3f03369fa106b0d72fcb64ee57", func := "dumbwaiter/dumbwaiterlaw22.InneWays", spec := "inneWays", inPlace := ["internal/bytealg.Compare", "slices.overlaps[[]byte]", "slices.overlaps[int]", "math.Float64frombits", "math.Float64bits"], unfollowed := true, recurses := true, apart := false, narrowed := true }
def InneWaysUptoSaid : Prop := inneWaysUptoRow.holds Try.pinned (OpenSpec.upto inneWaysSpec)

/-- 'dumbwaiterlaw22.InneGrows', WHERE WHAT IT READS IS OF BULK AT MOST 1048576: true; the input reads as it did. -/
def inneGrowsUptoRow : OpenClaim := { program := "ytjkocjjcdjjdiaa", sum := "e1b8453226dc029bf33fae96dbe4baa0fd42cf3f03369fa106b0d72fcb64ee57", func := "dumbwaiter/dumbwaiterlaw22.InneGrows", spec := "inneGrows", inPlace := ["math.Float64frombits", "math.Float64bits", "internal/bytealg.Compare", "slices.overlaps[[]byte]", "slices.overlaps[int]"], unfollowed := true, recurses := true, apart := false, narrowed := true }
def InneGrowsUptoSaid : Prop := inneGrowsUptoRow.holds Try.pinned (OpenSpec.upto inneGrowsSpec)

/-- 'dumbwaiterlaw22.InneChunks', WHERE WHAT IT READS IS OF BULK AT MOST 1048576: true; the input reads as it did. -/
def inneChunksUptoRow : OpenClaim := { program := "ytjkocjjcdjjdiaa", sum := "e1b8453226dc029bf33fae96dbe4baa0fd42cf3f03369fa106b0d72fcb64ee57", func := "dumbwaiter/dumbwaiterlaw22.InneChunks", spec := "inneChunks", inPlace := ["math.Float64frombits", "math.Float64bits", "internal/bytealg.Compare", "slices.overlaps[[]byte]", "slices.overlaps[int]"], unfollowed := true, recurses := true, apart := false, narrowed := true }
def InneChunksUptoSaid : Prop := inneChunksUptoRow.holds Try.pinned (OpenSpec.upto inneChunksSpec)

/-- 'dumbwaiterlaw22.InneTells', WHERE WHAT IT READS IS OF BULK AT MOST 1048576: true; the input reads as it did. -/
def inneTellsUptoRow : OpenClaim := { program := "ytjkocjjcdjjdiaa", sum := "e1b8453226dc029bf33fae96dbe4baa0fd42cf3f03369fa106b0d72fcb64ee57", func := "dumbwaiter/dumbwaiterlaw22.InneTells", spec := "inneTells", inPlace := ["internal/bytealg.Compare", "slices.overlaps[[]byte]", "slices.overlaps[int]", "math.Float64frombits", "math.Float64bits"], unfollowed := true, recurses := true, apart := false, narrowed := true }
def InneTellsUptoSaid : Prop := inneTellsUptoRow.holds Try.pinned (OpenSpec.upto inneTellsSpec)

/-- 'dumbwaiterlaw22.InneParts', WHERE WHAT IT READS IS OF BULK AT MOST 1048576: true; the input reads as it did. -/
def innePartsUptoRow : OpenClaim := { program := "ytjkocjjcdjjdiaa", sum := "e1b8453226dc029bf33fae96dbe4baa0fd42cf3f03369fa106b0d72fcb64ee57", func := "dumbwaiter/dumbwaiterlaw22.InneParts", spec := "inneParts", inPlace := ["math.Float64frombits", "math.Float64bits", "internal/bytealg.Compare", "slices.overlaps[[]byte]", "slices.overlaps[int]"], unfollowed := true, recurses := true, apart := false, narrowed := true }
def InnePartsUptoSaid : Prop := innePartsUptoRow.holds Try.pinned (OpenSpec.upto innePartsSpec)

/-- 'dumbwaiterlaw22.InneBuilds', WHERE WHAT IT READS IS OF BULK AT MOST 1048576: true; the input reads as it did. -/
def inneBuildsUptoRow : OpenClaim := { program := "ytjkocjjcdjjdiaa", sum := "e1b8453226dc029bf33fae96dbe4baa0fd42cf3f03369fa106b0d72fcb64ee57", func := "dumbwaiter/dumbwaiterlaw22.InneBuilds", spec := "inneBuilds", inPlace := ["internal/bytealg.Compare", "slices.overlaps[[]byte]", "slices.overlaps[int]"], unfollowed := true, recurses := true, apart := false, narrowed := true }
def InneBuildsUptoSaid : Prop := inneBuildsUptoRow.holds Try.pinned (OpenSpec.upto inneBuildsSpec)

end Rows
end Go.Proofs.Ytjkocjjcdjjdiaa
