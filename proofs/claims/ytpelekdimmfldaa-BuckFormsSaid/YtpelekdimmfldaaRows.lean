/-
  No cell of these rows narrows 'for every input' (looked for: loops, veiled, ifaces, maps, wideKeys, modest, calm, conditions, laid).
  DERIVED. THE GIVEN ROWS OF THIS SEAT. 12 by the template 'for every input the law returns true; each argument reads behind the call as it read before'; 0 by the template 'total and deterministic' (their statements: YtpelekdimmfldaaTotals.lean).
  GIVEN WITH THE SEED: the statements are not yours to turn. If you find one false, say at which input.
  Laid BY PROGRAM, IN A SANDBOX (cutbox-rows.mjs): the forced cells as the released guide's own fill.sh prints them over the translation 6bfff205428a79b2… (all of the seat's roots in one cut). By AI agents, Wed Nov 11 2026. No macro, syntax, notation, axiom, sorry.
-/
import Derived.Test.YtpelekdimmfldaaChecked
import GoSem.Claim
import GoSem.ClaimJoined
import GoSem.ClaimMapViews
import Derived.JoinedTies
import Derived.KernelRfl
namespace Go.Proofs.Ytpelekdimmfldaa
/- THE CELL 'sum', in the pinned program and in every row, IS THE sha256 OF THE DUMP (.gsa) THAT YtpelekdimmfldaaProg.lean LOADS. Nothing in Lean hashes anything: it is a label: what it is worth is what the hold of that sum in a sandbox is worth. -/
noncomputable def Try.pinned : Pinned := { name := "ytpelekdimmfldaa", sum := "6bfff205428a79b23b76a1b151089cdf24d458049ba961ec3c8bd578e21715b1", checked := Try.checked }
namespace Rows
def none {H : Type} : Left H := { results := [], args := [] }

/-- 'dumbwaiterlaw1.LePads': WHATEVER THE INPUT: true; the input reads as it did. -/
def lePadsSpec : ChangeSpec := { name := "lePads", fn := fun _ => fun
  | [d1, d2, d3] => { results := [.lit (.bool true)], args := [d1, d2, d3] }
  | _ => none }
def lePadsRow : OpenClaim := { program := "ytpelekdimmfldaa", sum := "6bfff205428a79b23b76a1b151089cdf24d458049ba961ec3c8bd578e21715b1", func := "dumbwaiter/dumbwaiterlaw1.LePads", spec := "lePads", apart := false }
def LePadsSaid : Prop := lePadsRow.holds Try.pinned (OpenSpec.ofChange lePadsSpec)

/-- ITS FALSE NEIGHBOUR: 'it returns false'. Refute it at one input. -/
def lePadsWrong : ChangeSpec := { name := "lePads", fn := fun _ => fun
  | [d1, d2, d3] => { results := [.lit (.bool false)], args := [d1, d2, d3] }
  | _ => none }
def LePadsWrongFalsely : Prop := lePadsRow.holds Try.pinned (OpenSpec.ofChange lePadsWrong)

/-- 'dumbwaiterlaw1.LeNumbers': WHATEVER THE INPUT: true; the input reads as it did. -/
def leNumbersSpec : ChangeSpec := { name := "leNumbers", fn := fun _ => fun
  | [d1, d2, d3] => { results := [.lit (.bool true)], args := [d1, d2, d3] }
  | _ => none }
def leNumbersRow : OpenClaim := { program := "ytpelekdimmfldaa", sum := "6bfff205428a79b23b76a1b151089cdf24d458049ba961ec3c8bd578e21715b1", func := "dumbwaiter/dumbwaiterlaw1.LeNumbers", spec := "leNumbers", apart := false }
def LeNumbersSaid : Prop := leNumbersRow.holds Try.pinned (OpenSpec.ofChange leNumbersSpec)

/-- ITS FALSE NEIGHBOUR: 'it returns false'. Refute it at one input. -/
def leNumbersWrong : ChangeSpec := { name := "leNumbers", fn := fun _ => fun
  | [d1, d2, d3] => { results := [.lit (.bool false)], args := [d1, d2, d3] }
  | _ => none }
def LeNumbersWrongFalsely : Prop := leNumbersRow.holds Try.pinned (OpenSpec.ofChange leNumbersWrong)

/-- 'dumbwaiterlaw1.LeTells': WHATEVER THE INPUT: true; the input reads as it did. -/
def leTellsSpec : ChangeSpec := { name := "leTells", fn := fun _ => fun
  | [d1, d2, d3, d4, d5] => { results := [.lit (.bool true)], args := [d1, d2, d3, d4, d5] }
  | _ => none }
def leTellsRow : OpenClaim := { program := "ytpelekdimmfldaa", sum := "6bfff205428a79b23b76a1b151089cdf24d458049ba961ec3c8bd578e21715b1", func := "dumbwaiter/dumbwaiterlaw1.LeTells", spec := "leTells", apart := false }
def LeTellsSaid : Prop := leTellsRow.holds Try.pinned (OpenSpec.ofChange leTellsSpec)

/-- ITS FALSE NEIGHBOUR: 'it returns false'. Refute it at one input. -/
def leTellsWrong : ChangeSpec := { name := "leTells", fn := fun _ => fun
  | [d1, d2, d3, d4, d5] => { results := [.lit (.bool false)], args := [d1, d2, d3, d4, d5] }
  | _ => none }
def LeTellsWrongFalsely : Prop := leTellsRow.holds Try.pinned (OpenSpec.ofChange leTellsWrong)

/-- 'dumbwaiterlaw1.LeBack': WHATEVER THE INPUT: true; the input reads as it did. -/
def leBackSpec : ChangeSpec := { name := "leBack", fn := fun _ => fun
  | [d1, d2, d3, d4] => { results := [.lit (.bool true)], args := [d1, d2, d3, d4] }
  | _ => none }
def leBackRow : OpenClaim := { program := "ytpelekdimmfldaa", sum := "6bfff205428a79b23b76a1b151089cdf24d458049ba961ec3c8bd578e21715b1", func := "dumbwaiter/dumbwaiterlaw1.LeBack", spec := "leBack", apart := false }
def LeBackSaid : Prop := leBackRow.holds Try.pinned (OpenSpec.ofChange leBackSpec)

/-- ITS FALSE NEIGHBOUR: 'it returns false'. Refute it at one input. -/
def leBackWrong : ChangeSpec := { name := "leBack", fn := fun _ => fun
  | [d1, d2, d3, d4] => { results := [.lit (.bool false)], args := [d1, d2, d3, d4] }
  | _ => none }
def LeBackWrongFalsely : Prop := leBackRow.holds Try.pinned (OpenSpec.ofChange leBackWrong)

/-- 'dumbwaiterlaw1.LeSums': WHATEVER THE INPUT: true; the input reads as it did. -/
def leSumsSpec : ChangeSpec := { name := "leSums", fn := fun _ => fun
  | [d1, d2, d3] => { results := [.lit (.bool true)], args := [d1, d2, d3] }
  | _ => none }
def leSumsRow : OpenClaim := { program := "ytpelekdimmfldaa", sum := "6bfff205428a79b23b76a1b151089cdf24d458049ba961ec3c8bd578e21715b1", func := "dumbwaiter/dumbwaiterlaw1.LeSums", spec := "leSums", apart := false }
def LeSumsSaid : Prop := leSumsRow.holds Try.pinned (OpenSpec.ofChange leSumsSpec)

/-- ITS FALSE NEIGHBOUR: 'it returns false'. Refute it at one input. -/
def leSumsWrong : ChangeSpec := { name := "leSums", fn := fun _ => fun
  | [d1, d2, d3] => { results := [.lit (.bool false)], args := [d1, d2, d3] }
  | _ => none }
def LeSumsWrongFalsely : Prop := leSumsRow.holds Try.pinned (OpenSpec.ofChange leSumsWrong)

/-- 'dumbwaiterlaw16.PosmBounds': WHATEVER THE INPUT: true; the input reads as it did. -/
def posmBoundsSpec : ChangeSpec := { name := "posmBounds", fn := fun _ => fun
  | [d1, d2, d3, d4] => { results := [.lit (.bool true)], args := [d1, d2, d3, d4] }
  | _ => none }
def posmBoundsRow : OpenClaim := { program := "ytpelekdimmfldaa", sum := "6bfff205428a79b23b76a1b151089cdf24d458049ba961ec3c8bd578e21715b1", func := "dumbwaiter/dumbwaiterlaw16.PosmBounds", spec := "posmBounds", apart := false }
def PosmBoundsSaid : Prop := posmBoundsRow.holds Try.pinned (OpenSpec.ofChange posmBoundsSpec)

/-- ITS FALSE NEIGHBOUR: 'it returns false'. Refute it at one input. -/
def posmBoundsWrong : ChangeSpec := { name := "posmBounds", fn := fun _ => fun
  | [d1, d2, d3, d4] => { results := [.lit (.bool false)], args := [d1, d2, d3, d4] }
  | _ => none }
def PosmBoundsWrongFalsely : Prop := posmBoundsRow.holds Try.pinned (OpenSpec.ofChange posmBoundsWrong)

/-- 'dumbwaiterlaw16.PosmLoads': WHATEVER THE INPUT: true; the input reads as it did. -/
def posmLoadsSpec : ChangeSpec := { name := "posmLoads", fn := fun _ => fun
  | [d1, d2, d3] => { results := [.lit (.bool true)], args := [d1, d2, d3] }
  | _ => none }
def posmLoadsRow : OpenClaim := { program := "ytpelekdimmfldaa", sum := "6bfff205428a79b23b76a1b151089cdf24d458049ba961ec3c8bd578e21715b1", func := "dumbwaiter/dumbwaiterlaw16.PosmLoads", spec := "posmLoads", apart := false }
def PosmLoadsSaid : Prop := posmLoadsRow.holds Try.pinned (OpenSpec.ofChange posmLoadsSpec)

/-- ITS FALSE NEIGHBOUR: 'it returns false'. Refute it at one input. -/
def posmLoadsWrong : ChangeSpec := { name := "posmLoads", fn := fun _ => fun
  | [d1, d2, d3] => { results := [.lit (.bool false)], args := [d1, d2, d3] }
  | _ => none }
def PosmLoadsWrongFalsely : Prop := posmLoadsRow.holds Try.pinned (OpenSpec.ofChange posmLoadsWrong)

/-- 'dumbwaiterlaw16.PosmPlays': WHATEVER THE INPUT: true; the input reads as it did. -/
def posmPlaysSpec : ChangeSpec := { name := "posmPlays", fn := fun _ => fun
  | [d1, d2, d3, d4, d5] => { results := [.lit (.bool true)], args := [d1, d2, d3, d4, d5] }
  | _ => none }
def posmPlaysRow : OpenClaim := { program := "ytpelekdimmfldaa", sum := "6bfff205428a79b23b76a1b151089cdf24d458049ba961ec3c8bd578e21715b1", func := "dumbwaiter/dumbwaiterlaw16.PosmPlays", spec := "posmPlays", apart := false }
def PosmPlaysSaid : Prop := posmPlaysRow.holds Try.pinned (OpenSpec.ofChange posmPlaysSpec)

/-- ITS FALSE NEIGHBOUR: 'it returns false'. Refute it at one input. -/
def posmPlaysWrong : ChangeSpec := { name := "posmPlays", fn := fun _ => fun
  | [d1, d2, d3, d4, d5] => { results := [.lit (.bool false)], args := [d1, d2, d3, d4, d5] }
  | _ => none }
def PosmPlaysWrongFalsely : Prop := posmPlaysRow.holds Try.pinned (OpenSpec.ofChange posmPlaysWrong)

/-- 'dumbwaiterlaw14.BuckForms': WHATEVER THE INPUT: true; the input reads as it did. -/
def buckFormsSpec : ChangeSpec := { name := "buckForms", fn := fun _ => fun
  | [d] => { results := [.lit (.bool true)], args := [d] }
  | _ => none }
def buckFormsRow : OpenClaim := { program := "ytpelekdimmfldaa", sum := "6bfff205428a79b23b76a1b151089cdf24d458049ba961ec3c8bd578e21715b1", func := "dumbwaiter/dumbwaiterlaw14.BuckForms", spec := "buckForms", unfollowed := true, recurses := true, apart := false }
def BuckFormsSaid : Prop := buckFormsRow.holds Try.pinned (OpenSpec.ofChange buckFormsSpec)

/-- ITS FALSE NEIGHBOUR: 'it returns false'. Refute it at one input. -/
def buckFormsWrong : ChangeSpec := { name := "buckForms", fn := fun _ => fun
  | [d] => { results := [.lit (.bool false)], args := [d] }
  | _ => none }
def BuckFormsWrongFalsely : Prop := buckFormsRow.holds Try.pinned (OpenSpec.ofChange buckFormsWrong)

/-- 'dumbwaiterlaw14.BuckTurned': WHATEVER THE INPUT: true; the input reads as it did. -/
def buckTurnedSpec : ChangeSpec := { name := "buckTurned", fn := fun _ => fun
  | [d1, d2, d3, d4] => { results := [.lit (.bool true)], args := [d1, d2, d3, d4] }
  | _ => none }
def buckTurnedRow : OpenClaim := { program := "ytpelekdimmfldaa", sum := "6bfff205428a79b23b76a1b151089cdf24d458049ba961ec3c8bd578e21715b1", func := "dumbwaiter/dumbwaiterlaw14.BuckTurned", spec := "buckTurned", apart := false }
def BuckTurnedSaid : Prop := buckTurnedRow.holds Try.pinned (OpenSpec.ofChange buckTurnedSpec)

/-- ITS FALSE NEIGHBOUR: 'it returns false'. Refute it at one input. -/
def buckTurnedWrong : ChangeSpec := { name := "buckTurned", fn := fun _ => fun
  | [d1, d2, d3, d4] => { results := [.lit (.bool false)], args := [d1, d2, d3, d4] }
  | _ => none }
def BuckTurnedWrongFalsely : Prop := buckTurnedRow.holds Try.pinned (OpenSpec.ofChange buckTurnedWrong)

/-- 'dumbwaiterlaw14.BuckTells': WHATEVER THE INPUT: true; the input reads as it did. -/
def buckTellsSpec : ChangeSpec := { name := "buckTells", fn := fun _ => fun
  | [d1, d2, d3, d4, d5, d6] => { results := [.lit (.bool true)], args := [d1, d2, d3, d4, d5, d6] }
  | _ => none }
def buckTellsRow : OpenClaim := { program := "ytpelekdimmfldaa", sum := "6bfff205428a79b23b76a1b151089cdf24d458049ba961ec3c8bd578e21715b1", func := "dumbwaiter/dumbwaiterlaw14.BuckTells", spec := "buckTells", apart := false }
def BuckTellsSaid : Prop := buckTellsRow.holds Try.pinned (OpenSpec.ofChange buckTellsSpec)

/-- ITS FALSE NEIGHBOUR: 'it returns false'. Refute it at one input. -/
def buckTellsWrong : ChangeSpec := { name := "buckTells", fn := fun _ => fun
  | [d1, d2, d3, d4, d5, d6] => { results := [.lit (.bool false)], args := [d1, d2, d3, d4, d5, d6] }
  | _ => none }
def BuckTellsWrongFalsely : Prop := buckTellsRow.holds Try.pinned (OpenSpec.ofChange buckTellsWrong)

/-- 'dumbwaiterlaw14.BuckBack': WHATEVER THE INPUT: true; the input reads as it did. -/
def buckBackSpec : ChangeSpec := { name := "buckBack", fn := fun _ => fun
  | [d1, d2, d3] => { results := [.lit (.bool true)], args := [d1, d2, d3] }
  | _ => none }
def buckBackRow : OpenClaim := { program := "ytpelekdimmfldaa", sum := "6bfff205428a79b23b76a1b151089cdf24d458049ba961ec3c8bd578e21715b1", func := "dumbwaiter/dumbwaiterlaw14.BuckBack", spec := "buckBack", apart := false }
def BuckBackSaid : Prop := buckBackRow.holds Try.pinned (OpenSpec.ofChange buckBackSpec)

/-- ITS FALSE NEIGHBOUR: 'it returns false'. Refute it at one input. -/
def buckBackWrong : ChangeSpec := { name := "buckBack", fn := fun _ => fun
  | [d1, d2, d3] => { results := [.lit (.bool false)], args := [d1, d2, d3] }
  | _ => none }
def BuckBackWrongFalsely : Prop := buckBackRow.holds Try.pinned (OpenSpec.ofChange buckBackWrong)

/- THE SECOND FORM. 'bulk': how many values and letters a reading holds, each counted each time it is reached (what is shared counts as often as it is met; a slice's spare places count too). A statement '..UptoSaid' is the law's where the arguments, and the package variables that the reading takes, are together of bulk at most 1048576: NARROWER than '..Said'. Prove '..Said' where nothing that the law and all that it calls make is longer than what came in: it says more and counts as full. Else prove '..UptoSaid'. A law counts once. -/
mutual
def uptoBulk {H : Type} : DataW H → Nat
  | .lit (.string bytes) => bytes.length + 1
  | .lit _ => 1
  | .nil => 1
  | .ptr d => uptoBulk d + 1
  | .slice elems spare => uptoBulkAll elems + uptoBulkAll spare + 1
  | .agg parts => uptoBulkAll parts + 1
  | .iface _ d => uptoBulk d + 1
  | .map entries => uptoBulkEntries entries + 1
  | .held _ => 1
def uptoBulkAll {H : Type} : List (DataW H) → Nat
  | [] => 0
  | d :: r => uptoBulk d + uptoBulkAll r
def uptoBulkEntries {H : Type} : List (Lit × DataW H) → Nat
  | [] => 0
  | x :: r => uptoBulkEntry x + uptoBulkEntries r
def uptoBulkEntry {H : Type} : Lit × DataW H → Nat
  | (.string bytes, d) => bytes.length + uptoBulk d + 1
  | (_, d) => uptoBulk d + 1
 end
def uptoSmall : (H : Type) → List (DataW H) → Bool := fun _ ds => decide (uptoBulkAll ds ≤ 1048576)
def OpenSpec.upto (s : _root_.Go.ChangeSpec) : _root_.Go.OpenSpec := { _root_.Go.OpenSpec.ofChange s with cond := some uptoSmall }

/-- 'dumbwaiterlaw1.LePads', WHERE WHAT IT READS IS OF BULK AT MOST 1048576: true; the input reads as it did. -/
def lePadsUptoRow : OpenClaim := { program := "ytpelekdimmfldaa", sum := "6bfff205428a79b23b76a1b151089cdf24d458049ba961ec3c8bd578e21715b1", func := "dumbwaiter/dumbwaiterlaw1.LePads", spec := "lePads", apart := false, narrowed := true }
def LePadsUptoSaid : Prop := lePadsUptoRow.holds Try.pinned (OpenSpec.upto lePadsSpec)

/-- 'dumbwaiterlaw1.LeNumbers', WHERE WHAT IT READS IS OF BULK AT MOST 1048576: true; the input reads as it did. -/
def leNumbersUptoRow : OpenClaim := { program := "ytpelekdimmfldaa", sum := "6bfff205428a79b23b76a1b151089cdf24d458049ba961ec3c8bd578e21715b1", func := "dumbwaiter/dumbwaiterlaw1.LeNumbers", spec := "leNumbers", apart := false, narrowed := true }
def LeNumbersUptoSaid : Prop := leNumbersUptoRow.holds Try.pinned (OpenSpec.upto leNumbersSpec)

/-- 'dumbwaiterlaw1.LeTells', WHERE WHAT IT READS IS OF BULK AT MOST 1048576: true; the input reads as it did. -/
def leTellsUptoRow : OpenClaim := { program := "ytpelekdimmfldaa", sum := "6bfff205428a79b23b76a1b151089cdf24d458049ba961ec3c8bd578e21715b1", func := "dumbwaiter/dumbwaiterlaw1.LeTells", spec := "leTells", apart := false, narrowed := true }
def LeTellsUptoSaid : Prop := leTellsUptoRow.holds Try.pinned (OpenSpec.upto leTellsSpec)

/-- 'dumbwaiterlaw1.LeBack', WHERE WHAT IT READS IS OF BULK AT MOST 1048576: true; the input reads as it did. -/
def leBackUptoRow : OpenClaim := { program := "ytpelekdimmfldaa", sum := "6bfff205428a79b23b76a1b151089cdf24d458049ba961ec3c8bd578e21715b1", func := "dumbwaiter/dumbwaiterlaw1.LeBack", spec := "leBack", apart := false, narrowed := true }
def LeBackUptoSaid : Prop := leBackUptoRow.holds Try.pinned (OpenSpec.upto leBackSpec)

/-- 'dumbwaiterlaw1.LeSums', WHERE WHAT IT READS IS OF BULK AT MOST 1048576: true; the input reads as it did. -/
def leSumsUptoRow : OpenClaim := { program := "ytpelekdimmfldaa", sum := "6bfff205428a79b23b76a1b151089cdf24d458049ba961ec3c8bd578e21715b1", func := "dumbwaiter/dumbwaiterlaw1.LeSums", spec := "leSums", apart := false, narrowed := true }
def LeSumsUptoSaid : Prop := leSumsUptoRow.holds Try.pinned (OpenSpec.upto leSumsSpec)

/-- 'dumbwaiterlaw16.PosmBounds', WHERE WHAT IT READS IS OF BULK AT MOST 1048576: true; the input reads as it did. -/
def posmBoundsUptoRow : OpenClaim := { program := "ytpelekdimmfldaa", sum := "6bfff205428a79b23b76a1b151089cdf24d458049ba961ec3c8bd578e21715b1", func := "dumbwaiter/dumbwaiterlaw16.PosmBounds", spec := "posmBounds", apart := false, narrowed := true }
def PosmBoundsUptoSaid : Prop := posmBoundsUptoRow.holds Try.pinned (OpenSpec.upto posmBoundsSpec)

/-- 'dumbwaiterlaw16.PosmLoads', WHERE WHAT IT READS IS OF BULK AT MOST 1048576: true; the input reads as it did. -/
def posmLoadsUptoRow : OpenClaim := { program := "ytpelekdimmfldaa", sum := "6bfff205428a79b23b76a1b151089cdf24d458049ba961ec3c8bd578e21715b1", func := "dumbwaiter/dumbwaiterlaw16.PosmLoads", spec := "posmLoads", apart := false, narrowed := true }
def PosmLoadsUptoSaid : Prop := posmLoadsUptoRow.holds Try.pinned (OpenSpec.upto posmLoadsSpec)

/-- 'dumbwaiterlaw16.PosmPlays', WHERE WHAT IT READS IS OF BULK AT MOST 1048576: true; the input reads as it did. -/
def posmPlaysUptoRow : OpenClaim := { program := "ytpelekdimmfldaa", sum := "6bfff205428a79b23b76a1b151089cdf24d458049ba961ec3c8bd578e21715b1", func := "dumbwaiter/dumbwaiterlaw16.PosmPlays", spec := "posmPlays", apart := false, narrowed := true }
def PosmPlaysUptoSaid : Prop := posmPlaysUptoRow.holds Try.pinned (OpenSpec.upto posmPlaysSpec)

/-- 'dumbwaiterlaw14.BuckForms', WHERE WHAT IT READS IS OF BULK AT MOST 1048576: true; the input reads as it did. -/
def buckFormsUptoRow : OpenClaim := { program := "ytpelekdimmfldaa", sum := "6bfff205428a79b23b76a1b151089cdf24d458049ba961ec3c8bd578e21715b1", func := "dumbwaiter/dumbwaiterlaw14.BuckForms", spec := "buckForms", unfollowed := true, recurses := true, apart := false, narrowed := true }
def BuckFormsUptoSaid : Prop := buckFormsUptoRow.holds Try.pinned (OpenSpec.upto buckFormsSpec)

/-- 'dumbwaiterlaw14.BuckTurned', WHERE WHAT IT READS IS OF BULK AT MOST 1048576: true; the input reads as it did. -/
def buckTurnedUptoRow : OpenClaim := { program := "ytpelekdimmfldaa", sum := "6bfff205428a79b23b76a1b151089cdf24d458049ba961ec3c8bd578e21715b1", func := "dumbwaiter/dumbwaiterlaw14.BuckTurned", spec := "buckTurned", apart := false, narrowed := true }
def BuckTurnedUptoSaid : Prop := buckTurnedUptoRow.holds Try.pinned (OpenSpec.upto buckTurnedSpec)

/-- 'dumbwaiterlaw14.BuckTells', WHERE WHAT IT READS IS OF BULK AT MOST 1048576: true; the input reads as it did. -/
def buckTellsUptoRow : OpenClaim := { program := "ytpelekdimmfldaa", sum := "6bfff205428a79b23b76a1b151089cdf24d458049ba961ec3c8bd578e21715b1", func := "dumbwaiter/dumbwaiterlaw14.BuckTells", spec := "buckTells", apart := false, narrowed := true }
def BuckTellsUptoSaid : Prop := buckTellsUptoRow.holds Try.pinned (OpenSpec.upto buckTellsSpec)

/-- 'dumbwaiterlaw14.BuckBack', WHERE WHAT IT READS IS OF BULK AT MOST 1048576: true; the input reads as it did. -/
def buckBackUptoRow : OpenClaim := { program := "ytpelekdimmfldaa", sum := "6bfff205428a79b23b76a1b151089cdf24d458049ba961ec3c8bd578e21715b1", func := "dumbwaiter/dumbwaiterlaw14.BuckBack", spec := "buckBack", apart := false, narrowed := true }
def BuckBackUptoSaid : Prop := buckBackUptoRow.holds Try.pinned (OpenSpec.upto buckBackSpec)

end Rows
end Go.Proofs.Ytpelekdimmfldaa
