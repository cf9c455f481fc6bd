/-
  No cell of these rows narrows 'for every input' (looked for: loops, veiled, ifaces, maps, wideKeys, modest, calm, conditions, laid).
  DERIVED. THE GIVEN ROWS OF THIS SEAT. 6 by the template 'for every input the law returns true; each argument reads behind the call as it read before'; 0 by the template 'total and deterministic' (their statements: YtakicgmmpjmniaaTotals.lean).
  GIVEN WITH THE SEED: the statements are not yours to turn. If you find one false, say at which input.
  Laid BY PROGRAM, IN A SANDBOX (cutbox-rows.mjs): the forced cells as the released guide's own fill.sh prints them over the translation 019356d4c5f355be… (all of the seat's roots in one cut). By AI agents, Wed Nov 11 2026. No macro, syntax, notation, axiom, sorry.
-/
import Derived.Test.YtakicgmmpjmniaaChecked
import GoSem.Claim
import GoSem.ClaimJoined
import GoSem.ClaimMapViews
import Derived.JoinedTies
import Derived.KernelRfl
namespace Go.Proofs.Ytakicgmmpjmniaa
/- THE CELL 'sum', in the pinned program and in every row, IS THE sha256 OF THE DUMP (.gsa) THAT YtakicgmmpjmniaaProg.lean LOADS. Nothing in Lean hashes anything: it is a label: what it is worth is what the hold of that sum in a sandbox is worth. -/
noncomputable def Try.pinned : Pinned := { name := "ytakicgmmpjmniaa", sum := "019356d4c5f355be0e34931e297d21d74910fee657c029bcafdd4a5c0ad8c625", checked := Try.checked }
namespace Rows
def none {H : Type} : Left H := { results := [], args := [] }

/-- 'dumbwaiterlaw19.MesgApart': WHATEVER THE INPUT: true; the input reads as it did. -/
def mesgApartSpec : ChangeSpec := { name := "mesgApart", fn := fun _ => fun
  | [d1, d2, d3, d4, d5] => { results := [.lit (.bool true)], args := [d1, d2, d3, d4, d5] }
  | _ => none }
def mesgApartRow : OpenClaim := { program := "ytakicgmmpjmniaa", sum := "019356d4c5f355be0e34931e297d21d74910fee657c029bcafdd4a5c0ad8c625", func := "dumbwaiter/dumbwaiterlaw19.MesgApart", spec := "mesgApart", inPlace := ["math.Float64frombits", "math.Float64bits", "internal/bytealg.Compare", "slices.overlaps[dumbwaiter/api.Pair]"], unfollowed := true, recurses := true, apart := false }
def MesgApartSaid : Prop := mesgApartRow.holds Try.pinned (OpenSpec.ofChange mesgApartSpec)

/-- ITS FALSE NEIGHBOUR: 'it returns false'. Refute it at one input. -/
def mesgApartWrong : ChangeSpec := { name := "mesgApart", fn := fun _ => fun
  | [d1, d2, d3, d4, d5] => { results := [.lit (.bool false)], args := [d1, d2, d3, d4, d5] }
  | _ => none }
def MesgApartWrongFalsely : Prop := mesgApartRow.holds Try.pinned (OpenSpec.ofChange mesgApartWrong)

/-- 'dumbwaiterlaw19.MesgKeys': WHATEVER THE INPUT: true; the input reads as it did. -/
def mesgKeysSpec : ChangeSpec := { name := "mesgKeys", fn := fun _ => fun
  | [d1, d2, d3] => { results := [.lit (.bool true)], args := [d1, d2, d3] }
  | _ => none }
def mesgKeysRow : OpenClaim := { program := "ytakicgmmpjmniaa", sum := "019356d4c5f355be0e34931e297d21d74910fee657c029bcafdd4a5c0ad8c625", func := "dumbwaiter/dumbwaiterlaw19.MesgKeys", spec := "mesgKeys", inPlace := ["math.Float64frombits", "math.Float64bits", "internal/bytealg.Compare", "slices.overlaps[dumbwaiter/api.Pair]"], unfollowed := true, recurses := true, apart := false }
def MesgKeysSaid : Prop := mesgKeysRow.holds Try.pinned (OpenSpec.ofChange mesgKeysSpec)

/-- ITS FALSE NEIGHBOUR: 'it returns false'. Refute it at one input. -/
def mesgKeysWrong : ChangeSpec := { name := "mesgKeys", fn := fun _ => fun
  | [d1, d2, d3] => { results := [.lit (.bool false)], args := [d1, d2, d3] }
  | _ => none }
def MesgKeysWrongFalsely : Prop := mesgKeysRow.holds Try.pinned (OpenSpec.ofChange mesgKeysWrong)

/-- 'dumbwaiterlaw19.MesgTells': WHATEVER THE INPUT: true; the input reads as it did. -/
def mesgTellsSpec : ChangeSpec := { name := "mesgTells", fn := fun _ => fun
  | [d1, d2, d3, d4, d5, d6, d7, d8] => { results := [.lit (.bool true)], args := [d1, d2, d3, d4, d5, d6, d7, d8] }
  | _ => none }
def mesgTellsRow : OpenClaim := { program := "ytakicgmmpjmniaa", sum := "019356d4c5f355be0e34931e297d21d74910fee657c029bcafdd4a5c0ad8c625", func := "dumbwaiter/dumbwaiterlaw19.MesgTells", spec := "mesgTells", inPlace := ["math.Float64frombits", "math.Float64bits", "internal/bytealg.Compare", "slices.overlaps[dumbwaiter/api.Pair]"], unfollowed := true, recurses := true, apart := false }
def MesgTellsSaid : Prop := mesgTellsRow.holds Try.pinned (OpenSpec.ofChange mesgTellsSpec)

/-- ITS FALSE NEIGHBOUR: 'it returns false'. Refute it at one input. -/
def mesgTellsWrong : ChangeSpec := { name := "mesgTells", fn := fun _ => fun
  | [d1, d2, d3, d4, d5, d6, d7, d8] => { results := [.lit (.bool false)], args := [d1, d2, d3, d4, d5, d6, d7, d8] }
  | _ => none }
def MesgTellsWrongFalsely : Prop := mesgTellsRow.holds Try.pinned (OpenSpec.ofChange mesgTellsWrong)

/-- 'dumbwaiterlaw19.MesgSteps': WHATEVER THE INPUT: true; the input reads as it did. -/
def mesgStepsSpec : ChangeSpec := { name := "mesgSteps", fn := fun _ => fun
  | [d1, d2, d3, d4, d5] => { results := [.lit (.bool true)], args := [d1, d2, d3, d4, d5] }
  | _ => none }
def mesgStepsRow : OpenClaim := { program := "ytakicgmmpjmniaa", sum := "019356d4c5f355be0e34931e297d21d74910fee657c029bcafdd4a5c0ad8c625", func := "dumbwaiter/dumbwaiterlaw19.MesgSteps", spec := "mesgSteps", inPlace := ["math.Float64frombits", "math.Float64bits", "internal/bytealg.Compare", "slices.overlaps[dumbwaiter/api.Pair]"], unfollowed := true, recurses := true, apart := false }
def MesgStepsSaid : Prop := mesgStepsRow.holds Try.pinned (OpenSpec.ofChange mesgStepsSpec)

/-- ITS FALSE NEIGHBOUR: 'it returns false'. Refute it at one input. -/
def mesgStepsWrong : ChangeSpec := { name := "mesgSteps", fn := fun _ => fun
  | [d1, d2, d3, d4, d5] => { results := [.lit (.bool false)], args := [d1, d2, d3, d4, d5] }
  | _ => none }
def MesgStepsWrongFalsely : Prop := mesgStepsRow.holds Try.pinned (OpenSpec.ofChange mesgStepsWrong)

/-- 'dumbwaiterlaw19.MesgForms': WHATEVER THE INPUT: true; the input reads as it did. -/
def mesgFormsSpec : ChangeSpec := { name := "mesgForms", fn := fun _ => fun
  | [d] => { results := [.lit (.bool true)], args := [d] }
  | _ => none }
def mesgFormsRow : OpenClaim := { program := "ytakicgmmpjmniaa", sum := "019356d4c5f355be0e34931e297d21d74910fee657c029bcafdd4a5c0ad8c625", func := "dumbwaiter/dumbwaiterlaw19.MesgForms", spec := "mesgForms", inPlace := ["math.Float64frombits", "math.Float64bits", "internal/bytealg.Compare", "slices.overlaps[dumbwaiter/api.Pair]"], unfollowed := true, recurses := true, apart := false }
def MesgFormsSaid : Prop := mesgFormsRow.holds Try.pinned (OpenSpec.ofChange mesgFormsSpec)

/-- ITS FALSE NEIGHBOUR: 'it returns false'. Refute it at one input. -/
def mesgFormsWrong : ChangeSpec := { name := "mesgForms", fn := fun _ => fun
  | [d] => { results := [.lit (.bool false)], args := [d] }
  | _ => none }
def MesgFormsWrongFalsely : Prop := mesgFormsRow.holds Try.pinned (OpenSpec.ofChange mesgFormsWrong)

/-- 'dumbwaiterlaw19.MesgAdds': WHATEVER THE INPUT: true; the input reads as it did. -/
def mesgAddsSpec : ChangeSpec := { name := "mesgAdds", fn := fun _ => fun
  | [d1, d2, d3] => { results := [.lit (.bool true)], args := [d1, d2, d3] }
  | _ => none }
def mesgAddsRow : OpenClaim := { program := "ytakicgmmpjmniaa", sum := "019356d4c5f355be0e34931e297d21d74910fee657c029bcafdd4a5c0ad8c625", func := "dumbwaiter/dumbwaiterlaw19.MesgAdds", spec := "mesgAdds", inPlace := ["math.Float64frombits", "math.Float64bits", "internal/bytealg.Compare", "slices.overlaps[dumbwaiter/api.Pair]"], unfollowed := true, recurses := true, apart := false }
def MesgAddsSaid : Prop := mesgAddsRow.holds Try.pinned (OpenSpec.ofChange mesgAddsSpec)

/-- ITS FALSE NEIGHBOUR: 'it returns false'. Refute it at one input. -/
def mesgAddsWrong : ChangeSpec := { name := "mesgAdds", fn := fun _ => fun
  | [d1, d2, d3] => { results := [.lit (.bool false)], args := [d1, d2, d3] }
  | _ => none }
def MesgAddsWrongFalsely : Prop := mesgAddsRow.holds Try.pinned (OpenSpec.ofChange mesgAddsWrong)

/- THE SECOND FORM. 'bulk': how many values and letters a reading holds, each counted each time it is reached (what is shared counts as often as it is met; a slice's spare places count too). A statement '..UptoSaid' is the law's where the arguments, and the package variables that the reading takes, are together of bulk at most 1048576: NARROWER than '..Said'. Prove '..Said' where nothing that the law and all that it calls make is longer than what came in: it says more and counts as full. Else prove '..UptoSaid'. A law counts once. -/
mutual
def uptoBulk {H : Type} : DataW H → Nat
  | .lit (.string bytes) => bytes.length + 1
  | .lit _ => 1
  | .nil => 1
  | .ptr d => uptoBulk d + 1
  | .slice elems spare => uptoBulkAll elems + uptoBulkAll spare + 1
  | .agg parts => uptoBulkAll parts + 1
  | .iface _ d => uptoBulk d + 1
  | .map entries => uptoBulkEntries entries + 1
  | .held _ => 1
def uptoBulkAll {H : Type} : List (DataW H) → Nat
  | [] => 0
  | d :: r => uptoBulk d + uptoBulkAll r
def uptoBulkEntries {H : Type} : List (Lit × DataW H) → Nat
  | [] => 0
  | x :: r => uptoBulkEntry x + uptoBulkEntries r
def uptoBulkEntry {H : Type} : Lit × DataW H → Nat
  | (.string bytes, d) => bytes.length + uptoBulk d + 1
  | (_, d) => uptoBulk d + 1
 end
def uptoSmall : (H : Type) → List (DataW H) → Bool := fun _ ds => decide (uptoBulkAll ds ≤ 1048576)
def OpenSpec.upto (s : _root_.Go.ChangeSpec) : _root_.Go.OpenSpec := { _root_.Go.OpenSpec.ofChange s with cond := some uptoSmall }

/-- 'dumbwaiterlaw19.MesgApart', WHERE WHAT IT READS IS OF BULK AT MOST 1048576: true; the input reads as it did. -/
def mesgApartUptoRow : OpenClaim := { program := "ytakicgmmpjmniaa", sum := "019356d4c5f355be0e34931e297d21d74910fee657c029bcafdd4a5c0ad8c625", func := "dumbwaiter/dumbwaiterlaw19.MesgApart", spec := "mesgApart", inPlace := ["math.Float64frombits", "math.Float64bits", "internal/bytealg.Compare", "slices.overlaps[dumbwaiter/api.Pair]"], unfollowed := true, recurses := true, apart := false, narrowed := true }
def MesgApartUptoSaid : Prop := mesgApartUptoRow.holds Try.pinned (OpenSpec.upto mesgApartSpec)

/-- 'dumbwaiterlaw19.MesgKeys', WHERE WHAT IT READS IS OF BULK AT MOST 1048576: true; the input reads as it did. -/
def mesgKeysUptoRow : OpenClaim := { program := "ytakicgmmpjmniaa", sum := "019356d4c5f355be0e34931e297d21d74910fee657c029bcafdd4a5c0ad8c625", func := "dumbwaiter/dumbwaiterlaw19.MesgKeys", spec := "mesgKeys", inPlace := ["math.Float64frombits", "math.Float64bits", "internal/bytealg.Compare", "slices.overlaps[dumbwaiter/api.Pair]"], unfollowed := true, recurses := true, apart := false, narrowed := true }
def MesgKeysUptoSaid : Prop := mesgKeysUptoRow.holds Try.pinned (OpenSpec.upto mesgKeysSpec)

/-- 'dumbwaiterlaw19.MesgTells', WHERE WHAT IT READS IS OF BULK AT MOST 1048576: true; the input reads as it did. -/
def mesgTellsUptoRow : OpenClaim := { program := "ytakicgmmpjmniaa", sum := "019356d4c5f355be0e34931e297d21d74910fee657c029bcafdd4a5c0ad8c625", func := "dumbwaiter/dumbwaiterlaw19.MesgTells", spec := "mesgTells", inPlace := ["math.Float64frombits", "math.Float64bits", "internal/bytealg.Compare", "slices.overlaps[dumbwaiter/api.Pair]"], unfollowed := true, recurses := true, apart := false, narrowed := true }
def MesgTellsUptoSaid : Prop := mesgTellsUptoRow.holds Try.pinned (OpenSpec.upto mesgTellsSpec)

/-- 'dumbwaiterlaw19.MesgSteps', WHERE WHAT IT READS IS OF BULK AT MOST 1048576: true; the input reads as it did. -/
def mesgStepsUptoRow : OpenClaim := { program := "ytakicgmmpjmniaa", sum := "019356d4c5f355be0e34931e297d21d74910fee657c029bcafdd4a5c0ad8c625", func := "dumbwaiter/dumbwaiterlaw19.MesgSteps", spec := "mesgSteps", inPlace := ["math.Float64frombits", "math.Float64bits", "internal/bytealg.Compare", "slices.overlaps[dumbwaiter/api.Pair]"], unfollowed := true, recurses := true, apart := false, narrowed := true }
def MesgStepsUptoSaid : Prop := mesgStepsUptoRow.holds Try.pinned (OpenSpec.upto mesgStepsSpec)

/-- 'dumbwaiterlaw19.MesgForms', WHERE WHAT IT READS IS OF BULK AT MOST 1048576: true; the input reads as it did. -/
def mesgFormsUptoRow : OpenClaim := { program := "ytakicgmmpjmniaa", sum := "019356d4c5f355be0e34931e297d21d74910fee657c029bcafdd4a5c0ad8c625", func := "dumbwaiter/dumbwaiterlaw19.MesgForms", spec := "mesgForms", inPlace := ["math.Float64frombits", "math.Float64bits", "internal/bytealg.Compare", "slices.overlaps[dumbwaiter/api.Pair]"], unfollowed := true, recurses := true, apart := false, narrowed := true }
def MesgFormsUptoSaid : Prop := mesgFormsUptoRow.holds Try.pinned (OpenSpec.upto mesgFormsSpec)

/-- 'dumbwaiterlaw19.MesgAdds', WHERE WHAT IT READS IS OF BULK AT MOST 1048576: true; the input reads as it did. -/
def mesgAddsUptoRow : OpenClaim := { program := "ytakicgmmpjmniaa", sum := "019356d4c5f355be0e34931e297d21d74910fee657c029bcafdd4a5c0ad8c625", func := "dumbwaiter/dumbwaiterlaw19.MesgAdds", spec := "mesgAdds", inPlace := ["math.Float64frombits", "math.Float64bits", "internal/bytealg.Compare", "slices.overlaps[dumbwaiter/api.Pair]"], unfollowed := true, recurses := true, apart := false, narrowed := true }
def MesgAddsUptoSaid : Prop := mesgAddsUptoRow.holds Try.pinned (OpenSpec.upto mesgAddsSpec)

end Rows
end Go.Proofs.Ytakicgmmpjmniaa
