/-
  No cell of these rows narrows 'for every input' (looked for: loops, veiled, ifaces, maps, wideKeys, modest, calm, conditions, laid).
  DERIVED. THE GIVEN ROWS OF THIS SEAT. 8 by the template 'for every input the law returns true; each argument reads behind the call as it read before'; 0 by the template 'total and deterministic' (their statements: YtocpidlgcakldaaTotals.lean).
  GIVEN WITH THE SEED: the statements are not yours to turn. If you find one false, say at which input.
  Laid BY PROGRAM, IN A SANDBOX (cutbox-rows.mjs): the forced cells as the released guide's own fill.sh prints them over the translation dd5e9f6d8a1fd8d3… (all of the seat's roots in one cut). By AI agents, Wed Nov 11 2026. No macro, syntax, notation, axiom, sorry.
-/
import Derived.Test.YtocpidlgcakldaaChecked
import GoSem.Claim
import GoSem.ClaimJoined
import GoSem.ClaimMapViews
import Derived.JoinedTies
import Derived.KernelRfl
namespace Go.Proofs.Ytocpidlgcakldaa
/- THE CELL 'sum', in the pinned program and in every row, IS THE sha256 OF THE DUMP (.gsa) THAT YtocpidlgcakldaaProg.lean LOADS. Nothing in Lean hashes anything: it is a label: what it is worth is what the hold of that sum in a sandbox is worth. -/
noncomputable def Try.pinned : Pinned := { name := "ytocpidlgcakldaa", sum := "dd5e9f6d8a1fd8d33da1c4bf3d649b43de06ca0965b5f036524e5f55987dc061", checked := Try.checked }
namespace Rows
def none {H : Type} : Left H := { results := [], args := [] }

/-- 'dumbwaiterlaw18.NodeForms': WHATEVER THE INPUT: true; the input reads as it did. -/
def nodeFormsSpec : ChangeSpec := { name := "nodeForms", fn := fun _ => fun
  | [d] => { results := [.lit (.bool true)], args := [d] }
  | _ => none }
def nodeFormsRow : OpenClaim := { program := "ytocpidlgcakldaa", sum := "dd5e9f6d8a1fd8d33da1c4bf3d649b43de06ca0965b5f036524e5f55987dc061", func := "dumbwaiter/dumbwaiterlaw18.NodeForms", spec := "nodeForms", inPlace := ["internal/bytealg.Compare"], unfollowed := true, recurses := true, apart := false }
def NodeFormsSaid : Prop := nodeFormsRow.holds Try.pinned (OpenSpec.ofChange nodeFormsSpec)

/-- ITS FALSE NEIGHBOUR: 'it returns false'. Refute it at one input. -/
def nodeFormsWrong : ChangeSpec := { name := "nodeForms", fn := fun _ => fun
  | [d] => { results := [.lit (.bool false)], args := [d] }
  | _ => none }
def NodeFormsWrongFalsely : Prop := nodeFormsRow.holds Try.pinned (OpenSpec.ofChange nodeFormsWrong)

/-- 'dumbwaiterlaw18.NodeMsgForms': WHATEVER THE INPUT: true; the input reads as it did. -/
def nodeMsgFormsSpec : ChangeSpec := { name := "nodeMsgForms", fn := fun _ => fun
  | [d] => { results := [.lit (.bool true)], args := [d] }
  | _ => none }
def nodeMsgFormsRow : OpenClaim := { program := "ytocpidlgcakldaa", sum := "dd5e9f6d8a1fd8d33da1c4bf3d649b43de06ca0965b5f036524e5f55987dc061", func := "dumbwaiter/dumbwaiterlaw18.NodeMsgForms", spec := "nodeMsgForms", inPlace := ["internal/bytealg.Compare"], unfollowed := true, recurses := true, apart := false }
def NodeMsgFormsSaid : Prop := nodeMsgFormsRow.holds Try.pinned (OpenSpec.ofChange nodeMsgFormsSpec)

/-- ITS FALSE NEIGHBOUR: 'it returns false'. Refute it at one input. -/
def nodeMsgFormsWrong : ChangeSpec := { name := "nodeMsgForms", fn := fun _ => fun
  | [d] => { results := [.lit (.bool false)], args := [d] }
  | _ => none }
def NodeMsgFormsWrongFalsely : Prop := nodeMsgFormsRow.holds Try.pinned (OpenSpec.ofChange nodeMsgFormsWrong)

/-- 'dumbwaiterlaw18.NodeMsgs': WHATEVER THE INPUT: true; the input reads as it did. -/
def nodeMsgsSpec : ChangeSpec := { name := "nodeMsgs", fn := fun _ => fun
  | [d1, d2, d3, d4, d5, d6] => { results := [.lit (.bool true)], args := [d1, d2, d3, d4, d5, d6] }
  | _ => none }
def nodeMsgsRow : OpenClaim := { program := "ytocpidlgcakldaa", sum := "dd5e9f6d8a1fd8d33da1c4bf3d649b43de06ca0965b5f036524e5f55987dc061", func := "dumbwaiter/dumbwaiterlaw18.NodeMsgs", spec := "nodeMsgs", inPlace := ["internal/bytealg.Compare", "math.Float64frombits", "math.Float64bits"], unfollowed := true, recurses := true, apart := false }
def NodeMsgsSaid : Prop := nodeMsgsRow.holds Try.pinned (OpenSpec.ofChange nodeMsgsSpec)

/-- ITS FALSE NEIGHBOUR: 'it returns false'. Refute it at one input. -/
def nodeMsgsWrong : ChangeSpec := { name := "nodeMsgs", fn := fun _ => fun
  | [d1, d2, d3, d4, d5, d6] => { results := [.lit (.bool false)], args := [d1, d2, d3, d4, d5, d6] }
  | _ => none }
def NodeMsgsWrongFalsely : Prop := nodeMsgsRow.holds Try.pinned (OpenSpec.ofChange nodeMsgsWrong)

/-- 'dumbwaiterlaw18.NodeBack': WHATEVER THE INPUT: true; the input reads as it did. -/
def nodeBackSpec : ChangeSpec := { name := "nodeBack", fn := fun _ => fun
  | [d1, d2, d3, d4, d5, d6] => { results := [.lit (.bool true)], args := [d1, d2, d3, d4, d5, d6] }
  | _ => none }
def nodeBackRow : OpenClaim := { program := "ytocpidlgcakldaa", sum := "dd5e9f6d8a1fd8d33da1c4bf3d649b43de06ca0965b5f036524e5f55987dc061", func := "dumbwaiter/dumbwaiterlaw18.NodeBack", spec := "nodeBack", inPlace := ["internal/bytealg.Compare", "math.Float64frombits", "math.Float64bits"], unfollowed := true, recurses := true, apart := false }
def NodeBackSaid : Prop := nodeBackRow.holds Try.pinned (OpenSpec.ofChange nodeBackSpec)

/-- ITS FALSE NEIGHBOUR: 'it returns false'. Refute it at one input. -/
def nodeBackWrong : ChangeSpec := { name := "nodeBack", fn := fun _ => fun
  | [d1, d2, d3, d4, d5, d6] => { results := [.lit (.bool false)], args := [d1, d2, d3, d4, d5, d6] }
  | _ => none }
def NodeBackWrongFalsely : Prop := nodeBackRow.holds Try.pinned (OpenSpec.ofChange nodeBackWrong)

/-- 'dumbwaiterlaw21.LeafBuilds': WHATEVER THE INPUT: true; the input reads as it did. -/
def leafBuildsSpec : ChangeSpec := { name := "leafBuilds", fn := fun _ => fun
  | [d1, d2] => { results := [.lit (.bool true)], args := [d1, d2] }
  | _ => none }
def leafBuildsRow : OpenClaim := { program := "ytocpidlgcakldaa", sum := "dd5e9f6d8a1fd8d33da1c4bf3d649b43de06ca0965b5f036524e5f55987dc061", func := "dumbwaiter/dumbwaiterlaw21.LeafBuilds", spec := "leafBuilds", inPlace := ["math.Float64frombits", "math.Float64bits", "internal/bytealg.Compare", "slices.overlaps[dumbwaiter/api.Pair]"], unfollowed := true, recurses := true, apart := false }
def LeafBuildsSaid : Prop := leafBuildsRow.holds Try.pinned (OpenSpec.ofChange leafBuildsSpec)

/-- ITS FALSE NEIGHBOUR: 'it returns false'. Refute it at one input. -/
def leafBuildsWrong : ChangeSpec := { name := "leafBuilds", fn := fun _ => fun
  | [d1, d2] => { results := [.lit (.bool false)], args := [d1, d2] }
  | _ => none }
def LeafBuildsWrongFalsely : Prop := leafBuildsRow.holds Try.pinned (OpenSpec.ofChange leafBuildsWrong)

/-- 'dumbwaiterlaw21.LeafDeletes': WHATEVER THE INPUT: true; the input reads as it did. -/
def leafDeletesSpec : ChangeSpec := { name := "leafDeletes", fn := fun _ => fun
  | [d1, d2] => { results := [.lit (.bool true)], args := [d1, d2] }
  | _ => none }
def leafDeletesRow : OpenClaim := { program := "ytocpidlgcakldaa", sum := "dd5e9f6d8a1fd8d33da1c4bf3d649b43de06ca0965b5f036524e5f55987dc061", func := "dumbwaiter/dumbwaiterlaw21.LeafDeletes", spec := "leafDeletes", inPlace := ["math.Float64frombits", "math.Float64bits", "internal/bytealg.Compare", "slices.overlaps[dumbwaiter/api.Pair]"], unfollowed := true, recurses := true, apart := false }
def LeafDeletesSaid : Prop := leafDeletesRow.holds Try.pinned (OpenSpec.ofChange leafDeletesSpec)

/-- ITS FALSE NEIGHBOUR: 'it returns false'. Refute it at one input. -/
def leafDeletesWrong : ChangeSpec := { name := "leafDeletes", fn := fun _ => fun
  | [d1, d2] => { results := [.lit (.bool false)], args := [d1, d2] }
  | _ => none }
def LeafDeletesWrongFalsely : Prop := leafDeletesRow.holds Try.pinned (OpenSpec.ofChange leafDeletesWrong)

/-- 'dumbwaiterlaw21.LeafTells': WHATEVER THE INPUT: true; the input reads as it did. -/
def leafTellsSpec : ChangeSpec := { name := "leafTells", fn := fun _ => fun
  | [d1, d2, d3, d4, d5] => { results := [.lit (.bool true)], args := [d1, d2, d3, d4, d5] }
  | _ => none }
def leafTellsRow : OpenClaim := { program := "ytocpidlgcakldaa", sum := "dd5e9f6d8a1fd8d33da1c4bf3d649b43de06ca0965b5f036524e5f55987dc061", func := "dumbwaiter/dumbwaiterlaw21.LeafTells", spec := "leafTells", inPlace := ["internal/bytealg.Compare", "math.Float64frombits", "math.Float64bits", "slices.overlaps[dumbwaiter/api.Pair]"], unfollowed := true, recurses := true, apart := false }
def LeafTellsSaid : Prop := leafTellsRow.holds Try.pinned (OpenSpec.ofChange leafTellsSpec)

/-- ITS FALSE NEIGHBOUR: 'it returns false'. Refute it at one input. -/
def leafTellsWrong : ChangeSpec := { name := "leafTells", fn := fun _ => fun
  | [d1, d2, d3, d4, d5] => { results := [.lit (.bool false)], args := [d1, d2, d3, d4, d5] }
  | _ => none }
def LeafTellsWrongFalsely : Prop := leafTellsRow.holds Try.pinned (OpenSpec.ofChange leafTellsWrong)

/-- 'dumbwaiterlaw21.LeafRoom': WHATEVER THE INPUT: true; the input reads as it did. -/
def leafRoomSpec : ChangeSpec := { name := "leafRoom", fn := fun _ => fun
  | [d1, d2, d3] => { results := [.lit (.bool true)], args := [d1, d2, d3] }
  | _ => none }
def leafRoomRow : OpenClaim := { program := "ytocpidlgcakldaa", sum := "dd5e9f6d8a1fd8d33da1c4bf3d649b43de06ca0965b5f036524e5f55987dc061", func := "dumbwaiter/dumbwaiterlaw21.LeafRoom", spec := "leafRoom", inPlace := ["math.Float64frombits", "math.Float64bits", "internal/bytealg.Compare", "slices.overlaps[dumbwaiter/api.Pair]"], unfollowed := true, recurses := true, apart := false }
def LeafRoomSaid : Prop := leafRoomRow.holds Try.pinned (OpenSpec.ofChange leafRoomSpec)

/-- ITS FALSE NEIGHBOUR: 'it returns false'. Refute it at one input. -/
def leafRoomWrong : ChangeSpec := { name := "leafRoom", fn := fun _ => fun
  | [d1, d2, d3] => { results := [.lit (.bool false)], args := [d1, d2, d3] }
  | _ => none }
def LeafRoomWrongFalsely : Prop := leafRoomRow.holds Try.pinned (OpenSpec.ofChange leafRoomWrong)

/- THE SECOND FORM. 'bulk': how many values and letters a reading holds, each counted each time it is reached (what is shared counts as often as it is met; a slice's spare places count too). A statement '..UptoSaid' is the law's where the arguments, and the package variables that the reading takes, are together of bulk at most 1048576: NARROWER than '..Said'. Prove '..Said' where nothing that the law and all that it calls make is longer than what came in: it says more and counts as full. Else prove '..UptoSaid'. A law counts once. -/
mutual
def uptoBulk {H : Type} : DataW H → Nat
  | .lit (.string bytes) => bytes.length + 1
  | .lit _ => 1
  | .nil => 1
  | .ptr d => uptoBulk d + 1
  | .slice elems spare => uptoBulkAll elems + uptoBulkAll spare + 1
  | .agg parts => uptoBulkAll parts + 1
  | .iface _ d => uptoBulk d + 1
  | .map entries => uptoBulkEntries entries + 1
  | .held _ => 1
def uptoBulkAll {H : Type} : List (DataW H) → Nat
  | [] => 0
  | d :: r => uptoBulk d + uptoBulkAll r
def uptoBulkEntries {H : Type} : List (Lit × DataW H) → Nat
  | [] => 0
  | x :: r => uptoBulkEntry x + uptoBulkEntries r
def uptoBulkEntry {H : Type} : Lit × DataW H → Nat
  | (.string bytes, d) => bytes.length + uptoBulk d + 1
  | (_, d) => uptoBulk d + 1
 end
def uptoSmall : (H : Type) → List (DataW H) → Bool := fun _ ds => decide (uptoBulkAll ds ≤ 1048576)
def OpenSpec.upto (s : _root_.Go.ChangeSpec) : _root_.Go.OpenSpec := { _root_.Go.OpenSpec.ofChange s with cond := some uptoSmall }

/-- 'dumbwaiterlaw18.NodeForms', WHERE WHAT IT READS IS OF BULK AT MOST 1048576: true; the input reads as it did. -/
def nodeFormsUptoRow : OpenClaim := { program := "ytocpidlgcakldaa", sum := "dd5e9f6d8a1fd8d33da1c4bf3d649b43de06ca0965b5f036524e5f55987dc061", func := "dumbwaiter/dumbwaiterlaw18.NodeForms", spec := "nodeForms", inPlace := ["internal/bytealg.Compare"], unfollowed := true, recurses := true, apart := false, narrowed := true }
def NodeFormsUptoSaid : Prop := nodeFormsUptoRow.holds Try.pinned (OpenSpec.upto nodeFormsSpec)

/-- 'dumbwaiterlaw18.NodeMsgForms', WHERE WHAT IT READS IS OF BULK AT MOST 1048576: true; the input reads as it did. -/
def nodeMsgFormsUptoRow : OpenClaim := { program := "ytocpidlgcakldaa", sum := "dd5e9f6d8a1fd8d33da1c4bf3d649b43de06ca0965b5f036524e5f55987dc061", func := "dumbwaiter/dumbwaiterlaw18.NodeMsgForms", spec := "nodeMsgForms", inPlace := ["internal/bytealg.Compare"], unfollowed := true, recurses := true, apart := false, narrowed := true }
def NodeMsgFormsUptoSaid : Prop := nodeMsgFormsUptoRow.holds Try.pinned (OpenSpec.upto nodeMsgFormsSpec)

/-- 'dumbwaiterlaw18.NodeMsgs', WHERE WHAT IT READS IS OF BULK AT MOST 1048576: true; the input reads as it did. -/
def nodeMsgsUptoRow : OpenClaim := { program := "ytocpidlgcakldaa", sum := "dd5e9f6d8a1fd8d33da1c4bf3d649b43de06ca0965b5f036524e5f55987dc061", func := "dumbwaiter/dumbwaiterlaw18.NodeMsgs", spec := "nodeMsgs", inPlace := ["internal/bytealg.Compare", "math.Float64frombits", "math.Float64bits"], unfollowed := true, recurses := true, apart := false, narrowed := true }
def NodeMsgsUptoSaid : Prop := nodeMsgsUptoRow.holds Try.pinned (OpenSpec.upto nodeMsgsSpec)

/-- 'dumbwaiterlaw18.NodeBack', WHERE WHAT IT READS IS OF BULK AT MOST 1048576: true; the input reads as it did. -/
def nodeBackUptoRow : OpenClaim := { program := "ytocpidlgcakldaa", sum := "dd5e9f6d8a1fd8d33da1c4bf3d649b43de06ca0965b5f036524e5f55987dc061", func := "dumbwaiter/dumbwaiterlaw18.NodeBack", spec := "nodeBack", inPlace := ["internal/bytealg.Compare", "math.Float64frombits", "math.Float64bits"], unfollowed := true, recurses := true, apart := false, narrowed := true }
def NodeBackUptoSaid : Prop := nodeBackUptoRow.holds Try.pinned (OpenSpec.upto nodeBackSpec)

/-- 'dumbwaiterlaw21.LeafBuilds', WHERE WHAT IT READS IS OF BULK AT MOST 1048576: true; the input reads as it did. -/
def leafBuildsUptoRow : OpenClaim := { program := "ytocpidlgcakldaa", sum := "dd5e9f6d8a1fd8d33da1c4bf3d649b43de06ca0965b5f036524e5f55987dc061", func := "dumbwaiter/dumbwaiterlaw21.LeafBuilds", spec := "leafBuilds", inPlace := ["math.Float64frombits", "math.Float64bits", "internal/bytealg.Compare", "slices.overlaps[dumbwaiter/api.Pair]"], unfollowed := true, recurses := true, apart := false, narrowed := true }
def LeafBuildsUptoSaid : Prop := leafBuildsUptoRow.holds Try.pinned (OpenSpec.upto leafBuildsSpec)

/-- 'dumbwaiterlaw21.LeafDeletes', WHERE WHAT IT READS IS OF BULK AT MOST 1048576: true; the input reads as it did. -/
def leafDeletesUptoRow : OpenClaim := { program := "ytocpidlgcakldaa", sum := "dd5e9f6d8a1fd8d33da1c4bf3d649b43de06ca0965b5f036524e5f55987dc061", func := "dumbwaiter/dumbwaiterlaw21.LeafDeletes", spec := "leafDeletes", inPlace := ["math.Float64frombits", "math.Float64bits", "internal/bytealg.Compare", "slices.overlaps[dumbwaiter/api.Pair]"], unfollowed := true, recurses := true, apart := false, narrowed := true }
def LeafDeletesUptoSaid : Prop := leafDeletesUptoRow.holds Try.pinned (OpenSpec.upto leafDeletesSpec)

/-- 'dumbwaiterlaw21.LeafTells', WHERE WHAT IT READS IS OF BULK AT MOST 1048576: true; the input reads as it did. -/
def leafTellsUptoRow : OpenClaim := { program := "ytocpidlgcakldaa", sum := "dd5e9f6d8a1fd8d33da1c4bf3d649b43de06ca0965b5f036524e5f55987dc061", func := "dumbwaiter/dumbwaiterlaw21.LeafTells", spec := "leafTells", inPlace := ["internal/bytealg.Compare", "math.Float64frombits", "math.Float64bits", "slices.overlaps[dumbwaiter/api.Pair]"], unfollowed := true, recurses := true, apart := false, narrowed := true }
def LeafTellsUptoSaid : Prop := leafTellsUptoRow.holds Try.pinned (OpenSpec.upto leafTellsSpec)

/-- 'dumbwaiterlaw21.LeafRoom', WHERE WHAT IT READS IS OF BULK AT MOST 1048576: true; the input reads as it did. -/
def leafRoomUptoRow : OpenClaim := { program := "ytocpidlgcakldaa", sum := "dd5e9f6d8a1fd8d33da1c4bf3d649b43de06ca0965b5f036524e5f55987dc061", func := "dumbwaiter/dumbwaiterlaw21.LeafRoom", spec := "leafRoom", inPlace := ["math.Float64frombits", "math.Float64bits", "internal/bytealg.Compare", "slices.overlaps[dumbwaiter/api.Pair]"], unfollowed := true, recurses := true, apart := false, narrowed := true }
def LeafRoomUptoSaid : Prop := leafRoomUptoRow.holds Try.pinned (OpenSpec.upto leafRoomSpec)

end Rows
end Go.Proofs.Ytocpidlgcakldaa
