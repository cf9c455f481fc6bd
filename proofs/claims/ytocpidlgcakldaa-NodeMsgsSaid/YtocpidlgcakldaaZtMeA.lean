/- A part of the proof of NodeMsgs: walks of the functions that it reaches. No condition. -/
import Derived.Test.YtocpidlgcakldaaZtInN
import Derived.Test.YtocpidlgcakldaaZmP2
import Derived.Test.YtocpidlgcakldaaZmAuto
namespace Go.Proofs.ZtLe
open Go.RowKit Go.Proofs Go.Proofs.Zm
set_option linter.unusedVariables false
set_option linter.unusedSimpArgs false
set_option maxHeartbeats 20000000
set_option maxRecDepth 100000
attribute [local irreducible] ZWp ZOps ZPure ZPure0 ZVal ZOp SoundF

/-! ### numbers that are added -/
def bytesN (b : Nat) : Bs := putB (oneN b : Nat) 8
def ofN (l : Bs) : Nat := if l.length = 8 then oneN (get l).toNat else 0
theorem bytesN_length (b : Nat) : (bytesN b).length = 8 := by simp [bytesN, putB, put_length]
theorem put_pf {n : Int} {k : Int} (h : 0 ≤ n ∧ n < 18446744073709551616) : PureF Try.prog 44 [.v (.int .u64 n), .v (.int .i64 k)] (.row (bytesD (putB n k)) 1 0) :=
  PureF.ofOwn fun st K hK => ⟨_, put_snd, n, k, rfl, h.1, h.2, fun t ht ht0 => hK [] _ _ ⟨(Ext.refl _).setT t, fun _ _ h => (by cases h), fun _ _ h => (by cases h), List.nodup_nil⟩ (fun r hr => by simp at hr) fun G hr u hu => hu.notok⟩
theorem get_pf {l : Bs} {tk : Nat} (h : l.length ≤ 140737488355328) : PureF Try.prog 59 [.row (bytesD l) 1 tk] (.v (.int .u64 (get l))) := PureF.of get_snd fun st K hK => ⟨_, _, rfl, h, hK⟩
/-! ### mesg.Fold, mesg.Of and the document's -/
def stepM (s : Bs × Bool) (m : MsgV) : Bs × Bool := if m.1 = 1 then (m.2.2, true) else if m.1 = 2 then ([], false) else if m.1 = 3 then (bytesN (addN (ofN s.1) (ofN m.2.2)), true) else s
def foldM (v : Bs) (there : Bool) (l : List MsgV) : Bs × Bool := l.foldl stepM ((if there = true then v else []), there)
theorem foldM_snoc (v : Bs) (there : Bool) (l : List MsgV) (m : MsgV) : foldM v there (l ++ [m]) = stepM (foldM v there l) m := by unfold foldM; rw [List.foldl_append]; rfl
end Go.Proofs.ZtLe
