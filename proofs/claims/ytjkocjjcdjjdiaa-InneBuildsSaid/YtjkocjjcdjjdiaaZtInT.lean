/- A part of the proof of InneBuilds: walks of the functions that it reaches. No condition. -/
import Derived.Test.YtjkocjjcdjjdiaaZtInR
import Derived.Test.YtjkocjjcdjjdiaaZmAuto
namespace Go.Proofs.ZtLe
open Go.RowKit Go.Proofs Go.Proofs.Zm
set_option linter.unusedVariables false
set_option linter.unusedSimpArgs false
set_option maxHeartbeats 20000000
set_option maxRecDepth 100000
attribute [local irreducible] ZWp ZOps ZPure ZPure0 ZVal ZOp SoundF

/-! ### plain laws of ways, of a node with a kid more, of what is taken -/
theorem lt_snoc : ∀ (a : Bs) (x : UInt8), lt a (a ++ [x]) = true
  | [], x => rfl
  | c :: a, x => by
    rw [List.cons_append, lt_cons, lt_snoc a x]; simp
section
variable {l : List Bs} {k : Nat}
end
theorem mine_take (keys : List Bs) (k most : Nat) (l : List MsgV) : (mineL keys k most l).1 = (l.filter fun m => wayL keys m.2.1 == k).take most := by
  induction l using rev_ind with
  | h0 => simp [mineL]
  | h1 l m ih =>
    rw [mineL_app, List.filter_append, ih, List.length_take]
    by_cases hw : wayL keys m.2.1 = k
    · simp only [hw, and_true, List.filter_cons, beq_self_eq_true, if_true, List.filter_nil]
      split
      · rename_i hh
        simp only
        rw [List.take_of_length_le (by omega), List.take_of_length_le (by simp; omega)]
      · rename_i hh
        simp only
        rw [List.take_append_of_le_length (by omega)]
    · simp [hw, List.filter_cons]
end Go.Proofs.ZtLe
