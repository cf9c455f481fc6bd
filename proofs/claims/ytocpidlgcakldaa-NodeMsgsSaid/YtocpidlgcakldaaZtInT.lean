/- A part of the proof of NodeMsgs: walks of the functions that it reaches. No condition. -/
import Derived.Test.YtocpidlgcakldaaZtInR
import Derived.Test.YtocpidlgcakldaaZmAuto
namespace Go.Proofs.ZtLe
open Go.RowKit Go.Proofs Go.Proofs.Zm
set_option linter.unusedVariables false
set_option linter.unusedSimpArgs false
set_option maxHeartbeats 20000000
set_option maxRecDepth 100000
attribute [local irreducible] ZWp ZOps ZPure ZPure0 ZVal ZOp SoundF

/-! ### plain laws of ways, of a node with a kid more, of what is taken -/
theorem lt_snoc : ∀ (a : Bs) (x : UInt8), lt a (a ++ [x]) = true
  | [], x => rfl
  | c :: a, x => by
    rw [List.cons_append, lt_cons, lt_snoc a x]; simp
section
variable {l : List Bs} {k : Nat}
theorem srt_ins (hs : Srt l) (hk : k ≤ l.length) {p : Bs} (h1 : ∀ i (h : i < l.length), i < k → lt l[i] p = true) (h2 : ∀ i (h : i < l.length), k ≤ i → lt p l[i] = true) : Srt (insAt l k p) := by
  unfold insAt Srt
  have hs' : Srt (l.take k ++ l.drop k) := by rw [List.take_append_drop]; exact hs
  obtain ⟨a1, a2, a3⟩ := List.pairwise_append.1 hs'
  refine List.pairwise_append.2 ⟨List.pairwise_append.2 ⟨a1, List.pairwise_singleton _ _, fun a ha b hb => ?_⟩, a2, fun a ha b hb => ?_⟩
  · simp only [List.mem_singleton] at hb; subst hb
    obtain ⟨i, hi, rfl⟩ := List.mem_iff_getElem.1 ha
    rw [List.length_take] at hi
    rw [List.getElem_take]
    exact h1 i (by omega) (by omega)
  · rcases List.mem_append.1 ha with ha | ha
    · exact a3 a ha b hb
    · simp only [List.mem_singleton] at ha; subst ha
      obtain ⟨i, hi, rfl⟩ := List.mem_iff_getElem.1 hb
      rw [List.length_drop] at hi
      rw [List.getElem_drop]
      exact h2 (k + i) (by omega) (by omega)
end
theorem mine_take (keys : List Bs) (k most : Nat) (l : List MsgV) : (mineL keys k most l).1 = (l.filter fun m => wayL keys m.2.1 == k).take most := by
  induction l using rev_ind with
  | h0 => simp [mineL]
  | h1 l m ih =>
    rw [mineL_app, List.filter_append, ih, List.length_take]
    by_cases hw : wayL keys m.2.1 = k
    · simp only [hw, and_true, List.filter_cons, beq_self_eq_true, if_true, List.filter_nil]
      split
      · rename_i hh
        simp only
        rw [List.take_of_length_le (by omega), List.take_of_length_le (by simp; omega)]
      · rename_i hh
        simp only
        rw [List.take_append_of_le_length (by omega)]
    · simp [hw, List.filter_cons]
end Go.Proofs.ZtLe
