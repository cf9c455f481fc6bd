/- A part of the proof of InneChunks: walks of the functions that it reaches. No condition. -/
import Derived.Test.YtjkocjjcdjjdiaaZtInR
import Derived.Test.YtjkocjjcdjjdiaaZmAuto
namespace Go.Proofs.ZtLe
open Go.RowKit Go.Proofs Go.Proofs.Zm
set_option linter.unusedVariables false
set_option linter.unusedSimpArgs false
set_option maxHeartbeats 20000000
set_option maxRecDepth 100000
attribute [local irreducible] ZWp ZOps ZPure ZPure0 ZVal ZOp SoundF

/-! ### plain laws of ways, of a node with a kid more, of what is taken -/
theorem InnerN.nodeB {c : CfgV} {n : NodeV} (hc : SmallC c) (h : InnerN c n) : NodeB n := by
  obtain ⟨hcc1, hcc2⟩ := hc.hc
  obtain ⟨hf1, hf2⟩ := hc.hf
  obtain ⟨hm1, hm2⟩ := hc.hm
  have hmm : c.f * c.c ≤ 8 := by
    have h1 : c.f * c.c ≤ 4 * c.c := Int.mul_le_mul_of_nonneg_right hf2 (by omega)
    omega
  have h1 := h.klen
  have h2 := h.kids
  have h3 := h.mlen
  exact ⟨⟨by omega, fun b hb => by have := h.kb b hb; omega⟩, by rw [h.vals]; exact ⟨by simp, fun b hb => by cases hb⟩, by omega, by omega, fun m hm => by have := h.msg m hm; exact ⟨by omega, by omega⟩⟩
theorem lt_snoc : ∀ (a : Bs) (x : UInt8), lt a (a ++ [x]) = true
  | [], x => rfl
  | c :: a, x => by
    rw [List.cons_append, lt_cons, lt_snoc a x]; simp
section
variable {l : List Bs} {k : Nat}
end
theorem mine_take (keys : List Bs) (k most : Nat) (l : List MsgV) : (mineL keys k most l).1 = (l.filter fun m => wayL keys m.2.1 == k).take most := by
  induction l using rev_ind with
  | h0 => simp [mineL]
  | h1 l m ih =>
    rw [mineL_app, List.filter_append, ih, List.length_take]
    by_cases hw : wayL keys m.2.1 = k
    · simp only [hw, and_true, List.filter_cons, beq_self_eq_true, if_true, List.filter_nil]
      split
      · rename_i hh
        simp only
        rw [List.take_of_length_le (by omega), List.take_of_length_le (by simp; omega)]
      · rename_i hh
        simp only
        rw [List.take_append_of_le_length (by omega)]
    · simp [hw, List.filter_cons]
theorem mine_len (keys : List Bs) (k most : Nat) (l : List MsgV) : (mineL keys k most l).1.length = min most (cntK keys l k) := by
  rw [mine_take, List.length_take]; rfl
theorem bestL_max (f : Nat → Nat) : ∀ (N j : Nat), j < N → f j ≤ f (bestL f N)
  | N + 1, j, h => by
    rw [bestL_succ]
    by_cases hj : j < N
    · have := bestL_max f N j hj
      split <;> omega
    · have e : j = N := by omega
      subst e
      split <;> omega
theorem cntK_sum (keys : List Bs) (l : List MsgV) (b : Nat) : ∀ (N : Nat), (∀ k, k < N → cntK keys l k ≤ b) → (l.filter fun m => decide (wayL keys m.2.1 < N)).length ≤ N * b
  | 0, _ => by simp
  | N + 1, h => by
    have ih := cntK_sum keys l b N fun k hk => h k (by omega)
    have h1 := h N (by omega)
    have e : (l.filter fun m => decide (wayL keys m.2.1 < N + 1)).length = (l.filter fun m => decide (wayL keys m.2.1 < N)).length + cntK keys l N := by
      unfold cntK
      clear ih h1 h
      induction l with
      | nil => rfl
      | cons a l ih =>
        simp only [List.filter_cons]
        rcases Nat.lt_trichotomy (wayL keys a.2.1) N with q | q | q
        · simp [q, show wayL keys a.2.1 < N + 1 by omega, show ¬ wayL keys a.2.1 = N by omega, ih]; omega
        · simp [q, ih]; omega
        · simp [show ¬ wayL keys a.2.1 < N by omega, show ¬ wayL keys a.2.1 < N + 1 by omega, show ¬ wayL keys a.2.1 = N by omega, ih]
    rw [e, Nat.succ_mul]; omega
/-- The heaviest kid has as many as there must be. -/
theorem heavy_many (n : NodeV) (b : Nat) (h : (n.keys.length + 1) * b < n.msgs.length) : b < cntK n.keys n.msgs (heavyL n) := by
  rcases Nat.lt_or_ge b (cntK n.keys n.msgs (heavyL n)) with q | q
  · exact q
  have h1 := cntK_sum n.keys n.msgs b (n.keys.length + 1) fun k hk => Nat.le_trans (bestL_max (cntK n.keys n.msgs) (n.keys.length + 1) k hk) q
  have h2 : (n.msgs.filter fun m => decide (wayL n.keys m.2.1 < n.keys.length + 1)) = n.msgs := List.filter_eq_self.2 fun m _ => by have := way_le n.keys m.2.1; simp; omega
  rw [h2] at h1; omega
theorem heavy_lt (n : NodeV) : heavyL n < n.keys.length + 1 := bestL_lt _ _ _ (Nat.le_refl _) (by omega)
end Go.Proofs.ZtLe
