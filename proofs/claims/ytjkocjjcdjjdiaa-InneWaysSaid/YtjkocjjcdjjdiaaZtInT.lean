/- A part of the proof of InneWays: walks of the functions that it reaches. No condition. -/
import Derived.Test.YtjkocjjcdjjdiaaZtInR
import Derived.Test.YtjkocjjcdjjdiaaZmAuto
namespace Go.Proofs.ZtLe
open Go.RowKit Go.Proofs Go.Proofs.Zm
set_option linter.unusedVariables false
set_option linter.unusedSimpArgs false
set_option maxHeartbeats 20000000
set_option maxRecDepth 100000
attribute [local irreducible] ZWp ZOps ZPure ZPure0 ZVal ZOp SoundF

/-! ### plain laws of ways, of a node with a kid more, of what is taken -/
theorem InnerN.nodeB {c : CfgV} {n : NodeV} (hc : SmallC c) (h : InnerN c n) : NodeB n := by
  obtain ⟨hcc1, hcc2⟩ := hc.hc
  obtain ⟨hf1, hf2⟩ := hc.hf
  obtain ⟨hm1, hm2⟩ := hc.hm
  have hmm : c.f * c.c ≤ 8 := by
    have h1 : c.f * c.c ≤ 4 * c.c := Int.mul_le_mul_of_nonneg_right hf2 (by omega)
    omega
  have h1 := h.klen
  have h2 := h.kids
  have h3 := h.mlen
  exact ⟨⟨by omega, fun b hb => by have := h.kb b hb; omega⟩, by rw [h.vals]; exact ⟨by simp, fun b hb => by cases hb⟩, by omega, by omega, fun m hm => by have := h.msg m hm; exact ⟨by omega, by omega⟩⟩
theorem lo_iff {l : List Bs} (hs : Srt l) (key : Bs) {k : Nat} (h : k ≤ l.length) : lt key (loL l k) = false ↔ k ≤ wayL l key := by
  unfold loL
  split
  · rename_i e; subst e; rw [lt_nil]; simp
  · rename_i e
    have hk : k - 1 < l.length := by omega
    rw [getD_of (List.getElem?_eq_getElem hk), way_iff hs key hk]; omega
theorem hi_iff {l : List Bs} (hs : Srt l) (key : Bs) {k : Nat} (h : k < l.length) : lt key (hiL l k) = true ↔ wayL l key ≤ k := by
  unfold hiL
  rw [getD_of (List.getElem?_eq_getElem h)]
  have := way_iff hs key h
  cases e : lt key l[k] with
  | true => rw [e] at this; simp only [Bool.true_eq_false, false_iff] at this; simp; omega
  | false => rw [e] at this; simp only [true_iff] at this; simp; omega
theorem lt_snoc : ∀ (a : Bs) (x : UInt8), lt a (a ++ [x]) = true
  | [], x => rfl
  | c :: a, x => by
    rw [List.cons_append, lt_cons, lt_snoc a x]; simp
section
variable {l : List Bs} {k : Nat}
end
theorem mine_take (keys : List Bs) (k most : Nat) (l : List MsgV) : (mineL keys k most l).1 = (l.filter fun m => wayL keys m.2.1 == k).take most := by
  induction l using rev_ind with
  | h0 => simp [mineL]
  | h1 l m ih =>
    rw [mineL_app, List.filter_append, ih, List.length_take]
    by_cases hw : wayL keys m.2.1 = k
    · simp only [hw, and_true, List.filter_cons, beq_self_eq_true, if_true, List.filter_nil]
      split
      · rename_i hh
        simp only
        rw [List.take_of_length_le (by omega), List.take_of_length_le (by simp; omega)]
      · rename_i hh
        simp only
        rw [List.take_append_of_le_length (by omega)]
    · simp [hw, List.filter_cons]
end Go.Proofs.ZtLe
