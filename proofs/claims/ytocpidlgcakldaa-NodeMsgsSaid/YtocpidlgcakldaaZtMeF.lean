/- A part of the proof of NodeMsgs: walks of the functions that it reaches. No condition. -/
import Derived.Test.YtocpidlgcakldaaZtMeE
import Derived.Test.YtocpidlgcakldaaZtInT
import Derived.Test.YtocpidlgcakldaaZmAuto
namespace Go.Proofs.ZtLe
open Go.RowKit Go.Proofs Go.Proofs.Zm
set_option linter.unusedVariables false
set_option linter.unusedSimpArgs false
set_option maxHeartbeats 20000000
set_option maxRecDepth 100000
attribute [local irreducible] ZWp ZOps ZPure ZPure0 ZVal ZOp SoundF

/-! ### mesg.Apply -/
def applyL (p : List PairV) (l : List MsgV) : List PairV := l.foldl oneL p
theorem applyL_snoc (p : List PairV) (l : List MsgV) (m : MsgV) : applyL p (l ++ [m]) = oneL (applyL p l) m := by unfold applyL; rw [List.foldl_append]; rfl
theorem keysP_append (a b : List PairV) : keysP (a ++ b) = keysP a ++ keysP b := by simp [keysP]
theorem keysP_take (a : List PairV) (i : Nat) : keysP (a.take i) = (keysP a).take i := by simp [keysP, List.map_take]
theorem keysP_drop (a : List PairV) (i : Nat) : keysP (a.drop i) = (keysP a).drop i := by simp [keysP, List.map_drop]
theorem oneL_srt {ps : List PairV} {m : MsgV} (hs : Srt (keysP ps)) : Srt (keysP (oneL ps m)) := by
  have hcl := cnt_le (keysP ps) m.2.1
  unfold oneL
  simp only
  split
  · rename_i hth
    obtain ⟨v, hv⟩ := thereP_get hth
    split
    · have : keysP (ps.set (cnt (keysP ps) m.2.1) (m.2.1, (foldM (wasP ps m.2.1) (thereP ps m.2.1) [m]).1)) = keysP ps := by
        unfold keysP
        rw [List.map_set]
        apply List.ext_getElem?
        intro j
        rw [List.getElem?_set]
        split
        · rename_i hj
          subst hj
          rw [List.getElem?_map]
          unfold keysP at hv
          rw [hv]
          split
          · rfl
          · rename_i hh
            have := (List.getElem?_eq_some_iff.1 hv).1
            simp at hh; omega
        · rfl
      rw [this]; exact hs
    · rw [keysP_append, keysP_take, keysP_drop]
      have h1 : ((keysP ps).take (cnt (keysP ps) m.2.1) ++ (keysP ps).drop (cnt (keysP ps) m.2.1 + 1)).Sublist (keysP ps) := by
        have : (keysP ps).take (cnt (keysP ps) m.2.1) ++ (keysP ps).drop (cnt (keysP ps) m.2.1 + 1) = (keysP ps).eraseIdx (cnt (keysP ps) m.2.1) := (List.eraseIdx_eq_take_drop_succ _ _).symm
        rw [this]; exact List.eraseIdx_sublist _ _
      exact List.Pairwise.sublist h1 hs
  · rename_i hth
    split
    · have e : keysP (ps.take (cnt (keysP ps) m.2.1) ++ (m.2.1, (foldM (wasP ps m.2.1) (thereP ps m.2.1) [m]).1) :: ps.drop (cnt (keysP ps) m.2.1)) = insAt (keysP ps) (cnt (keysP ps) m.2.1) m.2.1 := by
        unfold insAt; simp [keysP, List.map_take, List.map_drop]
      rw [e]
      refine srt_ins hs hcl (fun j hj hji => (cnt_iff hs m.2.1 hj).2 hji) fun j hj hji => ?_
      have hnk : ¬ (keysP ps)[cnt (keysP ps) m.2.1]? = some m.2.1 := fun h => hth (by unfold thereP; exact decide_eq_true h)
      have hc : cnt (keysP ps) m.2.1 < (keysP ps).length := by omega
      have h0 : lt m.2.1 ((keysP ps)[cnt (keysP ps) m.2.1]) = true := by
        have h1 : ¬ lt ((keysP ps)[cnt (keysP ps) m.2.1]) m.2.1 = true := fun h => by have := (cnt_iff hs m.2.1 hc).1 h; omega
        rcases lt_le (by simpa using h1) with h | h
        · exact absurd (by rw [List.getElem?_eq_getElem hc, h]) hnk
        · exact h
      rcases Nat.lt_or_ge (cnt (keysP ps) m.2.1) j with q | q
      · exact lt_trans h0 (hs.get q hj)
      · have e : j = cnt (keysP ps) m.2.1 := by omega
        subst e; exact h0
    · exact hs
def applyOwn : ZSpec := fun args st K => ∃ (p : List PairV) (l : List MsgV) (tp tl : Nat), args = [.row (pairR p) 2 tp, .row (msgR l) 3 tl] ∧ p.length ≤ 1000000 ∧ l.length ≤ 1000000 ∧ Srt (keysP p) ∧ (∀ q ∈ p, PB q) ∧ (∀ m ∈ l, MB m) ∧
  ∀ o c f st', Sep st st' [(o, f)] → GRow o f 2 (applyL p l).length c (pairR (applyL p l)).flatten → K (orow o (applyL p l).length c) st'
end Go.Proofs.ZtLe
