/- A part of the proof of NodeMsgs: walks of the functions that it reaches. No condition. -/
import Derived.Test.YtocpidlgcakldaaZtMeD
import Derived.Test.YtocpidlgcakldaaZmAuto
namespace Go.Proofs.ZtLe
open Go.RowKit Go.Proofs Go.Proofs.Zm
set_option linter.unusedVariables false
set_option linter.unusedSimpArgs false
set_option maxHeartbeats 20000000
set_option maxRecDepth 100000
attribute [local irreducible] ZWp ZOps ZPure ZPure0 ZVal ZOp SoundF

/-! ### mesg.one -/
def thereP (ps : List PairV) (k : Bs) : Bool := decide ((keysP ps)[cnt (keysP ps) k]? = some k)
def wasP (ps : List PairV) (k : Bs) : Bs := if thereP ps k = true then (ps.getD (cnt (keysP ps) k) ([], [])).2 else []
def oneL (ps : List PairV) (m : MsgV) : List PairV :=
  let r := foldM (wasP ps m.2.1) (thereP ps m.2.1) [m]
  let i := cnt (keysP ps) m.2.1
  if thereP ps m.2.1 = true then (if r.2 = true then ps.set i (m.2.1, r.1) else ps.take i ++ ps.drop (i + 1)) else if r.2 = true then ps.take i ++ (m.2.1, r.1) :: ps.drop i else ps
theorem thereP_get {ps : List PairV} {k : Bs} (h : thereP ps k = true) : ∃ v, ps[cnt (keysP ps) k]? = some (k, v) := by
  unfold thereP at h
  have h := of_decide_eq_true h
  unfold keysP at h ⊢
  rw [List.getElem?_map] at h
  obtain ⟨⟨a, v⟩, h1, h2⟩ := Option.map_eq_some_iff.1 h
  simp only at h2
  subst h2
  exact ⟨v, h1⟩
theorem pf_take {l : List PairV} {i : Nat} (h : i ≤ l.length) : (pairR l).flatten.take (i * 2) = (pairR (l.take i)).flatten ∧ (pairR l).flatten.drop (i * 2) = (pairR (l.drop i)).flatten := by
  have e : pairR l = pairR (l.take i) ++ pairR (l.drop i) := by rw [← pairR_append, List.take_append_drop]
  have e3 : (pairR (l.take i)).flatten.length = i * 2 := by rw [pairR_flat_length, List.length_take, Nat.min_eq_left h]
  rw [e, List.flatten_append, List.take_left' e3, List.drop_left' e3]
  exact ⟨rfl, rfl⟩
def PB (p : PairV) : Prop := p.1.length ≤ 2147483648 ∧ p.2.length ≤ 2147483648
def oneOwn : ZSpec := fun args st K => ∃ (o : Option Nat) (c : Nat) (full : List D) (ps : List PairV) (m : MsgV), args = [orow o ps.length c, .agg (msgD m)] ∧ OwnA st [(o, full)] ∧ GRow o full 2 ps.length c (pairR ps).flatten ∧ Srt (keysP ps) ∧ ps.length ≤ 2147483647 ∧ (∀ p ∈ ps, PB p) ∧ MB m ∧
  ∀ o' c' f' st', Sep (bareL st [(o, full)]) st' [(o', f')] → GRow o' f' 2 (oneL ps m).length c' (pairR (oneL ps m)).flatten → K (orow o' (oneL ps m).length c') st'
end Go.Proofs.ZtLe
