/- A part of the proof of NodeMsgs: walks of the functions that it reaches. No condition. -/
import Derived.Test.YtocpidlgcakldaaZtInG
import Derived.Test.YtocpidlgcakldaaZmAuto
namespace Go.Proofs.ZtLe
open Go.RowKit Go.Proofs Go.Proofs.Zm
set_option linter.unusedVariables false
set_option linter.unusedSimpArgs false
set_option maxHeartbeats 20000000
set_option maxRecDepth 100000
attribute [local irreducible] ZWp ZOps ZPure ZPure0 ZVal ZOp SoundF

/-! ### inne.still, given away -/

/-! ### inne.Heavy -/
/-- How many messages a kid has. -/
def cntK (keys : List Bs) (l : List MsgV) (k : Nat) : Nat := (l.filter fun m => wayL keys m.2.1 == k).length
def cntL (keys : List Bs) (l : List MsgV) (N : Nat) : List D := (List.range N).map fun k => .v (.int .i64 (cntK keys l k : Nat))
theorem cntL_length (keys : List Bs) (l : List MsgV) (N : Nat) : (cntL keys l N).length = N := by simp [cntL]
theorem cntL_get {keys : List Bs} {l : List MsgV} {N k : Nat} (h : k < N) : (cntL keys l N)[k]? = some (.v (.int .i64 (cntK keys l k : Nat))) := by
  unfold cntL; rw [List.getElem?_map, List.getElem?_range h]; rfl
theorem cntK_app (keys : List Bs) (l : List MsgV) (m : MsgV) (k : Nat) : cntK keys (l ++ [m]) k = cntK keys l k + if wayL keys m.2.1 = k then 1 else 0 := by
  unfold cntK
  rw [List.filter_append, List.length_append]
  by_cases h : wayL keys m.2.1 = k <;> simp [h]
def bestL (f : Nat → Nat) (N : Nat) : Nat := (List.range N).foldl (fun b i => if f b < f i then i else b) 0
theorem bestL_succ (f : Nat → Nat) (i : Nat) : bestL f (i + 1) = if f (bestL f i) < f i then i else bestL f i := by
  unfold bestL; rw [List.range_succ, List.foldl_append]; rfl
def heavyL (n : NodeV) : Nat := bestL (cntK n.keys n.msgs) (n.keys.length + 1)
/-! ### inne.Chunk -/
/-- The first messages of a kid, at most so many, and the rest. -/
def mineL (keys : List Bs) (k most : Nat) (l : List MsgV) : List MsgV × List MsgV := l.foldl (fun p m => if p.1.length < most ∧ wayL keys m.2.1 = k then (p.1 ++ [m], p.2) else (p.1, p.2 ++ [m])) ([], [])
theorem mineL_app (keys : List Bs) (k most : Nat) (l : List MsgV) (m : MsgV) : mineL keys k most (l ++ [m]) = if (mineL keys k most l).1.length < most ∧ wayL keys m.2.1 = k then ((mineL keys k most l).1 ++ [m], (mineL keys k most l).2) else ((mineL keys k most l).1, (mineL keys k most l).2 ++ [m]) := by
  unfold mineL; rw [List.foldl_append]; rfl
theorem rev_ind {α : Type} {p : List α → Prop} (h0 : p []) (h1 : ∀ l a, p l → p (l ++ [a])) (l : List α) : p l := by
  have key : ∀ (n : Nat) (l : List α), l.length = n → p l := by
    intro n
    induction n with
    | zero => intro l hl; rw [List.length_eq_zero_iff.1 hl]; exact h0
    | succ n ih =>
      intro l hl
      have hne : l ≠ [] := fun e => by subst e; cases hl
      rw [← List.dropLast_concat_getLast hne]
      exact h1 _ _ (ih _ (by rw [List.length_dropLast]; omega))
  exact key _ l rfl
def chunkOwn : ZSpec := fun args st K => ∃ (n : NodeV) (k most : Nat), args = [.agg (nodeD n), .v (.int .i64 (k : Nat)), .v (.int .i64 (most : Nat))] ∧ NodeB n ∧ Srt n.keys ∧ ∀ o c f o2 c2 f2 st', Sep st st' [(o, f), (o2, f2)] → GRow o f 3 (mineL n.keys k most n.msgs).1.length c (msgR (mineL n.keys k most n.msgs).1).flatten → GRow o2 f2 3 (mineL n.keys k most n.msgs).2.length c2 (msgR (mineL n.keys k most n.msgs).2).flatten →
  K (.tup [.agg [.v (.bool n.leaf), .row (rowR n.keys) 1 0, .row (rowR n.vals) 1 0, .row (intR n.kids) 1 0, orow o2 (mineL n.keys k most n.msgs).2.length c2], orow o (mineL n.keys k most n.msgs).1.length c]) st'
end Go.Proofs.ZtLe
