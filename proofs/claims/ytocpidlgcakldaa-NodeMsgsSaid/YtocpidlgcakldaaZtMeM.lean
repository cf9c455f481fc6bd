/- A part of the proof of NodeMsgs: walks of the functions that it reaches. No condition. -/
import Derived.Test.YtocpidlgcakldaaZtMeF
import Derived.Test.YtocpidlgcakldaaZmAuto
namespace Go.Proofs.ZtLe
open Go.RowKit Go.Proofs Go.Proofs.Zm
set_option linter.unusedVariables false
set_option linter.unusedSimpArgs false
set_option maxHeartbeats 20000000
set_option maxRecDepth 100000
attribute [local irreducible] ZWp ZOps ZPure ZPure0 ZVal ZOp SoundF

/-! ### dumbwaiterref18: Find, SamePairs, Set -/
def findL (p : List PairV) (k : Bs) : Bs × Bool := match p.find? (fun x => x.1 == k) with
  | some x => (x.2, true)
  | none => ([], false)
theorem find_take {p : List PairV} {k : Bs} {i : Nat} (h : ∀ j (hj : j < p.length), j < i → (p[j].1 == k) = false) : (p.take i).find? (fun x => x.1 == k) = none := by
  rw [List.find?_eq_none]
  intro x hx
  obtain ⟨j, hj, rfl⟩ := List.mem_iff_getElem.1 hx
  rw [List.length_take] at hj
  rw [List.getElem_take, h j (by omega) (by omega)]; simp
/-! ### dumbwaiterref18.Set -/
def stepS (k v : Bs) (there : Bool) (s : Bool × List PairV) (x : PairV) : Bool × List PairV :=
  if (x.1 == k) = true then (if there = true then (true, (if (!s.1 && lt k x.1) = true then s.2 ++ [(k, v)] else s.2) ++ [(k, v)]) else (if (!s.1 && lt k x.1) = true then (true, s.2 ++ [(k, v)]) else s))
  else (s.1 || lt k x.1, (if (!s.1 && lt k x.1) = true then s.2 ++ [(k, v)] else s.2) ++ [x])
def setTo (k v : Bs) (there : Bool) (p : List PairV) : Bool × List PairV := p.foldl (stepS k v there) (!there, [])
def setL (p : List PairV) (k v : Bs) (there : Bool) : List PairV := if (setTo k v there p).1 = true then (setTo k v there p).2 else (setTo k v there p).2 ++ [(k, v)]
theorem setTo_snoc (k v : Bs) (there : Bool) (p : List PairV) (x : PairV) : setTo k v there (p ++ [x]) = stepS k v there (setTo k v there p) x := by unfold setTo; rw [List.foldl_append]; rfl
end Go.Proofs.ZtLe
