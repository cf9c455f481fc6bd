/- A part of the proof of LeafRoom: walks of the functions that it reaches. No condition. -/
import Derived.Test.YtocpidlgcakldaaZtMeN
import Derived.Test.YtocpidlgcakldaaZmAuto
namespace Go.Proofs.ZtLe
open Go.RowKit Go.Proofs Go.Proofs.Zm
set_option linter.unusedVariables false
set_option linter.unusedSimpArgs false

/-! ### leaves: plain laws -/
def delsOf (p : List PairV) : List MsgV := p.map fun x => (2, x.1, [])
def putsOf (p : List PairV) : List MsgV := p.map fun x => (1, x.1, x.2)
theorem ofL_cons (q : Bs) (m : MsgV) (l : List MsgV) : ofL q (m :: l) = (if isOf q m = true then [m] else []) ++ ofL q l := by
  unfold ofL; rw [List.filter_cons]; split <;> simp
theorem ofL_dels_none {p : List PairV} {q : Bs} (h : ∀ x ∈ p, x.1 ≠ q) : ofL q (delsOf p) = [] ∧ ofL q (putsOf p) = [] := by
  constructor <;> refine List.filter_eq_nil_iff.2 fun m hm => ?_ <;> obtain ⟨x, hx, rfl⟩ := List.mem_map.1 hm <;> simp [isOf, h x hx]
theorem stepM_del (s : Bs × Bool) (k v : Bs) : stepM s (2, k, v) = ([], false) := by simp [stepM]
theorem stepM_put (s : Bs × Bool) (k v : Bs) : stepM s (1, k, v) = (v, true) := by simp [stepM]
theorem fold_dels : ∀ (p : List PairV) (q : Bs) (s : Bs × Bool), ((∀ x ∈ p, x.1 ≠ q) → s = ([], false)) → (ofL q (delsOf p)).foldl stepM s = ([], false)
  | [], q, s, h => h (fun x hx => by cases hx)
  | x :: p, q, s, h => by
    show (ofL q ((2, x.1, []) :: delsOf p)).foldl stepM s = _
    rw [ofL_cons, List.foldl_append]
    by_cases hx : x.1 = q
    · rw [if_pos (by simp [isOf, hx])]
      exact fold_dels p q _ fun _ => by simp [stepM_del]
    · rw [if_neg (by simp [isOf, hx])]
      exact fold_dels p q _ fun hp => h fun y hy => by
        rcases List.mem_cons.1 hy with rfl | hy
        · exact hx
        · exact hp y hy
theorem apply_dels {p : List PairV} (hs : Srt (keysP p)) : applyL p (delsOf p) = [] := findL_ext (applyL_srt hs _) Srt.nil fun q => by
  rw [find_apply hs, findL_nil]
  exact fold_dels p q _ fun h => findL_none h
theorem fold_puts : ∀ (p : List PairV), Srt (keysP p) → ∀ q, (ofL q (putsOf p)).foldl stepM ([], false) = findL p q
  | [], _, q => rfl
  | x :: p, hs, q => by
    show (ofL q ((1, x.1, x.2) :: putsOf p)).foldl stepM ([], false) = _
    have hs' : Srt (keysP p) := (List.pairwise_cons.1 hs).2
    have hlt : ∀ y ∈ p, lt x.1 y.1 = true := fun y hy => (List.pairwise_cons.1 hs).1 y.1 (List.mem_map.2 ⟨y, hy, rfl⟩)
    rw [ofL_cons, List.foldl_append, findL_cons]
    by_cases hx : x.1 = q
    · rw [if_pos (by simp [isOf, hx]), if_pos (by simp [hx]), (ofL_dels_none fun y hy e => by
        have := hlt y hy
        rw [hx, e, lt_irrefl] at this; cases this).2]
      simp [stepM_put]
    · rw [if_neg (by simp [isOf, hx]), if_neg (by simp [hx])]
      exact fold_puts p hs' q
theorem apply_puts {p : List PairV} (hs : Srt (keysP p)) : applyL [] (putsOf p) = p := findL_ext (applyL_srt (p := []) Srt.nil _) hs fun q => by
  rw [find_apply (p := []) Srt.nil, findL_nil]
  exact fold_puts p hs q
theorem apply_back {p : List PairV} (hs : Srt (keysP p)) : applyL p (delsOf p ++ putsOf p) = p := by rw [applyL_append, apply_dels hs, apply_puts hs]
def leafN (p : List PairV) : NodeV := ⟨true, keysP p, p.map (·.2), [], []⟩
def pairsN (n : NodeV) (k : Nat) : List PairV := (List.range k).map fun i => (n.keys.getD i [], n.vals.getD i [])
theorem pairsN_leafN (p : List PairV) : pairsN (leafN p) p.length = p := by
  refine List.ext_getElem (by simp [pairsN]) fun i h1 h2 => ?_
  simp [pairsN, leafN, keysP, List.getD_eq_getElem?_getD, List.getElem?_eq_getElem h2]
/-- How many leaves there are. -/
def cntF (n h : Nat) : Nat := max ((n + h - 1) / h) 1
def chunkL (h : Nat) (p : List PairV) (i : Nat) : List PairV := (p.drop (i * h)).take h
def chunksL (h : Nat) (p : List PairV) (k : Nat) : List (List PairV) := (List.range k).map (chunkL h p)
theorem chunksL_succ (h : Nat) (p : List PairV) (k : Nat) : chunksL h p (k + 1) = chunksL h p k ++ [chunkL h p k] := by unfold chunksL; rw [List.range_succ, List.map_append]; rfl
theorem chunksL_length (h : Nat) (p : List PairV) (k : Nat) : (chunksL h p k).length = k := by simp [chunksL]
theorem cntF_lt {n h i : Nat} (h1 : 1 ≤ h) : i + 1 < cntF n h ↔ h < n - i * h := by
  have e : i + 2 ≤ (n + h - 1) / h ↔ (i + 2) * h ≤ n + h - 1 := Nat.le_div_iff_mul_le (by omega)
  rw [Nat.add_mul] at e
  unfold cntF
  constructor
  · intro hh
    have := e.1 (by omega)
    omega
  · intro hh
    have := e.2 (by omega)
    omega
theorem cntF_pos (n h : Nat) : 1 ≤ cntF n h := by unfold cntF; omega
theorem cntF_bnd (n h : Nat) (h1 : 1 ≤ h) : cntF n h ≤ n + 1 := by
  unfold cntF
  have : (n + h - 1) / h ≤ n := by
    obtain ⟨b, rfl⟩ : ∃ b, h = b + 1 := ⟨h - 1, by omega⟩
    cases n with
    | zero => rw [Nat.div_eq_of_lt (by omega)]; omega
    | succ a =>
      refine Nat.div_le_of_le_mul ?_
      rw [Nat.add_mul, Nat.mul_succ]
      have := Nat.zero_le (b * a)
      omega
  omega
theorem chunk_flat (h : Nat) (p : List PairV) : ∀ k, (chunksL h p k).flatten = p.take (k * h)
  | 0 => by simp [chunksL]
  | k + 1 => by
    rw [chunksL_succ, List.flatten_append, chunk_flat h p k, Nat.succ_mul]
    unfold chunkL
    rw [show [List.take h (List.drop (k * h) p)].flatten = List.take h (List.drop (k * h) p) by simp, List.take_add]
theorem chunk_len {h : Nat} {p : List PairV} {i : Nat} (h1 : 1 ≤ h) (hi : i < cntF p.length h) : (chunkL h p i).length ≤ h ∧ (i + 1 < cntF p.length h → (chunkL h p i).length = h) ∧ (p ≠ [] → 1 ≤ (chunkL h p i).length) := by
  have hl : (chunkL h p i).length = min h (p.length - i * h) := by unfold chunkL; rw [List.length_take, List.length_drop]
  refine ⟨by omega, fun hh => ?_, fun hp => ?_⟩
  · have := (cntF_lt h1).1 hh; omega
  · have hpl : 1 ≤ p.length := by cases p with | nil => exact absurd rfl hp | cons a l => simp
    cases i with
    | zero => rw [Nat.zero_mul] at hl; omega
    | succ j =>
      have := (cntF_lt (n := p.length) (i := j) h1).1 hi
      rw [Nat.succ_mul] at hl; omega
theorem chunk_mem {h : Nat} {p : List PairV} {i : Nat} {x : PairV} (hx : x ∈ chunkL h p i) : x ∈ p := List.mem_of_mem_drop (List.mem_of_mem_take hx)
end Go.Proofs.ZtLe
