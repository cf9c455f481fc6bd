/- A part of the proof of PosmPlays: walks of the functions that it reaches. No condition. -/
import Derived.Test.YtpelekdimmfldaaZtPoH
import Derived.Test.YtpelekdimmfldaaZtPoK
namespace Go.Proofs.ZtLe
open Go.RowKit Go.Proofs Go.Proofs.Zm
set_option linter.unusedVariables false
set_option linter.unusedSimpArgs false
set_option maxHeartbeats 20000000
attribute [local irreducible] ZWp ZOps ZPure ZPure0 ZVal ZOp SoundF

/-! ### plain: states and their entries -/
theorem num_div (l : List UInt8) (i : Nat) (h : i ≤ l.length) : num l / 256 ^ i = num (l.drop i) := by
  have e := num_append (l.take i) (l.drop i)
  rw [List.take_append_drop, List.length_take, Nat.min_eq_left h] at e
  have h0 := num_nonneg (l.take i)
  have h1 := num_lt (l.take i)
  rw [List.length_take, Nat.min_eq_left h] at h1
  have hp : (0 : Int) < 256 ^ i := Int.pow_pos (by decide)
  rw [e, Int.add_mul_ediv_left _ _ (by omega), Int.ediv_eq_zero_of_lt h0 h1, Int.zero_add]
theorem put_num (l : List UInt8) : put (num l) l.length = l := by
  apply List.ext_getElem (put_length _ _)
  intro i h1 h2
  rw [← getD_in (d := 0) h1, put_getD _ _ _ h2, num_div l i (by omega), num_drop l i h2]
  have hb := (l.getD i 0).toNat_lt
  have e : (((l.getD i 0).toNat : Int) + 256 * num (l.drop (i + 1))) % 256 = ((l.getD i 0).toNat : Nat) := by omega
  rw [e, Int.toNat_natCast, getD_in h2]
  simp
theorem putB_get (l : List UInt8) (k : Nat) (hk : k ≤ 8) (h : l.length = k) : putB (get l) (k : Nat) = l := by
  rw [get_short l (by omega)]
  unfold putB
  rw [if_pos (by omega), Int.toNat_natCast, ← h, put_num]
theorem stateM_cons (q : Int × Int) (l : PL) : stateM (q :: l) = putB q.1 4 ++ putB q.2 8 ++ stateM l := by unfold stateM; rw [List.flatMap_cons]
theorem entL_succ (x B : List UInt8) (h : x.length = 12) (j : Nat) : entL (x ++ B) (j + 1) = entL B j := by
  unfold entL
  have e : (x ++ B).drop (12 * (j + 1)) = B.drop (12 * j) := by
    rw [List.drop_append, List.drop_eq_nil_of_le (by omega), List.nil_append]; congr 1; omega
  rw [e]
theorem entL_state (l : PL) (h : ∀ q ∈ l, 0 ≤ q.1 ∧ q.1 < 4294967296 ∧ 0 ≤ q.2 ∧ q.2 < 18446744073709551616) (j : Nat) (hj : j < l.length) : entL (stateM l) j = l.getD j (0, 0) := by
  induction l generalizing j with
  | nil => simp at hj
  | cons q l ih =>
    rw [stateM_cons]
    have hq := h q (by simp)
    cases j with
    | zero => rw [entL_0 _ _ _ hq.1 hq.2.1 hq.2.2.1 hq.2.2.2]; rfl
    | succ j =>
      rw [entL_succ _ _ (by rw [List.length_append, putB4_length, putB8_length])]
      exact ih (fun q hq => h q (by simp [hq])) j (by simpa using hj)
theorem state_ent (n : Nat) (b : List UInt8) (h : b.length = 12 * n) : stateM ((List.range n).map (entL b)) = b := by
  induction n generalizing b with
  | zero => have : b = [] := List.length_eq_zero_iff.1 (by omega); subst this; rfl
  | succ n ih =>
    have hb : b = b.take 12 ++ b.drop 12 := (List.take_append_drop 12 b).symm
    rw [List.range_succ_eq_map, List.map_cons, List.map_map, stateM_cons]
    have hl : (b.take 12).length = 12 := by simp; omega
    have e1 : (List.range n).map (entL b ∘ Nat.succ) = (List.range n).map (entL (b.drop 12)) := by
      apply List.map_congr_left
      intro j _
      show entL b (j + 1) = _
      conv => lhs; rw [hb]
      exact entL_succ _ _ hl j
    rw [e1, ih _ (by simp; omega)]
    have e2 : (entL b 0).1 = get (b.take 4) := by unfold entL; simp
    have e3 : (entL b 0).2 = get ((b.take 12).drop 4) := by unfold entL; simp
    have e4 := putB_get (b.take 4) 4 (by omega) (by simp; omega)
    have e8 := putB_get ((b.take 12).drop 4) 8 (by omega) (by simp; omega)
    rw [e2, e3]
    have e4' : putB (get (b.take 4)) 4 = b.take 4 := e4
    have e8' : putB (get ((b.take 12).drop 4)) 8 = (b.take 12).drop 4 := e8
    rw [e4', e8']
    have e5 : b.take 4 = (b.take 12).take 4 := by rw [List.take_take]; rfl
    rw [e5, List.take_append_drop, List.take_append_drop]
theorem loadM_state (l : PL) (h : okZ l) : loadM l.length (stateM l) = some l := by
  have hb : ∀ q ∈ l, 0 ≤ q.1 ∧ q.1 < 4294967296 ∧ 0 ≤ q.2 ∧ q.2 < 18446744073709551616 := fun q hq => by have := h.1.1 q hq; omega
  have he : ∀ j, j < l.length → entL (stateM l) j = l.getD j (0, 0) := fun j hj => entL_state l hb j hj
  have hall : ((List.range l.length).all fun i => okE (entL (stateM l) i)) = true := List.all_eq_true.2 fun j hj => by
    have hj := List.mem_range.1 hj
    rw [he j hj, getD_in hj]
    have h1 := h.1.1 _ (List.getElem_mem hj)
    have h2 := h.2 _ (List.getElem_mem hj)
    unfold okE
    exact decide_eq_true ⟨h1.2.1, fun hh => by have := h2 hh.1; omega⟩
  unfold loadM
  rw [if_pos ⟨stateM_length l, hall⟩]
  congr 1
  apply List.ext_getElem (by simp)
  intro j h1 h2
  rw [List.getElem_map, List.getElem_range, he j h2, getD_in h2]
theorem loadM_okZ {n : Nat} {b : List UInt8} {l : PL} (h : loadM n b = some l) (hn : n ≤ 10000) : okZ l ∧ l.length = n := by
  obtain ⟨h1, h2⟩ := loadM_okL h hn
  refine ⟨⟨h1, fun q hq h0 => ?_⟩, h2⟩
  unfold loadM at h
  split at h
  · rename_i hc
    cases h
    obtain ⟨i, hi, rfl⟩ := List.mem_map.1 hq
    have ho := of_decide_eq_true (List.all_eq_true.1 hc.2 i hi)
    have hb := entL_bounds b i
    omega
  · cases h

/-- What the document's way of loading makes of an entry. -/
def setE (q : Int × Int) : Int × Int := if 0 < q.1 ∧ q.1 ≤ 65536 then q else (0, 0)
def curR (b : List UInt8) (n i : Nat) : PL := (List.range i).map (fun j => setE (entL b j)) ++ List.replicate (n - i) (0, 0)
theorem curR_length (b : List UInt8) (n i : Nat) (h : i ≤ n) : (curR b n i).length = n := by simp [curR]; omega
theorem curR_set (b : List UInt8) (n i : Nat) (h : i < n) : (curR b n i).set i (setE (entL b i)) = curR b n (i + 1) := by
  unfold curR
  rw [List.set_append_right _ _ (by simp), List.range_succ, List.map_append, List.append_assoc]
  congr 1
  rw [show n - i = (n - (i + 1)) + 1 by omega, List.replicate_succ]
  simp
theorem curR_keep (b : List UInt8) (n i : Nat) (h : i < n) (h0 : setE (entL b i) = (0, 0)) : curR b n (i + 1) = curR b n i := by
  rw [← curR_set b n i h, h0]
  unfold curR
  apply List.ext_getElem?
  intro j
  rw [List.getElem?_set]
  split
  · rename_i hj
    subst hj
    rw [if_pos (by simp; omega), List.getElem?_append_right (by simp), List.getElem?_replicate, if_pos (by simp; omega)]
  · rfl
theorem setE_ok (q : Int × Int) (h0 : 0 ≤ q.1) (h1 : 0 ≤ q.2) : setE q = q ↔ okE q = true := by
  obtain ⟨a, b⟩ := q
  unfold setE okE
  simp only [decide_eq_true_eq]
  simp only at h0 h1
  constructor
  · intro h
    split at h
    · omega
    · simp only [Prod.mk.injEq] at h; omega
  · intro h
    split
    · rfl
    · simp only [Prod.mk.injEq]; omega
theorem curR_okZ (b : List UInt8) (n i : Nat) (hn : n ≤ 10000) (h : i ≤ n) : okZ (curR b n i) := by
  have key : ∀ q ∈ curR b n i, 0 ≤ q.1 ∧ q.1 ≤ 65536 ∧ 0 ≤ q.2 ∧ q.2 < 18446744073709551616 ∧ (q.1 = 0 → q.2 = 0) := fun q hq => by
    unfold curR at hq
    rcases List.mem_append.1 hq with hq | hq
    · obtain ⟨j, _, rfl⟩ := List.mem_map.1 hq
      have := entL_bounds b j
      unfold setE
      split
      · omega
      · decide
    · have := List.eq_of_mem_replicate hq; subst this; decide
  exact ⟨⟨fun q hq => by have := key q hq; omega, by rw [curR_length b n i h]; exact hn⟩, fun q hq => (key q hq).2.2.2.2⟩
theorem curR_all (b : List UInt8) (n : Nat) : curR b n n = (List.range n).map fun j => setE (entL b j) := by unfold curR; simp
theorem loadM_ref (b : List UInt8) (n : Nat) (hn : n ≤ 10000) (h : b.length = 12 * n) : loadM n b = if stateM (curR b n n) = b then some (curR b n n) else none := by
  have hz := curR_okZ b n n hn (Nat.le_refl _)
  have hb : ∀ q ∈ curR b n n, 0 ≤ q.1 ∧ q.1 < 4294967296 ∧ 0 ≤ q.2 ∧ q.2 < 18446744073709551616 := fun q hq => by have := hz.1.1 q hq; omega
  have hall : ((List.range n).all fun i => okE (entL b i)) = true ↔ stateM (curR b n n) = b := by
    constructor
    · intro ha
      have e : curR b n n = (List.range n).map (entL b) := by
        rw [curR_all]
        apply List.map_congr_left
        intro j hj
        exact (setE_ok _ (entL_bounds b j).1 (entL_bounds b j).2.2.1).2 (List.all_eq_true.1 ha j hj)
      rw [e, state_ent n b h]
    · intro hs
      refine List.all_eq_true.2 fun j hj => ?_
      have hjn := List.mem_range.1 hj
      refine (setE_ok _ (entL_bounds b j).1 (entL_bounds b j).2.2.1).1 ?_
      have := entL_state (curR b n n) hb j (by rw [curR_length b n n (Nat.le_refl _)]; exact hjn)
      rw [hs, curR_all, getD_in (by simpa using hjn), List.getElem_map, List.getElem_range] at this
      exact this.symm
  unfold loadM
  by_cases hs : stateM (curR b n n) = b
  · rw [if_pos ⟨h, hall.2 hs⟩, if_pos hs]
    congr 1
    rw [curR_all]
    apply List.map_congr_left
    intro j hj
    exact ((setE_ok _ (entL_bounds b j).1 (entL_bounds b j).2.2.1).2 (List.all_eq_true.1 (hall.2 hs) j hj)).symm
  · rw [if_neg fun hh => hs (hall.1 hh.2), if_neg hs]
end Go.Proofs.ZtLe
