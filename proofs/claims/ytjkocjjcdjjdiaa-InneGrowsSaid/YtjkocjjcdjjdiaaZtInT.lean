/- A part of the proof of InneWays: walks of the functions that it reaches. No condition. -/
import Derived.Test.YtjkocjjcdjjdiaaZtInR
import Derived.Test.YtjkocjjcdjjdiaaZmAuto
namespace Go.Proofs.ZtLe
open Go.RowKit Go.Proofs Go.Proofs.Zm
set_option linter.unusedVariables false
set_option linter.unusedSimpArgs false
set_option maxHeartbeats 20000000
set_option maxRecDepth 100000
attribute [local irreducible] ZWp ZOps ZPure ZPure0 ZVal ZOp SoundF

/-! ### plain laws of ways, of a node with a kid more, of what is taken -/
theorem InnerN.nodeB {c : CfgV} {n : NodeV} (hc : SmallC c) (h : InnerN c n) : NodeB n := by
  obtain ⟨hcc1, hcc2⟩ := hc.hc
  obtain ⟨hf1, hf2⟩ := hc.hf
  obtain ⟨hm1, hm2⟩ := hc.hm
  have hmm : c.f * c.c ≤ 8 := by
    have h1 : c.f * c.c ≤ 4 * c.c := Int.mul_le_mul_of_nonneg_right hf2 (by omega)
    omega
  have h1 := h.klen
  have h2 := h.kids
  have h3 := h.mlen
  exact ⟨⟨by omega, fun b hb => by have := h.kb b hb; omega⟩, by rw [h.vals]; exact ⟨by simp, fun b hb => by cases hb⟩, by omega, by omega, fun m hm => by have := h.msg m hm; exact ⟨by omega, by omega⟩⟩
theorem lo_iff {l : List Bs} (hs : Srt l) (key : Bs) {k : Nat} (h : k ≤ l.length) : lt key (loL l k) = false ↔ k ≤ wayL l key := by
  unfold loL
  split
  · rename_i e; subst e; rw [lt_nil]; simp
  · rename_i e
    have hk : k - 1 < l.length := by omega
    rw [getD_of (List.getElem?_eq_getElem hk), way_iff hs key hk]; omega
theorem hi_iff {l : List Bs} (hs : Srt l) (key : Bs) {k : Nat} (h : k < l.length) : lt key (hiL l k) = true ↔ wayL l key ≤ k := by
  unfold hiL
  rw [getD_of (List.getElem?_eq_getElem h)]
  have := way_iff hs key h
  cases e : lt key l[k] with
  | true => rw [e] at this; simp only [Bool.true_eq_false, false_iff] at this; simp; omega
  | false => rw [e] at this; simp only [true_iff] at this; simp; omega
theorem way_at {l : List Bs} (hs : Srt l) {k : Nat} (h : k < l.length) : wayL l l[k] = k + 1 := by
  have h1 := (way_iff hs l[k] h).1 (lt_irrefl _)
  have h2 := way_le l l[k]
  by_cases hk : k + 1 < l.length
  · have h3 := way_iff hs l[k] hk
    have h4 := hs.get (Nat.lt_succ_self k) hk
    rw [h4] at h3
    simp only [Bool.true_eq_false, false_iff] at h3
    omega
  · omega
theorem lt_snoc : ∀ (a : Bs) (x : UInt8), lt a (a ++ [x]) = true
  | [], x => rfl
  | c :: a, x => by
    rw [List.cons_append, lt_cons, lt_snoc a x]; simp
section
variable {l : List Bs} {k : Nat}
theorem loL_mem (hk : k ≤ l.length) (h : 0 < k) : ∃ h : k - 1 < l.length, loL l k = l[k - 1] := by
  refine ⟨by omega, ?_⟩
  unfold loL
  rw [if_neg (by omega), getD_of (List.getElem?_eq_getElem (by omega))]
theorem srt_ins (hs : Srt l) (hk : k ≤ l.length) {p : Bs} (h1 : ∀ i (h : i < l.length), i < k → lt l[i] p = true) (h2 : ∀ i (h : i < l.length), k ≤ i → lt p l[i] = true) : Srt (insAt l k p) := by
  unfold insAt Srt
  have hs' : Srt (l.take k ++ l.drop k) := by rw [List.take_append_drop]; exact hs
  obtain ⟨a1, a2, a3⟩ := List.pairwise_append.1 hs'
  refine List.pairwise_append.2 ⟨List.pairwise_append.2 ⟨a1, List.pairwise_singleton _ _, fun a ha b hb => ?_⟩, a2, fun a ha b hb => ?_⟩
  · simp only [List.mem_singleton] at hb; subst hb
    obtain ⟨i, hi, rfl⟩ := List.mem_iff_getElem.1 ha
    rw [List.length_take] at hi
    rw [List.getElem_take]
    exact h1 i (by omega) (by omega)
  · rcases List.mem_append.1 ha with ha | ha
    · exact a3 a ha b hb
    · simp only [List.mem_singleton] at ha; subst ha
      obtain ⟨i, hi, rfl⟩ := List.mem_iff_getElem.1 hb
      rw [List.length_drop] at hi
      rw [List.getElem_drop]
      exact h2 (k + i) (by omega) (by omega)
theorem insAt_at {p : Bs} (hk : k ≤ l.length) : ∃ h : k < (insAt l k p).length, (insAt l k p)[k] = p := by
  have h1 := insAt_length l k p hk
  refine ⟨by omega, ?_⟩
  unfold insAt
  have h2 : (l.take k).length = k := by rw [List.length_take]; omega
  rw [List.getElem_append_left (by simp; omega), List.getElem_append_right (by omega)]
  simp [h2]
theorem insAt_lo {p : Bs} (hk : k ≤ l.length) {i : Nat} (hi : i < k) : ∃ (h : i < (insAt l k p).length) (h' : i < l.length), (insAt l k p)[i] = l[i] := by
  have h1 := insAt_length l k p hk
  refine ⟨by omega, by omega, ?_⟩
  unfold insAt
  have h2 : (l.take k).length = k := by rw [List.length_take]; omega
  rw [List.getElem_append_left (by simp; omega), List.getElem_append_left (by omega), List.getElem_take]
/-- A key just above a kid's least one, within the kid's: its own place in the node. -/
theorem grows (hs : Srt l) (hk : k ≤ l.length) (hp : k < l.length → lt (loL l k ++ [0]) (hiL l k) = true) :
    Srt (insAt l k (loL l k ++ [0])) ∧ wayL (insAt l k (loL l k ++ [0])) (loL l k ++ [0]) = k + 1 ∧ wayL (insAt l k (loL l k ++ [0])) (loL l k) = k := by
  have hsr : Srt (insAt l k (loL l k ++ [0])) := by
    refine srt_ins hs hk (fun i h hi => ?_) fun i h hi => ?_
    · obtain ⟨h1, h2⟩ := loL_mem hk (by omega)
      have h3 := lt_snoc (loL l k) 0
      rcases Nat.lt_or_ge i (k - 1) with q | q
      · have := hs.get q h1
        rw [← h2] at this
        exact lt_trans this h3
      · have e : i = k - 1 := by omega
        subst e
        rw [← h2]; exact h3
    · have h1 := hp (by omega)
      have h2 : hiL l k = l[k] := getD_of (List.getElem?_eq_getElem (by omega))
      rcases Nat.lt_or_ge k i with q | q
      · have := hs.get q h
        rw [← h2] at this
        exact lt_trans h1 this
      · have e : i = k := by omega
        subst e
        rw [← h2]; exact h1
  refine ⟨hsr, ?_, ?_⟩
  · obtain ⟨h1, h2⟩ := insAt_at (p := loL l k ++ [0]) hk
    have := way_at hsr h1
    rwa [h2] at this
  · by_cases h0 : k = 0
    · subst h0
      obtain ⟨h1, h2⟩ := insAt_at (p := loL l 0 ++ [0]) hk
      have h3 := way_iff hsr (loL l 0) h1
      rw [h2, lt_snoc] at h3
      simp only [Bool.true_eq_false, false_iff] at h3
      omega
    · obtain ⟨h1, h2⟩ := loL_mem hk (by omega)
      obtain ⟨h3, h4, h5⟩ := insAt_lo (p := loL l k ++ [0]) hk (i := k - 1) (by omega)
      have := way_at hsr h3
      rw [h5, ← h2] at this
      omega
end
theorem insAt_get {α : Type} {l : List α} {k : Nat} {x : α} (hk : k ≤ l.length) : (insAt l k x)[k]? = some x := by
  unfold insAt
  have h2 : (l.take k).length = k := by rw [List.length_take]; omega
  rw [List.getElem?_append_left (by simp; omega), List.getElem?_append_right (by omega), h2]
  simp
theorem insAt_back {α : Type} {l : List α} {k : Nat} {x : α} (hk : k ≤ l.length) : (insAt l k x).take k ++ (insAt l k x).drop (k + 1) = l := by
  unfold insAt
  have h2 : (l.take k).length = k := by rw [List.length_take]; omega
  have h3 : (l.take k ++ [x]).length = k + 1 := by simp; omega
  rw [List.append_assoc, List.take_left' h2, ← List.append_assoc, List.drop_left' h3, List.take_append_drop]
theorem mine_take (keys : List Bs) (k most : Nat) (l : List MsgV) : (mineL keys k most l).1 = (l.filter fun m => wayL keys m.2.1 == k).take most := by
  induction l using rev_ind with
  | h0 => simp [mineL]
  | h1 l m ih =>
    rw [mineL_app, List.filter_append, ih, List.length_take]
    by_cases hw : wayL keys m.2.1 = k
    · simp only [hw, and_true, List.filter_cons, beq_self_eq_true, if_true, List.filter_nil]
      split
      · rename_i hh
        simp only
        rw [List.take_of_length_le (by omega), List.take_of_length_le (by simp; omega)]
      · rename_i hh
        simp only
        rw [List.take_append_of_le_length (by omega)]
    · simp [hw, List.filter_cons]
end Go.Proofs.ZtLe
