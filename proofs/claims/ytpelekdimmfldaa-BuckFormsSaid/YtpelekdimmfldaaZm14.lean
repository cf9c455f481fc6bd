/- The framework's fourteenth part: memory that only this call's values know: made, read, written, given away for reading. -/
import Derived.Test.YtpelekdimmfldaaZm13
import Derived.Test.YtpelekdimmfldaaZm12
namespace Go.Proofs.Zm
open Go.RowKit
set_option linter.unusedVariables false
set_option linter.unusedSimpArgs false

theorem below_set {w0 w w1 : World} {b : Nat} (h : Below w0.heap.size w0 w) (hb : w0.heap.size ≤ b) (hold : ∀ k, k ≠ b → w1.heap[k]? = w.heap[k]?) (hs : w.heap.size ≤ w1.heap.size) (ho : w1.os = w.os) (ht : w1.tape = w.tape) (hp : w1.output = w.output) : Below w0.heap.size w0 w1 :=
  ⟨ho.trans h.os, ht.trans h.tape, hp.trans h.output, Nat.le_trans h.size hs, fun k hk => (hold k (by omega)).trans (h.block k hk)⟩

section
variable {w0 : World} {G : Gh} {st : St} {w w1 : World}

/-- A new block, this call's own. -/
theorem Rel.own (h : Rel w0 G st w) (c : List Value) (cs : List D) (e : TypeId) (hl : cs.length ≤ c.length) (h1 : ∀ u ∈ c, u.oneCell' = true) (hv : ∀ (j : Nat) (d : D) (u : Value), cs[j]? = some d → c[j]? = some u → VR G d u)
    (hw : w1.heap = w.heap.push (.cells c.toArray e (0, 0))) (ho : w1.os = w.os) (ht : w1.tape = w.tape) (hp : w1.output = w.output) :
    ∃ G', G.le G' ∧ Rel w0 G' (st.setH G.nx (some cs)) w1 ∧ G'.nx = G.nx + 1 ∧ G'.rho G.nx = w.heap.size := by
  have hold : ∀ k, k < w.heap.size → w1.heap[k]? = w.heap[k]? := fun k hk => by
    rw [hw, Array.getElem?_push_lt hk, Array.getElem?_eq_getElem hk]
  have hnew : w1.heap[w.heap.size]? = some (.cells c.toArray e (0, 0)) := by rw [hw]; simp
  have hMb : ∀ a u, G.M a = some u → a.block < w.heap.size := fun a u hu => cell_lt (h.mem a u hu)
  let G' : Gh := { M := G.M, rho := fun i => if i = G.nx then w.heap.size else G.rho i, tau := G.tau, nx := G.nx + 1 }
  have hrn : G'.rho G.nx = w.heap.size := by simp [G']
  have hro : ∀ t, t ≠ G.nx → G'.rho t = G.rho t := fun t hne => by simp [G', hne]
  have hle : G.le G' := ⟨fun a u hu => hu, fun id hlt => hro id (Nat.ne_of_lt hlt), fun t hlt => rfl, Nat.le_succ _⟩
  refine ⟨G', hle, ?_, rfl, hrn⟩
  have hxb : ∀ id cs, st.H id = some cs → G.rho id < w.heap.size := fun id cs e1 => by
    obtain ⟨c', e', h1, _⟩ := h.ex id cs e1
    exact (Array.getElem?_eq_some_iff.1 h1).1
  have htb : ∀ t, st.T t = true → (G.tau t).2.2 ≠ 0 → (G.tau t).1 < w.heap.size := fun t e1 e2 => by
    obtain ⟨c', e', h1, _⟩ := h.tk t e1 e2
    exact (Array.getElem?_eq_some_iff.1 h1).1
  have hH : ∀ id cs', (st.setH G.nx (some cs)).H id = some cs' → (id = G.nx ∧ cs' = cs) ∨ (id ≠ G.nx ∧ st.H id = some cs') := fun id cs' e1 => by
    by_cases hi : id = G.nx
    · simp [hi] at e1; exact .inl ⟨hi, e1.symm⟩
    · simp [hi] at e1; exact .inr ⟨hi, e1⟩
  exact {
    mem := fun a u hu => by rw [cell_same (hold _ (hMb a u hu))]; exact h.mem a u hu
    nxH := fun id hi => by
      have : id ≠ G.nx := by simp [G'] at hi; omega
      simp [this]; exact h.nxH id (by simp [G'] at hi; omega)
    nxT := fun t hi => h.nxT t (by simp [G'] at hi; omega)
    nx0 := Nat.succ_pos _
    T0 := h.T0
    ex := fun id cs' e1 => by
      rcases hH id cs' e1 with ⟨rfl, rfl⟩ | ⟨hne, e2⟩
      · rw [hrn]; exact ⟨c, e, hnew, hl, h1, fun j d u a b => (hv j d u a b).mono hle⟩
      · obtain ⟨c', e', q1, q2, q3, q4⟩ := h.ex id cs' e2
        rw [hro id hne]
        exact ⟨c', e', (hold _ (hxb id cs' e2)).trans q1, q2, q3, fun j d u a b => (q4 j d u a b).mono hle⟩
    exM := fun id cs' a u e1 hu => by
      rcases hH id cs' e1 with ⟨rfl, rfl⟩ | ⟨hne, e2⟩
      · rw [hrn]; exact Nat.ne_of_lt (hMb a u hu)
      · rw [hro id hne]; exact h.exM id cs' a u e2 hu
    exB := fun id cs' e1 => by
      rcases hH id cs' e1 with ⟨rfl, rfl⟩ | ⟨hne, e2⟩
      · rw [hrn]; exact h.below.size
      · rw [hro id hne]; exact h.exB id cs' e2
    exI := fun id id' cs1 cs2 e1 e2 hb => by
      rcases hH id cs1 e1 with ⟨rfl, rfl⟩ | ⟨hne, e3⟩ <;> rcases hH id' cs2 e2 with ⟨rfl, rfl⟩ | ⟨hne', e4⟩
      · rfl
      · rw [hrn, hro id' hne'] at hb; have := hxb id' cs2 e4; omega
      · rw [hrn, hro id hne] at hb; have := hxb id cs1 e3; omega
      · rw [hro id hne, hro id' hne'] at hb; exact h.exI id id' cs1 cs2 e3 e4 hb
    tk := fun t e1 e2 => by
      obtain ⟨c', e', q1, q2⟩ := h.tk t e1 e2
      exact ⟨c', e', (hold _ (htb t e1 e2)).trans q1, q2⟩
    tkM := fun t a u e1 e2 hu hb => h.tkM t a u e1 e2 hu hb
    tkB := fun t e1 e2 => h.tkB t e1 e2
    tkI := fun t t' e1 e2 e3 e4 hb => h.tkI t t' e1 e2 e3 e4 hb
    tkE := fun t id cs' e1 e2 e3 => by
      rcases hH id cs' e3 with ⟨rfl, rfl⟩ | ⟨hne, e4⟩
      · rw [hrn]; exact Nat.ne_of_lt (htb t e1 e2)
      · rw [hro id hne]; exact h.tkE t id cs' e1 e2 e4
    below := below_push h.below hw ho ht hp }

/-- An own block's cells are others now. -/
theorem Rel.put (h : Rel w0 G st w) {id : Nat} {cs cs' : List D} (hH : st.H id = some cs) {c c' : List Value} {e e' : TypeId} (hc : w.heap[G.rho id]? = some (.cells c.toArray e (0, 0))) (hc' : w1.heap[G.rho id]? = some (.cells c'.toArray e' (0, 0)))
    (hl : cs'.length ≤ c'.length) (h1 : ∀ u ∈ c', u.oneCell' = true) (hv : ∀ (j : Nat) (d : D) (u : Value), cs'[j]? = some d → c'[j]? = some u → VR G d u)
    (hold : ∀ k, k ≠ G.rho id → w1.heap[k]? = w.heap[k]?) (hs : w.heap.size ≤ w1.heap.size) (ho : w1.os = w.os) (ht : w1.tape = w.tape) (hp : w1.output = w.output) : Rel w0 G (st.setH id (some cs')) w1 := by
  have hlt := h.nxle hH
  have hH' : ∀ i cs1, (st.setH id (some cs')).H i = some cs1 → (i = id ∧ cs1 = cs') ∨ (i ≠ id ∧ st.H i = some cs1) := fun i cs1 e1 => by
    by_cases hi : i = id
    · simp [hi] at e1; exact .inl ⟨hi, e1.symm⟩
    · simp [hi] at e1; exact .inr ⟨hi, e1⟩
  have hH2 : ∀ i cs1, (st.setH id (some cs')).H i = some cs1 → ∃ cs2, st.H i = some cs2 := fun i cs1 e1 => by
    rcases hH' i cs1 e1 with ⟨rfl, _⟩ | ⟨_, e2⟩
    · exact ⟨cs, hH⟩
    · exact ⟨cs1, e2⟩
  exact {
    mem := fun a u hu => by rw [cell_same (hold _ (h.exM id cs a u hH hu))]; exact h.mem a u hu
    nxH := fun i hi => by
      have : i ≠ id := by omega
      simp [this]; exact h.nxH i hi
    nxT := h.nxT
    nx0 := h.nx0
    T0 := h.T0
    ex := fun i cs1 e1 => by
      rcases hH' i cs1 e1 with ⟨rfl, rfl⟩ | ⟨hne, e2⟩
      · exact ⟨c', e', hc', hl, h1, hv⟩
      · obtain ⟨c2, e3, q1, q2, q3, q4⟩ := h.ex i cs1 e2
        exact ⟨c2, e3, (hold _ fun hb => hne (h.exI i id cs1 cs e2 hH hb)).trans q1, q2, q3, q4⟩
    exM := fun i cs1 a u e1 hu => by obtain ⟨cs2, e2⟩ := hH2 i cs1 e1; exact h.exM i cs2 a u e2 hu
    exB := fun i cs1 e1 => by obtain ⟨cs2, e2⟩ := hH2 i cs1 e1; exact h.exB i cs2 e2
    exI := fun i j cs1 cs2 e1 e2 hb => by obtain ⟨cs3, e3⟩ := hH2 i cs1 e1; obtain ⟨cs4, e4⟩ := hH2 j cs2 e2; exact h.exI i j cs3 cs4 e3 e4 hb
    tk := fun t e1 e2 => by
      obtain ⟨c2, e3, q1, q2⟩ := h.tk t e1 e2
      exact ⟨c2, e3, (hold _ (h.tkE t id cs e1 e2 hH)).trans q1, q2⟩
    tkM := h.tkM
    tkB := h.tkB
    tkI := h.tkI
    tkE := fun t i cs1 e1 e2 e3 => by obtain ⟨cs2, e4⟩ := hH2 i cs1 e3; exact h.tkE t i cs2 e1 e2 e4
    below := below_set h.below (h.exB id cs hH) hold hs ho ht hp }

/-- An own block is given away for reading. -/
theorem Rel.freeze (h : Rel w0 G st w) {id : Nat} {cs : List D} (hH : st.H id = some cs) :
    ∃ G', G.le G' ∧ Rel w0 G' (st.setH id none) w ∧ G'.nx = G.nx ∧ ∃ c : List Value, cs.length ≤ c.length ∧ (∀ u ∈ c, u.oneCell' = true) ∧ (∀ (j : Nat) (d : D) (u : Value), cs[j]? = some d → c[j]? = some u → VR G' d u) ∧ (∀ j u, c[j]? = some u → G'.M ⟨G.rho id, j, none⟩ = some u) ∧ G'.rho = G.rho := by
  obtain ⟨c, e, hc, hl, h1, hv⟩ := h.ex id cs hH
  let G' : Gh := { M := fun a => if a.block = G.rho id then (if a.spot = none then c[a.off]? else none) else G.M a, rho := G.rho, tau := G.tau, nx := G.nx }
  have hMo : ∀ a, a.block ≠ G.rho id → G'.M a = G.M a := fun a hne => by simp [G', hne]
  have hle : G.le G' := ⟨fun a u hu => by rw [hMo a (h.exM id cs a u hH hu)]; exact hu, fun _ _ => rfl, fun _ _ => rfl, Nat.le_refl _⟩
  have hH' : ∀ i cs1, (st.setH id none).H i = some cs1 → i ≠ id ∧ st.H i = some cs1 := fun i cs1 e1 => by
    by_cases hi : i = id
    · simp [hi] at e1
    · simp [hi] at e1; exact ⟨hi, e1⟩
  refine ⟨G', hle, ?_, rfl, c, hl, h1, fun j d u a b => (hv j d u a b).mono hle, fun j u hj => by simp [G', hj], rfl⟩
  exact {
    mem := fun a u hu => by
      by_cases hb : a.block = G.rho id
      · simp only [G', hb, if_true] at hu
        split at hu
        · rename_i hs
          obtain ⟨b, off, spot⟩ := a
          simp only at hb hs hu
          subst hs
          subst hb
          rw [cell_heap hc]; exact hu
        · cases hu
      · rw [hMo a hb] at hu; exact h.mem a u hu
    nxH := fun i hi => by
      by_cases hid : i = id
      · simp [hid]
      · simp [hid]; exact h.nxH i hi
    nxT := h.nxT
    nx0 := h.nx0
    T0 := h.T0
    ex := fun i cs1 e1 => by
      obtain ⟨hne, e2⟩ := hH' i cs1 e1
      obtain ⟨c2, e3, q1, q2, q3, q4⟩ := h.ex i cs1 e2
      exact ⟨c2, e3, q1, q2, q3, fun j d u a b => (q4 j d u a b).mono hle⟩
    exM := fun i cs1 a u e1 hu => by
      obtain ⟨hne, e2⟩ := hH' i cs1 e1
      by_cases hb : a.block = G.rho id
      · rw [hb]; exact fun he => hne (h.exI i id cs1 cs e2 hH he.symm)
      · rw [hMo a hb] at hu; exact h.exM i cs1 a u e2 hu
    exB := fun i cs1 e1 => h.exB i cs1 (hH' i cs1 e1).2
    exI := fun i j cs1 cs2 e1 e2 hb => h.exI i j cs1 cs2 (hH' i cs1 e1).2 (hH' j cs2 e2).2 hb
    tk := h.tk
    tkM := fun t a u e1 e2 hu hb => by
      have hne := h.tkE t id cs e1 e2 hH
      rw [hMo a (by rw [hb]; exact hne)] at hu
      exact h.tkM t a u e1 e2 hu hb
    tkB := h.tkB
    tkI := h.tkI
    tkE := fun t i cs1 e1 e2 e3 => h.tkE t i cs1 e1 e2 (hH' i cs1 e3).2
    below := h.below }
end
end Go.Proofs.Zm
