/- The framework's sixth part: what becomes of the state where memory is made or written. -/
import Derived.Test.YtpelekdimmfldaaZm5
namespace Go.Proofs.Zm
open Go.RowKit
set_option linter.unusedVariables false
set_option linter.unusedSimpArgs false

theorem cell_lt {w : World} {a : Addr} {u : Value} (h : w.cell? a = some u) : a.block < w.heap.size := World.block_lt_of_cell? w a h
theorem cell_spot {w : World} {a : Addr} {u : Value} (h : w.cell? a = some u) : a.spot = none := by
  unfold World.cell? at h
  split at h
  · split at h
    · cases h
    · rename_i hs; cases hx : a.spot <;> simp_all
  · cases h
theorem cell_heap {w : World} {b j : Nat} {c : List Value} {e : TypeId} {fr : Nat × Nat} (h : w.heap[b]? = some (.cells c.toArray e fr)) : w.cell? ⟨b, j, none⟩ = c[j]? := by
  simp [World.cell?, h]
theorem cell_heap' {w : World} {a : Addr} {u : Value} {c : List Value} {e : TypeId} {fr : Nat × Nat} (h : w.heap[a.block]? = some (.cells c.toArray e fr)) (hu : w.cell? a = some u) : c[a.off]? = some u := by
  have hs := cell_spot hu
  simp only [World.cell?, h, hs] at hu
  simpa using hu
theorem cell_same {w w1 : World} {a : Addr} (h : w1.heap[a.block]? = w.heap[a.block]?) : w1.cell? a = w.cell? a := by simp [World.cell?, h]

theorem below_push {w0 w w1 : World} {x : Obj} (h : Below w0.heap.size w0 w) (hw : w1.heap = w.heap.push x) (ho : w1.os = w.os) (ht : w1.tape = w.tape) (hp : w1.output = w.output) : Below w0.heap.size w0 w1 :=
  ⟨ho.trans h.os, ht.trans h.tape, hp.trans h.output, by rw [hw]; have := h.size; simp; omega, fun k hk => by
    rw [← h.block k hk, hw, Array.getElem?_push_lt (Nat.lt_of_lt_of_le hk h.size)]
    exact (Array.getElem?_eq_getElem _).symm⟩

section
variable {w0 : World} {G : Gh} {st : St} {w w1 : World}

/-- A new block of which so many cells are told; the right to append to them. -/
theorem Rel.fresh (h : Rel w0 G st w) (c : List Value) (e : TypeId) (m : Nat) (hm : m ≤ c.length)
    (hw : w1.heap = w.heap.push (.cells c.toArray e (0, 0))) (ho : w1.os = w.os) (ht : w1.tape = w.tape) (hp : w1.output = w.output) :
    ∃ G', G.le G' ∧ Rel w0 G' (st.setT G.nx true) w1 ∧ G'.nx = G.nx + 1 ∧ G'.tau G.nx = (w.heap.size, m, c.length) ∧ ∀ j u, j < m → c[j]? = some u → G'.M ⟨w.heap.size, j, none⟩ = some u := by
  have hold : ∀ k, k < w.heap.size → w1.heap[k]? = w.heap[k]? := fun k hk => by
    rw [hw, Array.getElem?_push_lt hk, Array.getElem?_eq_getElem hk]
  have hnew : w1.heap[w.heap.size]? = some (.cells c.toArray e (0, 0)) := by rw [hw]; simp
  have hMb : ∀ a u, G.M a = some u → a.block < w.heap.size := fun a u hu => cell_lt (h.mem a u hu)
  let G' : Gh := { M := fun a => if a.block = w.heap.size then (if a.spot = none ∧ a.off < m then c[a.off]? else none) else G.M a,
                   rho := G.rho, tau := fun t => if t = G.nx then (w.heap.size, m, c.length) else G.tau t, nx := G.nx + 1 }
  have hMo : ∀ a, a.block ≠ w.heap.size → G'.M a = G.M a := fun a hne => by simp [G', hne]
  have htn : G'.tau G.nx = (w.heap.size, m, c.length) := by simp [G']
  have hto : ∀ t, t ≠ G.nx → G'.tau t = G.tau t := fun t hne => by simp [G', hne]
  have hle : G.le G' := ⟨fun a u hu => by rw [hMo a (Nat.ne_of_lt (hMb a u hu))]; exact hu, fun id _ => rfl, fun t hlt => hto t (Nat.ne_of_lt hlt), Nat.le_succ _⟩
  refine ⟨G', hle, ?_, rfl, htn, fun j u hj hu => by simp [G', hj, hu]⟩
  have htb : ∀ t, st.T t = true → (G.tau t).2.2 ≠ 0 → (G.tau t).1 < w.heap.size := fun t e1 e2 => by
    obtain ⟨c', e', h1, _⟩ := h.tk t e1 e2
    exact (Array.getElem?_eq_some_iff.1 h1).1
  have hxb : ∀ id cs, st.H id = some cs → G.rho id < w.heap.size := fun id cs e1 => by
    obtain ⟨c', e', h1, _⟩ := h.ex id cs e1
    exact (Array.getElem?_eq_some_iff.1 h1).1
  have hT : ∀ t, (st.setT G.nx true).T t = true → t = G.nx ∨ (t ≠ G.nx ∧ st.T t = true) := fun t e1 => by
    by_cases ht : t = G.nx
    · exact .inl ht
    · simp [ht] at e1; exact .inr ⟨ht, e1⟩
  exact {
    mem := fun a u hu => by
      by_cases hb : a.block = w.heap.size
      · simp only [G', hb, if_true] at hu
        split at hu
        · rename_i hs
          obtain ⟨b, off, spot⟩ := a
          simp only at hb hs hu
          obtain ⟨rfl, _⟩ := hs
          subst hb
          rw [cell_heap hnew]; exact hu
        · cases hu
      · rw [hMo a hb] at hu
        rw [cell_same (hold _ (hMb a u hu))]
        exact h.mem a u hu
    nxH := fun id hi => h.nxH id (by simp [G'] at hi; omega)
    nxT := fun t hi => by
      have : t ≠ G.nx := by simp [G'] at hi; omega
      simp [this]; exact h.nxT t (by simp [G'] at hi; omega)
    nx0 := Nat.succ_pos _
    T0 := by have := h.nx0; simp [show (0 : Nat) ≠ G.nx by omega, h.T0]
    ex := fun id cs e1 => by
      obtain ⟨c', e', h1, h2, h3, h4⟩ := h.ex id cs e1
      exact ⟨c', e', (hold _ (hxb id cs e1)).trans h1, h2, h3, fun j d u a b => (h4 j d u a b).mono hle⟩
    exM := fun id cs a u e1 hu => by
      by_cases hb : a.block = w.heap.size
      · rw [hb]; exact fun he => absurd (hxb id cs e1) (by rw [show G'.rho id = G.rho id from rfl] at he; omega)
      · rw [hMo a hb] at hu; exact h.exM id cs a u e1 hu
    exB := fun id cs e1 => h.exB id cs e1
    exI := fun id id' cs cs' e1 e2 => h.exI id id' cs cs' e1 e2
    tk := fun t e1 e2 => by
      rcases hT t e1 with rfl | ⟨hne, e3⟩
      · rw [htn]; exact ⟨c, e, hnew, Nat.le_refl _⟩
      · rw [hto t hne] at e2 ⊢
        obtain ⟨c', e', h1, h2⟩ := h.tk t e3 e2
        exact ⟨c', e', (hold _ (htb t e3 e2)).trans h1, h2⟩
    tkM := fun t a u e1 e2 hu hb => by
      rcases hT t e1 with rfl | ⟨hne, e3⟩
      · rw [htn] at hb ⊢
        simp only at hb
        simp only [G', hb, if_true] at hu
        split at hu
        · rename_i hs; exact hs.2
        · cases hu
      · rw [hto t hne] at e2 hb ⊢
        have hlt := htb t e3 e2
        rw [hMo a (by omega)] at hu
        exact h.tkM t a u e3 e2 hu hb
    tkB := fun t e1 e2 => by
      rcases hT t e1 with rfl | ⟨hne, e3⟩
      · rw [htn]; exact h.below.size
      · rw [hto t hne] at e2 ⊢; exact h.tkB t e3 e2
    tkI := fun t t' e1 e2 e3 e4 hb => by
      rcases hT t e1 with rfl | ⟨hne, e5⟩ <;> rcases hT t' e2 with rfl | ⟨hne', e6⟩
      · rfl
      · rw [htn, hto t' hne'] at hb; rw [hto t' hne'] at e4; have := htb t' e6 e4; simp at hb; omega
      · rw [htn, hto t hne] at hb; rw [hto t hne] at e3; have := htb t e5 e3; simp at hb; omega
      · rw [hto t hne] at e3 hb; rw [hto t' hne'] at e4 hb; exact h.tkI t t' e5 e6 e3 e4 hb
    tkE := fun t id cs e1 e2 e3 => by
      rcases hT t e1 with rfl | ⟨hne, e5⟩
      · rw [htn]; have := hxb id cs e3; exact fun he => by simp at he; rw [show G'.rho id = G.rho id from rfl] at he; omega
      · rw [hto t hne] at e2 ⊢; exact h.tkE t id cs e5 e2 e3
    below := below_push h.below hw ho ht hp }

/-- Cells of a right's block are told, in place. -/
theorem Rel.grow {t : Nat} (h : Rel w0 G st w) (hT : st.T t = true) {b used total : Nat} (htau : G.tau t = (b, used, total)) (h0 : total ≠ 0) (c c' : List Value) (e : TypeId)
    (hc : w.heap[b]? = some (.cells c.toArray e (0, 0))) (hc' : w1.heap[b]? = some (.cells c'.toArray e (0, 0))) (hl : c'.length = c.length) (hpre : ∀ j, j < used → c'[j]? = c[j]?)
    (hold : ∀ k, k ≠ b → w1.heap[k]? = w.heap[k]?) (hsz : w.heap.size ≤ w1.heap.size) (ho : w1.os = w.os) (ht : w1.tape = w.tape) (hp : w1.output = w.output) (m : Nat) (hm : used ≤ m) (hm2 : m ≤ total) :
    ∃ G', G.le G' ∧ Rel w0 G' ((st.setT t false).setT G.nx true) w1 ∧ G'.nx = G.nx + 1 ∧ G'.tau G.nx = (b, m, total) ∧ ∀ j u, j < m → c'[j]? = some u → G'.M ⟨b, j, none⟩ = some u := by
  have htlt := h.nxtk hT
  have hbB : w0.heap.size ≤ b := by have := h.tkB t hT (by rw [htau]; exact h0); rwa [htau] at this
  have hlen : total ≤ c.length := by
    obtain ⟨c2, e2, h1, h2⟩ := h.tk t hT (by rw [htau]; exact h0)
    rw [htau] at h1 h2
    rw [hc] at h1
    simp only [Option.some.injEq, Obj.cells.injEq] at h1
    have : c = c2 := by simpa using h1.1
    rw [this]; exact h2
  have hMlt : ∀ a u, G.M a = some u → a.block = b → a.off < used := fun a u hu hb => by
    have := h.tkM t a u hT (by rw [htau]; exact h0) hu (by rw [htau]; exact hb)
    rwa [htau] at this
  let G' : Gh := { M := fun a => if a.block = b then (if a.spot = none ∧ a.off < m then c'[a.off]? else none) else G.M a,
                   rho := G.rho, tau := fun t => if t = G.nx then (b, m, total) else G.tau t, nx := G.nx + 1 }
  have hMo : ∀ a, a.block ≠ b → G'.M a = G.M a := fun a hne => by simp [G', hne]
  have htn : G'.tau G.nx = (b, m, total) := by simp [G']
  have hto : ∀ t, t ≠ G.nx → G'.tau t = G.tau t := fun t hne => by simp [G', hne]
  have hle : G.le G' := by
    refine ⟨fun a u hu => ?_, fun id _ => rfl, fun t hlt => hto t (Nat.ne_of_lt hlt), Nat.le_succ _⟩
    by_cases hb : a.block = b
    · have hoff := hMlt a u hu hb
      have hcell := h.mem a u hu
      have hs := cell_spot hcell
      have hcu := cell_heap' (by rw [hb]; exact hc) hcell
      simp only [G', hb, if_true]
      rw [if_pos ⟨hs, by omega⟩, hpre _ hoff]
      exact hcu
    · rw [hMo a hb]; exact hu
  refine ⟨G', hle, ?_, rfl, htn, fun j u hj hu => by simp [G', hj, hu]⟩
  have hTT : ∀ q, ((st.setT t false).setT G.nx true).T q = true → q = G.nx ∨ (q ≠ G.nx ∧ q ≠ t ∧ st.T q = true) := fun q e1 => by
    by_cases hq : q = G.nx
    · exact .inl hq
    · by_cases hq2 : q = t
      · subst hq2; simp [hq] at e1
      · simp [hq, hq2] at e1; exact .inr ⟨hq, hq2, e1⟩
  have hnb : ∀ q, q ≠ t → st.T q = true → (G.tau q).2.2 ≠ 0 → (G.tau q).1 ≠ b := fun q hne e1 e2 he =>
    hne (h.tkI q t e1 hT e2 (by rw [htau]; exact h0) (by rw [htau]; exact he))
  have hxb : ∀ id cs, st.H id = some cs → G.rho id ≠ b := fun id cs e1 he => by
    have := h.tkE t id cs hT (by rw [htau]; exact h0) e1
    rw [htau] at this; exact this he.symm
  exact {
    mem := fun a u hu => by
      by_cases hb : a.block = b
      · simp only [G', hb, if_true] at hu
        split at hu
        · rename_i hs
          obtain ⟨bb, off, spot⟩ := a
          simp only at hb hs hu
          obtain ⟨rfl, _⟩ := hs
          subst hb
          rw [cell_heap hc']; exact hu
        · cases hu
      · rw [hMo a hb] at hu
        rw [cell_same (hold _ hb)]
        exact h.mem a u hu
    nxH := fun id hi => h.nxH id (by simp [G'] at hi; omega)
    nxT := fun q hi => by
      have h1 : q ≠ G.nx := by simp [G'] at hi; omega
      have h2 : q ≠ t := by simp [G'] at hi; omega
      simp [h1, h2]; exact h.nxT q (by simp [G'] at hi; omega)
    nx0 := Nat.succ_pos _
    T0 := by have := h.nx0; simp [show (0 : Nat) ≠ G.nx by omega]; intro _; exact h.T0
    ex := fun id cs e1 => by
      obtain ⟨c2, e2, h1, h2, h3, h4⟩ := h.ex id cs e1
      exact ⟨c2, e2, (hold _ (hxb id cs e1)).trans h1, h2, h3, fun j d u a b => (h4 j d u a b).mono hle⟩
    exM := fun id cs a u e1 hu => by
      by_cases hb : a.block = b
      · rw [hb]; exact (hxb id cs e1).symm
      · rw [hMo a hb] at hu; exact h.exM id cs a u e1 hu
    exB := fun id cs e1 => h.exB id cs e1
    exI := fun id id' cs cs' e1 e2 => h.exI id id' cs cs' e1 e2
    tk := fun q e1 e2 => by
      rcases hTT q e1 with rfl | ⟨hne, hne2, e3⟩
      · rw [htn]; exact ⟨c', e, hc', by rw [hl]; exact hlen⟩
      · rw [hto q hne] at e2 ⊢
        obtain ⟨c2, e', h1, h2⟩ := h.tk q e3 e2
        exact ⟨c2, e', (hold _ (hnb q hne2 e3 e2)).trans h1, h2⟩
    tkM := fun q a u e1 e2 hu hb => by
      rcases hTT q e1 with rfl | ⟨hne, hne2, e3⟩
      · rw [htn] at hb ⊢
        simp only at hb
        simp only [G', hb, if_true] at hu
        split at hu
        · rename_i hs; exact hs.2
        · cases hu
      · rw [hto q hne] at e2 hb ⊢
        have hn := hnb q hne2 e3 e2
        rw [hMo a (by rw [hb]; exact hn)] at hu
        exact h.tkM q a u e3 e2 hu hb
    tkB := fun q e1 e2 => by
      rcases hTT q e1 with rfl | ⟨hne, hne2, e3⟩
      · rw [htn]; exact hbB
      · rw [hto q hne] at e2 ⊢; exact h.tkB q e3 e2
    tkI := fun q q' e1 e2 e3 e4 hb => by
      rcases hTT q e1 with rfl | ⟨hne, hne2, e5⟩ <;> rcases hTT q' e2 with rfl | ⟨hne', hne2', e6⟩
      · rfl
      · rw [htn, hto q' hne'] at hb; rw [hto q' hne'] at e4; exact absurd hb.symm (hnb q' hne2' e6 e4)
      · rw [htn, hto q hne] at hb; rw [hto q hne] at e3; exact absurd hb (hnb q hne2 e5 e3)
      · rw [hto q hne] at e3 hb; rw [hto q' hne'] at e4 hb; exact h.tkI q q' e5 e6 e3 e4 hb
    tkE := fun q id cs e1 e2 e3 => by
      rcases hTT q e1 with rfl | ⟨hne, hne2, e5⟩
      · rw [htn]; exact (hxb id cs e3).symm
      · rw [hto q hne] at e2 ⊢; exact h.tkE q id cs e5 e2 e3
    below := ⟨ho.trans h.below.os, ht.trans h.below.tape, hp.trans h.below.output, Nat.le_trans h.below.size hsz, fun k hk => by
      rw [hold k (by omega)]; exact h.below.block k hk⟩ }

/-- A right of nothing. -/
theorem Rel.nilRight (h : Rel w0 G st w) (b : Nat) : ∃ G', G.le G' ∧ Rel w0 G' (st.setT G.nx true) w ∧ G'.nx = G.nx + 1 ∧ G'.tau G.nx = (b, 0, 0) := by
  let G' : Gh := { G with tau := fun t => if t = G.nx then (b, 0, 0) else G.tau t, nx := G.nx + 1 }
  have htn : G'.tau G.nx = (b, 0, 0) := by simp [G']
  have hto : ∀ t, t ≠ G.nx → G'.tau t = G.tau t := fun t hne => by simp [G', hne]
  have hle : G.le G' := ⟨fun a u hu => hu, fun id _ => rfl, fun t hlt => hto t (Nat.ne_of_lt hlt), Nat.le_succ _⟩
  have hT : ∀ t, (st.setT G.nx true).T t = true → (G'.tau t).2.2 ≠ 0 → (t ≠ G.nx ∧ st.T t = true) := fun t e1 e2 => by
    by_cases ht : t = G.nx
    · subst ht; rw [htn] at e2; exact absurd rfl e2
    · simp [ht] at e1; exact ⟨ht, e1⟩
  refine ⟨G', hle, ?_, rfl, htn⟩
  exact {
    mem := h.mem
    nxH := fun id hi => h.nxH id (by simp [G'] at hi; omega)
    nxT := fun t hi => by
      have : t ≠ G.nx := by simp [G'] at hi; omega
      simp [this]; exact h.nxT t (by simp [G'] at hi; omega)
    nx0 := Nat.succ_pos _
    T0 := by have := h.nx0; simp [show (0 : Nat) ≠ G.nx by omega, h.T0]
    ex := fun id cs e1 => by
      obtain ⟨c', e', h1, h2, h3, h4⟩ := h.ex id cs e1
      exact ⟨c', e', h1, h2, h3, fun j d u a b => (h4 j d u a b).mono hle⟩
    exM := h.exM
    exB := h.exB
    exI := h.exI
    tk := fun t e1 e2 => by
      obtain ⟨hne, e3⟩ := hT t e1 e2
      rw [hto t hne] at e2 ⊢; exact h.tk t e3 e2
    tkM := fun t a u e1 e2 hu hb => by
      obtain ⟨hne, e3⟩ := hT t e1 e2
      rw [hto t hne] at e2 hb ⊢; exact h.tkM t a u e3 e2 hu hb
    tkB := fun t e1 e2 => by
      obtain ⟨hne, e3⟩ := hT t e1 e2
      rw [hto t hne] at e2 ⊢; exact h.tkB t e3 e2
    tkI := fun t t' e1 e2 e3 e4 hb => by
      obtain ⟨hne, e5⟩ := hT t e1 e3
      obtain ⟨hne', e6⟩ := hT t' e2 e4
      rw [hto t hne] at e3 hb; rw [hto t' hne'] at e4 hb; exact h.tkI t t' e5 e6 e3 e4 hb
    tkE := fun t id cs e1 e2 e3 => by
      obtain ⟨hne, e5⟩ := hT t e1 e2
      rw [hto t hne] at e2 ⊢; exact h.tkE t id cs e5 e2 e3
    below := h.below }

end
end Go.Proofs.Zm
