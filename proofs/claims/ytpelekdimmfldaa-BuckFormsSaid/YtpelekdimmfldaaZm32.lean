/- The framework's thirty-second part: an owned row becomes one that is read, with the right to append. -/
import Derived.Test.YtpelekdimmfldaaZm31
namespace Go.Proofs.Zm
open Go.RowKit Go.Proofs
set_option linter.unusedVariables false
section
variable {w0 w : World} {G : Gh} {st st0 : St}

/-- The first cells of an own block are given away for reading; who holds the right may write behind them. -/
theorem Rel.freezeT (h : Rel w0 G st w) {id : Nat} {cs : List D} (hH : st.H id = some cs) (m total : Nat) (hm : m ≤ total) (htl : total ≤ cs.length) :
    ∃ G', G.le G' ∧ Rel w0 G' ((st.setH id none).setT G.nx true) w ∧ G'.nx = G.nx + 1 ∧ G'.tau G.nx = (G.rho id, m, total) ∧ ∃ c : List Value, cs.length ≤ c.length ∧ (∀ u ∈ c, u.oneCell' = true) ∧
      (∀ (j : Nat) (d : D) (u : Value), cs[j]? = some d → c[j]? = some u → VR G' d u) ∧ (∀ j u, j < m → c[j]? = some u → G'.M ⟨G.rho id, j, none⟩ = some u) ∧ G'.rho = G.rho := by
  obtain ⟨c, e, hc, hl, h1, hv⟩ := h.ex id cs hH
  let G' : Gh := { M := fun a => if a.block = G.rho id then (if a.spot = none ∧ a.off < m then c[a.off]? else none) else G.M a, rho := G.rho, tau := fun t => if t = G.nx then (G.rho id, m, total) else G.tau t, nx := G.nx + 1 }
  have hMo : ∀ a, a.block ≠ G.rho id → G'.M a = G.M a := fun a hne => by simp [G', hne]
  have htn : G'.tau G.nx = (G.rho id, m, total) := by simp [G']
  have hto : ∀ t, t ≠ G.nx → G'.tau t = G.tau t := fun t hne => by simp [G', hne]
  have hle : G.le G' := ⟨fun a u hu => by rw [hMo a (h.exM id cs a u hH hu)]; exact hu, fun _ _ => rfl, fun t hlt => hto t (Nat.ne_of_lt hlt), Nat.le_succ _⟩
  have hH' : ∀ i cs1, ((st.setH id none).setT G.nx true).H i = some cs1 → i ≠ id ∧ st.H i = some cs1 := fun i cs1 e1 => by
    by_cases hi : i = id
    · simp [hi] at e1
    · simp [hi] at e1; exact ⟨hi, e1⟩
  have hT : ∀ t, ((st.setH id none).setT G.nx true).T t = true → t = G.nx ∨ (t ≠ G.nx ∧ st.T t = true) := fun t e1 => by
    by_cases ht : t = G.nx
    · exact .inl ht
    · simp [ht] at e1; exact .inr ⟨ht, e1⟩
  refine ⟨G', hle, ?_, rfl, htn, c, hl, h1, fun j d u a b => (hv j d u a b).mono hle, fun j u hj hu => by simp [G', hj, hu], rfl⟩
  exact {
    mem := fun a u hu => by
      by_cases hb : a.block = G.rho id
      · simp only [G', hb, if_true] at hu
        split at hu
        · rename_i hs
          obtain ⟨b, off, spot⟩ := a
          simp only at hb hs hu
          obtain ⟨rfl, _⟩ := hs
          subst hb
          rw [cell_heap hc]; exact hu
        · cases hu
      · rw [hMo a hb] at hu; exact h.mem a u hu
    nxH := fun i hi => by
      have hi : G.nx + 1 ≤ i := hi
      by_cases hid : i = id
      · simp [hid]
      · simp [hid]; exact h.nxH i (by omega)
    nxT := fun t hi => by
      have hi : G.nx + 1 ≤ t := hi
      have : t ≠ G.nx := by omega
      simp [this]; exact h.nxT t (by omega)
    nx0 := Nat.succ_pos _
    T0 := by have := h.nx0; simp [show (0 : Nat) ≠ G.nx by omega, h.T0]
    ex := fun i cs1 e1 => by
      obtain ⟨hne, e2⟩ := hH' i cs1 e1
      obtain ⟨c2, e3, q1, q2, q3, q4⟩ := h.ex i cs1 e2
      exact ⟨c2, e3, q1, q2, q3, fun j d u a b => (q4 j d u a b).mono hle⟩
    exM := fun i cs1 a u e1 hu => by
      obtain ⟨hne, e2⟩ := hH' i cs1 e1
      by_cases hb : a.block = G.rho id
      · rw [hb]; exact fun he => hne (h.exI i id cs1 cs e2 hH he.symm)
      · rw [hMo a hb] at hu; exact h.exM i cs1 a u e2 hu
    exB := fun i cs1 e1 => h.exB i cs1 (hH' i cs1 e1).2
    exI := fun i j cs1 cs2 e1 e2 hb => h.exI i j cs1 cs2 (hH' i cs1 e1).2 (hH' j cs2 e2).2 hb
    tk := fun t e1 e2 => by
      rcases hT t e1 with rfl | ⟨hne, e3⟩
      · rw [htn]; exact ⟨c, e, hc, Nat.le_trans htl hl⟩
      · rw [hto t hne] at e2 ⊢; exact h.tk t e3 e2
    tkM := fun t a u e1 e2 hu hb => by
      rcases hT t e1 with rfl | ⟨hne, e3⟩
      · rw [htn] at hb ⊢
        simp only at hb
        simp only [G', hb, if_true] at hu
        split at hu
        · rename_i hs; exact hs.2
        · cases hu
      · rw [hto t hne] at e2 hb ⊢
        have hne2 := h.tkE t id cs e3 e2 hH
        rw [hMo a (by rw [hb]; exact hne2)] at hu
        exact h.tkM t a u e3 e2 hu hb
    tkB := fun t e1 e2 => by
      rcases hT t e1 with rfl | ⟨hne, e3⟩
      · rw [htn]; exact h.exB id cs hH
      · rw [hto t hne] at e2 ⊢; exact h.tkB t e3 e2
    tkI := fun t t' e1 e2 e3 e4 hb => by
      rcases hT t e1 with rfl | ⟨hne, e5⟩ <;> rcases hT t' e2 with rfl | ⟨hne', e6⟩
      · rfl
      · rw [htn, hto t' hne'] at hb; rw [hto t' hne'] at e4; exact absurd hb.symm (h.tkE t' id cs e6 e4 hH)
      · rw [htn, hto t hne] at hb; rw [hto t hne] at e3; exact absurd hb (h.tkE t id cs e5 e3 hH)
      · rw [hto t hne] at e3 hb; rw [hto t' hne'] at e4 hb; exact h.tkI t t' e5 e6 e3 e4 hb
    tkE := fun t i cs1 e1 e2 e3 => by
      obtain ⟨hi, e4⟩ := hH' i cs1 e3
      rcases hT t e1 with rfl | ⟨hne, e5⟩
      · rw [htn]; exact fun he => hi (h.exI i id cs1 cs e4 hH he.symm)
      · rw [hto t hne] at e2 ⊢; exact h.tkE t i cs1 e5 e2 e4
    below := h.below }
end

/-- Slots that hold an owned row hold one that is read, with a right. -/
def FzOT (ob : Option Nat) (m c : Nat) (xs : List (List D)) (k t : Nat) (env : Env) (ks : List Nat) (env1 : Env) : Prop :=
  ∀ s d', zlook env1 s = some d' → ∃ d, zlook env s = some d ∧ (d' = d ∨ (d = orow ob m c ∧ d' = .row xs k t))
section
variable {ob : Option Nat} {m c : Nat} {xs : List (List D)} {k t : Nat} {env : Env}
theorem fzot_nil : FzOT ob m c xs k t env [] [] := fun t d h => by simp [zlook] at h
theorem fzot_cons {s : Nat} {ks : List Nat} {d d' : D} {r : Env} (h : zlook env s = some d) (hd : d' = d ∨ (d = orow ob m c ∧ d' = .row xs k t)) (hs : FzOT ob m c xs k t env ks r) : FzOT ob m c xs k t env (s :: ks) ((s, d') :: r) := fun q d2 e => by
  unfold zlook at e
  split at e
  · rename_i hk; subst hk; cases e; exact ⟨d, h, hd⟩
  · exact hs q d2 e
theorem fzot_row {s : Nat} {ks : List Nat} {r : Env} (h : zlook env s = some (orow ob m c)) (hs : FzOT ob m c xs k t env ks r) : FzOT ob m c xs k t env (s :: ks) ((s, .row xs k t) :: r) := fzot_cons h (.inr ⟨rfl, rfl⟩) hs
theorem fzot_same {s : Nat} {ks : List Nat} {d : D} {r : Env} (h : zlook env s = some d) (hs : FzOT ob m c xs k t env ks r) : FzOT ob m c xs k t env (s :: ks) ((s, d) :: r) := fzot_cons h (.inl rfl) hs
theorem fzot_skip {s : Nat} {ks : List Nat} {r : Env} (hs : FzOT ob m c xs k t env ks r) : FzOT ob m c xs k t env (s :: ks) r := hs
end

section
variable {P : Program} {w0 : World} {n : Nat} {env : Env} {st st0 : St} {Q Q1 : ZPost} {ops : Array Oper}
theorem sfreezeT_main {G : Gh} {w : World} {ob : Option Nat} {full cells : List D} {k m c i : Nat} {L : List (Option Nat × List D)} {tmps : Array Value} {ks : List Nat} {env1 : Nat → Env} (xs : List (List D)) (k0 : 0 < k) (hS : Sep st0 st L) (hi : L[i]? = some (ob, full)) (hg : GRow ob full k m c cells)
    (hx : xs.flatten = cells) (hk : ∀ x ∈ xs, x.length = k) (hE : ∀ t, FzOT ob m c xs k t env ks (env1 t)) (hr : Rel w0 G st w) (he : ER G n env tmps) :
    ∃ G' st' t, G.le G' ∧ Rel w0 G' (st'.setT t true) w ∧ ER G' n (env1 t) tmps ∧ Sep st0 st' (L.eraseIdx i) ∧ st'.T t = false ∧ t ≠ 0 := by
  have hxl : xs.length = m := by
    have h1 := flatten_len xs hk
    rw [hx, hg.length] at h1
    exact (Nat.eq_of_mul_eq_mul_right k0 h1).symm
  have hnx0 := hr.nx0
  cases ob with
  | some id =>
    have hH := hS.at_ hi
    obtain ⟨G', hle, hrel, hnx, htau, c', hl, h1, hv, hM, hrho⟩ := hr.freezeT hH (m * k) (c * k) (Nat.mul_le_mul_right _ hg.room) (by rw [hg.len]; exact Nat.le_refl _)
    refine ⟨G', st.setH id none, G.nx, hle, hrel, ⟨he.size, fun s d' e => ?_⟩, hS.drop hi, hr.nxT _ (Nat.le_refl _), by omega⟩
    obtain ⟨d, q1, q2⟩ := hE G.nx s d' e
    obtain ⟨u, hu, hvr⟩ := he.at_ s d q1
    refine ⟨u, hu, ?_⟩
    rcases q2 with rfl | ⟨rfl, rfl⟩
    · exact hvr.mono hle
    · cases hvr with
      | mrow _ _ _ _ hid hc hm63 =>
        have hfl : xs.flatten.length = m * k := by rw [hx, hg.length]
        have hfc : ∀ q, q < m * k → full[q]? = xs.flatten[q]? := fun q hq => by
          rw [hx, ← hg.cells, List.getElem?_take, if_pos hq]
        have hcl : c * k ≤ c'.length := by rw [← hg.len]; exact hl
        have hmc : m * k ≤ c * k := Nat.mul_le_mul_right _ hg.room
        refine .row xs k G.nx _ m c (fun i j => c'.getD (i * k + j) aCell) hxl hc hm63 (fun i x hx => hk x (List.mem_of_getElem? hx)) (fun i j hi hj => ?_) (fun i j => ?_) (fun i x j d hx hj => ?_) (fun _ => ⟨by omega, by rw [htau], by rw [htau], by rw [htau]⟩)
        · have hq : i * k + j < m * k := by
            have : (i + 1) * k ≤ m * k := Nat.mul_le_mul_right _ hi
            rw [Nat.add_mul] at this; omega
          have hlt : i * k + j < c'.length := by omega
          rw [add_plain, getD_in hlt]
          exact hM _ _ hq (List.getElem?_eq_getElem hlt)
        · rw [List.getD_eq_getElem?_getD]
          cases hg : c'[i * k + j]? with
          | none => rfl
          | some u => exact h1 u (List.mem_of_getElem? hg)
        · have hg := flatten_get xs i j x d hk hx hj
          have hq : i * k + j < m * k := by rw [← hfl]; exact (List.getElem?_eq_some_iff.1 hg).1
          have hlt : i * k + j < c'.length := by omega
          rw [getD_in hlt]
          exact hv _ d _ ((hfc _ hq).trans hg) (List.getElem?_eq_getElem hlt)
  | none =>
    obtain ⟨G', hle, hrel, hnx, htau⟩ := hr.nilRight 0
    refine ⟨G', st, G.nx, hle, hrel, ⟨he.size, fun s d' e => ?_⟩, hS.erase i, hr.nxT _ (Nat.le_refl _), by omega⟩
    obtain ⟨d, q1, q2⟩ := hE G.nx s d' e
    obtain ⟨u, hu, hv⟩ := he.at_ s d q1
    refine ⟨u, hu, ?_⟩
    rcases q2 with rfl | ⟨rfl, rfl⟩
    · exact hv.mono hle
    · have hm : m = 0 := by have := hg.nil rfl; have := hg.room; omega
      rw [hm] at hxl
      have : xs = [] := List.length_eq_zero_iff.1 hxl
      subst this
      have := hv.eq_v
      subst this
      exact .rowNil k G.nx (.inr (by omega))
theorem zr_sfreezeT {cd : Code} (i : Nat) {ob : Option Nat} {full cells : List D} {k m c : Nat} {L : List (Option Nat × List D)} {env1 : Nat → Env} (ks : List Nat) (xs : List (List D)) (k0 : 0 < k) (hS : Sep st0 st L) (hi : L[i]? = some (ob, full)) (hg : GRow ob full k m c cells)
    (hx : xs.flatten = cells) (hk : ∀ x ∈ xs, x.length = k) (hE : ∀ t, FzOT ob m c xs k t env ks (env1 t)) (h : ∀ st' t, Sep st0 st' (L.eraseIdx i) → st'.T t = false → t ≠ 0 → ZWp P w0 n cd Q (env1 t) (st'.setT t true)) : ZWp P w0 n cd Q env st := by
  intro G w a hr he hd
  obtain ⟨G', st', t, hle, hr', he', hS', ht, ht0⟩ := sfreezeT_main xs k0 hS hi hg hx hk hE hr he
  exact Code.wp_mono (Outc.mono hle (fun _ _ _ h => h)) (h st' t hS' ht ht0 G' w a hr' he' hd)
end
end Go.Proofs.Zm
