/- The framework's fifteenth part: operations on memory that only this call's values know. -/
import Derived.Test.YtpelekdimmfldaaZm14
namespace Go.Proofs.Zm
open Go.RowKit
set_option linter.unusedVariables false
set_option linter.unusedSimpArgs false

theorem vrs_one {G : Gh} {ds : List D} {us : List Value} (h : VRs G ds us) (h1 : ∀ d ∈ ds, oneD d = true) : ∀ u ∈ us, u.oneCell' = true := fun u hu => by
  obtain ⟨j, hj⟩ := List.mem_iff_getElem?.1 hu
  have hlt : j < ds.length := by rw [h.1]; exact (List.getElem?_eq_some_iff.1 hj).1
  exact oneD_ok (h.2 j _ u (List.getElem?_eq_getElem hlt) hj) (h1 _ (List.getElem_mem hlt))

theorem St.setH_setH (s : St) (id : Nat) (a b : Option (List D)) : (s.setH id a).setH id b = s.setH id b := by
  unfold St.setH
  congr 1
  funext i
  by_cases hi : i = id <;> simp [hi]
theorem St.setH_back {s : St} {id : Nat} (h : s.H id = none) (a : Option (List D)) : (s.setH id a).setH id none = s := by
  unfold St.setH
  congr 1
  funext i
  by_cases hi : i = id
  · subst hi; simp [h]
  · simp [hi]
theorem St.setH_none {s : St} {id : Nat} (h : s.H id = none) : s.setH id none = s := by
  unfold St.setH
  congr 1
  funext i
  by_cases hi : i = id
  · subst hi; simp [h]
  · simp [hi]
theorem St.setH_keep {s : St} {id : Nat} (h : s.H id = none) (x : Option (List D)) (i : Nat) (cs : List D) (e : s.H i = some cs) : (s.setH id x).H i = some cs := by
  by_cases hi : i = id
  · subst hi; rw [h] at e; cases e
  · simp [hi, e]

section
variable {P : Program} {w0 : World} {n : Nat} {env : Env} {st : St} {o : Oper} {K : D → St → Prop}

/-- A fresh name. -/
def Fresh (st : St) (id : Nat) : Prop := st.H id = none ∧ st.T id = false ∧ id ≠ 0
theorem Rel.freshName {G : Gh} {w : World} (h : Rel w0 G st w) : Fresh st G.nx := ⟨h.nxH _ (Nat.le_refl _), h.nxT _ (Nat.le_refl _), by have := h.nx0; omega⟩

/-- A new variable, at its type's zero value. -/
theorem zv_alloc {e k by_ : Nat} {z : List D} (hop : o.op = .alloc e) (he : ElemOk P e k by_ z) (hz1 : ∀ d ∈ z, oneD d = true) (h : ∀ id, Fresh st id → K (.ptr id 0) (st.setH id (some z))) : ZVal P w0 n o env st K := by
  intro G w a hr her
  obtain ⟨⟨i, zv, hi, hik, hby, hz, hzs, hzz⟩, k0, b0⟩ := he
  have hzc := cellsD_ok (VR.v (G := G) zv)
  rw [hzz] at hzc
  have hrun : (execOp a.eval o).run P w = .ok (.value (.pointer (some ⟨w.heap.size, 0, none⟩))) (w.alloc (.cells zv.cells e)) := by
    simp [execOp, hop, Instr.alloc, zeroValue, typeInfo, hi, hz, newVar, newRow]
  obtain ⟨G', hle, hrel, hnx, hrho⟩ := hr.own (w1 := w.alloc (.cells zv.cells e)) zv.cells.toList z e (by rw [hzc.1]; exact Nat.le_refl _) (vrs_one hzc hz1) hzc.2 rfl rfl rfl rfl
  refine ⟨_, _, G', _, _, hrun, hle, hrel, ?_, h _ hr.freshName⟩
  rw [← hrho]
  exact .ptr G.nx 0 (by rw [hnx]; exact Nat.lt_succ_self _)

/-- A new variable of this value. -/
theorem zv_box {e : TypeId} {x : Operand} {d : D} (hop : o.op = .box e x) (hx : ev env x = some d) (h1 : ∀ c ∈ cellsD d, oneD c = true) (h : ∀ id, Fresh st id → K (.ptr id 0) (st.setH id (some (cellsD d)))) : ZVal P w0 n o env st K := by
  intro G w a hr her
  have hv := cellsD_ok (ev_ok her hx)
  have hrun : (execOp a.eval o).run P w = .ok (.value (.pointer (some ⟨w.heap.size, 0, none⟩))) (w.alloc (.cells (a.eval x).cells e)) := by
    simp [execOp, hop, Instr.box, newVar, newRow]
  obtain ⟨G', hle, hrel, hnx, hrho⟩ := hr.own (w1 := w.alloc (.cells (a.eval x).cells e)) (a.eval x).cells.toList (cellsD d) e (by rw [hv.1]; exact Nat.le_refl _) (vrs_one hv h1) hv.2 rfl rfl rfl rfl
  refine ⟨_, _, G', _, _, hrun, hle, hrel, ?_, h _ hr.freshName⟩
  rw [← hrho]
  exact .ptr G.nx 0 (by rw [hnx]; exact Nat.lt_succ_self _)

/-- make([]T, m), with room for c: this call's own. -/
theorem zv_make_own {t e k by_ : Nat} {z : List D} {x y : Operand} {kx ky : IntKind} {m c : Int} (hop : o.op = .makeSlice t x y) (he : ElemOk P e k by_ z) (hz1 : ∀ d ∈ z, oneD d = true) (ht : P.underlying t = some (.slice e))
    (hx : ev env x = some (.v (.int kx m))) (hy : ev env y = some (.v (.int ky c))) (h0 : 0 ≤ m) (hmc : m ≤ c) (hb : by_ * c.toNat ≤ 281474976710656)
    (h : ∀ id, Fresh st id → K (.mrow id 0 m.toNat c.toNat) (st.setH id (some (List.replicate c.toNat z).flatten))) : ZVal P w0 n o env st K := by
  intro G w a hr her
  obtain ⟨⟨i, zv, hi, hik, hby, hz, hzs, hzz⟩, k0, b0⟩ := he
  have ex := (ev_ok her hx).eq_v
  have ey := (ev_ok her hy).eq_v
  obtain ⟨c', rfl⟩ := Int.eq_ofNat_of_zero_le (show 0 ≤ c by omega)
  obtain ⟨m', rfl⟩ := Int.eq_ofNat_of_zero_le h0
  simp only [Int.toNat_natCast] at hb h
  have hcb : c' ≤ 281474976710656 := Nat.le_trans (Nat.le_mul_of_pos_left _ b0) hb
  have hzc := cellsD_ok (VR.v (G := G) zv)
  rw [hzz] at hzc
  have hzl : z.length = k := by rw [hzc.1, Array.length_toList, hzs]
  have hrun0 := run_make (P := P) w t e i zv ht hi hz kx ky (m' : Int) (c' : Int) h0 hmc (by rw [hby, ← Int.natCast_mul]; omega) (by omega)
  simp only [Int.toNat_natCast, hik] at hrun0
  have hrun : (execOp a.eval o).run P w = .ok (.value (.slice (some ⟨w.heap.size, 0, none⟩) m' c')) (w.alloc (.cells (madeCells zv.cells (c' * k)) e)) := by
    simp only [execOp, hop, ex, ey, Sem.run_bind, hrun0]; rfl
  have hcell : ∀ q, q < c' * k → (madeCells zv.cells (c' * k)).toList[q]? = zv.cells.toList[q % k]? := fun q hq => by
    simp only [madeCells, Array.toList_map, Array.toList_range, List.getElem?_map, List.getElem?_range hq, Option.map_some]
    have hlt : q % zv.cells.size < zv.cells.size := Nat.mod_lt _ (by omega)
    rw [Array.getElem?_toList, ← hzs, Array.getElem?_eq_getElem hlt, getElem!_pos zv.cells _ hlt]
  have hml : (madeCells zv.cells (c' * k)).toList.length = c' * k := by simp [madeCells]
  have hfl : (List.replicate c' z).flatten.length = c' * k := by simp [List.length_flatten, hzl]
  have hfd : ∀ q, q < c' * k → (List.replicate c' z).flatten[q]? = z[q % k]? := by
    intro q hq
    clear hrun hrun0 hcell hml hfl h hmc hb hcb ey hy
    induction c' generalizing q with
    | zero => simp at hq
    | succ c' ih =>
      rw [List.replicate_succ, List.flatten_cons]
      by_cases hqk : q < k
      · rw [List.getElem?_append_left (by rw [hzl]; exact hqk), Nat.mod_eq_of_lt hqk]
      · rw [List.getElem?_append_right (by rw [hzl]; omega), hzl, ih (q - k) (by rw [Nat.succ_mul] at hq; omega)]
        congr 1
        rw [Nat.mod_eq_sub_mod (by omega : q ≥ k)]
  have hvr : ∀ (j : Nat) (d : D) (u : Value), (List.replicate c' z).flatten[j]? = some d → (madeCells zv.cells (c' * k)).toList[j]? = some u → VR G d u := fun j d u h1 h2 => by
    have hj : j < c' * k := by rw [← hfl]; exact (List.getElem?_eq_some_iff.1 h1).1
    rw [hfd j hj] at h1
    rw [hcell j hj] at h2
    exact hzc.2 _ d u h1 h2
  obtain ⟨G', hle, hrel, hnx, hrho⟩ := hr.own (w1 := w.alloc (.cells (madeCells zv.cells (c' * k)) e)) (madeCells zv.cells (c' * k)).toList (List.replicate c' z).flatten e (by rw [hfl, hml]; exact Nat.le_refl _)
    (fun u hu => by
      obtain ⟨q, hq⟩ := List.mem_iff_getElem?.1 hu
      have hql : q < c' * k := by rw [← hml]; exact (List.getElem?_eq_some_iff.1 hq).1
      rw [hcell q hql] at hq
      have hqz : q % k < z.length := by rw [hzl]; exact Nat.mod_lt _ k0
      exact oneD_ok (hzc.2 (q % k) _ u (List.getElem?_eq_getElem hqz) hq) (hz1 _ (List.getElem_mem hqz))) hvr (by show w.heap.push _ = w.heap.push _; congr 2) rfl rfl rfl
  refine ⟨_, _, G', _, _, hrun, hle, hrel, ?_, h _ hr.freshName⟩
  rw [← hrho]
  exact .mrow G.nx 0 m' c' (by rw [hnx]; exact Nat.lt_succ_self _) (by omega) (by simp only [maxLen]; omega)

/-- A store. -/
theorem zop_store {t : TypeId} {x y : Operand} {ag : Bool} {k id off : Nat} {cs : List D} {d : D} {K : Env → St → Prop} (hop : o.op = .store t x y) (hd : o.dst = none) (hs : shapeIs P t ag k) (hx : ev env x = some (.ptr id off)) (hH : st.H id = some cs) (hy : ev env y = some d)
    (hk : (cellsD d).length = k) (h1 : ∀ c ∈ cellsD d, oneD c = true) (hoff : off + k ≤ cs.length) (h : K env (st.setH id (some (cs.take off ++ cellsD d ++ cs.drop (off + k))))) : ZOp P w0 n o env st K := by
  intro G w a hr her hdf next Q hn
  have hvx := ev_ok her hx
  have hvy := cellsD_ok (ev_ok her hy)
  generalize hux : a.eval x = ux at hvx
  generalize huy : a.eval y = uy at hvy
  cases hvx with
  | ptr _ _ hid =>
    obtain ⟨⟨i, hi, hik⟩, _, _⟩ := hs
    obtain ⟨c, e, hc, hl, hc1, hcv⟩ := hr.ex id cs hH
    have hul : uy.cells.toList.length = k := by rw [← hvy.1, hk]
    have hu1 := vrs_one hvy h1
    have hst := run_storeCells_at (P := P) (G.rho id) off e uy.cells.toList 0 c.toArray w hc (by rw [hul]; simp; omega) hu1
    simp only [Nat.add_zero] at hst
    have hrun : (execOp a.eval o).run P w = .ok .skip (w.setRow (G.rho id) (c.take off ++ uy.cells.toList ++ c.drop (off + uy.cells.toList.length)).toArray) := by
      have hsz : uy.cells.size = i.size := by rw [← Array.length_toList, hul, hik]
      simp [execOp, hop, hux, huy, Instr.storeAt, Instr.sureAddr, storeVar, sizeOf, typeInfo, hi, hsz]
      simp at hst
      rw [hst]
      simp [hsz]
    unfold Oper.wp
    rw [hrun]
    have hrel := hr.put (w1 := w.setRow (G.rho id) (c.take off ++ uy.cells.toList ++ c.drop (off + uy.cells.toList.length)).toArray) (cs' := cs.take off ++ cellsD d ++ cs.drop (off + k)) hH hc (setRow_heap w _ c.toArray _ e _ hc)
      (by simp [hul, hk]; omega)
      (fun u hu => by
        simp only [List.mem_append] at hu
        rcases hu with (hu | hu) | hu
        · exact hc1 u (List.mem_of_mem_take hu)
        · exact hu1 u hu
        · exact hc1 u (List.mem_of_mem_drop hu))
      (fun j d' u a1 a2 => by
        by_cases hj1 : j < off
        · rw [List.append_assoc, List.getElem?_append_left (by simp; omega), List.getElem?_take, if_pos hj1] at a1
          rw [List.append_assoc, List.getElem?_append_left (by simp; omega), List.getElem?_take, if_pos hj1] at a2
          exact hcv j d' u a1 a2
        · by_cases hj2 : j < off + k
          · rw [List.getElem?_append_left (by simp [hk]; omega), List.getElem?_append_right (by simp; omega)] at a1
            rw [List.getElem?_append_left (by simp [hul]; omega), List.getElem?_append_right (by simp; omega)] at a2
            have e1 : (cs.take off).length = off := by simp; omega
            have e2 : (c.take off).length = off := by simp; omega
            rw [e1] at a1
            rw [e2] at a2
            exact hvy.2 _ d' u a1 a2
          · rw [List.getElem?_append_right (by simp [hk]; omega), List.getElem?_drop] at a1
            rw [List.getElem?_append_right (by simp [hul]; omega), List.getElem?_drop] at a2
            have e1 : (cs.take off ++ cellsD d).length = off + k := by simp [hk]; omega
            have e2 : (c.take off ++ uy.cells.toList).length = off + k := by rw [List.length_append, hul]; simp; omega
            rw [e1, Nat.add_sub_cancel' (by omega)] at a1
            rw [e2, hul, Nat.add_sub_cancel' (by omega)] at a2
            exact hcv j d' u a1 a2)
      (fun q hq => setRow_other w _ q _ hq) (by simp) rfl rfl rfl
    refine hn G env _ _ _ (.refl G) hrel (by simpa [Act.put, hd] using her) (by simpa [Act.put, hd] using hdf) h (fun t' u h2 h3 => put_other h2 h3)

/-- A load. -/
theorem zv_load_ptr {t : TypeId} {x : Operand} {id off : Nat} {cs : List D} {d : D} (hop : o.op = .load t x) (hs : shapeIs P t false 1) (hx : ev env x = some (.ptr id off)) (hH : st.H id = some cs) (hd : cs[off]? = some d) (h : K d st) : ZVal P w0 n o env st K := by
  intro G w a hr her
  have hvx := ev_ok her hx
  generalize hux : a.eval x = ux at hvx
  cases hvx with
  | ptr _ _ hid =>
    obtain ⟨c, e, hc, hl, hc1, hcv⟩ := hr.ex id cs hH
    have hlt : off < c.length := Nat.lt_of_lt_of_le (List.getElem?_eq_some_iff.1 hd).1 hl
    have hcell : w.cell? ⟨G.rho id, off, none⟩ = some c[off] := by rw [cell_heap hc]; exact List.getElem?_eq_getElem hlt
    refine ⟨c[off], w, G, d, st, ?_, .refl G, hr, hcv off d _ hd (List.getElem?_eq_getElem hlt), h⟩
    simp [execOp, hop, hux, Instr.loadAt, Instr.sureAddr, loadVar, hs.2.1 w, hcell]
theorem zv_load_ptr_agg {t : TypeId} {x : Operand} {id off k : Nat} {cs : List D} (hop : o.op = .load t x) (hs : shapeIs P t true k) (hx : ev env x = some (.ptr id off)) (hH : st.H id = some cs) (hk : off + k ≤ cs.length) (h : K (.agg ((cs.drop off).take k)) st) : ZVal P w0 n o env st K := by
  intro G w a hr her
  have hvx := ev_ok her hx
  generalize hux : a.eval x = ux at hvx
  cases hvx with
  | ptr _ _ hid =>
    obtain ⟨c, e, hc, hl, hc1, hcv⟩ := hr.ex id cs hH
    obtain ⟨⟨i, hi, hik⟩, hagg, _⟩ := hs
    have hcell : ∀ j, off + j < c.length → w.cell? ⟨G.rho id, off + j, none⟩ = c[off + j]? := fun j hj => cell_heap hc
    refine ⟨.agg ((c.drop off).take k).toArray, w, G, _, st, ?_, .refl G, hr, .agg _ _ (by simp; omega) (fun j d v a1 a2 => ?_), h⟩
    · have hl := run_loadCells_list (P := P) (w := w) ⟨G.rho id, off, none⟩ ((c.drop off).take k) (fun j v hj => by
        rw [List.getElem?_take] at hj
        split at hj
        · rename_i hjk
          rw [List.getElem?_drop] at hj
          have : (⟨G.rho id, off, none⟩ : Addr).add j = ⟨G.rho id, off + j, none⟩ := by unfold Addr.add; split <;> simp_all
          rw [this, cell_heap hc]; exact hj
        · cases hj)
      have hlen : ((c.drop off).take k).length = k := by simp; omega
      rw [hlen] at hl
      simp [execOp, hop, hux, Instr.loadAt, Instr.sureAddr, loadVar, hagg w, sizeOf, typeInfo, hi, hik, hl]
    · rw [List.getElem?_take] at a1 a2
      split at a1
      · rename_i hjk
        rw [if_pos hjk, List.getElem?_drop] at a2
        rw [List.getElem?_drop] at a1
        exact hcv _ d v a1 a2
      · cases a1

/-- An element's address. -/
theorem zp_index_mrow {t e : TypeId} {i : TypeInfo} {x y : Operand} {id off m c k : Nat} {ik : IntKind} {j : Int} (hop : o.op = .indexAddr t x y) (ht : P.underlying t = some (.slice e)) (hi : P.info? e = some i) (hk : i.size = k)
    (hx : ev env x = some (.mrow id off m c)) (hy : ev env y = some (.v (.int ik j))) (h0 : 0 ≤ j) (h1 : j < m) : ZPure0 P o env (.ptr id (off + j.toNat * k)) := fun G n a he => by
  have hv := ev_ok he hx
  have ey := (ev_ok he hy).eq_v
  generalize hu : a.eval x = u at hv
  cases hv with
  | mrow _ _ _ _ hid hc hm =>
    refine ⟨_, .ptr id (off + j.toNat * k) hid, fun w => ?_⟩
    have hlt : 0 ≤ j ∧ j < (m : Int) := ⟨h0, h1⟩
    have : (⟨G.rho id, off, none⟩ : Addr).add (j.toNat * k) = ⟨G.rho id, off + j.toNat * k, none⟩ := by unfold Addr.add; split <;> simp_all
    simp [execOp, hop, hu, ey, Instr.indexAt, asIntOf, run_underlying ht, hlt, sizeOf, typeInfo, hi, hk, this]

/-! ### given away for reading -/

/-- What becomes of a value. -/
inductive Frz (id : Nat) (cs : List D) : D → D → Prop where
  | same (d : D) : Frz id cs d d
  | ptr (off : Nat) : Frz id cs (.ptr id off) (.ref (cs.drop off))
  | mrow (off m c k : Nat) (xs : List (List D)) (hm : xs.length = m) (hk : ∀ x ∈ xs, x.length = k) (hf : (cs.drop off).take (m * k) = xs.flatten) : Frz id cs (.mrow id off m c) (.row xs k 0)

theorem flatten_get {k : Nat} : ∀ (xs : List (List D)) (i j : Nat) (x : List D) (d : D), (∀ x ∈ xs, x.length = k) → xs[i]? = some x → x[j]? = some d → xs.flatten[i * k + j]? = some d
  | [], i, j, x, d, _, h, _ => by simp at h
  | y :: ys, 0, j, x, d, hk, h, hj => by
    simp at h; subst h
    rw [List.flatten_cons, Nat.zero_mul, Nat.zero_add, List.getElem?_append_left (List.getElem?_eq_some_iff.1 hj).1]; exact hj
  | y :: ys, i + 1, j, x, d, hk, h, hj => by
    have hy := hk y (by simp)
    rw [List.flatten_cons, List.getElem?_append_right (by rw [hy, Nat.succ_mul]; omega), hy]
    have := flatten_get ys i j x d (fun x hx => hk x (by simp [hx])) (by simpa using h) hj
    rw [← this]
    congr 1
    rw [Nat.succ_mul]; omega

theorem Frz.ok {G G' : Gh} {id : Nat} {cs : List D} {c : List Value} {d d' : D} {u : Value} (h : Frz id cs d d') (hle : G.le G') (hrho : G'.rho = G.rho) (hl : cs.length ≤ c.length) (h1 : ∀ u ∈ c, u.oneCell' = true)
    (hv : ∀ (j : Nat) (d : D) (u : Value), cs[j]? = some d → c[j]? = some u → VR G' d u) (hM : ∀ j u, c[j]? = some u → G'.M ⟨G.rho id, j, none⟩ = some u) (hvr : VR G d u) : VR G' d' u := by
  cases h with
  | same => exact hvr.mono hle
  | ptr off =>
    cases hvr with
    | ptr _ _ hid =>
      refine .ref _ _ (fun j => c.getD (off + j) aCell) (fun j hj => ?_) (fun j d hj => ?_)
      · have hlt : off + j < c.length := by simp at hj; omega
        have : (⟨G.rho id, off, none⟩ : Addr).add j = ⟨G.rho id, off + j, none⟩ := by unfold Addr.add; split <;> simp_all
        rw [this, getD_in hlt]
        exact hM _ _ (List.getElem?_eq_getElem hlt)
      · rw [List.getElem?_drop] at hj
        have hlt : off + j < c.length := Nat.lt_of_lt_of_le (List.getElem?_eq_some_iff.1 hj).1 hl
        rw [getD_in hlt]
        exact hv _ d _ hj (List.getElem?_eq_getElem hlt)
  | mrow off m c2 k xs hm hk hf =>
    cases hvr with
    | mrow _ _ _ _ hid hc hm63 =>
      have hlen : xs.flatten.length = m * k := by
        rw [List.length_flatten, List.eq_replicate_of_mem (l := xs.map List.length) (a := k) (fun b hb => by obtain ⟨x, hx, rfl⟩ := List.mem_map.1 hb; exact hk x hx)]
        simp [hm]
      have hoff : m * k ≤ cs.length - off := by rw [← hlen, ← hf]; simp; omega
      have hcell : ∀ q, q < m * k → cs[off + q]? = xs.flatten[q]? := fun q hq => by
        rw [← hf, List.getElem?_take, if_pos hq, List.getElem?_drop]
      refine .row xs k 0 _ m c2 (fun i j => c.getD (off + (i * k + j)) aCell) hm hc hm63 (fun i x hx => hk x (List.mem_of_getElem? hx)) (fun i j hi hj => ?_) (fun i j => ?_) (fun i x j d hx hj => ?_) (fun h => absurd rfl h)
      · have hq : i * k + j < m * k := by
          have : (i + 1) * k ≤ m * k := Nat.mul_le_mul_right _ hi
          rw [Nat.add_mul] at this; omega
        have hlt : off + (i * k + j) < c.length := by omega
        have : (⟨G.rho id, off, none⟩ : Addr).add (i * k + j) = ⟨G.rho id, off + (i * k + j), none⟩ := by unfold Addr.add; split <;> simp_all
        rw [this, getD_in hlt]
        exact hM _ _ (List.getElem?_eq_getElem hlt)
      · rw [List.getD_eq_getElem?_getD]
        cases hg : c[off + (i * k + j)]? with
        | none => rfl
        | some u => exact h1 u (List.mem_of_getElem? hg)
      · have hg := flatten_get xs i j x d hk hx hj
        have hq : i * k + j < m * k := by rw [← hlen]; exact (List.getElem?_eq_some_iff.1 hg).1
        have hlt : off + (i * k + j) < c.length := by omega
        rw [getD_in hlt]
        exact hv _ d _ ((hcell _ hq).trans hg) (List.getElem?_eq_getElem hlt)

/-- Slots behind it. -/
def FrzE (id : Nat) (cs : List D) (env' env : Env) : Prop := ∀ t d', zlook env' t = some d' → ∃ d, zlook env t = some d ∧ Frz id cs d d'
theorem fz_nil {id cs env} : FrzE id cs [] env := fun t d h => by simp [zlook] at h
theorem fz_cons {id cs} {env r : Env} {k : Nat} {d d' : D} (h : zlook env k = some d) (hf : Frz id cs d d') (hs : FrzE id cs r env) : FrzE id cs ((k, d') :: r) env := fun t d2 e => by
  unfold zlook at e
  split at e
  · rename_i hk; subst hk; cases e; exact ⟨d, h, hf⟩
  · exact hs t d2 e
theorem FrzE.ok {G G' : Gh} {n id : Nat} {cs : List D} {c : List Value} {env env' : Env} {tmps : Array Value} (h : FrzE id cs env' env) (hle : G.le G') (hrho : G'.rho = G.rho) (hl : cs.length ≤ c.length) (h1 : ∀ u ∈ c, u.oneCell' = true)
    (hv : ∀ (j : Nat) (d : D) (u : Value), cs[j]? = some d → c[j]? = some u → VR G' d u) (hM : ∀ j u, c[j]? = some u → G'.M ⟨G.rho id, j, none⟩ = some u) (he : ER G n env tmps) : ER G' n env' tmps :=
  ⟨he.size, fun t d' e => by
    obtain ⟨d, e1, e2⟩ := h t d' e
    obtain ⟨u, hu, hvr⟩ := he.at_ t d e1
    exact ⟨u, hu, e2.ok hle hrho hl h1 hv hM hvr⟩⟩

theorem zr_freeze {c : Code} {Q : ZPost} {id : Nat} {cs : List D} (env' : Env) (hH : st.H id = some cs) (hE : FrzE id cs env' env) (h : ZWp P w0 n c Q env' (st.setH id none)) : ZWp P w0 n c Q env st := by
  intro G w a hr he hd
  obtain ⟨G', hle, hrel, hnx, c', hl, h1, hv, hM, hrho⟩ := hr.freeze hH
  exact Code.wp_mono (Outc.mono hle (fun _ _ _ h => h)) (h G' w a hrel (hE.ok hle hrho hl h1 hv hM he) hd)
theorem zo_freeze {ops : Array Oper} {l : List Oper} {Q : ZPost} {id : Nat} {cs : List D} (env' : Env) (hH : st.H id = some cs) (hE : FrzE id cs env' env) (h : ZOps P w0 n ops l Q env' (st.setH id none)) : ZOps P w0 n ops l Q env st := by
  intro G w a hr he hd
  obtain ⟨G', hle, hrel, hnx, c', hl, h1, hv, hM, hrho⟩ := hr.freeze hH
  exact wpList_mono (Outc.mono hle (fun _ _ _ h => h)) (fun c a w h => h.elim) l a w (h G' w a hrel (hE.ok hle hrho hl h1 hv hM he) hd)

end
end Go.Proofs.Zm
