/- The framework's sixteenth part: rows of this call's own that are made by literals and by append. -/
import Derived.Test.YtpelekdimmfldaaZm15
namespace Go.Proofs.Zm
open Go.RowKit
set_option linter.unusedVariables false
set_option linter.unusedSimpArgs false

theorem flatten_length {k : Nat} {xs : List (List D)} (hk : ∀ x ∈ xs, x.length = k) : xs.flatten.length = xs.length * k := by
  rw [List.length_flatten, List.eq_replicate_of_mem (l := xs.map List.length) (a := k) (fun b hb => by obtain ⟨x, hx, rfl⟩ := List.mem_map.1 hb; exact hk x hx)]
  simp
theorem Flat.flat {G : Gh} {xs : List (List D)} {k : Nat} {us : List Value} (h : Flat G xs k us) (k0 : 0 < k) : VRs G xs.flatten us := by
  have hk : ∀ x ∈ xs, x.length = k := fun x hx => by obtain ⟨i, hi⟩ := List.mem_iff_getElem?.1 hx; exact h.hk i x hi
  have hl := flatten_length hk
  refine ⟨by rw [hl, h.len], fun q d u h1 h2 => ?_⟩
  have hq : q < xs.length * k := by rw [← hl]; exact (List.getElem?_eq_some_iff.1 h1).1
  have hi : q / k < xs.length := Nat.div_lt_of_lt_mul (by rw [Nat.mul_comm]; exact hq)
  have hqq : q / k * k + q % k = q := by rw [Nat.mul_comm]; exact Nat.div_add_mod q k
  have hx := List.getElem?_eq_getElem hi
  have hj : q % k < xs[q / k].length := by rw [hk _ (List.getElem_mem hi)]; exact Nat.mod_lt _ k0
  have hg := flatten_get xs (q / k) (q % k) _ _ hk hx (List.getElem?_eq_getElem hj)
  rw [hqq, h1] at hg
  obtain ⟨u', hu, hv⟩ := h.vr (q / k) _ (q % k) _ hx (List.getElem?_eq_getElem hj)
  rw [hqq, h2] at hu
  cases hu
  cases hg
  exact hv

section
variable {P : Program} {w0 : World} {n : Nat} {env : Env} {st : St} {o : Oper} {K : D → St → Prop}

/-- A new block behind a draw, of old cells and new ones. -/
theorem grown_own {G : Gh} {w : World} (h : Rel w0 G st w) {e k cp m : Nat} {zv : Value} (k0 : 0 < k) (hzs : zv.cells.size = k) (olds news : List Value) (cs : List D) (hv : VRs G cs (olds ++ news)) (h1 : ∀ u ∈ olds ++ news, u.oneCell' = true) (hz1 : ∀ u ∈ zv.cells.toList, u.oneCell' = true)
    (hl : (olds ++ news).length = m * k) (hcp : m ≤ cp) (hcm : cp ≤ maxLen) :
    ∃ G', G.le G' ∧ Rel w0 G' (st.setH G.nx (some cs)) (w.drew.alloc (.cells (olds.toArray ++ news.toArray ++ Builtin.zeroCells zv.cells (cp - m)) e)) ∧ VR G' (.mrow G.nx 0 m cp) (.slice (some ⟨w.heap.size, 0, none⟩) m cp) := by
  let cl : List Value := olds ++ news ++ (Builtin.zeroCells zv.cells (cp - m)).toList
  have hzc : ∀ u ∈ (Builtin.zeroCells zv.cells (cp - m)).toList, u.oneCell' = true := fun u hu => by
    simp only [Builtin.zeroCells, Array.toList_map, Array.toList_range, List.mem_map, List.mem_range] at hu
    obtain ⟨q, hq, rfl⟩ := hu
    have hlt : q % zv.cells.size < zv.cells.size := Nat.mod_lt _ (by omega)
    rw [getElem!_pos zv.cells _ hlt]
    exact hz1 _ (by rw [Array.mem_toList_iff]; exact Array.getElem_mem hlt)
  obtain ⟨G', hle, hrel, hnx, hrho⟩ := (h.drawn (w.drawn + 1)).own (w1 := w.drew.alloc (.cells (olds.toArray ++ news.toArray ++ Builtin.zeroCells zv.cells (cp - m)) e)) cl cs e (by rw [hv.1]; simp only [cl]; simp) (fun u hu => by
      simp only [cl, List.mem_append] at hu
      rcases hu with hu | hu
      · exact h1 u (List.mem_append.2 hu)
      · exact hzc u hu) (fun j d u a b => by
      have hj : j < (olds ++ news).length := by rw [← hv.1]; exact (List.getElem?_eq_some_iff.1 a).1
      simp only [cl] at b
      rw [List.getElem?_append_left hj] at b
      exact hv.2 j d u a b) (by show w.heap.push _ = w.heap.push _; congr 2; simp [cl]) rfl rfl rfl
  refine ⟨G', hle, hrel, ?_⟩
  have : G'.rho G.nx = w.heap.size := hrho
  rw [← this]
  exact .mrow G.nx 0 m cp (by rw [hnx]; exact Nat.lt_succ_self _) hcp hcm

theorem zv_cells_one {z : List D} {zv : Value} (hzz : cellsD (.v zv) = z) (hz1 : ∀ d ∈ z, oneD d = true) : ∀ u ∈ zv.cells.toList, u.oneCell' = true := by
  have hzc := cellsD_ok (VR.v (G := ⟨fun _ => none, fun _ => 0, fun _ => (0, 0, 0), 0⟩) zv)
  rw [hzz] at hzc
  exact vrs_one hzc hz1

/-- A slice literal, this call's own. -/
theorem zv_buildSlice_own {t e k by_ len : Nat} {z : List D} {xs : List Operand} {ds : List D} (hop : o.op = .buildSlice t len (xs.zipIdx.map fun p => (p.2, p.1)).toArray) (hlen : xs.length = len)
    (he : ElemOk P e k by_ z) (ht : P.underlying t = some (.slice e)) (hx : evs env xs = some ds) (hk : ∀ d ∈ ds, (cellsD d).length = k ∧ ∀ c ∈ cellsD d, oneD c = true) (hsmall : len * k ≤ 2 ^ 24)
    (h : ∀ id, Fresh st id → K (.mrow id 0 len len) (st.setH id (some (ds.map cellsD).flatten))) : ZVal P w0 n o env st K := by
  intro G w a hr her
  obtain ⟨⟨i, zv, hi, hik, hby, hz, hzs, hzz⟩, k0, b0⟩ := he
  have hvs := evs_ok her hx
  have hdl : ds.length = len := by rw [hvs.1, List.length_map, hlen]
  have hcs : ∀ v ∈ xs.map a.eval, v.cells.size = k := fun v hv => by
    obtain ⟨j, hj⟩ := List.mem_iff_getElem?.1 hv
    have hlt : j < ds.length := by rw [hvs.1]; exact (List.getElem?_eq_some_iff.1 hj).1
    have := cellsD_ok (hvs.2 j _ v (List.getElem?_eq_getElem hlt) hj)
    rw [← Array.length_toList, ← this.1]; exact (hk _ (List.getElem_mem hlt)).1
  have hparts : ((xs.zipIdx.map fun p => (p.2, p.1)).toArray.map fun (p : Nat × Operand) => (p.1, a.eval p.2)).toList = ((xs.map a.eval).zipIdx 0).map fun p => (p.2, p.1) := by
    simp [List.zipIdx_map, Function.comp_def]
  have hcellsFlat : ∀ (ds : List D) (vs : List Value), VRs G ds vs → VRs G (ds.map cellsD).flatten (vs.flatMap (·.cells.toList)) := by
    intro ds
    induction ds with
    | nil => intro vs hv; have : vs = [] := List.eq_nil_of_length_eq_zero hv.1.symm; subst this; exact VRs.nil G
    | cons d ds ih =>
      intro vs hv
      cases vs with
      | nil => have := hv.1; simp at this
      | cons v vs =>
        have h1 := cellsD_ok (hv.2 0 d v rfl rfl)
        have h3 := ih vs ⟨by have := hv.1; simpa using this, fun j d' u' a b => hv.2 (j + 1) d' u' (by simpa using a) (by simpa using b)⟩
        simpa using h1.append h3
  have hflat := hcellsFlat ds _ hvs
  have hone : ∀ u ∈ (xs.map a.eval).flatMap (·.cells.toList), u.oneCell' = true := vrs_one hflat (fun c hc => by
    obtain ⟨l, hl, hcl⟩ := List.mem_flatten.1 hc
    obtain ⟨d, hd, rfl⟩ := List.mem_map.1 hl
    exact (hk d hd).2 c hcl)
  have hrun : (execOp a.eval o).run P w = .ok (.value (.slice (some ⟨w.heap.size, 0, none⟩) len len)) (w.alloc (.cells ((xs.map a.eval).flatMap (·.cells.toList)).toArray e)) := by
    by_cases hpos : len = 0
    · subst hpos
      have hx0 : xs = [] := List.eq_nil_of_length_eq_zero hlen
      subst hx0
      simp [execOp, hop, Instr.buildSlice, run_underlying ht, sizeOf, typeInfo, hi, Instr.fill, newRow, Array.eq_empty_of_size_eq_zero (show (Array.range 0).size = 0 by simp)]
    · have hpos : ¬ (len * k = 0) := Nat.mul_ne_zero hpos (by omega)
      have hfill := fill_all k (xs.map a.eval) 0 [] (((Array.range (len * k)).map (zv.cells[· % zv.cells.size]!)).toList) ((Array.range (len * k)).map (zv.cells[· % zv.cells.size]!)) hcs rfl (by simp) (by simp [hlen])
      have hsm : ¬ (len * i.size > 2 ^ 24) := by rw [hik]; omega
      have hb : (Instr.buildSlice t len ((xs.zipIdx.map fun p => (p.2, p.1)).toArray.map fun (p : Nat × Operand) => (p.1, a.eval p.2))).run P w = .ok (.slice (some ⟨w.heap.size, 0, none⟩) len len) (w.alloc (.cells ((xs.map a.eval).flatMap (·.cells.toList)).toArray e)) := by
        unfold Instr.buildSlice
        simp only [Sem.run_bind, run_underlying ht, Result.andThen_ok, sizeOf, typeInfo, run_program, hi, Sem.run_pure, hik]
        rw [if_neg (by omega)]
        simp only [Sem.run_bind, Sem.run_pure, Result.andThen_ok, if_neg hpos, zeroValue, typeInfo, run_program, hi, hz]
        rw [hparts, hfill]
        simp [newRow]
      simp only [execOp, hop, Sem.run_bind]
      rw [hb]; rfl
  obtain ⟨G', hle, hrel, hnx, hrho⟩ := hr.own (w1 := w.alloc (.cells ((xs.map a.eval).flatMap (·.cells.toList)).toArray e)) _ (ds.map cellsD).flatten e (by rw [hflat.1]; exact Nat.le_refl _) hone hflat.2 rfl rfl rfl rfl
  refine ⟨_, _, G', _, _, hrun, hle, hrel, ?_, h _ hr.freshName⟩
  rw [← hrho]
  have hmx : len ≤ maxLen := by
    have : len * 1 ≤ len * k := Nat.mul_le_mul_left _ k0
    simp only [maxLen]; omega
  exact .mrow G.nx 0 len len (by rw [hnx]; exact Nat.lt_succ_self _) (Nat.le_refl _) hmx

/-- 'append(s, x...)': s this call's own, without room. -/
theorem zv_append_own {t e k by_ tk id m c : Nat} {z : List D} {s x : Operand} {cs : List D} {ys : List (List D)} (hop : o.op = .call { callee := .builtin .append, args := #[s, x], argTypes := #[t, t] })
    (he : ElemOk P e k by_ z) (hz1 : ∀ d ∈ z, oneD d = true) (ht : P.underlying t = some (.slice e)) (hs : ev env s = some (.mrow id 0 m c)) (hH : st.H id = some cs) (hcs : m * k ≤ cs.length) (hx : ev env x = some (.row ys k tk)) (hc : c < m + ys.length) (hb : (m + ys.length) * by_ ≤ 140737488355328)
    (h : ∀ id2 c2, Fresh st id2 → m + ys.length ≤ c2 → K (.mrow id2 0 (m + ys.length) c2) (st.setH id2 (some (cs.take (m * k) ++ ys.flatten)))) : ZVal P w0 n o env st K := by
  intro G w a hr her
  have hvs := ev_ok her hs
  have hvx := ev_ok her hx
  generalize hus : a.eval s = us at hvs
  generalize hux : a.eval x = ux at hvx
  have hrun : ∀ {v' w'}, (Builtin.append_ #[t, t] o.type #[us, ux]).run P w = .ok v' w' → (execOp a.eval o).run P w = .ok (.value v') w' := fun hq => by
    simp [execOp, hop, resolve, invoke, builtin, hus, hux, hq]
  have he' := he
  obtain ⟨⟨i, zv, hi, hk, hby, hz, hzs, hzz⟩, k0, b0⟩ := he
  have hmax : m + ys.length ≤ 140737488355328 := Nat.le_trans (Nat.le_mul_of_pos_right _ b0) hb
  cases hvs with
  | mrow _ _ _ _ hid hmc hm63 =>
    obtain ⟨cc, e', hcc, hl, hc1, hcv⟩ := hr.ex id cs hH
    have holds : ∀ j u, (cc.take (m * k))[j]? = some u → w.cell? ((⟨G.rho id, 0, none⟩ : Addr).add j) = some u := fun j u hj => by
      rw [List.getElem?_take] at hj
      split at hj
      · rw [add_plain, cell_heap hcc]; exact hj
      · cases hj
    have htl : (cc.take (m * k)).length = m * k := by rw [List.length_take]; omega
    have fin : ∀ (a2 : Addr) (c2 : Nat) (news : List Value), Flat G ys k news → (∀ j u, news[j]? = some u → w.cell? (a2.add j) = some u) → ux = .slice (some a2) ys.length c2 →
        ∃ v w' G' d st', (execOp a.eval o).run P w = .ok (.value v) w' ∧ G.le G' ∧ Rel w0 G' st' w' ∧ VR G' d v ∧ K d st' := fun a2 c2 news hf hn e1 => by
      have R := appRuns_slice (w := w) he' ht o.type a2 ys.length c2 news hf.len hn hf.one
      have hq := R.grow (some ⟨G.rho id, 0, none⟩) m c (cc.take (m * k)) zv i hi hz (by rw [hk]; exact run_firstCells_some (P := P) w.drew k m _ _ _ _ htl (by simpa using holds)) hc hb
      have hge := grownCap_ge w (m + ys.length) c e
      have hcm := grownCap_le_maxLen w (m + ys.length) c e (by unfold maxLen; omega)
      have hff := hf.flat k0
      have hvr : VRs G (cs.take (m * k) ++ ys.flatten) (cc.take (m * k) ++ news) := VRs.append ⟨by rw [htl, List.length_take]; omega, fun j d u q1 q2 => by
        rw [List.getElem?_take] at q1 q2
        split at q1
        · rename_i hj; rw [if_pos hj] at q2; exact hcv j d u q1 q2
        · cases q1⟩ hff
      obtain ⟨G', hle, hrel, hv⟩ := grown_own (e := e) (cp := grownCap w (m + ys.length) c e) (m := m + ys.length) hr k0 hzs (cc.take (m * k)) news _ hvr (fun u hu => by
        rcases List.mem_append.1 hu with hu | hu
        · exact hc1 u (List.mem_of_mem_take hu)
        · exact hf.one u hu) (zv_cells_one hzz hz1) (by rw [List.length_append, htl, hf.len, Nat.add_mul]) hge hcm
      subst e1
      exact ⟨_, _, G', _, _, hrun hq, hle, hrel, hv, h _ _ hr.freshName hge⟩
    cases hvx with
    | row _ _ _ a2 nn c2 u hn hc2 hm63' hkk hcell h1 hvv htt =>
      obtain ⟨e1, e2, e3, e4, news, hf, hM⟩ := (VR.row (G := G) ys k tk a2 nn c2 u hn hc2 hm63' hkk hcell h1 hvv htt).flat
      exact fin a2 c2 news hf (fun j u hj => hr.mem _ _ (hM j u hj)) (by rw [e1])
    | rowNil => simp at hc; omega

end
end Go.Proofs.Zm
