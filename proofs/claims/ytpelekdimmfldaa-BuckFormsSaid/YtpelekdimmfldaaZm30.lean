/- The framework's thirtieth part: noughts that are appended to owned rows. -/
import Derived.Test.YtpelekdimmfldaaZm29
namespace Go.Proofs.Zm
open Go.RowKit
set_option linter.unusedVariables false
section
variable {P : Program} {w0 : World} {n : Nat} {env : Env} {st st0 : St} {o : Oper} {K : D → St → Prop}

/-- What an append to an owned row comes to. -/
theorem sapp_gen {G : Gh} {w : World} {at_ : Array TypeId} {ty : TypeId} {xv us : Value} {e k by_ m c i : Nat} {z : List D} {zv : Value} {ti : TypeInfo} {ob : Option Nat} {full cells : List D} {L : List (Option Nat × List D)} {ys : List (List D)} {news : List Value} (hr : Rel w0 G st w)
    (hti : P.info? e = some ti) (hk : ti.size = k) (hz : ti.zero = some zv) (hzs : zv.cells.size = k) (hzz : cellsD (.v zv) = z) (k0 : 0 < k) (b0 : 0 < by_) (hz1 : ∀ d ∈ z, oneD d = true) (R : AppRuns P w at_ ty xv e k by_ ys.length news)
    (hff : VRs G ys.flatten news) (hnl : news.length = ys.length * k) (hone : ∀ u ∈ news, u.oneCell' = true) (hvs : VR G (orow ob m c) us) (hS : Sep st0 st L) (hi : L[i]? = some (ob, full)) (hg : GRow ob full k m c cells) (hb : (m + ys.length) * by_ ≤ 140737488355328)
    (h : ∀ o' c' full' st', Sep st0 st' (L.set i (o', full')) → GRow o' full' k (m + ys.length) c' (cells ++ ys.flatten) → K (orow o' (m + ys.length) c') st') :
    ∃ v w' G' d st', (Builtin.append_ at_ ty #[us, xv]).run P w = .ok v w' ∧ G.le G' ∧ Rel w0 G' st' w' ∧ VR G' d v ∧ K d st' := by
  have hmax : m + ys.length ≤ 140737488355328 := Nat.le_trans (Nat.le_mul_of_pos_right _ b0) hb
  have hzone := zv_cells_one hzz hz1
  have hcl := hg.length
  by_cases hy0 : ys = []
  · subst hy0
    simp only [List.length_nil, Nat.add_zero, List.flatten_nil, List.append_nil] at h
    have hsame : L.set i (ob, full) = L := by
      apply List.ext_getElem?; intro j; rw [List.getElem?_set]
      split
      · rename_i hj; subst hj; rw [if_pos (List.getElem?_eq_some_iff.1 hi).1, hi]
      · rfl
    have hK := h ob c full st (by rw [hsame]; exact hS) hg
    cases ob with
    | none =>
      have := hvs.eq_v; subst this
      exact ⟨_, w, G, _, _, R.none none 0 0 rfl (Nat.le_refl _), .refl G, hr, hvs, hK⟩
    | some id =>
      cases hvs with
      | mrow _ _ _ _ hid hmc hm63 => exact ⟨_, w, G, _, _, R.none _ _ _ rfl hmc, .refl G, hr, .mrow _ _ _ _ hid hmc hm63, hK⟩
  have hy1 : 0 < ys.length := List.length_pos_iff.2 hy0
  have hge := grownCap_ge w (m + ys.length) c e
  have hcm := grownCap_le_maxLen w (m + ys.length) c e (by unfold maxLen; omega)
  cases ob with
  | none =>
    have := hvs.eq_v; subst this
    have hc0 := hg.nil rfl
    have hm0 : m = 0 := by have := hg.room; omega
    subst hc0; subst hm0
    have hcells : cells = [] := by have := hg.length; simpa using this
    subst hcells
    have hq := R.grow none 0 0 [] zv ti hti hz (by simp [Builtin.firstCells, loadCells, loadCellsFrom]) (by omega) hb
    obtain ⟨G', hle, hrel, hv⟩ := grown_full (e := e) (cp := grownCap w (0 + ys.length) 0 e) (m := 0 + ys.length) hr k0 hzs hzz [] news ys.flatten (by simpa using hff) (fun u hu => hone u (by simpa using hu)) hzone (by rw [List.nil_append, hnl, Nat.zero_add]) hge hcm
    have hw : some ((none : Option Nat), full) = L[i]? := hi.symm
    refine ⟨_, _, G', _, _, hq, hle, hrel, hv, h (some G.nx) _ _ _ (hS.swap hi hr.freshName _) ⟨?_, hge, fun e => (by cases e), ?_⟩⟩
    · have hzl : z.length = k := by rw [← hzs, ← hzz, (cellsD_ok (VR.v (G := G) zv)).1, Array.length_toList]
      rw [List.length_append, hff.1, hnl, List.length_flatten]
      simp only [List.map_replicate, List.sum_replicate_nat, hzl]
      rw [← Nat.add_mul]
      congr 1
      omega
    · rw [List.nil_append, List.take_append_of_le_length (by rw [hff.1, hnl, Nat.zero_add]; exact Nat.le_refl _), List.take_of_length_le (by rw [hff.1, hnl, Nat.zero_add]; exact Nat.le_refl _)]
  | some id =>
    have hH := hS.at_ hi
    cases hvs with
    | mrow _ _ _ _ hid hmc hm63 =>
      obtain ⟨cc, e', hcc, hl, hc1, hcv⟩ := hr.ex id full hH
      have hmk : (m + ys.length) * k = m * k + ys.length * k := Nat.add_mul _ _ _
      have hfl := hg.len
      have hmc2 : m * k ≤ c * k := Nat.mul_le_mul_right _ hmc
      have htl : (cc.take (m * k)).length = m * k := by rw [List.length_take]; omega
      have hvtake : VRs G cells (cc.take (m * k)) := ⟨by rw [htl, hcl], fun j d u q1 q2 => by
        rw [← hg.cells] at q1
        rw [List.getElem?_take] at q1 q2
        split at q1
        · rename_i hj; rw [if_pos hj] at q2; exact hcv j d u q1 q2
        · cases q1⟩
      by_cases hroom : m + ys.length ≤ c
      · have hrk : (m + ys.length) * k ≤ c * k := Nat.mul_le_mul_right _ hroom
        have hq := R.room (G.rho id) m c cc.toArray e' hcc hroom (by rw [hnl]; simp; omega)
        skip
        have hrel := hr.put (w1 := w.setRow (G.rho id) (cc.take (m * k) ++ news ++ cc.drop (m * k + news.length)).toArray) (cs' := cells ++ ys.flatten ++ full.drop ((m + ys.length) * k)) hH hcc (setRow_heap w _ cc.toArray _ e' _ hcc)
          (by rw [List.length_append, List.length_append, List.length_append, List.length_append, htl, hff.1, hnl, hcl, List.length_drop, List.length_drop]; omega)
          (fun u hu => by
            simp only [List.mem_append] at hu
            rcases hu with (hu | hu) | hu
            · exact hc1 u (List.mem_of_mem_take hu)
            · exact hone u hu
            · exact hc1 u (List.mem_of_mem_drop hu))
          (by
            have hv := VRs.append hvtake hff
            intro j d u a b
            by_cases hj : j < (m + ys.length) * k
            · rw [List.getElem?_append_left (by rw [hv.1, List.length_append, htl, hnl]; omega)] at a
              rw [List.getElem?_append_left (by rw [List.length_append, htl, hnl]; omega)] at b
              exact hv.2 j d u a b
            · have el : (cells ++ ys.flatten).length = (m + ys.length) * k := by rw [hv.1, List.length_append, htl, hnl]; omega
              have er : (cc.take (m * k) ++ news).length = (m + ys.length) * k := by rw [List.length_append, htl, hnl]; omega
              rw [List.getElem?_append_right (by rw [el]; omega), el, List.getElem?_drop, Nat.add_sub_cancel' (by omega)] at a
              rw [List.getElem?_append_right (by rw [er]; omega), er, List.getElem?_drop, hnl, show m * k + ys.length * k + (j - (m + ys.length) * k) = j by omega] at b
              exact hcv j d u a b)
          (fun q hq => setRow_other w _ q _ hq) (by simp) rfl rfl rfl
        have hel : (cells ++ ys.flatten).length = (m + ys.length) * k := by rw [List.length_append, hcl, hff.1, hnl, hmk]
        refine ⟨_, _, G, _, _, by simpa using hq, .refl G, hrel, VR.mrow id 0 (m + ys.length) c hid hroom hm63, h (some id) c _ _ (hS.put hi _) ⟨?_, hroom, fun e => (by cases e), ?_⟩⟩
        · rw [List.length_append, hel, List.length_drop]; omega
        · rw [List.take_append_of_le_length (Nat.le_of_eq hel.symm), List.take_of_length_le (Nat.le_of_eq hel)]
      · have holds : ∀ j u, (cc.take (m * k))[j]? = some u → w.cell? ((⟨G.rho id, 0, none⟩ : Addr).add j) = some u := fun j u hj => by
          rw [List.getElem?_take] at hj
          split at hj
          · rw [add_plain, cell_heap hcc]; exact hj
          · cases hj
        have hq := R.grow (some ⟨G.rho id, 0, none⟩) m c (cc.take (m * k)) zv ti hti hz (by rw [hk]; exact run_firstCells_some (P := P) w.drew k m _ _ _ _ htl (by simpa using holds)) (by omega) hb
        have hel : (cells ++ ys.flatten).length = (m + ys.length) * k := by rw [List.length_append, hcl, hff.1, hnl, hmk]
        obtain ⟨G', hle, hrel, hv⟩ := grown_full (e := e) (cp := grownCap w (m + ys.length) c e) (m := m + ys.length) hr k0 hzs hzz (cc.take (m * k)) news (cells ++ ys.flatten) (VRs.append hvtake hff) (fun u hu => by
          rcases List.mem_append.1 hu with hu | hu
          · exact hc1 u (List.mem_of_mem_take hu)
          · exact hone u hu) hzone (by rw [List.length_append, htl, hnl, Nat.add_mul]) hge hcm
        refine ⟨_, _, G', _, _, hq, hle, hrel, hv, h (some G.nx) _ _ _ (hS.swap hi hr.freshName _) ⟨?_, hge, fun e => (by cases e), ?_⟩⟩
        · have hzl : z.length = k := by rw [← hzs, ← hzz, (cellsD_ok (VR.v (G := G) zv)).1, Array.length_toList]
          rw [List.length_append, hel, List.length_flatten]
          simp only [List.map_replicate, List.sum_replicate_nat, hzl]
          rw [← Nat.add_mul]
          congr 1
          omega
        · rw [List.take_append_of_le_length (Nat.le_of_eq hel.symm), List.take_of_length_le (Nat.le_of_eq hel)]

/-- 'append(s, make([]T, m)...)': s is owned. -/
theorem zv_sappZ {t tn e k by_ m c i q : Nat} {kk kx : IntKind} {z : List D} {s x : Operand} {ob : Option Nat} {full cells : List D} {L : List (Option Nat × List D)} (hop : o.op = .call { callee := .builtin .append, args := #[s, x], argTypes := #[t, tn] })
    (he : ElemOk P e k by_ z) (hz1 : ∀ d ∈ z, oneD d = true) (ht : P.underlying t = some (.slice e)) (htn : P.underlying tn = some (.int kk)) (hs : ev env s = some (orow ob m c)) (hS : Sep st0 st L) (hi : L[i]? = some (ob, full)) (hg : GRow ob full k m c cells) (hx : ev env x = some (.v (.int kx (q : Int)))) (hb : (m + q) * by_ ≤ 140737488355328)
    (h : ∀ o' c' full' st', Sep st0 st' (L.set i (o', full')) → GRow o' full' k (m + q) c' (cells ++ (List.replicate q z).flatten) → K (orow o' (m + q) c') st') : ZVal P w0 n o env st K := by
  intro G w a hr her
  have hvs := ev_ok her hs
  have hvx := (ev_ok her hx).eq_v
  generalize hus : a.eval s = us at hvs
  have hrun : ∀ {v' w'}, (Builtin.append_ #[t, tn] o.type #[us, .int kx (q : Int)]).run P w = .ok v' w' → (execOp a.eval o).run P w = .ok (.value v') w' := fun hq => by
    simp [execOp, hop, resolve, invoke, builtin, hus, hvx, hq]
  obtain ⟨⟨ti, zv, hti, hk, hby, hz, hzs, hzz⟩, k0, b0⟩ := he
  have hzone := zv_cells_one hzz hz1
  have hzv := zero_vrs (G := G) k0 hzs hzz q
  have hzl : (Builtin.zeroCells zv.cells q).toList.length = q * k := by rw [Array.length_toList, size_zeroCells, hzs]
  have h1 : ∀ u ∈ (Builtin.zeroCells zv.cells q).toList, u.oneCell' = true := vrs_one hzv fun d hd => by
    obtain ⟨l, hl, hd⟩ := List.mem_flatten.1 hd
    rw [List.eq_of_mem_replicate hl] at hd
    exact hz1 d hd
  have hbq : q * by_ ≤ 140737488355328 := Nat.le_trans (Nat.mul_le_mul_right _ (Nat.le_add_left _ _)) hb
  have R := appRuns_zeros (w := w) (kx := kx) hti hk hby hz hzs k0 b0 ht htn o.type q hbq h1
  obtain ⟨v, w', G', d, st', q1, q2, q3, q4, q5⟩ := sapp_gen (K := K) (ys := List.replicate q z) hr hti hk hz hzs hzz k0 b0 hz1 (by rw [List.length_replicate]; exact R) hzv (by rw [List.length_replicate]; exact hzl) h1 hvs hS hi hg (by rw [List.length_replicate]; exact hb) (by rw [List.length_replicate]; exact h)
  exact ⟨v, w', G', d, st', hrun q1, q2, q3, q4, q5⟩
end
end Go.Proofs.Zm
