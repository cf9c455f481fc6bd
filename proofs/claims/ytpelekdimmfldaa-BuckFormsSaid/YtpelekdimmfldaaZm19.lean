/- The framework's nineteenth part: own rows that are cut, grown by noughts, appended to in place; nil's capacity and cuts. -/
import Derived.Test.YtpelekdimmfldaaZm18
namespace Go.Proofs.Zm
open Go.RowKit
set_option linter.unusedVariables false
set_option linter.unusedSimpArgs false

section
variable {P : Program} {w0 : World} {n : Nat} {env : Env} {st : St} {o : Oper} {K : D → St → Prop}

theorem zp_cap_nil {t e : TypeId} {x : Operand} {m c : Nat} (hop : o.op = .call { callee := .builtin .cap, args := #[x], argTypes := #[t] }) (ht : P.underlying t = some (.slice e)) (hx : ev env x = some (.v (.slice none m c))) : ZPure0 P o env (.v (.int .i64 c)) := fun G n a he => by
  have hv := (ev_ok he hx).eq_v
  refine ⟨_, .v _, fun w => ?_⟩
  simp_all [execOp, resolve, invoke, builtin, Builtin.cap_, run_underlying ht, goInt]
theorem zp_cap_mrow {t e : TypeId} {x : Operand} {id off m c : Nat} (hop : o.op = .call { callee := .builtin .cap, args := #[x], argTypes := #[t] }) (ht : P.underlying t = some (.slice e)) (hx : ev env x = some (.mrow id off m c)) : ZPure0 P o env (.v (.int .i64 c)) := fun G n a he => by
  have hv := ev_ok he hx
  generalize hu : a.eval x = u at hv
  refine ⟨_, .v _, fun w => ?_⟩
  cases hv
  simp_all [execOp, resolve, invoke, builtin, Builtin.cap_, run_underlying ht, goInt]

theorem zp_cut_nil {t e : TypeId} {i : TypeInfo} {x : Operand} {lo hi : Option Operand} (hop : o.op = .slice t x lo hi none) (ht : P.underlying t = some (.slice e)) (hi' : P.info? e = some i)
    (hx : ev env x = some (.v (.slice none 0 0))) (hlo : evB env lo 0 0) (hhi : evB env hi 0 0) : ZPure0 P o env (.v (.slice none 0 0)) := fun G n a he => by
  have hu := (ev_ok he hx).eq_v
  refine ⟨_, .v _, fun w => ?_⟩
  have := run_cut (P := P) ht hi' none 0 0 _ _ 0 0 (evB_ok he hlo) (evB_ok he hhi) (Nat.le_refl _) (Nat.le_refl _) w
  simp only [execOp, hop, hu, Option.map_none, Sem.run_bind, this]
  rfl
theorem zp_cut_mrow {t e : TypeId} {i : TypeInfo} {x : Operand} {lo hi : Option Operand} {id off m c k l h : Nat} (hop : o.op = .slice t x lo hi none) (ht : P.underlying t = some (.slice e)) (hi' : P.info? e = some i) (hk : i.size = k)
    (hx : ev env x = some (.mrow id off m c)) (hlo : evB env lo 0 l) (hhi : evB env hi m h) (h1 : l ≤ h) (h2 : h ≤ c) (h3 : l = 0 ∨ l < c) : ZPure0 P o env (.mrow id (off + l * k) (h - l) (c - l)) := fun G n a he => by
  have hv := ev_ok he hx
  generalize hu : a.eval x = u at hv
  cases hv with
  | mrow _ _ _ _ hid hc hm =>
    refine ⟨_, .mrow id (off + l * k) (h - l) (c - l) hid (by omega) (by omega), fun w => ?_⟩
    have := run_cut (P := P) ht hi' (some ⟨G.rho id, off, none⟩) m c _ _ l h (evB_ok he hlo) (evB_ok he hhi) h1 h2 w
    simp only [execOp, hop, hu, Option.map_none, Sem.run_bind, this, hk]
    have hadd : (⟨G.rho id, off, none⟩ : Addr).add (l * k) = ⟨G.rho id, off + l * k, none⟩ := by unfold Addr.add; split <;> simp_all
    rcases h3 with rfl | h3
    · by_cases hc0 : c = 0
      · subst hc0
        simp [sliced]
      · simp [sliced]
        intro _
        simp [Addr.add]
    · have : ¬ (c - l = 0) := by omega
      simp [sliced, hadd]
      omega

/-- 'append([]T(nil), make([]T, m)...)': this call's own. -/
theorem zv_zeros_own {t ti e k by_ : Nat} {kk kx : IntKind} {z : List D} {s x : Operand} {m : Int} (hop : o.op = .call { callee := .builtin .append, args := #[s, x], argTypes := #[t, ti] })
    (he : ElemOk P e k by_ z) (hz1 : ∀ d ∈ z, oneD d = true) (ht : P.underlying t = some (.slice e)) (hti : P.underlying ti = some (.int kk)) (hs : ev env s = some (.v (.slice none 0 0))) (hx : ev env x = some (.v (.int kx m))) (h0 : 0 < m) (hb : m.toNat * by_ ≤ 140737488355328)
    (h : ∀ id c, Fresh st id → m.toNat ≤ c → K (.mrow id 0 m.toNat c) (st.setH id (some (List.replicate m.toNat z).flatten))) : ZVal P w0 n o env st K := by
  intro G w a hr her
  have hvs := (ev_ok her hs).eq_v
  have hvx := (ev_ok her hx).eq_v
  obtain ⟨⟨i, zv, hi, hk, hby, hz, hzs, hzz⟩, k0, b0⟩ := he
  obtain ⟨m', rfl⟩ := Int.eq_ofNat_of_zero_le (show 0 ≤ m by omega)
  simp only [Int.toNat_natCast] at hb h
  have hrun : ∀ {v' w'}, (Builtin.append_ #[t, ti] o.type #[.slice none 0 0, .int kx (m' : Int)]).run P w = .ok v' w' → (execOp a.eval o).run P w = .ok (.value v') w' := fun hq => by
    simp [execOp, hop, resolve, invoke, builtin, hvs, hvx, hq]
  have hmax : m' ≤ 140737488355328 := Nat.le_trans (Nat.le_mul_of_pos_right _ b0) hb
  have hzone := zv_cells_one hzz hz1
  have hzc := cellsD_ok (VR.v (G := G) zv)
  rw [hzz] at hzc
  have hzl : z.length = k := by rw [hzc.1, Array.length_toList, hzs]
  have hcell : ∀ q, q < m' * k → (Builtin.zeroCells zv.cells m').toList[q]? = zv.cells.toList[q % k]? := fun q hq => by
    rw [← hzs] at hq ⊢
    simp only [Builtin.zeroCells, Array.toList_map, Array.toList_range, List.getElem?_map, List.getElem?_range hq, Option.map_some]
    have hlt : q % zv.cells.size < zv.cells.size := Nat.mod_lt _ (by omega)
    rw [Array.getElem?_toList, Array.getElem?_eq_getElem hlt, getElem!_pos zv.cells _ hlt]
  have hzlen : (Builtin.zeroCells zv.cells m').toList.length = m' * k := by rw [Array.length_toList, size_zeroCells, hzs]
  have h1 : ∀ u ∈ (Builtin.zeroCells zv.cells m').toList, u.oneCell' = true := fun u hu => by
    obtain ⟨q, hq⟩ := List.mem_iff_getElem?.1 hu
    have hql : q < m' * k := by rw [← hzlen]; exact (List.getElem?_eq_some_iff.1 hq).1
    rw [hcell q hql] at hq
    exact hzone u (List.mem_of_getElem? hq)
  have hfl : (List.replicate m' z).flatten.length = m' * k := by simp [List.length_flatten, hzl]
  have hflat : VRs G (List.replicate m' z).flatten ([] ++ (Builtin.zeroCells zv.cells m').toList) := by
    refine ⟨by rw [List.nil_append, hfl, hzlen], fun q d u q1 q2 => ?_⟩
    have hq : q < m' * k := by rw [← hfl]; exact (List.getElem?_eq_some_iff.1 q1).1
    have hi' : q / k < m' := Nat.div_lt_of_lt_mul (by rw [Nat.mul_comm]; exact hq)
    have hqq : q / k * k + q % k = q := by rw [Nat.mul_comm]; exact Nat.div_add_mod q k
    have hqz : q % k < z.length := by rw [hzl]; exact Nat.mod_lt _ k0
    have hg := flatten_get (k := k) (List.replicate m' z) (q / k) (q % k) z z[q % k] (fun x hx => by rw [List.eq_of_mem_replicate hx]; exact hzl) (by rw [List.getElem?_replicate, if_pos hi']) (List.getElem?_eq_getElem hqz)
    rw [hqq, q1] at hg
    cases hg
    rw [List.nil_append, hcell q hq] at q2
    exact hzc.2 _ _ u (List.getElem?_eq_getElem hqz) q2
  have R := appRuns_zeros (w := w) (kx := kx) hi hk hby hz hzs k0 b0 ht hti o.type m' hb h1
  have hq := R.grow none 0 0 [] zv i hi hz (by simp [Builtin.firstCells, loadCells, loadCellsFrom]) (by omega) (by simpa using hb)
  have hge := grownCap_ge w m' 0 e
  have hcm := grownCap_le_maxLen w m' 0 e (by unfold maxLen; omega)
  simp only [Nat.zero_add] at hq
  obtain ⟨G', hle, hrel, hv⟩ := grown_own (e := e) (cp := grownCap w m' 0 e) (m := m') hr k0 hzs [] (Builtin.zeroCells zv.cells m').toList _ hflat (fun u hu => h1 u (by simpa using hu)) hzone (by simpa using hzlen) hge hcm
  exact ⟨_, _, G', _, _, hrun hq, hle, hrel, hv, h _ _ hr.freshName hge⟩

theorem St.setH_same {s : St} {id : Nat} {cs : List D} (h : s.H id = some cs) : s.setH id (some cs) = s := by
  unfold St.setH
  congr 1
  funext i
  by_cases hi : i = id
  · subst hi; simp [h]
  · simp [hi]

/-- 'append(s, x...)': s this call's own, with room. -/
theorem zv_append_room {t e k by_ tk id m c : Nat} {z : List D} {s x : Operand} {cs : List D} {ys : List (List D)} (hop : o.op = .call { callee := .builtin .append, args := #[s, x], argTypes := #[t, t] })
    (he : ElemOk P e k by_ z) (ht : P.underlying t = some (.slice e)) (hs : ev env s = some (.mrow id 0 m c)) (hH : st.H id = some cs) (hcs : (m + ys.length) * k ≤ cs.length) (hx : ev env x = some (.row ys k tk)) (hc : m + ys.length ≤ c)
    (h : K (.mrow id 0 (m + ys.length) c) (st.setH id (some (cs.take (m * k) ++ ys.flatten ++ cs.drop ((m + ys.length) * k))))) : ZVal P w0 n o env st K := by
  intro G w a hr her
  have hvs := ev_ok her hs
  have hvx := ev_ok her hx
  generalize hus : a.eval s = us at hvs
  generalize hux : a.eval x = ux at hvx
  have hrun : ∀ {v' w'}, (Builtin.append_ #[t, t] o.type #[us, ux]).run P w = .ok v' w' → (execOp a.eval o).run P w = .ok (.value v') w' := fun hq => by
    simp [execOp, hop, resolve, invoke, builtin, hus, hux, hq]
  have he' := he
  obtain ⟨⟨i, zv, hi, hk, hby, hz, hzs, hzz⟩, k0, b0⟩ := he
  cases hvs with
  | mrow _ _ _ _ hid hmc hm63 =>
    obtain ⟨cc, e', hcc, hl, hc1, hcv⟩ := hr.ex id cs hH
    have hmk : (m + ys.length) * k = m * k + ys.length * k := Nat.add_mul _ _ _
    cases hvx with
    | rowNil =>
      have hst : st.setH id (some (cs.take (m * k) ++ ([] : List (List D)).flatten ++ cs.drop ((m + ([] : List (List D)).length) * k))) = st := by
        simp only [List.flatten_nil, List.append_nil, List.length_nil, Nat.add_zero, List.take_append_drop]
        exact St.setH_same hH
      rw [hst] at h
      refine ⟨_, w, G, _, _, hrun (v' := .slice (some ⟨G.rho id, 0, none⟩) m c) ?_, .refl G, hr, ?_, h⟩
      · simp [Builtin.append_, run_underlying ht, sizeOf, typeInfo, hi, Builtin.lenOf, Builtin.firstCells, hmc, storeCells]
      · simpa using VR.mrow id 0 m c hid hmc hm63
    | row _ _ _ a2 nn c2 u hn hc2 hm63' hkk hcell h1 hvv htt =>
      obtain ⟨e1, e2, e3, e4, news, hf, hM⟩ := (VR.row (G := G) ys k tk a2 nn c2 u hn hc2 hm63' hkk hcell h1 hvv htt).flat
      have hff := hf.flat k0
      have R := appRuns_slice (w := w) he' ht o.type a2 ys.length c2 news hf.len (fun j u hj => hr.mem _ _ (hM j u hj)) hf.one
      have hq := R.room (G.rho id) m c cc.toArray e' hcc hc (by rw [hf.len]; simp; omega)
      rw [← e1] at hq
      have htl : (cc.take (m * k)).length = m * k := by rw [List.length_take]; omega
      have hrel := hr.put (w1 := w.setRow (G.rho id) (cc.take (m * k) ++ news ++ cc.drop (m * k + news.length)).toArray) (cs' := cs.take (m * k) ++ ys.flatten ++ cs.drop ((m + ys.length) * k)) hH hcc (setRow_heap w _ cc.toArray _ e' _ hcc)
        (by rw [List.length_append, List.length_append, List.length_append, List.length_append, htl, hff.1, hf.len, List.length_take, List.length_drop, List.length_drop]; omega)
        (fun u hu => by
          simp only [List.mem_append] at hu
          rcases hu with (hu | hu) | hu
          · exact hc1 u (List.mem_of_mem_take hu)
          · exact hf.one u hu
          · exact hc1 u (List.mem_of_mem_drop hu))
        (by
          have hv := VRs.append (G := G) (ds := cs.take (m * k)) (us := cc.take (m * k)) ⟨by rw [htl, List.length_take]; omega, fun j d u a b => by
            rw [List.getElem?_take] at a b
            split at a
            · rename_i hj; rw [if_pos hj] at b; exact hcv j d u a b
            · cases a⟩ hff
          intro j d u a b
          by_cases hj : j < (m + ys.length) * k
          · rw [List.getElem?_append_left (by rw [hv.1, List.length_append, htl, hf.len]; omega)] at a
            rw [List.getElem?_append_left (by rw [List.length_append, htl, hf.len]; omega)] at b
            exact hv.2 j d u a b
          · have el : (cs.take (m * k) ++ ys.flatten).length = (m + ys.length) * k := by rw [hv.1, List.length_append, htl, hf.len]; omega
            have er : (cc.take (m * k) ++ news).length = (m + ys.length) * k := by rw [List.length_append, htl, hf.len]; omega
            rw [List.getElem?_append_right (by rw [el]; omega), el, List.getElem?_drop, Nat.add_sub_cancel' (by omega)] at a
            rw [List.getElem?_append_right (by rw [er]; omega), er, List.getElem?_drop, hf.len, show m * k + ys.length * k + (j - (m + ys.length) * k) = j by omega] at b
            exact hcv j d u a b)
        (fun q hq => setRow_other w _ q _ hq) (by simp) rfl rfl rfl
      refine ⟨_, _, G, _, _, hrun (by simpa using hq), .refl G, hrel, ?_, h⟩
      have := VR.mrow (G := G) id 0 (m + nn) c hid (by omega) hm63
      rw [e1] at this
      rw [e1]; exact this
/-- A row that is handed back without its right. -/
theorem resD_row0 {rs : List ResultVar} {t k tk : Nat} {xs : List (List D)} {ds : List D} (h : zlook env t = some (.row xs k tk)) (hs : ResD P rs env st ds) : ResD P (.tmp t :: rs) env st (.row xs k 0 :: ds) := by
  intro w0 G n tmps w hr he
  obtain ⟨us, hu, hrun⟩ := hs w0 G n tmps w hr he
  obtain ⟨u, hu1, hv⟩ := he.at_ t _ h
  refine ⟨u :: us, VRs.cons hv.notok hu, ?_⟩
  rw [List.mapM_cons]
  refine (run_bind' (w1 := w) (a := u) (by simp [pure, Sem.run, hu1])).trans ?_
  refine (run_bind' hrun).trans ?_
  rfl
end
end Go.Proofs.Zm
