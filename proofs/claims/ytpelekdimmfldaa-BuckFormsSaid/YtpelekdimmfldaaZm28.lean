/- The framework's twenty-eighth part: 'copy' into own memory, by the bytes of a row. -/
import Derived.Test.YtpelekdimmfldaaZm27
import Derived.Laws.CopyRow
namespace Go.Proofs.Zm
open Go.RowKit
set_option linter.unusedVariables false
section
variable {P : Program} {w0 : World} {n : Nat} {env : Env} {st : St} {o : Oper} {K : D → St → Prop}

/-- 'copy(d, s)': bytes, into this call's own memory. -/
theorem zv_copyB {t ts e tk id off m c : Nat} {d s : Operand} {cs : List D} {l : List UInt8} (hop : o.op = .call { callee := .builtin .copy, args := #[d, s], argTypes := #[t, ts] }) (ht : P.underlying t = some (.slice e)) (hi : (P.info? e).map (·.size) = some 1)
    (hd : ev env d = some (.mrow id off m c)) (hH : st.H id = some cs) (hm : off + m ≤ cs.length) (hs : ev env s = some (.row (bytesD l) 1 tk))
    (h : K (.v (.int .i64 ((min l.length m : Nat) : Int))) (st.setH id (some (cs.take off ++ byteC (l.take (min l.length m)) ++ cs.drop (off + min l.length m))))) : ZVal P w0 n o env st K := by
  intro G w a hr her
  have hvd := ev_ok her hd
  have hvs := ev_ok her hs
  generalize hud : a.eval d = ud at hvd
  generalize hus : a.eval s = us at hvs
  have hrun : ∀ {v' w'}, (Builtin.copy_ #[t, ts] o.type #[ud, us]).run P w = .ok v' w' → (execOp a.eval o).run P w = .ok (.value v') w' := fun hq => by
    simp [execOp, hop, resolve, invoke, builtin, hud, hus, hq]
  cases hvd with
  | mrow _ _ _ _ hid hmc hm63 =>
    obtain ⟨cc, e', hcc, hl, hc1, hcv⟩ := hr.ex id cs hH
    have hsame : ∀ q, q = 0 → st.setH id (some (cs.take off ++ byteC (l.take q) ++ cs.drop (off + q))) = st := fun q hq => by
      subst hq
      rw [List.take_zero, show byteC [] = [] from rfl, List.append_nil, Nat.add_zero, List.take_append_drop]
      exact St.setH_same hH
    have main : ∀ (aa : Addr) (nn c2 : Nat), us = .slice (some aa) nn c2 → VR G (.row (bytesD l) 1 tk) (.slice (some aa) nn c2) → ∃ v w' G' d' st', (execOp a.eval o).run P w = .ok (.value v) w' ∧ G.le G' ∧ Rel w0 G' st' w' ∧ VR G' d' v ∧ K d' st' := by
      intro aa nn c2 e1 hv
      obtain ⟨e2, e3, e4, e5, news, hf, hM⟩ := hv.flat
      rw [bytesD_length] at e2
      subst e2
      have hnl : news.length = l.length := by rw [hf.len, bytesD_length, Nat.mul_one]
      generalize hq : min l.length m = q at *
      have hql : q ≤ l.length := by omega
      have hqm : q ≤ m := by omega
      have hrc := run_copy_row (P := P) w t ts o.type e (G.rho id) off m c aa l.length c2 cc.toArray e' (news.take q) ht hi hcc (by rw [List.length_take, hnl]; show _ = min l.length m; omega)
        (fun j v hj => by
          rw [List.getElem?_take] at hj
          split at hj
          · exact hr.mem _ _ (hM j v hj)
          · cases hj) (by rw [List.length_take, hnl]; simp; omega) (fun v hv => hf.one v (List.mem_of_mem_take hv))
      rw [← e1] at hrc
      have htl : (news.take q).length = q := by rw [List.length_take, hnl]; omega
      rw [htl] at hrc
      have hbv : VRs G (byteC (l.take q)) (news.take q) := ⟨by rw [byteC_length, htl, List.length_take]; omega, fun j d u h1 h2 => by
        rw [List.getElem?_take] at h2
        split at h2
        · rename_i hj
          simp only [byteC, List.getElem?_map, List.getElem?_take, if_pos hj] at h1
          obtain ⟨b, hb, rfl⟩ := Option.map_eq_some_iff.1 h1
          obtain ⟨u', hu', hv'⟩ := hf.vr j [.v (.int .u8 (b.toNat : Int))] 0 _ (by simp [bytesD, hb]) rfl
          rw [Nat.mul_one, Nat.add_zero, h2] at hu'
          cases hu'
          exact hv'
        · cases h2⟩
      have hrel := hr.put (w1 := w.setRow (G.rho id) (cc.take off ++ news.take q ++ cc.drop (off + q)).toArray) (cs' := cs.take off ++ byteC (l.take q) ++ cs.drop (off + q)) hH hcc (setRow_heap w _ cc.toArray _ e' _ hcc)
        (by rw [List.length_append, List.length_append, List.length_append, List.length_append, htl, hbv.1, htl, List.length_take, List.length_take, List.length_drop, List.length_drop]; omega)
        (fun u hu => by
          simp only [List.mem_append] at hu
          rcases hu with (hu | hu) | hu
          · exact hc1 u (List.mem_of_mem_take hu)
          · exact hf.one u (List.mem_of_mem_take hu)
          · exact hc1 u (List.mem_of_mem_drop hu))
        (by
          have h0 : VRs G (cs.take off) (cc.take off) := ⟨by rw [List.length_take, List.length_take]; omega, fun j d u h1 h2 => by
            rw [List.getElem?_take] at h1 h2
            split at h1
            · rename_i hj; rw [if_pos hj] at h2; exact hcv j d u h1 h2
            · cases h1⟩
          have hv := VRs.append h0 hbv
          have el : (cs.take off ++ byteC (l.take q)).length = off + q := by rw [hv.1, List.length_append, htl, List.length_take]; omega
          have er : (cc.take off ++ news.take q).length = off + q := by rw [List.length_append, htl, List.length_take]; omega
          intro j d u h1 h2
          by_cases hj : j < off + q
          · rw [List.getElem?_append_left (by rw [el]; exact hj)] at h1
            rw [List.getElem?_append_left (by rw [er]; exact hj)] at h2
            exact hv.2 j d u h1 h2
          · rw [List.getElem?_append_right (by rw [el]; omega), el, List.getElem?_drop, Nat.add_sub_cancel' (by omega)] at h1
            rw [List.getElem?_append_right (by rw [er]; omega), er, List.getElem?_drop, Nat.add_sub_cancel' (by omega)] at h2
            exact hcv j d u h1 h2)
        (fun q hq => setRow_other w _ q _ hq) (by simp) rfl rfl rfl
      exact ⟨.int .i64 (q : Int), _, G, _, _, hrun (by have h2 := hrc; simp only [goInt] at h2; simpa using h2), .refl G, hrel, .v _, h⟩
    generalize hys : bytesD l = ys at hvs
    cases hvs with
    | row _ _ _ aa nn c2 u hn hc2 hm63' hkk hcell h1 hvv htt => subst hys; exact main aa nn c2 rfl (VR.row (bytesD l) 1 tk aa nn c2 u hn hc2 hm63' hkk hcell h1 hvv htt)
    | rowNil =>
      have hl0 : l = [] := by cases l with | nil => rfl | cons b l => simp [bytesD] at hys
      subst hl0
      have hs2 : ((P.info? e).map (·.size)).isSome = true := by rw [hi]; rfl
      have hrc := run_copy_nil (P := P) w t ts o.type e ⟨G.rho id, off, none⟩ m c ht hs2
      have hm0 : min ([] : List UInt8).length m = 0 := by simp
      rw [hm0, hsame 0 rfl] at h
      exact ⟨.int .i64 ((0 : Nat) : Int), w, G, _, st, hrun (by have h2 := hrc; simp only [goInt] at h2; simpa using h2), .refl G, hr, .v _, h⟩
end
/-- Elements that are told. -/
theorem zp_irowE {P : Program} {env : Env} {o : Oper} {t e tk k j' : Nat} {xs : List (List D)} {cs : List D} {x y : Operand} {ik : IntKind} {j : Int} (hop : o.op = .indexAddr t x y) (ht : P.underlying t = some (.slice e)) (hi : ∃ i, P.info? e = some i ∧ i.size = k)
    (hx : ev env x = some (.row xs k tk)) (hy : ev env y = some (.v (.int ik j))) (h0 : 0 ≤ j) (h1 : j < (xs.length : Nat)) (ej : j.toNat = j') (hg : xs.getD j' [] = cs) : ZPure0 P o env (.ref cs) := by
  subst ej hg
  obtain ⟨i, h2, h3⟩ := hi
  exact zp_indexAddr hop ht h2 h3 hx hy h0 h1
theorem zs_idxE {P : Program} {w0 : World} {n : Nat} {env : Env} {st : St} {Q : ZPost} {ops : Array Oper} {t : Nat} {rest : List Oper} {x y : Operand} {t1 ty : TypeId} {pos : String} {after : Array Edge} {e tk k j' : Nat} {xs : List (List D)} {cs : List D} {ik : IntKind} {j : Int} (ht : Nat.ble (t + 1) n = true) (hx : ev env x = some (.row xs k tk)) (hy : ev env y = some (.v (.int ik j)))
    (ht1 : P.underlying t1 = some (.slice e)) (hi : ∃ i, P.info? e = some i ∧ i.size = k) (h0 : 0 ≤ j) (h1 : j < (xs.length : Nat)) (ej : j.toNat = j') (hg : xs.getD j' [] = cs)
    (hk : ZOps P w0 n ops rest Q ((t, .ref cs) :: env) st) : ZOps P w0 n ops (⟨some t, .indexAddr t1 x y, ty, pos, after, none⟩ :: rest) Q env st :=
  zo_pure0 rfl rfl (Nat.le_of_ble_eq_true ht) (zp_irowE rfl ht1 hi hx hy h0 h1 ej hg) hk
/-- A result that is owned, with another one beside it: given away for reading. -/
theorem SoundF.frozen2 {P : Program} {f : FuncId} {k : Nat} {pre : List D → St → List (List D) → D → Prop} (k0 : 0 < k)
    (h : SoundF P f fun args st K => ∃ xs b, pre args st xs b ∧ ∀ o c full st', Sep st st' [(o, full)] → GRow o full k xs.length c xs.flatten → K (.tup [orow o xs.length c, b]) st') :
    SoundF P f fun args st K => ∃ xs b, pre args st xs b ∧ (∀ x ∈ xs, x.length = k) ∧ K (.tup [.row xs k 0, b]) st := by
  rintro w0 args st K ⟨xs, b, hp, hx, hK⟩ G w vals hr hv
  refine (h w0 args st (fun d st' => ∃ o c full, d = .tup [orow o xs.length c, b] ∧ Sep st st' [(o, full)] ∧ GRow o full k xs.length c xs.flatten) ⟨xs, b, hp, fun o c full st' hS hg => ⟨o, c, full, rfl, hS, hg⟩⟩ G w vals hr hv).mono fun e w' hq => ?_
  obtain ⟨v, d, st', G', rfl, hle, hrel, hv', o, c, full, rfl, hS, hg⟩ := hq
  cases hv' with
  | tup _ us hl hvs =>
    match us, hl with
    | [u1, u2], _ =>
      have h1 := hvs 0 _ u1 rfl rfl
      have h2 := hvs 1 _ u2 rfl rfl
      have he : ER G' 1 [(0, orow o xs.length c)] #[u1] := ⟨rfl, fun s d' e => by
        unfold zlook at e
        split at e
        · rename_i h0; subst h0; cases e; exact ⟨u1, rfl, h1⟩
        · simp [zlook] at e⟩
      obtain ⟨G2, st2, hle2, hrel2, he2, hS2⟩ := sfreeze_main (env := [(0, orow o xs.length c)]) (ks := [0]) (env1 := [(0, .row xs k 0)]) xs k0 hS (i := 0) rfl hg rfl hx (fzo_row rfl fzo_nil) hrel he
      obtain ⟨u, hu, hvu⟩ := he2.at_ 0 (.row xs k 0) rfl
      have : u = u1 := by simpa using hu.symm
      subst this
      refine ⟨_, _, st, G2, rfl, hle.trans hle2, hrel2.forget hS2.ext.H hS2.ext.T, ?_, hK⟩
      exact .tup _ _ rfl (VRs.cons hvu (VRs.cons (h2.mono hle2) (VRs.nil G2))).2
end Go.Proofs.Zm
