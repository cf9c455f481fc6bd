/- The framework's seventeenth part: aggregates made, compared; pointers and nil; results that lie in memory; strings as bytes. -/
import Derived.Test.YtpelekdimmfldaaZm16
import Derived.Laws.StructEq
import Derived.Laws.Pointers
namespace Go.Proofs.Zm
open Go.RowKit
set_option linter.unusedVariables false
set_option linter.unusedSimpArgs false

/-- A struct's fields: where each begins, how many cells it has. -/
def structIs (P : Program) (t : TypeId) (pl : List (Nat × Nat)) : Prop :=
  ∃ fs : Array Field, P.underlying t = some (.struct fs) ∧ (fs.all fun f => (P.info? f.type).isSome) = true ∧ (fs.toList.map fun f => (f.offset, ((P.info? f.type).map (·.size)).getD 0)) = pl

theorem run_places {P : Program} (w : World) : ∀ (l : List Field), (∀ f ∈ l, (P.info? f.type).isSome = true) →
    (l.mapM (fun f => do pure (f.offset, ← sizeOf f.type)) : Sem (List (Nat × Nat))).run P w = .ok (l.map fun f => (f.offset, ((P.info? f.type).map (·.size)).getD 0)) w
  | [], _ => by simp
  | f :: l, h => by
    have hf := h f (by simp)
    obtain ⟨i, hi⟩ := Option.isSome_iff_exists.1 hf
    have ih := run_places (P := P) w l (fun g hg => h g (by simp [hg]))
    rw [List.mapM_cons]
    simp only [Sem.run_bind, sizeOf, typeInfo, run_program, hi, Sem.run_pure, Result.andThen_ok]
    have ih' : Sem.run P (List.mapM (fun f => do
          let __do_lift ← sizeOf f.type
          pure (f.offset, __do_lift)) l) w = .ok (l.map fun f => (f.offset, ((P.info? f.type).map (·.size)).getD 0)) w := ih
    simp only [sizeOf, typeInfo] at ih'
    rw [ih']
    simp [hi]

/-- Parts laid into cells. -/
def fillD (pl : List (Nat × Nat)) (cells : List D) : List (Nat × D) → Option (List D)
  | [] => some cells
  | (i, d) :: r => match pl[i]? with
    | none => none
    | some (off, size) => if (cellsD d).length = size ∧ off + size ≤ cells.length then fillD pl (cells.take off ++ cellsD d ++ cells.drop (off + size)) r else none

theorem fill_ok {G : Gh} {pl : List (Nat × Nat)} : ∀ (parts : List (Nat × D)) (vs : List (Nat × Value)) (cells : List D) (cv : Array Value) (out : List D), parts.map Prod.fst = vs.map Prod.fst → VRs G (parts.map Prod.snd) (vs.map Prod.snd) → VRs G cells cv.toList → fillD pl cells parts = some out →
    ∃ ov : Array Value, Instr.fill (pl.toArray[·]?) cv vs = some ov ∧ VRs G out ov.toList
  | [], vs, cells, cv, out, hi, hv, hc, hf => by
    have : vs = [] := by cases vs <;> simp_all
    subst this
    cases hf
    exact ⟨cv, rfl, hc⟩
  | (i, d) :: r, vs, cells, cv, out, hi, hv, hc, hf => by
    cases vs with
    | nil => simp at hi
    | cons p vs =>
      obtain ⟨i', u⟩ := p
      simp only [List.map_cons, List.cons.injEq] at hi
      obtain ⟨rfl, hi⟩ := hi
      unfold fillD at hf
      cases hp : pl[i]? with
      | none => rw [hp] at hf; cases hf
      | some q =>
        obtain ⟨off, size⟩ := q
        rw [hp] at hf
        simp only at hf
        split at hf
        · rename_i hcond
          have hu := cellsD_ok (hv.2 0 d u rfl rfl)
          have hul : u.cells.toList.length = size := by rw [← hu.1]; exact hcond.1
          have hcl : cv.size = cells.length := by rw [← Array.length_toList, hc.1]
          have hfold : u.cells.zipIdx.foldl (fun cs (p : Value × Nat) => cs.setIfInBounds (off + p.2) p.1) cv = (cv.toList.take off ++ u.cells.toList ++ cv.toList.drop (off + u.cells.toList.length)).toArray := by
            rw [← Array.foldl_toList, Array.toList_zipIdx, foldl_set _ 0 off cv (by rw [hul]; omega)]
            simp
          obtain ⟨ov, h1, h2⟩ := fill_ok r vs _ (cv.toList.take off ++ u.cells.toList ++ cv.toList.drop (off + u.cells.toList.length)).toArray out hi
            ⟨by have := hv.1; simpa using this, fun j d' u' a b => hv.2 (j + 1) d' u' (by simpa using a) (by simpa using b)⟩
            (by
              refine VRs.append (VRs.append ⟨by simp [hc.1], fun j d' u' a b => ?_⟩ hu) ⟨by simp [hc.1, hul], fun j d' u' a b => ?_⟩
              · rw [List.getElem?_take] at a b
                split at a
                · rename_i hj; rw [if_pos hj] at b; exact hc.2 j d' u' a b
                · cases a
              · rw [List.getElem?_drop] at a b
                rw [hul] at b
                exact hc.2 _ d' u' a b) hf
          refine ⟨ov, ?_, h2⟩
          unfold Instr.fill
          have hpl : pl.toArray[i]? = some (off, size) := by simpa using hp
          simp only [hpl]
          have hus : u.cells.size = size := by rw [← Array.length_toList]; exact hul
          rw [if_neg (by simp [hus]; omega), hfold]
          exact h1
        · cases hf

section
variable {P : Program} {w0 : World} {n : Nat} {env : Env} {st : St} {o : Oper} {K : D → St → Prop}

/-- A struct's value out of its parts. -/
theorem zp_build {t k by_ : Nat} {z out : List D} {pl : List (Nat × Nat)} {xs : List (Nat × Operand)} {ds : List D} (hop : o.op = .build t xs.toArray) (he : ElemOk P t k by_ z) (hs : structIs P t pl) (hx : evs env (xs.map Prod.snd) = some ds)
    (hf : fillD pl z ((xs.map Prod.fst).zip ds) = some out) : ZPure0 P o env (.agg out) := fun G n a her => by
  obtain ⟨⟨i, zv, hi, hik, hby, hz, hzs, hzz⟩, k0, b0⟩ := he
  obtain ⟨fs, hu, hall, hpl⟩ := hs
  have hvs := evs_ok her hx
  have hzc := cellsD_ok (VR.v (G := G) zv)
  rw [hzz] at hzc
  have hdl : ds.length = xs.length := by rw [hvs.1]; simp
  obtain ⟨ov, h1, h2⟩ := fill_ok (G := G) (pl := pl) ((xs.map Prod.fst).zip ds) (xs.map fun p => (p.1, a.eval p.2)) z zv.cells out
    (by rw [List.map_fst_zip (by simp [hdl])]; simp [Function.comp_def])
    (by rw [List.map_snd_zip (by simp [hdl])]; simpa [Function.comp_def] using hvs) hzc hf
  refine ⟨.agg ov, ?_, fun w => ?_⟩
  · have := VR.agg (G := G) out ov.toList h2.1 h2.2
    simpa using this
  · have hm : (fs.mapM fun f => do pure (f.offset, ← sizeOf f.type) : Sem (Array (Nat × Nat))).run P w = .ok pl.toArray w := by
      rw [← hpl, Array.mapM_eq_mapM_toList]
      refine (run_bind' (k := fun x => pure x.toArray) (run_places (P := P) w fs.toList (fun f hf => ?_))).trans rfl
      rw [Array.all_eq_true'] at hall
      exact hall f (by simpa using hf)
    have hb : (Instr.build t (xs.map fun p => (p.1, a.eval p.2)).toArray).run P w = .ok (.agg ov) w := by
      unfold Instr.build
      simp only [Sem.run_bind, zeroValue, typeInfo, run_program, hi, Sem.run_pure, Result.andThen_ok, hz, run_underlying hu]
      rw [hm]
      simp only [Result.andThen_ok]
      rw [h1]
      rfl
    simp only [execOp, hop, Sem.run_bind]
    have : (xs.toArray.map fun (p : Nat × Operand) => (p.1, a.eval p.2)) = (xs.map fun p => (p.1, a.eval p.2)).toArray := by simp
    rw [this, hb]; rfl

/-- A pointer that is one, and nil. -/
theorem zp_ptr_nil {op : BinOp} {t t' : TypeId} {x : Operand} {d : D} {r : Bool} (hop : o.op = .binOp op t x (.const (.pointer none)) t') (hx : ev env x = some d) (ht : P.underlying t = some (.pointer (P.pointee t)))
    (hr : (op = .eql ∧ r = false) ∨ (op = .neq ∧ r = true)) (hd : (∃ id off, d = .ptr id off) ∨ ∃ cs, d = .ref cs) : ZPure0 P o env (.v (.bool r)) := fun G n a her => by
  have hv := ev_ok her hx
  generalize hu : a.eval x = u at hv
  have ⟨q, hq⟩ : ∃ q, u = .pointer (some q) := by
    rcases hd with ⟨id, off, rfl⟩ | ⟨cs, rfl⟩
    · cases hv; exact ⟨_, rfl⟩
    · cases hv; exact ⟨_, rfl⟩
  subst hq
  refine ⟨_, .v _, fun w => ?_⟩
  have hg : (eqGuard op t x (.const (.pointer none)) (.pointer (some q)) (.pointer none)).run P w = .ok () w := by unfold eqGuard; cases op <;> simp
  have hc : a.eval (.const (.pointer none)) = .pointer none := rfl
  simp only [execOp, hop, hu, hc, Sem.run_bind, hg, Result.andThen_ok]
  rcases hr with ⟨rfl, rfl⟩ | ⟨rfl, rfl⟩
  · rw [run_eql_pointer_nil w t _ ht]; rfl
  · rw [run_neq_pointer_nil w t _ ht]; rfl
theorem zp_nil_nil {op : BinOp} {t t' : TypeId} {x : Operand} {r : Bool} (hop : o.op = .binOp op t x (.const (.pointer none)) t') (hx : ev env x = some (.v (.pointer none))) (ht : P.underlying t = some (.pointer (P.pointee t)))
    (hr : (op = .eql ∧ r = true) ∨ (op = .neq ∧ r = false)) : ZPure0 P o env (.v (.bool r)) := by
  refine zp_bin hop hx (y := .const (.pointer none)) rfl fun w => ?_
  have hg : (eqGuard op t x (.const (.pointer none)) (.pointer none) (.pointer none)).run P w = .ok () w := by unfold eqGuard; cases op <;> simp
  rw [Sem.run_bind, hg]
  simp only [Result.andThen_ok]
  rcases hr with ⟨rfl, rfl⟩ | ⟨rfl, rfl⟩
  · rw [run_eql_pointer_nil w t _ ht]; rfl
  · rw [run_neq_pointer_nil w t _ ht]; rfl

theorem agg_v {G : Gh} {us : List Value} {u : Value} (h : VR G (.agg (us.map .v)) u) : u = .agg us.toArray := by
  cases h with
  | agg _ vs hl hv =>
    congr 2
    apply List.ext_getElem?
    intro j
    cases hj : us[j]? with
    | none =>
      rw [List.getElem?_eq_none_iff] at hj ⊢
      simp at hl; omega
    | some x =>
      have hlt : j < vs.length := by simp at hl; rw [← hl]; exact (List.getElem?_eq_some_iff.1 hj).1
      have := hv j (.v x) vs[j] (by simp [hj]) (List.getElem?_eq_getElem hlt)
      rw [List.getElem?_eq_getElem hlt, this.eq_v]

/-- Structs of plain values, alike or not. -/
theorem zp_eqA {op : BinOp} {t t' : TypeId} {x y : Operand} {us vs : List Value} {fs : Array Field} {r : Bool} (hop : o.op = .binOp op t x y t') (hx : ev env x = some (.agg (us.map .v))) (hy : ev env y = some (.agg (vs.map .v))) (hu : P.underlying t = some (.struct fs))
    (hg : P.eqGuardType P.depth t = false) (hp : P.stoodInHeld t = false) (h : ∀ w : World, (Op.eqFields 9999 us.toArray vs.toArray fs.toList).run P w = .ok r w) (hop2 : op = .eql ∨ op = .neq) : ZPure0 P o env (.v (.bool (if op = .eql then r else !r))) := fun G n a her => by
  have e1 := agg_v (ev_ok her hx)
  have e2 := agg_v (ev_ok her hy)
  refine ⟨_, .v _, fun w => ?_⟩
  have hgd := run_eqGuard_agg (P := P) (w := w) op t x y us.toArray vs.toArray hg
  have hf : P.fieldsOf t = fs := by simp [Program.fieldsOf, hu]
  have he : (Op.equalIn 10000 t (.agg us.toArray) (.agg vs.toArray)).run P w = .ok r w := by
    rw [run_equalIn_agg (P := P) (w := w) 9999 t us.toArray vs.toArray (by rw [hf]; exact hu) hp, hf]; exact h w
  simp only [execOp, hop, e1, e2, Sem.run_bind, hgd, Result.andThen_ok]
  rcases hop2 with rfl | rfl
  · rw [run_eql_struct, he]; simp
  · rw [run_neq_struct, he]; simp

/-- A result that lies in this call's own memory. -/
theorem resD_cell {rs : List ResultVar} {a t id : Nat} {cs ds : List D} {d : D} (h : zlook env a = some (.ptr id 0)) (hs : shapeIs P t false 1) (hH : st.H id = some cs) (hd : cs[0]? = some d) (hr : ResD P rs env st ds) : ResD P (.cell a t :: rs) env st (d :: ds) := by
  intro w0 G n tmps w hrel he
  obtain ⟨us, hu, hrun⟩ := hr w0 G n tmps w hrel he
  obtain ⟨u, hu1, hv⟩ := he.at_ a _ h
  cases hv with
  | ptr _ _ hid =>
    obtain ⟨c, e, hc, hl, hc1, hcv⟩ := hrel.ex id cs hH
    have hlt : 0 < c.length := Nat.lt_of_lt_of_le (List.getElem?_eq_some_iff.1 hd).1 hl
    have hcell : w.cell? ⟨G.rho id, 0, none⟩ = some c[0] := by rw [cell_heap hc]; exact List.getElem?_eq_getElem hlt
    refine ⟨c[0] :: us, VRs.cons (hcv 0 d _ hd (List.getElem?_eq_getElem hlt)) hu, ?_⟩
    rw [List.mapM_cons]
    refine (run_bind' (w1 := w) (a := c[0]) ?_).trans ?_
    · simp [hu1, asAddr, loadVar, hs.2.1 w, hcell]
    refine (run_bind' hrun).trans ?_
    rfl
theorem resD_cell_agg {rs : List ResultVar} {a t id k : Nat} {cs ds : List D} (h : zlook env a = some (.ptr id 0)) (hs : shapeIs P t true k) (hH : st.H id = some cs) (hk : cs.length = k) (hr : ResD P rs env st ds) : ResD P (.cell a t :: rs) env st (.agg cs :: ds) := by
  intro w0 G n tmps w hrel he
  obtain ⟨us, hu, hrun⟩ := hr w0 G n tmps w hrel he
  obtain ⟨u, hu1, hv⟩ := he.at_ a _ h
  obtain ⟨⟨i, hi, hik⟩, hagg, _⟩ := hs
  cases hv with
  | ptr _ _ hid =>
    obtain ⟨c, e, hc, hl, hc1, hcv⟩ := hrel.ex id cs hH
    have hlen : (c.take k).length = k := by simp; omega
    have hld := run_loadCells_list (P := P) (w := w) ⟨G.rho id, 0, none⟩ (c.take k) (fun j v hj => by
      rw [List.getElem?_take] at hj
      split at hj
      · rw [add_plain, cell_heap hc]; exact hj
      · cases hj)
    rw [hlen] at hld
    refine ⟨.agg (c.take k).toArray :: us, VRs.cons (.agg _ _ (by rw [hlen, hk]) fun j d v a1 a2 => ?_) hu, ?_⟩
    · rw [List.getElem?_take] at a2
      split at a2
      · exact hcv j d v a1 a2
      · cases a2
    rw [List.mapM_cons]
    refine (run_bind' (w1 := w) (a := .agg (c.take k).toArray) ?_).trans ?_
    · simp [hu1, asAddr, loadVar, hagg w, sizeOf, typeInfo, hi, hik, hld]
    refine (run_bind' hrun).trans ?_
    rfl
end
end Go.Proofs.Zm
